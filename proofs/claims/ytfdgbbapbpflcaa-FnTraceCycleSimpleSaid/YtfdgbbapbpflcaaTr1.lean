/- A trace, and the contract of the reference's look at one. -/
import Derived.Test.YtfdgbbapbpflcaaInts
namespace Go.Proofs.Ytfdgbbapbpflcaa
open Go.RowKit

/-- A trace: messages, each once. -/
def isTr (xs : List Int) : Bool := xs.all isMsg && decide xs.Nodup
theorem isTr_take {xs : List Int} {k : Nat} {x : Int} (h : xs[k]? = some x) (ht : isTr (xs.take k) = true) : isTr (xs.take (k + 1)) = (isMsg x && !has (xs.take k) x) := by
  rw [take_snoc h]
  simp only [isTr, Bool.and_eq_true, decide_eq_true_eq] at ht
  rw [Bool.eq_iff_iff]
  simp only [isTr, List.all_append, ht.1, List.all_cons, List.all_nil, Bool.and_true, Bool.true_and, Bool.and_eq_true, decide_eq_true_eq, has, List.nodup_append, ht.2]
  simp
  intro _
  constructor
  · intro h hx; exact h x hx rfl
  · intro h a ha e; subst e; exact h ha
theorem isTr_bad {xs : List Int} {k : Nat} (h : isTr (xs.take k) = false) : isTr xs = false := by
  rw [Bool.eq_false_iff] at h ⊢
  intro ht
  apply h
  simp only [isTr, Bool.and_eq_true, decide_eq_true_eq, List.all_eq_true] at ht ⊢
  exact ⟨fun x hx => ht.1 x (List.mem_of_mem_take hx), ht.2.sublist (List.take_sublist _ _)⟩
theorem l21List_any (A : Option Addr) (n c B : Nat) (xs : List Int) (w : World) (h : RI w B A n xs) (hn : n ≤ 140737488351232) (hnc : n ≤ c) :
    Calls Try.prog 42 #[.slice A n c] w fun e w' => e = .returned (.bool (isTr xs)) ∧ Dr w w' := by
  have HL := hid h.len
  go_enter Try.func42, Try.ntmps42
  go_wp2
  go_loopw [3] (fun i wr => ∃ k : Nat, k ≤ n ∧ i = .int .i64 k ∧ Hid (isTr (xs.take k) = true) ∧ Dr w wr) (fun i _ => n - (intOf i).toNat)
  case atStart => exact ⟨0, Nat.zero_le _, rfl, hid rfl, Dr.refl _⟩
  case round =>
    obtain ⟨k, hk, rfl, hno, hdr⟩ := hrel
    have h := h.dr hdr
    by_cases hlt : k < n
    · obtain ⟨ad, x, rfl, hb, hx, hc⟩ := h.at_ hlt
      have hcut := hid (h.upto hk)
      have hm := hid (isTr_take hx.out hno.out)
      cases hxm : isMsg x
      · rw [hxm, Bool.false_and] at hm
        have hbad := hid (isTr_bad hm.out)
        go_wp2
        go_quiet ((go_at_call 56; exact quiet_left (l11Message_any _ _)))
        go_wp2
        go_ret
        exact ⟨ret_bool hbad.out.symm, hdr.more _⟩
      · rw [hxm, Bool.true_and] at hm
        cases hh : has (xs.take k) x
        · rw [hh] at hm
          go_wp2
          go_quiet (first | (go_at_call 56; exact quiet_left (l11Message_any _ _)) | (go_at_call 57; exact quiet_left (l1Has_any _ _ _ _ _ _ _ (hcut.out.drewN _) (by omega))))
          go_wp2
          go_roundw
          case rel => exact ⟨k + 1, by omega, by go_num, hm, hdr.more _⟩
          case measure => simp [intOf]; omega
        · rw [hh] at hm
          have hbad := hid (isTr_bad hm.out)
          go_wp2
          go_quiet (first | (go_at_call 56; exact quiet_left (l11Message_any _ _)) | (go_at_call 57; exact quiet_left (l1Has_any _ _ _ _ _ _ _ (hcut.out.drewN _) (by omega))))
          go_wp2
          go_ret
          exact ⟨ret_bool hbad.out.symm, hdr.more _⟩
    · obtain rfl : k = n := by omega
      go_wp2
      go_ret
      refine ⟨ret_bool ?_, hdr⟩
      have := hno.out
      rw [List.take_of_length_le (by rw [HL.out]; omega)] at this
      exact this.symm
end Go.Proofs.Ytfdgbbapbpflcaa
