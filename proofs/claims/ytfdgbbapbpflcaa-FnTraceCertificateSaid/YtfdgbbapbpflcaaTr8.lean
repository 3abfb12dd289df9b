/- The reference's order: l21Next, l21All, l21Order, TraceOrder. -/
import Derived.Test.YtfdgbbapbpflcaaTr7
import Derived.Deep.RegionHeld3
namespace Go.Proofs.Ytfdgbbapbpflcaa
open Go.RowKit
set_option maxHeartbeats 2000000 in
theorem l21Next_any (A : Option Addr) (n c : Nat) (xss : List (List Int)) (a b : Int) (w : World) (h : SLL w A n c xss) (hn : n ≤ 1048576) (hn2 : ∀ xs ∈ xss, xs.length ≤ 1048576) :
    Calls Try.prog 59 #[.slice A n c, .int .i64 a, .int .i64 b] w fun e w' => e = .returned (.bool (nextLL xss a b)) ∧ w = w' := by
  have HN2 := hid hn2
  have HL := hid h.len
  clear hn2
  go_enter Try.func59, Try.ntmps59
  go_wp2_with fail
  go_loop [7] (fun i => ∃ k : Nat, k ≤ n ∧ i = .int .i64 (k : Int) ∧ Hid (nextLL (xss.take k) a b = false)) (fun i => n - (intOf i).toNat)
  case atStart => exact ⟨0, Nat.zero_le _, rfl, rfl⟩
  case round =>
    obtain ⟨k, hk, rfl, hno⟩ := hrel
    by_cases hlt : k < n
    · obtain ⟨ad, Ak, nk, ck, xs, rfl, hb, hc, hx, hsk⟩ := h.at_ hlt
      have hnk : nk ≤ 1048576 := by have := HN2.out xs (List.mem_of_getElem? hx.out); rw [hsk.len] at this; exact this
      have HSL := hid hsk.len
      go_wp2_with fail
      go_loop [8] (fun i => ∃ j : Nat, (j + 1 ≤ nk ∨ j = 0) ∧ i = .int .i64 ((j : Int) + 1) ∧ Hid (stp (xs.take (j + 1)) a b = false)) (fun i => nk + 1 - (intOf i).toNat)
      case atStart => exact ⟨0, .inr rfl, rfl, stp_take1 _ _ _⟩
      case round =>
        obtain ⟨j, hj, rfl, hno2⟩ := hrel
        by_cases hlt2 : j + 1 < nk
        · have hji : (j : Int) + 1 < (nk : Int) := by omega
          obtain ⟨ak, x, rfl, hb1, hx1, hc1⟩ := hsk.ri.at_ (k := j) (by omega)
          obtain ⟨ak', y, he, hb2, hx2, hc2⟩ := hsk.ri.at_ (k := j + 1) hlt2
          injection he with he
          subst he
          rw [add_succ] at hc2
          have hst := hid (stp_take hx1.out hx2.out a b)
          rw [hno2.out, Bool.false_or] at hst
          cases h1 : (x == a)
          · rw [h1, Bool.false_and] at hst
            go_wp2_with fail
            go_round
            case rel => exact ⟨j + 1, .inl (by omega), by go_num, hst⟩
            case measure => simp [intOf]; omega
          · cases h2 : (y == b)
            · rw [h1, h2, Bool.and_false] at hst
              go_wp2_with fail
              go_round
              case rel => exact ⟨j + 1, .inl (by omega), by go_num, hst⟩
              case measure => simp [intOf]; omega
            · have hyes := hid (show nextLL xss a b = true from List.any_eq_true.2 ⟨xs, List.mem_of_getElem? hx.out, stp_iff.2 ⟨j, by rw [hx1.out]; simp at h1; rw [h1], by rw [hx2.out]; simp at h2; rw [h2]⟩⟩)
              go_wp2_with fail
              go_ret
              exact ⟨ret_bool hyes.out.symm, rfl⟩
        · have hji : ¬ (j : Int) + 1 < (nk : Int) := by omega
          have hno3 := hid (show nextLL (xss.take (k + 1)) a b = false by
            rw [nextLL_take hx.out, hno.out, Bool.false_or]
            have := hno2.out
            rwa [List.take_of_length_le (by rw [HSL.out]; omega)] at this)
          go_wp2_with fail
          go_round
          case rel => exact ⟨k + 1, by omega, by go_num, hno3⟩
          case measure => simp [intOf]; omega
    · obtain rfl : k = n := by omega
      go_wp2_with fail
      go_ret
      refine ⟨ret_bool ?_, rfl⟩
      have := hno.out
      rw [List.take_of_length_le (by rw [HL.out]; omega)] at this
      exact this.symm
/-- All messages of traces. -/
def allM (xss : List (List Int)) : List Nat := (List.range 12).filter (tF xss)
theorem allM_len (xss : List (List Int)) : (allM xss).length = cntM (tF xss) := rfl
theorem allM_le (xss : List (List Int)) : (allM xss).length ≤ 12 := by rw [allM_len]; exact cnt_le _
def upM (T : Nat → Bool) (k : Nat) : List Nat := (List.range k).filter T
theorem upM_succ (T : Nat → Bool) (k : Nat) : upM T (k + 1) = upM T k ++ (if T k then [k] else []) := by
  unfold upM
  rw [List.range_succ, List.filter_append]
  cases h : T k <;> simp [h]
theorem upM_le (T : Nat → Bool) (k : Nat) : (upM T k).length ≤ k := by
  have := List.length_filter_le T (List.range k)
  simpa [upM] using this
theorem ints_len (os : List Nat) : (ints os).length = os.length := by simp [ints]
set_option maxRecDepth 100000 in
set_option maxHeartbeats 2000000 in
theorem l21All_any (A : Option Addr) (n c : Nat) (xss : List (List Int)) (w : World) (h : SLL w A n c xss) (hn : n ≤ 1048576) (hn2 : ∀ xs ∈ xss, xs.length ≤ 1048576) :
    Calls Try.prog 53 #[.slice A n c] w fun e w' => ∃ X m a, e = .returned (.slice X m a) ∧ OI w' w.heap.size 3 X m a (ints (allM xss)) ∧ St w w' := by
  have HN2 := hid hn2
  have HL := hid h.len
  have HO := hid (OI.lit (w := w) (e := 3))
  have HZ := hid (show w.heap.size ≤ (w.alloc (.cells #[] 3)).heap.size by simp)
  clear hn2
  go_enter Try.func53, Try.ntmps53
  go_wp2_with fail
  go_loopw [3, 4] (fun v i wr => ∃ (k m a : Nat) (X : Option Addr), k ≤ 12 ∧ i = .int .i64 (k : Int) ∧ v = .slice X m a ∧ m ≤ k ∧ Hid (OI wr w.heap.size 3 X m a (ints (upM (tF xss) k))) ∧ Hid (w.heap.size ≤ wr.heap.size) ∧ Hid (St w wr)) (fun _ i _ => 12 - (intOf i).toNat)
  case atStart => exact ⟨0, 0, 0, _, Nat.zero_le _, rfl, rfl, Nat.le_refl _, HO, HZ, (St.refl w).alloc _⟩
  case round =>
    obtain ⟨wa, rfl⟩ : ∃ wo : World, wo = wr := ⟨_, rfl⟩
    obtain ⟨k, m, a, X, hk, rfl, rfl, hmk, ho, hz, hs⟩ := hrel
    by_cases hlt : k < 12
    · have hki : (k : Int) < 12 := by omega
      have h := h.st hs.out
      go_wp2_with fail
      go_loop [5, 6] (fun f i => ∃ q : Nat, q ≤ n ∧ i = .int .i64 (q : Int) ∧ f = .bool (toldLL (xss.take q) (k : Int))) (fun _ i => n - (intOf i).toNat)
      case atStart => exact ⟨0, Nat.zero_le _, rfl, by simp [toldLL]⟩
      case round =>
        obtain ⟨q, hq, rfl, rfl⟩ := hrel
        by_cases hlt2 : q < n
        · obtain ⟨ad, Ak, nk, ck, xs, rfl, hb, hc, hx, hsk⟩ := h.at_ hlt2
          have hnk : nk ≤ 1048576 := by have := HN2.out xs (List.mem_of_getElem? hx.out); rw [hsk.len] at this; exact this
          have hst := hid (toldLL_take hx.out (k : Int))
          obtain ⟨b, hb0⟩ : ∃ b, toldLL (xss.take q) (k : Int) = b := ⟨_, rfl⟩
          rw [hb0] at hst ⊢
          clear hb0
          cases b
          · go_wp2_with fail
            refine (l1Has_any _ _ _ _ _ _ _ hsk.ri (by omega)).mono ?_
            rintro e w3 ⟨rfl, rfl⟩
            go_wp2_with fail
            go_round
            case rel => exact ⟨q + 1, by omega, by go_num, by rw [hst.out]; rfl⟩
            case measure => simp [intOf]; omega
          · go_wp2_with fail
            go_round
            case rel => exact ⟨q + 1, by omega, by go_num, by rw [hst.out]; rfl⟩
            case measure => simp [intOf]; omega
        · obtain rfl : q = n := by omega
          have hf : toldLL (xss.take q) (k : Int) = tF xss k := by
            rw [List.take_of_length_le (by rw [HL.out]; omega)]; rfl
          rw [hf]
          clear hf
          have hup := hid (upM_succ (tF xss) k)
          cases hT : tF xss k
          · rw [hT] at hup
            have O2 := hid (show OI wa w.heap.size 3 X m a (ints (upM (tF xss) (k + 1))) by rw [hup.out]; simpa using ho.out)
            clear hT
            go_wp2_with fail
            go_roundw
            case rel => exact ⟨k + 1, m, a, _, by omega, by go_num, rfl, by omega, O2, hz, hs⟩
            case measure => simp [intOf]; omega
          · rw [hT] at hup
            clear hT
            go_wp2_with (at_builtin; refine wpList_append_int _ rfl _ _ 22 rfl w.heap.size 3 Try.underlying22 intInfo _ _ _ _ (k : Int) rfl ho.out rfl (by omega) hz.out ?_; intro X4 a4 w4 o4 g4)
            have O4 := hid (show OI w4 w.heap.size 3 X4 (m + 1) a4 (ints (upM (tF xss) (k + 1))) by rw [hup.out, if_pos rfl, TOEnd_ints_snoc]; exact o4)
            have S4 := hid (St.grown hs.out g4 (fun q hq => (ho.out.lt q hq).1))
            go_roundw
            case rel => exact ⟨k + 1, m + 1, a4, _, by omega, by go_num, rfl, by omega, O4, hid (Nat.le_trans hz.out g4.size), S4⟩
            case measure => simp [intOf]; omega
    · obtain rfl : k = 12 := by omega
      have h12 : ¬ (12 : Int) < 12 := by omega
      go_wp2_with fail
      go_ret
      exact ⟨_, _, _, rfl, ho.out, hs.out⟩
end Go.Proofs.Ytfdgbbapbpflcaa
