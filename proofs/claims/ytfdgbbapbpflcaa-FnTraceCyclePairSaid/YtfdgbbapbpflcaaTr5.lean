/- Both TracesValid. -/
import Derived.Test.YtfdgbbapbpflcaaTr2
import Derived.Test.YtfdgbbapbpflcaaLists
namespace Go.Proofs.Ytfdgbbapbpflcaa
open Go.RowKit
/-- Are traces valid? -/
def valT (xss : List (List Int)) : Bool := decide (xss.length ≤ 6) && xss.all isTr
theorem all_take_succ {xss : List (List Int)} {k : Nat} {xs : List Int} (h : xss[k]? = some xs) (ht : (xss.take k).all isTr = true) : (xss.take (k + 1)).all isTr = isTr xs := by
  rw [take_snoc h, List.all_append, ht]; simp
theorem all_bad {xss : List (List Int)} {k : Nat} {xs : List Int} (h : xss[k]? = some xs) (ht : isTr xs = false) : valT xss = false := by
  have : xss.all isTr = false := by
    rw [Bool.eq_false_iff]
    intro ha
    rw [List.all_eq_true] at ha
    have := ha xs (List.mem_of_getElem? h)
    rw [ht] at this; cases this
  simp [valT, this]
theorem valT_full {xss : List (List Int)} {n : Nat} (hl : xss.length = n) (h : (xss.take n).all isTr = true) : valT xss = decide (n ≤ 6) := by
  rw [List.take_of_length_le (by omega)] at h
  simp [valT, h, hl]
set_option maxHeartbeats 400000 in
theorem TracesValid_any (A : Option Addr) (n c : Nat) (xss : List (List Int)) (w : World) (h : SLL w A n c xss) (hn : n ≤ 1048576) (hn2 : ∀ xs ∈ xss, xs.length ≤ 1048576) :
    Calls Try.prog 27 #[.slice A n c] w fun e w' => e = .returned (.bool (valT xss)) ∧ St w w' := by
  have HL := hid h.len
  have HN2 := hid hn2
  clear hn2
  by_cases h6 : 6 < n
  · have hm := hid (show valT xss = false by simp [valT]; intro h; have := HL.out; omega)
    have h6 : (6 : Int) < (n : Int) := by omega
    go_enter Try.func27, Try.ntmps27
    go_wp2_with fail
    go_ret
    exact ⟨ret_bool hm.out.symm, St.refl _⟩
  have h6i : ¬ (6 : Int) < (n : Int) := by omega
  go_enter Try.func27, Try.ntmps27
  go_wp2_with fail
  go_loopw [10] (fun i wr => ∃ k : Nat, k ≤ n ∧ i = .int .i64 k ∧ Hid ((xss.take k).all isTr = true) ∧ St w wr) (fun i _ => n - (intOf i).toNat)
  case atStart => exact ⟨0, Nat.zero_le _, rfl, hid rfl, St.refl _⟩
  case round =>
    obtain ⟨k, hk, rfl, hno, hd⟩ := hrel
    have h := h.st hd
    by_cases hlt : k < n
    · obtain ⟨ad, Ak, nk, ck, xs, rfl, hb1, hc, hx, hsk⟩ := h.at_ hlt
      have hnk : nk ≤ 1048576 := by have := HN2.out xs (List.mem_of_getElem? hx.out); rw [hsk.len] at this; exact this
      have hm := hid (all_take_succ hx.out hno.out)
      go_wp2_with fail
      refine (isTrace_any _ _ _ _ _ _ hsk.ri (by omega) (Nat.le_refl _)).mono ?_
      rintro e w1 ⟨rfl, b1⟩
      cases ht : isTr xs
      · have hbad := hid (all_bad hx.out ht)
        go_wp2_with fail
        go_ret
        exact ⟨ret_bool hbad.out.symm, hd.trans b1⟩
      · rw [ht] at hm
        go_wp2_with fail
        go_roundw
        case rel => exact ⟨k + 1, by omega, by go_num, hm, hd.trans b1⟩
        case measure => simp [intOf]; omega
    · obtain rfl : k = n := by omega
      have hm := hid ((valT_full HL.out hno.out).trans (by simp; omega : decide (k ≤ 6) = true))
      go_wp2_with fail
      go_ret
      exact ⟨ret_bool hm.out.symm, hd⟩
set_option maxHeartbeats 400000 in
theorem specTracesValid_any (A : Option Addr) (n c : Nat) (xss : List (List Int)) (w : World) (h : SLL w A n c xss) (hn : n ≤ 1048576) (hn2 : ∀ xs ∈ xss, xs.length ≤ 1048576) :
    Calls Try.prog 25 #[.slice A n c] w fun e w' => e = .returned (.bool (valT xss)) ∧ Dr w w' := by
  have HL := hid h.len
  have HN2 := hid hn2
  clear hn2
  go_enter Try.func25, Try.ntmps25
  go_wp2_with fail
  go_loopw [3] (fun i wr => ∃ k : Nat, k ≤ n ∧ i = .int .i64 k ∧ Hid ((xss.take k).all isTr = true) ∧ Dr w wr) (fun i _ => n - (intOf i).toNat)
  case atStart => exact ⟨0, Nat.zero_le _, rfl, hid rfl, Dr.refl _⟩
  case round =>
    obtain ⟨k, hk, rfl, hno, hd⟩ := hrel
    have h := h.dr hd
    by_cases hlt : k < n
    · obtain ⟨ad, Ak, nk, ck, xs, rfl, hb1, hc, hx, hsk⟩ := h.at_ hlt
      have hnk : nk ≤ 1048576 := by have := HN2.out xs (List.mem_of_getElem? hx.out); rw [hsk.len] at this; exact this
      have hm := hid (all_take_succ hx.out hno.out)
      go_wp2_with fail
      refine (l21List_any _ _ _ _ _ _ hsk.ri (by omega) hsk.nc).mono ?_
      rintro e w1 ⟨rfl, b1⟩
      cases ht : isTr xs
      · have hbad := hid (all_bad hx.out ht)
        go_wp2_with fail
        go_ret
        exact ⟨ret_bool hbad.out.symm, hd.trans b1⟩
      · rw [ht] at hm
        go_wp2_with fail
        go_roundw
        case rel => exact ⟨k + 1, by omega, by go_num, hm, hd.trans b1⟩
        case measure => simp [intOf]; omega
    · obtain rfl : k = n := by omega
      have hm := hid ((valT_full HL.out hno.out).trans (show decide (k ≤ 6) = decide ((k : Int) ≤ 6) by rw [decide_eq_decide]; omega))
      go_wp2_with fail
      go_ret
      exact ⟨ret_bool hm.out.symm, hd⟩
end Go.Proofs.Ytfdgbbapbpflcaa
