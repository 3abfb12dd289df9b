/- FnExactTracesValid returns true. -/
import Derived.Test.YtfdgbbapbpflcaaTr5
namespace Go.Proofs.Ytfdgbbapbpflcaa
open Go.RowKit
set_option maxHeartbeats 400000 in
theorem walkExactTracesValid (A : Option Addr) (n c : Nat) (xss : List (List Int)) {w : World} (h : SLL w A n c xss) (_ : True) :
    Calls Try.prog 5 #[.slice A n c] w fun e w' => e = .returned (.bool true) ∧ Below w.heap.size w w' := by
  by_cases hs : szLL 1048576 xss < 0
  · go_enter Try.func5, Try.ntmps5
    go_wp2_with fail
    refine (szIntSS_any _ _ _ _ _ _ h (by omega) (by omega)).mono ?_
    rintro e w1 ⟨rfl, rfl⟩
    go_wp2_with fail
    go_ret
    exact ⟨rfl, Below.refl _ _⟩
  obtain ⟨hb1, hb2⟩ := szLL_bound (by omega : 0 ≤ szLL 1048576 xss)
  have hn : n ≤ 1048576 := by rw [h.len] at hb1; omega
  have HB := hid (show ∀ xs ∈ xss, xs.length ≤ 1048576 from fun xs hx => by have := hb2 xs hx; omega)
  clear hb1 hb2
  go_enter Try.func5, Try.ntmps5
  go_wp2_with fail
  refine (szIntSS_any _ _ _ _ _ _ h (by omega) (by omega)).mono ?_
  rintro e w1 ⟨rfl, rfl⟩
  go_wp2_with fail
  refine (toIntSS_any _ _ _ _ _ h hn HB.out).mono ?_
  rintro e w1 ⟨rfl, o1, b1, _⟩
  go_wp2_with fail
  refine (specTracesValid_any _ _ _ _ _ o1.sll hn HB.out).mono ?_
  rintro e w2 ⟨rfl, d2⟩
  have s2 : St w w2 := St.dr b1 d2
  clear b1 d2 o1
  go_wp2_with fail
  refine (toIntSS_any _ _ _ _ _ (h.st s2) hn HB.out).mono ?_
  rintro e w3 ⟨rfl, o3, b3, _⟩
  have s3 := s2.trans b3
  have i3 := o3.sll
  clear o3 b3 s2
  go_wp2_with fail
  refine (TracesValid_any _ _ _ _ _ i3 hn HB.out).mono ?_
  rintro e w4 ⟨rfl, b4⟩
  have s4 := s3.trans b4
  have i4 := i3.st b4
  clear i3 b4 s3
  go_wp2_with fail
  refine (toIntSS_any _ _ _ _ _ (h.st s4) hn HB.out).mono ?_
  rintro e w5 ⟨rfl, o5, b5, _⟩
  have s5 := s4.trans b5
  have i5 := o5.sll
  have i4 := i4.st b5
  clear o5 b5 s4
  go_wp2_with fail
  refine (eqIntSS_same _ _ _ _ _ _ _ _ i4 i5 hn HB.out).mono ?_
  rintro e w6 ⟨rfl, d6⟩
  go_wp2_with fail
  go_ret
  exact ⟨rfl, s5.dr d6⟩
end Go.Proofs.Ytfdgbbapbpflcaa
