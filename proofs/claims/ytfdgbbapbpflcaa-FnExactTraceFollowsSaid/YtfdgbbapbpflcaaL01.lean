/- FnExactTraceFollows returns true. -/
import Derived.Test.YtfdgbbapbpflcaaTr3
namespace Go.Proofs.Ytfdgbbapbpflcaa
open Go.RowKit

theorem eqI_refl (xs : List Int) : eqI xs xs = true := by simp [eqI]
set_option maxHeartbeats 400000 in
theorem walkExactTraceFollows (A : Option Addr) (n c : Nat) (xs : List Int) {w : World} (H : SL w A n c xs) (_ : ∀ x ∈ xs, (Lit.int .i64 x).wf = true) (A' : Option Addr) (n' c' : Nat) (ys : List Int) (H' : SL w A' n' c' ys) (_ : ∀ x ∈ ys, (Lit.int .i64 x).wf = true) :
    Calls Try.prog 3 #[.slice A n c, .slice A' n' c'] w fun e w' => e = .returned (.bool true) ∧ Below w.heap.size w w' := by
  have h := H.ri
  have h' := H'.ri
  clear H H'
  by_cases hn : 1048576 < n
  · have hn : (1048576 : Int) < (n : Int) := by omega
    go_enter Try.func3, Try.ntmps3
    go_wp2_with fail
    go_ret
    exact ⟨rfl, Below.refl _ _⟩
  by_cases hn' : 1048576 < n'
  · have hn : ¬ (1048576 : Int) < (n : Int) := by omega
    have hn' : (1048576 : Int) < (n' : Int) := by omega
    go_enter Try.func3, Try.ntmps3
    go_wp2_with fail
    go_ret
    exact ⟨rfl, Below.refl _ _⟩
  have hni : ¬ (1048576 : Int) < (n : Int) := by omega
  have hni' : ¬ (1048576 : Int) < (n' : Int) := by omega
  have g1 := eqI_refl xs
  have g2 := eqI_refl ys
  go_enter Try.func3, Try.ntmps3
  go_wp2_with fail
  refine (toIntS_any _ _ _ _ _ _ h (by omega) (Nat.le_refl _)).mono ?_
  rintro e w1 ⟨rfl, o1, b1, s1⟩
  go_wp2_with fail
  refine (toIntS_any _ _ _ _ _ _ (h'.below b1) (by omega) b1.size).mono ?_
  rintro e w2 ⟨rfl, o2, b2, s2⟩
  go_wp2_with fail
  refine (specTraceFollows_any _ _ _ _ _ _ w2.heap.size _ _ _ ((o1.ri.below b2).more b2.size) o2.ri (by omega) (by omega) (by omega) (by omega)).mono ?_
  rintro e w3 ⟨rfl, d3⟩
  have b3 := b1.trans (b2.mono b1.size) |>.trans (d3.to_below _)
  clear b1 b2 d3 o1 o2 s1 s2
  go_wp2_with fail
  refine (toIntS_any _ _ _ _ _ _ (h.below b3) (by omega) b3.size).mono ?_
  rintro e w4 ⟨rfl, o4, b4, s4⟩
  go_wp2_with fail
  refine (toIntS_any _ _ _ _ _ _ (h'.below (b3.trans (b4.mono b3.size))) (by omega) (Nat.le_trans b3.size b4.size)).mono ?_
  rintro e w5 ⟨rfl, o5, b5, s5⟩
  have i4 := (o4.ri.below b5).more b5.size
  have i5 := o5.ri
  have b6 := (b3.trans (b4.mono b3.size)).trans (b5.mono (Nat.le_trans b3.size b4.size))
  clear b3 b4 b5 o4 o5 s4 s5
  go_wp2_with fail
  refine (TraceFollows_any _ _ _ _ _ _ w5.heap.size _ _ _ i4 i5 (by omega) (by omega) (by omega) (by unfold maxLen; omega) (Nat.le_refl _)).mono ?_
  rintro e w6 ⟨rfl, b7⟩
  have i4 := (i4.below b7).more b7.size
  have i5 := (i5.below b7).more b7.size
  have b8 := b6.trans (b7.mono b6.size)
  clear b6 b7
  go_wp2_with fail
  refine (toIntS_any _ _ _ _ _ _ (h.below b8) (by omega) b8.size).mono ?_
  rintro e w7 ⟨rfl, o7, b9, s7⟩
  have i4 := (i4.below b9).more b9.size
  have i5 := (i5.below b9).more b9.size
  have b10 := b8.trans (b9.mono b8.size)
  have i7 := o7.ri
  clear b8 b9 o7
  go_wp2_with fail
  refine (eqIntS_any _ _ _ _ _ _ w7.heap.size _ _ _ i4 i7 (by omega)).mono ?_
  rintro e w8 ⟨rfl, d8⟩
  have i5 := i5.dr d8
  have b11 := b10.trans (d8.to_below _)
  have z8 := Nat.le_of_eq d8.size.symm
  clear b10 d8 i7 i4
  go_wp2_with fail
  refine (toIntS_any _ _ _ _ _ _ (h'.below b11) (by omega) b11.size).mono ?_
  rintro e w9 ⟨rfl, o9, b12, s9⟩
  have i5 := (i5.more z8 |>.below b12).more b12.size
  have b13 := b11.trans (b12.mono b11.size)
  have i9 := o9.ri
  clear b12 b11 o9
  go_wp2_with fail
  refine (eqIntS_any _ _ _ _ _ _ w9.heap.size _ _ _ i5 i9 (by omega)).mono ?_
  rintro e w10 ⟨rfl, d10⟩
  go_wp2_with fail
  go_ret
  exact ⟨rfl, b13.trans (d10.to_below _)⟩
end Go.Proofs.Ytfdgbbapbpflcaa
