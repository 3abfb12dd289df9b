/- Sets of groups, and copies of slices of ints. -/
import Derived.Test.YtkhgemgmnchodaaInts
import Derived.Test.YtkhgemgmnchodaaApp
namespace Go.Proofs.Ytkhgemgmnchodaa
open Go.RowKit

/-- An int slice that a function has made: new. -/
def MadeI (w : World) (xs : List Int) (e : Ending) (w' : World) : Prop := ∃ A c, e = .returned (.slice A xs.length c) ∧ OI w' w.heap.size 3 A xs.length c xs ∧ St w w'

/-- The first k neighbours ascend. -/
def ascTo (xs : List Int) (k : Nat) : Bool := (List.range k).all fun i => decide (xs.getD i 0 < xs.getD (i + 1) 0)
theorem ascTo_succ {xs : List Int} {k : Nat} {x y : Int} (hx : xs[k]? = some x) (hy : xs[k + 1]? = some y) : ascTo xs (k + 1) = (ascTo xs k && decide (x < y)) := by
  simp [ascTo, List.range_succ, List.getD_eq_getElem?_getD, hx, hy]
theorem ascTo_bad {xs : List Int} {k n : Nat} (h : ascTo xs k = false) (hk : k ≤ n) : ascTo xs n = false := by
  rw [Bool.eq_false_iff] at h ⊢
  intro ha
  apply h
  simp only [ascTo, List.all_eq_true, List.mem_range] at ha ⊢
  exact fun i hi => ha i (by omega)
/-- Is a list a set of groups? -/
def gset (xs : List Int) : Bool := decide (0 < xs.length) && (ascTo xs (xs.length - 1) && xs.all (inB · 0 4))
theorem isGroup_any (n : Int) (w : World) :
    Calls Try.prog 52 #[.int .i64 n] w fun e w' => e = .returned (.bool (inB n 0 4)) ∧ w = w' := by
  by_cases h1 : 0 ≤ n
  · go_enter Try.func52, Try.ntmps52
    go_wp2
    go_ret
    exact ⟨ret_bool (by simp [inB, h1]; omega), rfl⟩
  · go_enter Try.func52, Try.ntmps52
    go_wp2
    go_ret
    exact ⟨ret_bool (by simp [inB]; omega), rfl⟩
theorem l1Group_any (n : Int) (w : World) :
    Calls Try.prog 51 #[.int .i64 n] w fun e w' => e = .returned (.bool (inB n 0 4)) ∧ w = w' := by
  go_enter Try.func51, Try.ntmps51
  go_wp2_with ((refine (l6In_any _ _ _ _).mono ?_); rintro e w' ⟨rfl, rfl⟩)
  go_ret
  exact ⟨rfl, rfl⟩
end Go.Proofs.Ytkhgemgmnchodaa
