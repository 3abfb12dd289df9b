/- Twelve flags in memory. -/
import Derived.Test.YtkhgemgmnchodaaInts
namespace Go.Proofs.Ytkhgemgmnchodaa
open Go.RowKit
/-- The twelve flags of a block. -/
def seenCells (ys : List Int) : Array Value := ((List.range 12).map fun (i : Nat) => Value.bool (has ys (i : Int))).toArray
theorem seen_at (ys : List Int) {m : Nat} (h : m < 12) : (seenCells ys)[m]? = some (.bool (has ys m)) := by
  simp [seenCells, h]
theorem seen_set (ys : List Int) {m : Nat} (_h : m < 12) : (seenCells ys).setIfInBounds m (.bool true) = seenCells (ys ++ [(m : Int)]) := by
  apply Array.ext_getElem?
  intro i
  rw [Array.getElem?_setIfInBounds]
  by_cases e : m = i
  · subst e
    have : m < (seenCells ys).size := by simpa [seenCells] using _h
    rw [if_pos rfl, if_pos this, seen_at _ _h]
    simp [has]
  · rw [if_neg e]
    by_cases hi : i < 12
    · rw [seen_at _ hi, seen_at _ hi]
      simp [has]
      omega
    · simp [seenCells, hi]
theorem seen_nil : seenCells [] = #[.bool false, .bool false, .bool false, .bool false, .bool false, .bool false, .bool false, .bool false, .bool false, .bool false, .bool false, .bool false] := rfl
theorem isMsg_nat {x : Int} (h : isMsg x = true) : ∃ m : Nat, x = m ∧ m < 12 := by
  simp only [isMsg, inB_iff] at h
  exact ⟨x.toNat, by omega, by omega⟩

end Go.Proofs.Ytkhgemgmnchodaa
