/- A slice of bools that the call owns. -/
import Derived.Test.YtggjfbakekfdhaaInts
namespace Go.Proofs.Ytggjfbakekfdhaa
open Go.RowKit
theorem boolInfo : (Try.prog.info? 4).map (fun i => (i.zero, i.size, i.bytes)) = some (some (.bool false), 1, 1) := by kernel_rfl
def OB (w : World) (base : Nat) (A : Option Addr) (n c : Nat) (bs : List Bool) : Prop := w.ownsRow base 4 1 (.slice A n c) n (bs.map Value.bool)
section
variable {w w' : World} {base n c g : Nat} {A : Option Addr} {bs : List Bool}
theorem OB.len (h : OB w base A n c bs) : bs.length = n := by have := h.1; simpa using this
theorem OB.at_ {k : Nat} (h : OB w base (some ⟨g, 0, none⟩) n c bs) (hk : k < n) : ∃ b, base ≤ g ∧ g < w.heap.size ∧ Hid (bs[k]? = some b) ∧ w.cell? ⟨g, k, none⟩ = some (.bool b) ∧ w.frozen? ⟨g, k, none⟩ = false ∧
    ∀ u, Hid (OB (w.setCell ⟨g, k, none⟩ (.bool u)) base (some ⟨g, 0, none⟩) n c (bs.set k u)) ∧ w.grownBy (w.setCell ⟨g, k, none⟩ (.bool u)) (some g) := by
  obtain ⟨g', cap, hv, hb, hlt⟩ := World.ownsRow.form h (by omega)
  injection hv with hv1 _ hv2
  injection hv1 with hv1
  injection hv1 with hv1
  subst hv1 hv2
  have hl := h.len
  have hx : bs[k]? = some bs[k] := List.getElem?_eq_getElem (by omega)
  refine ⟨bs[k], hb, hlt, hx, ?_, World.ownsRow.frozenAt h k, fun u => ?_⟩
  · rw [World.ownsRow.cellAt h k (by omega), List.getElem?_map, hx]; rfl
  · obtain ⟨h1, h2⟩ := World.ownsRow.stored h k (.bool u)
    refine ⟨?_, h2⟩
    have : (bs.map Value.bool).set k (.bool u) = (bs.set k u).map Value.bool := by rw [List.map_set]
    rw [this] at h1
    exact h1
theorem OB.grown {row : Option Nat} (h : OB w base (some ⟨g, 0, none⟩) n c bs) (hg : w.grownBy w' row) (hr : row ≠ some g) : OB w' base (some ⟨g, 0, none⟩) n c bs := by
  refine World.ownsRow.kept h hg ?_
  right
  intro e
  exact hr (by simpa [Value.ownBlock] using e.symm)
theorem OB.st (h : OB w base A n c bs) (hs : St w w') : OB w' base A n c bs := own_below h hs
end
/-- The rows of a slice that was just made of n falses. -/
theorem OB.made {w : World} {base g n : Nat} (h : w.ownsRow base 4 1 (.slice (some ⟨g, 0, none⟩) n n) n (madeCells (Value.cells (.bool false)) (n * 1)).toList) : OB w base (some ⟨g, 0, none⟩) n n (List.replicate n false) := by
  rw [Nat.mul_one, show Value.cells (.bool false) = #[.bool false] from rfl, toList_madeCells_one, ← List.map_replicate] at h
  exact h
end Go.Proofs.Ytggjfbakekfdhaa
