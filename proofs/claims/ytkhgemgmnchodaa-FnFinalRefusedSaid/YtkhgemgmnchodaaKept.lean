/- Writes that keep every cell's kind: what the laws' own marks do. -/
import Derived.Test.YtkhgemgmnchodaaInts
namespace Go.Proofs.Ytkhgemgmnchodaa
open Go.RowKit

/-- A value of the same kind in the place of another. -/
def kindEq (v u : Value) : Prop := (∃ i x y, v = .int i x ∧ u = .int i y) ∨ (∃ x y, v = .bool x ∧ u = .bool y) ∨ v = u
theorem kindEq.trans {a b c : Value} (h : kindEq a b) (k : kindEq b c) : kindEq a c := by
  rcases h with ⟨i, x, y, rfl, rfl⟩ | ⟨x, y, rfl, rfl⟩ | rfl
  · rcases k with ⟨i', x', y', h1, rfl⟩ | ⟨x', y', h1, _⟩ | rfl
    · injection h1 with h1 h2; subst h1; exact .inl ⟨_, _, _, rfl, rfl⟩
    · cases h1
    · exact .inl ⟨_, _, _, rfl, rfl⟩
  · rcases k with ⟨i', x', y', h1, _⟩ | ⟨x', y', h1, rfl⟩ | rfl
    · cases h1
    · exact .inr (.inl ⟨_, _, rfl, rfl⟩)
    · exact .inr (.inl ⟨_, _, rfl, rfl⟩)
  · exact k
/-- Of the blocks that were there only those that P names may have turned, and every cell has kept its kind. -/
structure Kept (P : Nat → Prop) (w w' : World) : Prop where
  tu : Turned P w w'
  ck : ∀ p v, w.cell? p = some v → ∃ u, w'.cell? p = some u ∧ kindEq v u
  fz : ∀ p v, w.cell? p = some v → w'.frozen? p = w.frozen? p
section
variable {P : Nat → Prop} {a b c w w' : World}
theorem Kept.refl (w : World) : Kept P w w := ⟨Turned.of_st (St.refl w), fun _ v h => ⟨v, h, .inr (.inr rfl)⟩, fun _ _ _ => rfl⟩
theorem Kept.trans (h : Kept P a b) (k : Kept P b c) : Kept P a c := by
  refine ⟨h.tu.trans k.tu, fun p v hv => ?_, fun p v hv => ?_⟩
  · obtain ⟨u, h1, h2⟩ := h.ck p v hv
    obtain ⟨u', h3, h4⟩ := k.ck p u h1
    exact ⟨u', h3, h2.trans h4⟩
  · obtain ⟨u, h1, _⟩ := h.ck p v hv
    exact (k.fz p u h1).trans (h.fz p v hv)
theorem Kept.of_st (h : St a b) : Kept P a b :=
  ⟨Turned.of_st h, fun _ v hv => ⟨v, h.cell hv, .inr (.inr rfl)⟩, fun _ _ hv => by
    have h1 := World.block_lt_of_cell? a _ hv
    unfold World.frozen?
    rw [h.block _ h1]⟩
theorem Kept.set (w : World) (g i : Nat) {v : Value} (u : Value) (hc : w.cell? ⟨g, i, none⟩ = some v) (hk : kindEq v u) (hP : P g) : Kept P w (w.setCell ⟨g, i, none⟩ u) := by
  refine ⟨Turned.of_grown (World.grownBy_set w g i u) (fun k hk => by injection hk with hk; subst hk; exact hP), fun p x hx => ?_, fun _ _ _ => World.frozen?_setCell _ _ _ _⟩
  by_cases hp : p = ⟨g, i, none⟩
  · subst hp
    rw [hc] at hx
    injection hx with hx
    subst hx
    exact ⟨u, World.cell?_setCell_same w _ _ hc, hk⟩
  · exact ⟨x, (World.cell?_setCell_other w _ p u (Ne.symm hp)).trans hx, .inr (.inr rfl)⟩
end
/-- n ints that can be written, in blocks that P names. -/
def WI (P : Nat → Prop) (w : World) (A : Option Addr) (n : Nat) : Prop := ∀ k, k < n → ∃ g x, A = some ⟨g, 0, none⟩ ∧ P g ∧ w.cell? ⟨g, k, none⟩ = some (.int .i64 x) ∧ w.frozen? ⟨g, k, none⟩ = false
theorem kind_int {i : IntKind} {x : Int} {u : Value} (h : kindEq (.int i x) u) : ∃ y, u = .int i y := by
  rcases h with ⟨i', x', y', h1, rfl⟩ | ⟨x', y', h1, _⟩ | rfl
  · injection h1 with h1 h2; subst h1; exact ⟨_, rfl⟩
  · cases h1
  · exact ⟨_, rfl⟩
theorem kind_bool {x : Bool} {u : Value} (h : kindEq (.bool x) u) : ∃ y, u = .bool y := by
  rcases h with ⟨i', x', y', h1, _⟩ | ⟨x', y', h1, rfl⟩ | rfl
  · cases h1
  · exact ⟨_, rfl⟩
  · exact ⟨_, rfl⟩
theorem kind_slice {A : Option Addr} {n c : Nat} {u : Value} (h : kindEq (.slice A n c) u) : u = .slice A n c := by
  rcases h with ⟨i', x', y', h1, _⟩ | ⟨x', y', h1, _⟩ | h
  · cases h1
  · cases h1
  · exact h.symm
theorem WI.kept {P : Nat → Prop} {w w' : World} {A : Option Addr} {n : Nat} (h : WI P w A n) (k : Kept P w w') : WI P w' A n := by
  intro j hj
  obtain ⟨g, x, h1, h2, h3, h4⟩ := h j hj
  obtain ⟨u, h5, h6⟩ := k.ck _ _ h3
  obtain ⟨y, rfl⟩ := kind_int h6
  exact ⟨g, y, h1, h2, h5, (k.fz _ _ h3).trans h4⟩
theorem OI.wi {P : Nat → Prop} {w : World} {base n c : Nat} {e : TypeId} {A : Option Addr} {xs : List Int} (h : OI w base e A n c xs) (hP : ∀ g, base ≤ g → g < w.heap.size → P g) : WI P w A n := by
  intro j hj
  obtain ⟨g, x, h1, h2, h3, _, h4, h5, _⟩ := h.at_ hj
  exact ⟨g, x, h1, hP g h2 h3, h4, h5⟩
theorem markIntS_w (P : Nat → Prop) (A : Option Addr) (n c : Nat) (k : Int) (w : World) (h : WI P w A n) (hn : n ≤ 1048576) (hk : 0 ≤ k) (hk' : k ≤ 4611686018427387904) :
    Calls Try.prog 32 #[.slice A n c, .int .i64 k] w fun e w' => e = .returned (.int .i64 (k + n)) ∧ Kept P w w' := by
  go_enter Try.func32, Try.ntmps32
  go_wp2_with fail
  go_loopw [1, 5] (fun s t wr => ∃ i : Nat, i ≤ n ∧ t = .int .i64 i ∧ s = .int .i64 (k + i) ∧ Hid (Kept P w wr)) (fun _ t _ => n - (intOf t).toNat)
  case atStart => exact ⟨0, Nat.zero_le _, rfl, by simp, Kept.refl _⟩
  case round =>
    obtain ⟨i, hi, rfl, rfl, hg⟩ := hrel
    by_cases hlt : i < n
    · obtain ⟨g, x, rfl, hP, hc, hf⟩ := (h.kept hg.out) i hlt
      have hk2 := hid (hg.out.trans (Kept.set wr g i (.int .i64 (k + i)) hc (.inl ⟨_, _, _, rfl, rfl⟩) hP))
      go_wp2_with fail
      go_roundw
      case rel => exact ⟨i + 1, by omega, by go_num, by go_num, hk2⟩
      case measure => simp [intOf]; omega
    · obtain rfl : i = n := by omega
      go_wp2_with fail
      go_ret
      exact ⟨rfl, hg.out⟩
end Go.Proofs.Ytkhgemgmnchodaa
