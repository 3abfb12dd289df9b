/- Slices of entries: how they read; rows of the call's own; comparison, copy, marks. -/
import Derived.Test.YtkhgemgmnchodaaGrL
import Derived.Test.YtkhgemgmnchodaaAppR
import Derived.Test.YtkhgemgmnchodaaRes
namespace Go.Proofs.Ytkhgemgmnchodaa
open Go.RowKit Go.Sort

abbrev entA (e : Ent) : Array Value := #[.int .i64 e.1, .int .i64 e.2.1.1, .int .i64 e.2.1.2, .bool e.2.2]
abbrev enV (m t g : Int) (f : Bool) : Value := .agg #[.int .i64 m, .int .i64 t, .int .i64 g, .bool f]
/-- A slice of entries (four cells each) that can be read. -/
structure SE (w : World) (A : Option Addr) (n c : Nat) (es : List Ent) : Prop where
  len : es.length = n
  nc : n ≤ c
  cm : c ≤ maxLen
  rd : 0 < n → ∃ ad, A = some ad ∧ ad.block < w.heap.size ∧ ∀ k, k < n → ∃ m t g f, es[k]? = some (m, (t, g), f) ∧ w.cell? (ad.add (k * 4)) = some (.int .i64 m) ∧ w.cell? (ad.add (k * 4 + 1)) = some (.int .i64 t) ∧ w.cell? (ad.add (k * 4 + 2)) = some (.int .i64 g) ∧ w.cell? (ad.add (k * 4 + 3)) = some (.bool f)
/-- An entry at an address. -/
structure EAt (w : World) (b o : Nat) (m t g : Int) (f : Bool) : Prop where
  c0 : w.cell? ⟨b, o, none⟩ = some (.int .i64 m)
  c1 : w.cell? ⟨b, o + 1, none⟩ = some (.int .i64 t)
  c2 : w.cell? ⟨b, o + 2, none⟩ = some (.int .i64 g)
  c3 : w.cell? ⟨b, o + 3, none⟩ = some (.bool f)
section
variable {w w' : World} {n c : Nat} {A : Option Addr} {es : List Ent}
theorem SE.at_ {k : Nat} (h : SE w A n c es) (hk : k < n) : ∃ ad m t g f, A = some ad ∧ ad.block < w.heap.size ∧ Hid (es[k]? = some (m, (t, g), f)) ∧ w.cell? (ad.add (k * 4)) = some (.int .i64 m) ∧ w.cell? ⟨(ad.add (k * 4)).block, (ad.add (k * 4)).off + 1, none⟩ = some (.int .i64 t) ∧ w.cell? ⟨(ad.add (k * 4)).block, (ad.add (k * 4)).off + 2, none⟩ = some (.int .i64 g) ∧ w.cell? ⟨(ad.add (k * 4)).block, (ad.add (k * 4)).off + 3, none⟩ = some (.bool f) := by
  obtain ⟨ad, h1, h2, h3⟩ := h.rd (by omega)
  obtain ⟨m, t, g, f, h4, h5, h6, h7, h8⟩ := h3 k hk
  exact ⟨ad, m, t, g, f, h1, h2, h4, h5, by rw [← h6, add_field ad (k * 4) 0], by rw [← h7, add_field ad (k * 4) 1], by rw [← h8, add_field ad (k * 4) 2]⟩
theorem SE.st (h : SE w A n c es) (hst : St w w') : SE w' A n c es := by
  refine ⟨h.len, h.nc, h.cm, fun hn => ?_⟩
  obtain ⟨ad, h1, h2, h3⟩ := h.rd hn
  refine ⟨ad, h1, Nat.lt_of_lt_of_le h2 hst.size, fun k hk => ?_⟩
  obtain ⟨m, t, g, f, h4, h5, h6, h7, h8⟩ := h3 k hk
  have hb : ∀ j, w'.cell? (ad.add j) = w.cell? (ad.add j) := fun j => hst.below.cell (by rw [block_of_add]; exact h2)
  exact ⟨m, t, g, f, h4, (hb _).trans h5, (hb _).trans h6, (hb _).trans h7, (hb _).trans h8⟩
theorem SE.dr (h : SE w A n c es) (hd : Dr w w') : SE w' A n c es := h.st hd.st
theorem SE.none_ : SE w none 0 0 [] := ⟨rfl, Nat.le_refl _, by simp [maxLen], fun h => absurd h (by omega)⟩
theorem SE.empty (A : Option Addr) (c : Nat) (hc : c ≤ maxLen) : SE w A 0 c [] := ⟨rfl, Nat.zero_le _, hc, fun h => absurd h (by omega)⟩
end
/-- The cells of entries. -/
def entCells (es : List Ent) : List Value := es.flatMap fun e => [.int .i64 e.1, .int .i64 e.2.1.1, .int .i64 e.2.1.2, .bool e.2.2]
theorem entCells_cons (e : Ent) (r : List Ent) : entCells (e :: r) = .int .i64 e.1 :: .int .i64 e.2.1.1 :: .int .i64 e.2.1.2 :: .bool e.2.2 :: entCells r := rfl
theorem entCells_len (es : List Ent) : (entCells es).length = es.length * 4 := by
  induction es with
  | nil => rfl
  | cons h t ih => rw [entCells_cons]; simp only [List.length_cons, ih]; omega
theorem entCells_app (es fs : List Ent) : entCells (es ++ fs) = entCells es ++ entCells fs := by simp [entCells]
theorem entCells_at : ∀ (es : List Ent) (k : Nat) (e : Ent), es[k]? = some e → (entCells es)[k * 4]? = some (.int .i64 e.1) ∧ (entCells es)[k * 4 + 1]? = some (.int .i64 e.2.1.1) ∧ (entCells es)[k * 4 + 2]? = some (.int .i64 e.2.1.2) ∧ (entCells es)[k * 4 + 3]? = some (.bool e.2.2)
  | [], k, _, h => by simp at h
  | h :: r, 0, e, hk => by
    simp at hk; subst hk
    simp [entCells]
  | h :: r, k + 1, e, hk => by
    simp at hk
    have := entCells_at r k e hk
    rw [entCells_cons, show (k + 1) * 4 = k * 4 + 4 by omega, show k * 4 + 4 + 1 = k * 4 + 1 + 4 by omega, show k * 4 + 4 + 2 = k * 4 + 2 + 4 by omega, show k * 4 + 4 + 3 = k * 4 + 3 + 4 by omega]
    simpa using this
theorem entCells_take (es : List Ent) (k : Nat) : (entCells es).take (k * 4) = entCells (es.take k) := by
  induction es generalizing k with
  | nil => simp [entCells]
  | cons h t ih =>
    cases k with
    | zero => simp [entCells]
    | succ k => rw [show (k + 1) * 4 = k * 4 + 4 by omega, entCells_cons]; simp [ih, entCells_cons]
theorem entCells_drop (es : List Ent) (k : Nat) : (entCells es).drop (k * 4) = entCells (es.drop k) := by
  induction es generalizing k with
  | nil => simp [entCells]
  | cons h t ih =>
    cases k with
    | zero => simp
    | succ k => rw [show (k + 1) * 4 = k * 4 + 4 by omega, entCells_cons]; simp [ih]
theorem entCells_set (es : List Ent) (k : Nat) (m t g : Int) (f : Bool) : ((((entCells es).set (k * 4) (.int .i64 m)).set (k * 4 + 1) (.int .i64 t)).set (k * 4 + 2) (.int .i64 g)).set (k * 4 + 3) (.bool f) = entCells (es.set k (m, (t, g), f)) := by
  induction es generalizing k with
  | nil => simp [entCells]
  | cons h r ih =>
    cases k with
    | zero => simp [entCells_cons]
    | succ k =>
      rw [List.set_cons_succ, entCells_cons, entCells_cons, ← ih, show (k + 1) * 4 = k * 4 + 4 by omega, show k * 4 + 4 + 1 = k * 4 + 1 + 4 by omega, show k * 4 + 4 + 2 = k * 4 + 2 + 4 by omega, show k * 4 + 4 + 3 = k * 4 + 3 + 4 by omega]
      rfl
theorem entCells_one (es : List Ent) : ∀ u ∈ entCells es, u.oneCell' = true := by
  intro u hu
  obtain ⟨e, _, he⟩ := List.mem_flatMap.1 hu
  simp only [List.mem_cons, List.not_mem_nil, or_false] at he
  rcases he with rfl | rfl | rfl | rfl <;> rfl
/-- Entries in a row of the call's own. -/
def OE (w : World) (base : Nat) (A : Option Addr) (n c : Nat) (es : List Ent) : Prop := es.length = n ∧ w.ownsRow base 34 4 (.slice A n c) n (entCells es)
theorem entInfo : (Try.prog.info? 34).map (fun i => (i.zero, i.size, i.bytes)) = some (some (.agg #[.int .i64 0, .int .i64 0, .int .i64 0, .bool false]), 4, 32) := by kernel_rfl
section
variable {w w' : World} {base base' n c : Nat} {A : Option Addr} {es : List Ent}
theorem OE.cap (h : OE w base A n c es) : n ≤ c ∧ c ≤ maxLen := own_cap' h.2
theorem SE.of_reads (hl : es.length = n) (hnc : n ≤ c) (hc : c ≤ maxLen) (h : Reads w w.heap.size 4 A n (entCells es)) : SE w A n c es := by
  refine ⟨hl, hnc, hc, fun hn => ?_⟩
  obtain ⟨ad, h4, h5, h6⟩ := h.2 hn
  refine ⟨ad, h4, h5, fun k hk => ?_⟩
  have hk' : k < es.length := by omega
  have he : es[k]? = some es[k] := List.getElem?_eq_getElem hk'
  obtain ⟨h7, h8, h9, h10⟩ := entCells_at es k _ he
  exact ⟨_, _, _, _, he, h6 _ _ h7, h6 _ _ h8, h6 _ _ h9, h6 _ _ h10⟩
theorem OE.se (h : OE w base A n c es) : SE w A n c es := SE.of_reads h.1 h.cap.1 h.cap.2 (Reads.of_own h.2)
theorem SE.reads (h : SE w A n c es) : Reads w w.heap.size 4 A n (entCells es) := by
  refine ⟨by rw [entCells_len, h.len], fun hn => ?_⟩
  obtain ⟨ad, h1, h2, h3⟩ := h.rd hn
  refine ⟨ad, h1, h2, fun j u hu => ?_⟩
  have hj := (List.getElem?_eq_some_iff.1 hu).1
  rw [entCells_len, h.len] at hj
  obtain ⟨m, t, g, f, h4, h5, h6, h7, h8⟩ := h3 (j / 4) (by omega)
  obtain ⟨e1, e2, e3, e4⟩ := entCells_at es (j / 4) _ h4
  have hm : j % 4 = 0 ∨ j % 4 = 1 ∨ j % 4 = 2 ∨ j % 4 = 3 := by omega
  rcases hm with hm | hm | hm | hm
  · have e : j / 4 * 4 = j := by omega
    rw [e] at e1 h5; rw [e1] at hu; injection hu with hu; rw [h5, ← hu]
  · have e : j / 4 * 4 + 1 = j := by omega
    rw [e] at e2 h6; rw [e2] at hu; injection hu with hu; rw [h6, ← hu]
  · have e : j / 4 * 4 + 2 = j := by omega
    rw [e] at e3 h7; rw [e3] at hu; injection hu with hu; rw [h7, ← hu]
  · have e : j / 4 * 4 + 3 = j := by omega
    rw [e] at e4 h8; rw [e4] at hu; injection hu with hu; rw [h8, ← hu]
theorem SE.upto {k : Nat} (h : SE w A n c es) (hk : k ≤ n) : SE w A k c (es.take k) := by
  have hr := h.reads.upto hk
  rw [entCells_take] at hr
  exact SE.of_reads (by rw [List.length_take, h.len]; omega) (by have := h.nc; omega) h.cm hr
theorem OE.nil (w : World) (base : Nat) : OE w base none 0 0 [] := ⟨rfl, World.ownsRow_nil _ _ _ _⟩
theorem OE.st (h : OE w base A n c es) (s : St w w') : OE w' base A n c es := ⟨h.1, own_below h.2 s⟩
theorem OE.dr (h : OE w base A n c es) (s : Dr w w') : OE w' base A n c es := h.st s.st
theorem OE.less (h : OE w base A n c es) (hb : base' ≤ base) : OE w base' A n c es := ⟨h.1, OI_less_row h.2 hb⟩
theorem OE.grown {row : Option Nat} (h : OE w base A n c es) (hg : w.grownBy w' row) (hr : ∀ k, row = some k → blockOf A ≠ some k) : OE w' base A n c es := by
  refine ⟨h.1, World.ownsRow.kept h.2 hg ?_⟩
  rw [ownBlock_slice]
  cases hA : blockOf A with
  | none => exact .inl rfl
  | some g => right; intro e; exact hr g e.symm hA
theorem OE.lt (h : OE w base A n c es) : ∀ g, blockOf A = some g → base ≤ g ∧ g < w.heap.size := fun g hg => World.ownsRow.lt h.2 g (by rw [ownBlock_slice]; exact hg)
theorem OE.turned {P : Nat → Prop} (h : OE w base A n c es) (k : Turned P w w') (hP : ∀ g, P g → g < base) : OE w' base A n c es := ⟨h.1, own_turned h.2 k hP⟩
/-- The four stores of an entry. -/
abbrev setE (w : World) (b o : Nat) (m t g : Int) (f : Bool) : World := (((w.setCell ⟨b, o, none⟩ (.int .i64 m)).setCell ⟨b, o + 1, none⟩ (.int .i64 t)).setCell ⟨b, o + 2, none⟩ (.int .i64 g)).setCell ⟨b, o + 3, none⟩ (.bool f)
theorem OE.at_ {k : Nat} (h : OE w base A n c es) (hk : k < n) : ∃ b m t g f, A = some ⟨b, 0, none⟩ ∧ base ≤ b ∧ b < w.heap.size ∧ Hid (es[k]? = some (m, (t, g), f)) ∧ EAt w b (k * 4) m t g f ∧ (∀ j, w.frozen? ⟨b, j, none⟩ = false) ∧
    ∀ m' t' g' f', Hid (OE (setE w b (k * 4) m' t' g' f') base A n c (es.set k (m', (t', g'), f'))) ∧ w.grownBy (setE w b (k * 4) m' t' g' f') (some b) := by
  obtain ⟨h1, h2⟩ := h
  obtain ⟨b, cap, hv, hb, hlt⟩ := World.ownsRow.form h2 (by omega)
  injection hv with hv1 _ hv2
  subst hv1 hv2
  have hk' : k < es.length := by omega
  have he : es[k]? = some es[k] := List.getElem?_eq_getElem hk'
  obtain ⟨h7, h8, h9, h10⟩ := entCells_at es k _ he
  refine ⟨b, _, _, _, _, rfl, hb, hlt, he, ⟨?_, ?_, ?_, ?_⟩, fun j => World.ownsRow.frozenAt h2 _, fun m' t' g' f' => ?_⟩
  · exact (World.ownsRow.cellAt h2 (k * 4) (by omega)).trans h7
  · exact (World.ownsRow.cellAt h2 (k * 4 + 1) (by omega)).trans h8
  · exact (World.ownsRow.cellAt h2 (k * 4 + 2) (by omega)).trans h9
  · exact (World.ownsRow.cellAt h2 (k * 4 + 3) (by omega)).trans h10
  · obtain ⟨q1, r1⟩ := World.ownsRow.stored h2 (k * 4) (.int .i64 m')
    obtain ⟨q2, r2⟩ := World.ownsRow.stored q1 (k * 4 + 1) (.int .i64 t')
    obtain ⟨q3, r3⟩ := World.ownsRow.stored q2 (k * 4 + 2) (.int .i64 g')
    obtain ⟨q4, r4⟩ := World.ownsRow.stored q3 (k * 4 + 3) (.bool f')
    refine ⟨⟨by simpa using h1, ?_⟩, grown_trans' (grown_trans' (grown_trans' r1 r2) r3) r4⟩
    rw [entCells_set] at q4
    exact q4
end
end Go.Proofs.Ytkhgemgmnchodaa
