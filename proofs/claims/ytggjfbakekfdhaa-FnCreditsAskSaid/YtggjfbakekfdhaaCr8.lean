/- Credits of the call's own. -/
import Derived.Test.YtggjfbakekfdhaaCrL
import Derived.Test.YtggjfbakekfdhaaCr6
import Derived.Test.YtggjfbakekfdhaaKindCr
namespace Go.Proofs.Ytggjfbakekfdhaa
open Go.RowKit
theorem set_id {α : Type} {l : List α} {i : Nat} {a : α} (h : l[i]? = some a) : l.set i a = l := by
  apply List.ext_getElem?
  intro j
  by_cases e : i = j
  · subst e
    rw [List.getElem?_set_self (List.getElem?_eq_some_iff.1 h).1, h]
  · rw [List.getElem?_set_ne e]
theorem SL.row {w w' : World} {A : Option Addr} {n c R : Nat} {xs : List Int} (h : SL w A n c xs) (hg : w.grownBy w' (some R)) (hA : blockOf A ≠ some R) : SL w' A n c xs :=
  ⟨(h.ri.row hg (Nat.le_refl _) hA).more hg.size, h.nc, h.cm⟩
theorem OI_row_ne {w : World} {b1 b2 n c m d size : Nat} {A B : Option Addr} {xs : List Int} {us : List Value} (h : OI w b1 3 A n c xs) (h' : w.ownsRow b2 38 size (.slice B m d) m us) : ∀ g, blockOf B = some g → blockOf A ≠ some g := by
  intro g hg
  rcases h'.2 with ⟨h1, _⟩ | ⟨g', cap, cur, h1, _, hh, _⟩
  · injection h1 with h1; subst h1; cases hg
  · injection h1 with h1
    subst h1
    have : g' = g := by simpa [blockOf] using hg
    subst this
    rw [← ownBlock_slice A n c]
    exact own_blk_ne (t := 38) (cs := cur) h hh (by decide)
/-- Credits of the call's own; the lists of the holds lie apart from the free ones. -/
structure CrS (w : World) (base : Nat) (A : Option Addr) (n c : Nat) (B : Option Addr) (m d : Nat) (fs : List Int) (hs : List (List Int × Int)) : Prop where
  fr : OI w base 3 A n c fs
  hl : hs.length = m
  ro : ∃ vs : List (Value × Int), w.ownsRow base 38 2 (.slice B m d) m (holdCells vs) ∧ vs.length = m ∧ ∀ k, k < m → ∃ Ak nk ck xs t, vs[k]? = some (.slice Ak nk ck, t) ∧ hs[k]? = some (xs, t) ∧ OI w base 3 Ak nk ck xs ∧ ∀ g, blockOf Ak = some g → blockOf A ≠ some g
section
variable {w w' : World} {base n c m d : Nat} {A B : Option Addr} {fs : List Int} {hs : List (List Int × Int)}
theorem CrS.ne (h : CrS w base A n c B m d fs hs) : ∀ g, blockOf B = some g → blockOf A ≠ some g := by
  obtain ⟨vs, h1, _⟩ := h.ro
  exact OI_row_ne h.fr h1
theorem CrS.sh (h : CrS w base A n c B m d fs hs) : SH w B m d hs := by
  obtain ⟨vs, h2, _, h3⟩ := h.ro
  refine ⟨h.hl, (own_cap' h2).1, (own_cap' h2).2, fun hn => ?_⟩
  obtain ⟨ad, h4, h5, h6⟩ := (Reads.of_own h2).2 hn
  refine ⟨ad, h4, h5, fun k hk => ?_⟩
  obtain ⟨Ak, nk, ck, xs, t, h7, h8, h9, _⟩ := h3 k hk
  obtain ⟨h10, h11⟩ := holdCells_at vs k _ t h7
  exact ⟨Ak, nk, ck, xs, t, h6 _ _ h10, h6 _ _ h11, h8, h9.sl⟩
theorem CrS.rd (h : CrS w base A n c B m d fs hs) : RdCr w A n c B m d fs hs := ⟨h.fr.sl, h.sh⟩
theorem CrS.st (h : CrS w base A n c B m d fs hs) (s : St w w') : CrS w' base A n c B m d fs hs := by
  refine ⟨h.fr.st s, h.hl, ?_⟩
  obtain ⟨vs, h2, hv, h3⟩ := h.ro
  refine ⟨vs, own_below h2 s, hv, fun k hk => ?_⟩
  obtain ⟨Ak, nk, ck, xs, t, h7, h8, h9, h10⟩ := h3 k hk
  exact ⟨Ak, nk, ck, xs, t, h7, h8, h9.st s, h10⟩
theorem CrS.less {base' : Nat} (h : CrS w base A n c B m d fs hs) (hb : base' ≤ base) : CrS w base' A n c B m d fs hs := by
  obtain ⟨vs, h2, hv, h3⟩ := h.ro
  refine ⟨h.fr.less hb, h.hl, vs, OI_less_row h2 hb, hv, fun k hk => ?_⟩
  obtain ⟨Ak, nk, ck, xs, t, h7, h8, h9, h10⟩ := h3 k hk
  exact ⟨Ak, nk, ck, xs, t, h7, h8, h9.less hb, h10⟩
theorem CrS.bA (h : CrS w base A n c B m d fs hs) {g : Nat} (hg : blockOf A = some g) : base ≤ g ∧ g < w.heap.size := h.fr.lt g hg
theorem CrS.bB (h : CrS w base A n c B m d fs hs) {g : Nat} (hg : blockOf B = some g) : base ≤ g ∧ g < w.heap.size := by
  obtain ⟨vs, h2, _⟩ := h.ro
  exact World.ownsRow.lt h2 g (by rw [ownBlock_slice]; exact hg)
/-- The rows lie apart from a struct's block. -/
theorem CrS.apart (h : CrS w base A n c B m d fs hs) {G : Nat} {T : TypeId} {cs : Array Value} (hb : Blk w G T cs) (h1 : 3 ≠ T) (h2 : 38 ≠ T) : blockOf A ≠ some G ∧ blockOf B ≠ some G := by
  obtain ⟨vs, r1, _⟩ := h.ro
  exact ⟨by rw [← ownBlock_slice A n c]; exact own_blk_ne h.fr hb h1, by rw [← ownBlock_slice B m d]; exact own_blk_ne r1 hb h2⟩
/-- Behind a write to a struct's block. -/
theorem CrS.blk (h : CrS w base A n c B m d fs hs) {G : Nat} {T : TypeId} {cs : Array Value} (hb : Blk w G T cs) (h1 : 3 ≠ T) (h2 : 38 ≠ T) (hg : w.grownBy w' (some G)) : CrS w' base A n c B m d fs hs := by
  obtain ⟨a1, a2⟩ := h.apart hb h1 h2
  obtain ⟨vs, r1, hv, r2⟩ := h.ro
  refine ⟨h.fr.grown hg (fun g hg => by injection hg with hg; subst hg; exact a1), h.hl, vs, World.ownsRow.kept r1 hg (.inr (by rw [ownBlock_slice]; exact fun e => a2 e)), hv, fun k hk => ?_⟩
  obtain ⟨Ak, nk, ck, xs, t, h7, h8, h9, h10⟩ := r2 k hk
  refine ⟨Ak, nk, ck, xs, t, h7, h8, h9.grown hg (fun g hg => ?_), h10⟩
  injection hg with hg
  subst hg
  rw [← ownBlock_slice Ak nk ck]
  exact own_blk_ne h9 hb h1
theorem CrS.nil (h : OI w base 3 A n c fs) : CrS w base A n c none 0 0 fs [] := ⟨h, rfl, [], World.ownsRow_nil _ _ _ _, rfl, fun k hk => by omega⟩
/-- A hold is appended. -/
theorem CrS.push (h : CrS w base A n c B m d fs hs) {vs : List (Value × Int)} {B' : Option Addr} {d' : Nat} {Ak : Option Addr} {nk ck : Nat} {xs : List Int} {t : Int} (hv : vs.length = m)
    (hvs : ∀ k, k < m → ∃ Ak nk ck xs t, vs[k]? = some (.slice Ak nk ck, t) ∧ hs[k]? = some (xs, t) ∧ OI w base 3 Ak nk ck xs ∧ ∀ g, blockOf Ak = some g → blockOf A ≠ some g)
    (hr : w.ownsRow base 38 2 (.slice B m d) m (holdCells vs)) (hr' : w'.ownsRow base 38 2 (.slice B' (m + 1) d') (m + 1) (holdCells vs ++ [.slice Ak nk ck, .int .i64 t])) (hg : w.grownBy w' (blockOf B))
    (hl : OI w base 3 Ak nk ck xs) (hne : ∀ g, blockOf Ak = some g → blockOf A ≠ some g) : CrS w' base A n c B' (m + 1) d' fs (hs ++ [(xs, t)]) := by
  have hk : ∀ {A' : Option Addr} {n' c' : Nat} {zs : List Int}, OI w base 3 A' n' c' zs → OI w' base 3 A' n' c' zs := fun h' => h'.grown hg fun g hg hA => OI_row_ne h' hr g hg hA
  refine ⟨hk h.fr, by rw [List.length_append, h.hl]; rfl, vs ++ [(.slice Ak nk ck, t)], by rw [holdCells_snoc]; exact hr', by rw [List.length_append, hv]; rfl, fun k hkm => ?_⟩
  by_cases e : k = m
  · subst e
    refine ⟨Ak, nk, ck, xs, t, ?_, ?_, hk hl, hne⟩
    · rw [List.getElem?_append_right (by omega), hv, Nat.sub_self]; rfl
    · rw [List.getElem?_append_right (by rw [h.hl]; omega), h.hl, Nat.sub_self]; rfl
  · obtain ⟨Aj, nj, cj, xj, tj, p1, p2, p3, p4⟩ := hvs k (by omega)
    refine ⟨Aj, nj, cj, xj, tj, ?_, ?_, hk p3, p4⟩
    · rw [List.getElem?_append_left (by omega)]; exact p1
    · rw [List.getElem?_append_left (by rw [h.hl]; omega)]; exact p2
/-- A number of free credits is written. -/
theorem CrS.free (h : CrS w base A n c B m d fs hs) {k : Nat} (hk : k < n) : ∃ g x, A = some ⟨g, 0, none⟩ ∧ base ≤ g ∧ g < w.heap.size ∧ Hid (fs[k]? = some x) ∧ w.cell? ⟨g, k, none⟩ = some (.int .i64 x) ∧ w.frozen? ⟨g, k, none⟩ = false ∧
    ∀ u, Hid (CrS (w.setCell ⟨g, k, none⟩ (.int .i64 u)) base A n c B m d (fs.set k u) hs) := by
  obtain ⟨g, x, rfl, h1, h2, h3, h4, h5, h6⟩ := h.fr.at_ hk
  refine ⟨g, x, rfl, h1, h2, h3, h4, h5, fun u => ?_⟩
  obtain ⟨h7, h8⟩ := h6 u
  obtain ⟨vs, r1, hv, r2⟩ := h.ro
  have hne := h.ne
  refine ⟨h7.out, h.hl, vs, World.ownsRow.kept r1 h8 (.inr fun e => ?_), hv, fun j hj => ?_⟩
  · rw [ownBlock_slice] at e
    exact hne g e rfl
  · obtain ⟨Ak, nk, ck, xs, t, q1, q2, q3, q4⟩ := r2 j hj
    exact ⟨Ak, nk, ck, xs, t, q1, q2, q3.grown h8 (fun k hk e => by injection hk with hk; subst hk; exact q4 g e rfl), q4⟩
/-- A hold is written: its list, its group. -/
theorem CrS.hold (h : CrS w base A n c B m d fs hs) {k : Nat} (hk : k < m) : ∃ b Ak nk ck xs t, B = some ⟨b, 0, none⟩ ∧ base ≤ b ∧ b < w.heap.size ∧ Hid (hs[k]? = some (xs, t)) ∧ w.cell? ⟨b, k * 2, none⟩ = some (.slice Ak nk ck) ∧ w.cell? ⟨b, k * 2 + 1, none⟩ = some (.int .i64 t) ∧ (∀ j, w.frozen? ⟨b, j, none⟩ = false) ∧ Hid (SL w Ak nk ck xs) ∧
    (∀ u, Hid (CrS (w.setCell ⟨b, k * 2 + 1, none⟩ (.int .i64 u)) base A n c B m d fs (hs.set k (xs, u)))) ∧
    ∀ A' n' c' ys, OI w base 3 A' n' c' ys → (∀ g, blockOf A' = some g → blockOf A ≠ some g) → Hid (CrS (w.setCell ⟨b, k * 2, none⟩ (.slice A' n' c')) base A n c B m d fs (hs.set k (ys, t))) := by
  obtain ⟨vs, r1, hv, r2⟩ := h.ro
  obtain ⟨b, cap, hvv, hb, hlt⟩ := World.ownsRow.form r1 (by omega)
  injection hvv with hv1 _ hv2
  subst hv1 hv2
  obtain ⟨Ak, nk, ck, xs, t, q1, q2, q3, q4⟩ := r2 k hk
  obtain ⟨h10, h11⟩ := holdCells_at vs k _ t q1
  have hvl : k < vs.length := (List.getElem?_eq_some_iff.1 q1).1
  have hhl : k < hs.length := (List.getElem?_eq_some_iff.1 q2).1
  have hne := h.ne
  refine ⟨b, Ak, nk, ck, xs, t, rfl, hb, hlt, q2, (World.ownsRow.cellAt r1 (k * 2) (by omega)).trans h10, (World.ownsRow.cellAt r1 (k * 2 + 1) (by omega)).trans h11, fun j => World.ownsRow.frozenAt r1 j, q3.sl, fun u => ?_, fun A' n' c' ys hy hA' => ?_⟩
  · obtain ⟨s1, s2⟩ := World.ownsRow.stored r1 (k * 2 + 1) (.int .i64 u)
    have e : (holdCells vs).set (k * 2 + 1) (.int .i64 u) = holdCells (vs.set k (.slice Ak nk ck, u)) := by
      rw [← holdCells_set2 (.slice Ak nk ck) u vs k]
      congr 1
      exact (set_id h10).symm
    rw [e] at s1
    have hkp : ∀ {A1 : Option Addr} {n1 c1 : Nat} {zs : List Int}, OI w base 3 A1 n1 c1 zs → OI (w.setCell ⟨b, k * 2 + 1, none⟩ (.int .i64 u)) base 3 A1 n1 c1 zs := fun h' => h'.grown s2 fun g hg hA => by injection hg with hg; subst hg; exact OI_row_ne h' r1 b rfl hA
    refine ⟨hkp h.fr, by rw [List.length_set]; exact h.hl, _, s1, by rw [List.length_set]; exact hv, fun j hj => ?_⟩
    by_cases hjk : j = k
    · subst hjk
      exact ⟨Ak, nk, ck, xs, u, by rw [List.getElem?_set_self hvl], by rw [List.getElem?_set_self hhl], hkp q3, q4⟩
    · obtain ⟨Aj, nj, cj, xj, tj, p1, p2, p3, p4⟩ := r2 j hj
      exact ⟨Aj, nj, cj, xj, tj, by rw [List.getElem?_set_ne (fun e => hjk e.symm)]; exact p1, by rw [List.getElem?_set_ne (fun e => hjk e.symm)]; exact p2, hkp p3, p4⟩
  · obtain ⟨s1, s2⟩ := World.ownsRow.stored r1 (k * 2) (.slice A' n' c')
    have e : (holdCells vs).set (k * 2) (.slice A' n' c') = holdCells (vs.set k (.slice A' n' c', t)) := by
      rw [← holdCells_set2 (.slice A' n' c') t vs k]
      refine (set_id ?_).symm
      rw [List.getElem?_set_ne (by omega)]
      exact h11
    rw [e] at s1
    have hkp : ∀ {A1 : Option Addr} {n1 c1 : Nat} {zs : List Int}, OI w base 3 A1 n1 c1 zs → OI (w.setCell ⟨b, k * 2, none⟩ (.slice A' n' c')) base 3 A1 n1 c1 zs := fun h' => h'.grown s2 fun g hg hA => by injection hg with hg; subst hg; exact OI_row_ne h' r1 b rfl hA
    refine ⟨hkp h.fr, by rw [List.length_set]; exact h.hl, _, s1, by rw [List.length_set]; exact hv, fun j hj => ?_⟩
    by_cases hjk : j = k
    · subst hjk
      exact ⟨A', n', c', ys, t, by rw [List.getElem?_set_self hvl], by rw [List.getElem?_set_self hhl], hkp hy, hA'⟩
    · obtain ⟨Aj, nj, cj, xj, tj, p1, p2, p3, p4⟩ := r2 j hj
      exact ⟨Aj, nj, cj, xj, tj, by rw [List.getElem?_set_ne (fun e => hjk e.symm)]; exact p1, by rw [List.getElem?_set_ne (fun e => hjk e.symm)]; exact p2, hkp p3, p4⟩
end
end Go.Proofs.Ytggjfbakekfdhaa
