/- The drawing of groups. -/
import Derived.Test.YtkhgemgmnchodaaDrawGr2
namespace Go.Proofs.Ytkhgemgmnchodaa
open Go.RowKit Go.Sort
set_option maxHeartbeats 1000000 in
theorem specGroupNew_own (id : Int) (w : World) (h : 0 ≤ id ∧ id ≤ 4) :
    Calls Try.prog 63 #[.int .i64 id] w fun e w' => ∃ A c B d, e = .returned (.tuple #[grV id 0 A 0 c B 0 d, .bool true]) ∧ OwGr w' w.heap.size id 0 A 0 c B 0 d [] [] ∧ St w w' := by
  have hi : inB id 0 4 = true := inB_iff.2 h
  have Z := hid (Blk.new w 25 (grC 0 0 none 0 0 none 0 0))
  have S := hid ((St.refl w).alloc (.cells (grC 0 0 none 0 0 none 0 0) 25))
  go_enter Try.func63, Try.ntmps63
  go_wp2_with fail
  generalize w.alloc (.cells _ 25) = w0 at *
  refine (l1Group_any _ _).mono ?_
  rintro e w1 ⟨rfl, rfl⟩
  rw [hi]
  have hz : w.heap.size < w0.heap.size := Z.out.lt
  have L2 := hid ((Z.out.alloc (.cells #[] 34)).alloc (.cells #[] 34))
  have l0 := Z.out.cell_ (i := 0) (v := .int .i64 0) rfl
  have l1 := Z.out.cell_ (i := 1) (v := .int .i64 0) rfl
  have l2 := Z.out.cell_ (i := 2) (v := .slice none 0 0) rfl
  have l3 := Z.out.cell_ (i := 3) (v := .slice none 0 0) rfl
  have lf0 := L2.out.frozen 0
  have lf1 := L2.out.frozen 1
  have lf2 := L2.out.frozen 2
  have lf3 := L2.out.frozen 3
  have lg0 := Z.out.frozen 0
  have lg1 := Z.out.frozen 1
  have lg2 := Z.out.frozen 2
  have lg3 := Z.out.frozen 3
  have HE : Hid (∀ W : World, W.heap.size = w0.heap.size → Blk W w.heap.size 25 (grC id 0 (some ⟨w0.heap.size, 0, none⟩) 0 0 (some ⟨w0.heap.size + 1, 0, none⟩) 0 0) → St w W →
      Hid (Blk ((W.alloc (.cells #[] 34)).alloc (.cells #[] 34)) w.heap.size 25 (grC id 0 (some ⟨w0.heap.size, 0, none⟩) 0 0 (some ⟨w0.heap.size + 1, 0, none⟩) 0 0)) ∧ St w ((W.alloc (.cells #[] 34)).alloc (.cells #[] 34)) ∧
      OwGr ((W.alloc (.cells #[] 34)).alloc (.cells #[] 34)) w.heap.size id 0 (some ⟨w0.heap.size, 0, none⟩) 0 0 (some ⟨w0.heap.size + 1, 0, none⟩) 0 0 [] []) := by
    intro W hW hB hS
    have P1 := (row_lit W 34 4)
    have P2 := (row_lit (W.alloc (.cells #[] 34)) 34 4)
    have s3 := (St.refl (W.alloc (.cells #[] 34))).alloc (.cells #[] 34)
    rw [World.heap_alloc_size'] at P2
    rw [hW] at P1 P2
    exact ⟨(hB.alloc _).alloc _, (hS.alloc _).alloc _, ((show OE _ _ _ _ _ [] from ⟨rfl, P1⟩).st s3).less (by omega), (show OE _ _ _ _ _ [] from ⟨rfl, P2⟩).less (by omega), fun g h1 h2 => by injection h1 with h1; injection h2 with h2; simp at h1 h2; omega⟩
  go_wp2_with fail
  clear lf0 lf1 lf2 lf3 lg0 lg1 lg2 lg3 l0 l1 l2 l3 L2
  obtain ⟨f1, f2, f3⟩ := HE.out (setGr w0 w.heap.size id 0 (some ⟨w0.heap.size, 0, none⟩) 0 0 (some ⟨w0.heap.size + 1, 0, none⟩) 0 0) (by simp [World.setCell])
    ((((Z.out.set_ 0 (.int .i64 id)).set_ 1 (.int .i64 0)).set_ 2 (.slice (some ⟨w0.heap.size, 0, none⟩) 0 0)).set_ 3 (.slice (some ⟨w0.heap.size + 1, 0, none⟩) 0 0))
    ((((S.out.setCell (p := ⟨w.heap.size, 0, none⟩) (Nat.le_refl _) _).setCell (p := ⟨w.heap.size, 1, none⟩) (Nat.le_refl _) _).setCell (p := ⟨w.heap.size, 2, none⟩) (Nat.le_refl _) _).setCell (p := ⟨w.heap.size, 3, none⟩) (Nat.le_refl _) _)
  have z0 := f1.out.cell_ (i := 0) (v := .int .i64 id) rfl
  have z1 := f1.out.cell_ (i := 1) (v := .int .i64 0) rfl
  have z2 := f1.out.cell_ (i := 2) (v := .slice (some ⟨w0.heap.size, 0, none⟩) 0 0) rfl
  have z3 := f1.out.cell_ (i := 3) (v := .slice (some ⟨w0.heap.size + 1, 0, none⟩) 0 0) rfl
  refine bodyPost_ret (v := .tuple #[grV id 0 (some ⟨w0.heap.size, 0, none⟩) 0 0 (some ⟨w0.heap.size + 1, 0, none⟩) 0 0, .bool true]) (by simp only [results, Try.results63]; simp [go_sem, z0, z1, z2, z3]) rfl ?_
  exact ⟨_, _, _, _, rfl, f3, f2⟩
/-- A new block beside the variable. -/
structure NB (W : World) (R G X : Nat) (cs : Array Value) : Prop where
  b : Blk W X 25 cs
  r : R < X
  g : G < X
section
variable {w W W1 : World} {R L L' G X n c m d n' c' m' d' k : Nat} {I K I' K' I0 K0 : Int} {A B A' B' A0 B0 : Option Addr} {ps ds ps' ds' es : List Ent} {cs : Array Value} {n0 c0 m0 d0 base : Nat}
theorem NB.pick (h : NB W R G X cs) (hg : W.grownBy W1 (some R)) : NB W1 R G X cs := ⟨h.b.grown hg (fun e => by have := h.r; injection e with e; omega), h.r, h.g⟩
theorem NB.st (h : NB W R G X cs) (s : St W W1) : NB W1 R G X cs := ⟨h.b.st s, h.r, h.g⟩
theorem NB.new (h : DG w W R L G I K A n c B m d ps ds) (cs : Array Value) : NB (W.alloc (.cells cs 25)) R G W.heap.size cs :=
  ⟨Blk.new W _ _, h.r.lt, h.g.lt⟩
theorem DG.cells (h : DG w W R L G I K A n c B m d ps ds) : W.cell? ⟨G, 0, none⟩ = some (.int .i64 I) ∧ W.cell? ⟨G, 1, none⟩ = some (.int .i64 K) ∧ W.cell? ⟨G, 2, none⟩ = some (.slice A n c) ∧ W.cell? ⟨G, 3, none⟩ = some (.slice B m d) :=
  ⟨h.g.cell_ (i := 0) (v := .int .i64 I) rfl, h.g.cell_ (i := 1) (v := .int .i64 K) rfl, h.g.cell_ (i := 2) (v := .slice A n c) rfl, h.g.cell_ (i := 3) (v := .slice B m d) rfl⟩
/-- A new block is written over. -/
theorem NB.over (x : NB W R G X (grC I0 K0 A0 n0 c0 B0 m0 d0)) (h : DG w W R L G I K A n c B m d ps ds) (hc : OwGr W w.heap.size I' K' A' n' c' B' m' d' ps' ds') :
    Hid (Blk (setGr W X I' K' A' n' c' B' m' d') X 25 (grC I' K' A' n' c' B' m' d')) ∧ Hid (DG w (setGr W X I' K' A' n' c' B' m' d') R L G I K A n c B m d ps ds) ∧ Hid (OwGr (setGr W X I' K' A' n' c' B' m' d') w.heap.size I' K' A' n' c' B' m' d' ps' ds') := by
  have h1 := h.lt
  have h2 := h.gz
  have h3 := x.g
  have L0 := x.b
  have L1 := L0.set_ 0 (.int .i64 I')
  have L2 := L1.set_ 1 (.int .i64 K')
  have L3 := L2.set_ 2 (.slice A' n' c')
  have L4 := L3.set_ 3 (.slice B' m' d')
  have f1 : OwGr (setGr W X I' K' A' n' c' B' m' d') w.heap.size I K A n c B m d ps ds := (((h.c.blk L0 (by decide) (World.grownBy_set _ _ _ _)).blk L1 (by decide) (World.grownBy_set _ _ _ _)).blk L2 (by decide) (World.grownBy_set _ _ _ _)).blk L3 (by decide) (World.grownBy_set _ _ _ _)
  have f2 : OwGr (setGr W X I' K' A' n' c' B' m' d') w.heap.size I' K' A' n' c' B' m' d' ps' ds' := (((hc.blk L0 (by decide) (World.grownBy_set _ _ _ _)).blk L1 (by decide) (World.grownBy_set _ _ _ _)).blk L2 (by decide) (World.grownBy_set _ _ _ _)).blk L3 (by decide) (World.grownBy_set _ _ _ _)
  have hg := set_gr W X I' K' A' n' c' B' m' d'
  exact ⟨L4, ⟨h.z.putGr (by omega), h.g.putGr (by omega), f1, h.r.gr_ hg (by omega), grown_new h.gr hg (fun k hk => by injection hk with hk; omega), h1, h2⟩, f2⟩
/-- The end: the variable is returned. -/
theorem DG.fin {M : Nat} (h : DG w W R L G I K A n c B m d ps ds) (hL : L ≤ M) (hn : n ≤ 12) (hm : m ≤ 12) (hK : -1 ≤ K ∧ K ≤ 1000) :
    Hid (Blk (setGr W w.heap.size I K A n c B m d) w.heap.size 25 (grC I K A n c B m d)) ∧ Hid (DrawnGr w R M (.returned (grV I K A n c B m d)) (setGr W w.heap.size I K A n c B m d)) := by
  have h1 := h.lt
  have h2 := h.gz
  have L0 := h.z
  have L1 := L0.set_ 0 (.int .i64 I)
  have L2 := L1.set_ 1 (.int .i64 K)
  have L3 := L2.set_ 2 (.slice A n c)
  have L4 := L3.set_ 3 (.slice B m d)
  have f1 : OwGr (setGr W w.heap.size I K A n c B m d) w.heap.size I K A n c B m d ps ds := (((h.c.blk L0 (by decide) (World.grownBy_set _ _ _ _)).blk L1 (by decide) (World.grownBy_set _ _ _ _)).blk L2 (by decide) (World.grownBy_set _ _ _ _)).blk L3 (by decide) (World.grownBy_set _ _ _ _)
  have hg := set_gr W w.heap.size I K A n c B m d
  exact ⟨L4, _, _, _, _, _, _, _, _, _, _, rfl, f1, hn, hm, hK, (h.r.gr_ hg (by omega)).le hL, grown_new h.gr hg (fun k hk => by injection hk with hk; omega)⟩
theorem set_id {α : Type} {l : List α} {i : Nat} {a : α} (h : l[i]? = some a) : l.set i a = l := by
  apply List.ext_getElem?
  intro j
  by_cases e : i = j
  · subst e
    rw [List.getElem?_set_self (List.getElem?_eq_some_iff.1 h).1, h]
  · rw [List.getElem?_set_ne e]
/-- One field of an entry is written. -/
theorem OE.at1 (h : OE W base A n c es) (hk : k < n) : ∃ b m t g f, A = some ⟨b, 0, none⟩ ∧ base ≤ b ∧ b < W.heap.size ∧ W.cell? ⟨b, k * 4, none⟩ = some (.int .i64 m) ∧ W.cell? ⟨b, k * 4 + 1, none⟩ = some (.int .i64 t) ∧ W.cell? ⟨b, k * 4 + 1 + 1, none⟩ = some (.int .i64 g) ∧ W.cell? ⟨b, k * 4 + 2 + 1, none⟩ = some (.bool f) ∧ (∀ j, W.frozen? ⟨b, j, none⟩ = false) ∧
    (∀ m', Hid (OE (W.setCell ⟨b, k * 4, none⟩ (.int .i64 m')) base A n c (es.set k (m', (t, g), f)))) ∧
    (∀ t' g', Hid (OE ((W.setCell ⟨b, k * 4 + 1, none⟩ (.int .i64 t')).setCell ⟨b, k * 4 + 1 + 1, none⟩ (.int .i64 g')) base A n c (es.set k (m, (t', g'), f)))) ∧
    (∀ f', Hid (OE (W.setCell ⟨b, k * 4 + 2 + 1, none⟩ (.bool f')) base A n c (es.set k (m, (t, g), f')))) := by
  obtain ⟨h1, h2⟩ := h
  obtain ⟨b, cap, hv, hb, hlt⟩ := World.ownsRow.form h2 (by omega)
  injection hv with hv1 _ hv2
  subst hv1 hv2
  have hkl : k < es.length := by omega
  obtain ⟨⟨m, ⟨t, g⟩, f⟩, he⟩ : ∃ e, es[k]? = some e := ⟨es[k], List.getElem?_eq_getElem hkl⟩
  obtain ⟨e0, e1, e2, e3⟩ := entCells_at es k _ he
  simp only at e0 e1 e2 e3
  refine ⟨b, m, t, g, f, rfl, hb, hlt, (World.ownsRow.cellAt h2 (k * 4) (by omega)).trans e0, (World.ownsRow.cellAt h2 (k * 4 + 1) (by omega)).trans e1, (World.ownsRow.cellAt h2 (k * 4 + 2) (by omega)).trans e2, (World.ownsRow.cellAt h2 (k * 4 + 3) (by omega)).trans e3, fun j => World.ownsRow.frozenAt h2 j, fun m' => ?_, fun t' g' => ?_, fun f' => ?_⟩
  · obtain ⟨s1, _⟩ := World.ownsRow.stored h2 (k * 4) (.int .i64 m')
    have e : (entCells es).set (k * 4) (.int .i64 m') = entCells (es.set k (m', (t, g), f)) := by
      rw [← entCells_set, set_id (i := k * 4 + 1) (by rw [List.getElem?_set_ne (by omega)]; exact e1), set_id (i := k * 4 + 2) (by rw [List.getElem?_set_ne (by omega)]; exact e2), set_id (i := k * 4 + 3) (by rw [List.getElem?_set_ne (by omega)]; exact e3)]
    rw [e] at s1
    exact ⟨by rw [List.length_set]; exact h1, s1⟩
  · obtain ⟨s1, _⟩ := World.ownsRow.stored h2 (k * 4 + 1) (.int .i64 t')
    obtain ⟨s2, _⟩ := World.ownsRow.stored s1 (k * 4 + 2) (.int .i64 g')
    have e : ((entCells es).set (k * 4 + 1) (.int .i64 t')).set (k * 4 + 2) (.int .i64 g') = entCells (es.set k (m, (t', g'), f)) := by
      rw [← entCells_set, set_id (i := k * 4) e0, set_id (i := k * 4 + 3) (by rw [List.getElem?_set_ne (by omega), List.getElem?_set_ne (by omega)]; exact e3)]
    rw [e] at s2
    exact ⟨by rw [List.length_set]; exact h1, s2⟩
  · obtain ⟨s1, _⟩ := World.ownsRow.stored h2 (k * 4 + 3) (.bool f')
    have e : (entCells es).set (k * 4 + 3) (.bool f') = entCells (es.set k (m, (t, g), f')) := by
      rw [← entCells_set, set_id (i := k * 4) e0, set_id (i := k * 4 + 1) e1, set_id (i := k * 4 + 2) e2]
    rw [e] at s1
    exact ⟨by rw [List.length_set]; exact h1, s1⟩
/-- The own rows are written, or a field of the variable. -/
theorem DG.rowA {b : Nat} (h : DG w W R L G I K A n c B m d ps ds) (hg : W.grownBy W1 (some b)) (hA : blockOf A = some b) (o : OE W1 w.heap.size A n c ps') : DG w W1 R L G I K A n c B m d ps' ds := by
  have h1 := h.lt
  have hb := (h.c.oi.lt b hA).1
  exact ⟨h.z.grown hg (by intro e; injection e with e; exact h.c.oi.ne_blk h.z (by decide) (by rw [hA, e])), h.g.grown hg (by intro e; injection e with e; exact h.c.oi.ne_blk h.g (by decide) (by rw [hA, e])),
    ⟨o, h.c.oh.grown hg (fun k hk hB => by injection hk with hk; subst hk; exact h.c.ne _ hB hA), h.c.ne⟩, h.r.gr_ hg (by omega), grown_new h.gr hg (fun k hk => by injection hk with hk; omega), h1, h.gz⟩
theorem DG.rowB {b : Nat} (h : DG w W R L G I K A n c B m d ps ds) (hg : W.grownBy W1 (some b)) (hB : blockOf B = some b) (o : OE W1 w.heap.size B m d ds') : DG w W1 R L G I K A n c B m d ps ds' := by
  have h1 := h.lt
  have hb := (h.c.oh.lt b hB).1
  exact ⟨h.z.grown hg (by intro e; injection e with e; exact h.c.oh.ne_blk h.z (by decide) (by rw [hB, e])), h.g.grown hg (by intro e; injection e with e; exact h.c.oh.ne_blk h.g (by decide) (by rw [hB, e])),
    ⟨h.c.oi.grown hg (fun k hk hA => by injection hk with hk; subst hk; exact h.c.ne _ hB hA), o, h.c.ne⟩, h.r.gr_ hg (by omega), grown_new h.gr hg (fun k hk => by injection hk with hk; omega), h1, h.gz⟩
theorem DG.clk (h : DG w W R L G I K A n c B m d ps ds) (v : Int) : DG w (W.setCell ⟨G, 1, none⟩ (.int .i64 v)) R L G I v A n c B m d ps ds := by
  have h1 := h.lt
  have h2 := h.gz
  have hg := World.grownBy_set W G 1 (.int .i64 v)
  exact ⟨h.z.grown hg (by intro e; injection e with e; omega), h.g.set_ 1 (.int .i64 v), (h.c.blk h.g (by decide) hg).as_ I v, h.r.gr_ hg (by omega), grown_new h.gr hg (fun k hk => by injection hk with hk; omega), h1, h2⟩
theorem DG.idn (h : DG w W R L G I K A n c B m d ps ds) (v : Int) : DG w (W.setCell ⟨G, 0, none⟩ (.int .i64 v)) R L G v K A n c B m d ps ds := by
  have h1 := h.lt
  have h2 := h.gz
  have hg := World.grownBy_set W G 0 (.int .i64 v)
  exact ⟨h.z.grown hg (by intro e; injection e with e; omega), h.g.set_ 0 (.int .i64 v), (h.c.blk h.g (by decide) hg).as_ v K, h.r.gr_ hg (by omega), grown_new h.gr hg (fun k hk => by injection hk with hk; omega), h1, h2⟩
end
end Go.Proofs.Ytkhgemgmnchodaa
