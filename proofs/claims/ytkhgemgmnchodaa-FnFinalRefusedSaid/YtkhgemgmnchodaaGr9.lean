/- Groups of the call's own; the program: a group copied. -/
import Derived.Test.YtkhgemgmnchodaaGr8
import Derived.RegionTactic
import Derived.Deep.RegionHeld3
namespace Go.Proofs.Ytkhgemgmnchodaa
open Go.RowKit Go.Sort
/-- The four stores of a group. -/
abbrev setGr (W : World) (G : Nat) (I K : Int) (A : Option Addr) (n c : Nat) (B : Option Addr) (m d : Nat) : World :=
  (((W.setCell ⟨G, 0, none⟩ (.int .i64 I)).setCell ⟨G, 1, none⟩ (.int .i64 K)).setCell ⟨G, 2, none⟩ (.slice A n c)).setCell ⟨G, 3, none⟩ (.slice B m d)
section
variable {w w' W : World} {base base' G n c m d n0 c0 m0 d0 : Nat} {I K I0 K0 : Int} {A B A0 B0 : Option Addr} {ps ds : List Ent}
theorem OE.ne_blk {es : List Ent} {T : TypeId} {cs : Array Value} (h : OE w base A n c es) (hb : Blk w G T cs) (h1 : 34 ≠ T) : blockOf A ≠ some G := by
  rw [← ownBlock_slice A n c]; exact own_blk_ne h.2 hb h1
theorem OE.blk {es : List Ent} {T : TypeId} {cs : Array Value} (h : OE w base A n c es) (hb : Blk w G T cs) (h1 : 34 ≠ T) (hg : w.grownBy w' (some G)) : OE w' base A n c es :=
  h.grown hg fun k hk => by injection hk with hk; subst hk; exact h.ne_blk hb h1
theorem OwGr.blk {T : TypeId} {cs : Array Value} (h : OwGr w base I K A n c B m d ps ds) (hb : Blk w G T cs) (h1 : 34 ≠ T) (hg : w.grownBy w' (some G)) : OwGr w' base I K A n c B m d ps ds :=
  ⟨h.oi.blk hb h1 hg, h.oh.blk hb h1 hg, h.ne⟩
theorem OwGr.less (h : OwGr w base I K A n c B m d ps ds) (hb : base' ≤ base) : OwGr w base' I K A n c B m d ps ds := ⟨h.oi.less hb, h.oh.less hb, h.ne⟩
theorem OwGr.as_ (h : OwGr w base I K A n c B m d ps ds) (I' K' : Int) : OwGr w base I' K' A n c B m d ps ds := ⟨h.oi, h.oh, h.ne⟩
theorem OwGr.row {R : Nat} (h : OwGr w base I K A n c B m d ps ds) (hg : w.grownBy w' (some R)) (hR : R < base) : OwGr w' base I K A n c B m d ps ds :=
  ⟨h.oi.grown hg fun k hk hA => by have := (h.oi.lt k hA).1; injection hk with hk; omega, h.oh.grown hg fun k hk hA => by have := (h.oh.lt k hA).1; injection hk with hk; omega, h.ne⟩
/-- A group's block is written. -/
theorem gr_put (L : Blk W G 25 (grC I0 K0 A0 n0 c0 B0 m0 d0)) (C : OwGr W base I K A n c B m d ps ds) (S : St w W) (hG : w.heap.size ≤ G) :
    Hid (Blk (setGr W G I K A n c B m d) G 25 (grC I K A n c B m d)) ∧ Hid (OwGr (setGr W G I K A n c B m d) base I K A n c B m d ps ds) ∧ Hid (St w (setGr W G I K A n c B m d)) := by
  have L1 := L.set_ 0 (.int .i64 I)
  have L2 := L1.set_ 1 (.int .i64 K)
  have L3 := L2.set_ 2 (.slice A n c)
  have L4 := L3.set_ 3 (.slice B m d)
  refine ⟨L4, (((C.blk L (by decide) (World.grownBy_set _ _ _ _)).blk L1 (by decide) (World.grownBy_set _ _ _ _)).blk L2 (by decide) (World.grownBy_set _ _ _ _)).blk L3 (by decide) (World.grownBy_set _ _ _ _),
    (((S.setCell (p := ⟨G, 0, none⟩) hG _).setCell (p := ⟨G, 1, none⟩) hG _).setCell (p := ⟨G, 2, none⟩) hG _).setCell (p := ⟨G, 3, none⟩) hG _⟩
theorem Blk.putGr {g : Nat} {T : TypeId} {cs : Array Value} (h : Blk W g T cs) (hg : g ≠ G) : Blk (setGr W G I K A n c B m d) g T cs :=
  (((h.far (p := ⟨G, 0, none⟩) hg _).far (p := ⟨G, 1, none⟩) hg _).far (p := ⟨G, 2, none⟩) hg _).far (p := ⟨G, 3, none⟩) hg _
end
set_option maxRecDepth 100000 in
set_option maxHeartbeats 2000000 in
theorem copyGroup_any (I K : Int) (A B : Option Addr) (n c m d : Nat) (ps ds : List Ent) (w : World) (h : SE w A n c ps) (h' : SE w B m d ds) (hn : n ≤ 1048576) (hm : m ≤ 1048576) :
    Calls Try.prog 39 #[grV I K A n c B m d] w fun e w' => ∃ A1 c1 B1 d1, e = .returned (grV I K A1 n c1 B1 m d1) ∧ OwGr w' w.heap.size I K A1 n c1 B1 m d1 ps ds ∧ St w w' := by
  have HL := hid h.len
  have HL' := hid h'.len
  have s0 := ((St.refl w).alloc (.cells (grC I K A n c B m d) 25)).alloc (.cells (grC 0 0 none 0 0 none 0 0) 25)
  have K0 := hid ((Blk.new w 25 (grC I K A n c B m d)).alloc (.cells (grC 0 0 none 0 0 none 0 0) 25))
  have K1 := hid (blk_second w (.cells (grC I K A n c B m d) 25) 25 (grC 0 0 none 0 0 none 0 0))
  have S0 := hid s0
  have I0 := hid (h.st s0)
  have J0 := hid (h'.st s0)
  have HZ := hid (alloc2_size w (.cells (grC I K A n c B m d) 25) (.cells (grC 0 0 none 0 0 none 0 0) 25))
  clear s0
  go_enter Try.func39, Try.ntmps39
  go_wp2_with fail
  generalize (w.alloc (.cells _ 25)).alloc (.cells _ 25) = w0 at K0 K1 S0 I0 J0 HZ ⊢
  have K0 := hid (K0.out.dr (w' := w0.drew) ⟨1, rfl⟩)
  have K1 := hid (K1.out.dr (w' := w0.drew) ⟨1, rfl⟩)
  have S0 := hid S0.out.drew
  have I0 := hid (I0.out.dr (w' := w0.drew) ⟨1, rfl⟩)
  have J0 := hid (J0.out.dr (w' := w0.drew) ⟨1, rfl⟩)
  have HZ := hid (show w0.drew.heap.size = w.heap.size + 1 + 1 from HZ.out)
  have u0 := K0.out.cell_ (i := 0) (v := .int .i64 I) rfl
  have u1 := K0.out.cell_ (i := 1) (v := .int .i64 K) rfl
  have u2 := K0.out.cell_ (i := 2) (v := .slice A n c) rfl
  have u3 := K0.out.cell_ (i := 3) (v := .slice B m d) rfl
  go_region_held3 (fun w' => w'.cell? ⟨w.heap.size, 0, none⟩ = some (.int .i64 I) ∧ w'.cell? ⟨w.heap.size, 1, none⟩ = some (.int .i64 K) ∧ w'.cell? ⟨w.heap.size, 2, none⟩ = some (.slice A n c) ∧ w'.cell? ⟨w.heap.size, 3, none⟩ = some (.slice B m d)) (first | with_reducible exact ⟨u0, u1, u2, u3⟩ | with_reducible exact ⟨v0, v1, v2, v3⟩ | with_reducible exact ⟨t0, t1, t2, t3⟩ | exact ⟨f0, f1, f2, f3⟩)
    (first
      | (go_at_call 43; (with_reducible refine (cloneEntry_any A n c ps _ I0.out hn).mono ?_); rintro e w5 ⟨A5, c5, rfl, o5, s5⟩; have K5 := hid (K0.out.st s5); have L5 := hid (K1.out.st s5); have J5 := hid (J0.out.st s5); have S5 := hid (S0.out.trans s5); have v0 := K5.out.cell_ (i := 0) (v := .int .i64 I) rfl; have v1 := K5.out.cell_ (i := 1) (v := .int .i64 K) rfl; have v2 := K5.out.cell_ (i := 2) (v := .slice A n c) rfl; have v3 := K5.out.cell_ (i := 3) (v := .slice B m d) rfl)
      | (go_at_call 43; (with_reducible refine (cloneEntry_any B m d ds _ J5.out hm).mono ?_); rintro e w6 ⟨B6, d6, rfl, p6, s6⟩; have K6 := hid (K5.out.st s6); have L6 := hid (L5.out.st s6); have S6 := hid (S5.out.trans s6); have C6 := hid (show OwGr w6 w0.drew.heap.size I K A5 ps.length c5 B6 ds.length d6 ps ds from ⟨o5.st s6, p6.less s5.le, fun g hg hA => by have h7 := (p6.lt g hg).1; have h8 := (o5.lt g hA).2; omega⟩); have t0 := K6.out.cell_ (i := 0) (v := .int .i64 I) rfl; have t1 := K6.out.cell_ (i := 1) (v := .int .i64 K) rfl; have t2 := K6.out.cell_ (i := 2) (v := .slice A n c) rfl; have t3 := K6.out.cell_ (i := 3) (v := .slice B m d) rfl; have y0 := L6.out.cell_ (i := 0) (v := .int .i64 0) rfl; have y1 := L6.out.cell_ (i := 1) (v := .int .i64 0) rfl; have y2 := L6.out.cell_ (i := 2) (v := .slice none 0 0) rfl; have y3 := L6.out.cell_ (i := 3) (v := .slice none 0 0) rfl; have x0 := L6.out.frozen 0; have x1 := L6.out.frozen 1; have x2 := L6.out.frozen 2; have x3 := L6.out.frozen 3; obtain ⟨H6, C7, S7⟩ := gr_put (I := I) (K := K) L6.out C6.out S6.out (Nat.le_succ _); have F6 := hid (K6.out.putGr (G := w.heap.size + 1) (I := I) (K := K) (A := A5) (n := ps.length) (c := c5) (B := B6) (m := ds.length) (d := d6) (by omega)); have f0 := F6.out.cell_ (i := 0) (v := .int .i64 I) rfl; have f1 := F6.out.cell_ (i := 1) (v := .int .i64 K) rfl; have f2 := F6.out.cell_ (i := 2) (v := .slice A n c) rfl; have f3 := F6.out.cell_ (i := 3) (v := .slice B m d) rfl))
  have e0 := H6.out.cell_ (i := 0) (v := .int .i64 I) rfl
  have e1 := H6.out.cell_ (i := 1) (v := .int .i64 K) rfl
  have e2 := H6.out.cell_ (i := 2) (v := .slice A5 ps.length c5) rfl
  have e3 := H6.out.cell_ (i := 3) (v := .slice B6 ds.length d6) rfl
  go_wp2_with fail
  refine bodyPost_ret (v := grV I K A5 ps.length c5 B6 ds.length d6) (by simp [results, Try.results39, go_sem, e0, e1, e2, e3]) rfl ?_
  have h1 := HL.out
  have h2 := HL'.out
  refine ⟨A5, c5, B6, d6, by rw [h1, h2], ?_, S7.out⟩
  have := C7.out.less (base' := w.heap.size) (by have := HZ.out; omega)
  rw [h1, h2] at this
  rw [h1, h2]
  exact this
end Go.Proofs.Ytkhgemgmnchodaa
