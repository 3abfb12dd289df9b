/- The reference: a group copied. -/
import Derived.Test.YtkhgemgmnchodaaGr7
import Derived.Test.YtkhgemgmnchodaaKindGr
namespace Go.Proofs.Ytkhgemgmnchodaa
open Go.RowKit Go.Sort
/-- A group by value that a function returns: new. -/
def MadeG (w : World) (I K : Int) (ps ds : List Ent) (e : Ending) (w' : World) : Prop := ∃ A c B d, e = .returned (grV I K A ps.length c B ds.length d) ∧ OwGr w' w.heap.size I K A ps.length c B ds.length d ps ds ∧ St w w'
abbrev eZ : Value := .agg #[.int .i64 0, .int .i64 0, .int .i64 0, .bool false]
set_option maxRecDepth 100000 in
set_option maxHeartbeats 2000000 in
theorem l11Copy_any (I K : Int) (A B : Option Addr) (n c m d : Nat) (ps ds : List Ent) (w : World) (h : SE w A n c ps) (h' : SE w B m d ds) (hn : n ≤ 1048576) (hm : m ≤ 1048576) :
    Calls Try.prog 67 #[grV I K A n c B m d] w fun e w' => ∃ A1 c1 B1 d1, e = .returned (grV I K A1 n c1 B1 m d1) ∧ OwGr w' w.heap.size I K A1 n c1 B1 m d1 ps ds ∧ St w w' := by
  have HL := hid h.len
  have HL' := hid h'.len
  have S0 := hid (((St.refl w).alloc (.cells (grC I K A n c B m d) 25)).alloc (.cells (grC 0 0 none 0 0 none 0 0) 25))
  have K0 := hid ((Blk.new w 25 (grC I K A n c B m d)).alloc (.cells (grC 0 0 none 0 0 none 0 0) 25))
  have K1 := hid (blk_second w (.cells (grC I K A n c B m d) 25) 25 (grC 0 0 none 0 0 none 0 0))
  have hz := alloc2_size w (.cells (grC I K A n c B m d) 25) (.cells (grC 0 0 none 0 0 none 0 0) 25)
  obtain ⟨W0, hW0⟩ : ∃ W0, W0 = (w.alloc (.cells (grC I K A n c B m d) 25)).alloc (.cells (grC 0 0 none 0 0 none 0 0) 25) := ⟨_, rfl⟩
  rw [← hW0] at S0 K0 K1 hz
  have HZ := hid hz
  have K2 := hid (K0.out.alloc (.cells #[] 34))
  have L2 := hid (K1.out.alloc (.cells #[] 34))
  have S2 := hid (S0.out.alloc (.cells #[] 34))
  have P2 := hid (row_lit W0 34 4)
  have R2 := hid ((h.st S2.out).reads)
  have q2 := K2.out.cell_ (i := 2) (v := .slice A n c) rfl
  have HW := hid hW0
  clear hz hW0 S0 K0 K1
  go_enter Try.func67, Try.ntmps67
  go_wp2_with (first
    | (at_builtin; rw [← HW.out]; refine wpList_append_rows _ rfl _ _ 23 rfl W0.heap.size 34 4 32 eZ Try.underlying23 entInfo rfl (by omega) (some ⟨W0.heap.size, 0, none⟩) 0 0 [] (by rw [HZ.out]; rfl) P2.out _ A n c (entCells ps) rfl R2.out (entCells_one _) (by omega) (by omega) (by simp) ?_; intro X a w3 ho3 hg3; simp only [Nat.zero_add, List.nil_append] at ho3; have g3 : ∀ k, blockOf (some ⟨W0.heap.size, 0, none⟩) = some k → W0.heap.size ≤ k := (fun k hk => by injection hk with hk; subst hk; exact Nat.le_refl _); have O3 := hid (show OE w3 W0.heap.size X n a ps from ⟨HL.out, ho3⟩); have K3 := hid (K2.out.grown hg3 (fun e => by have := g3 _ e.symm; have := HZ.out; omega)); have L3 := hid (L2.out.grown hg3 (fun e => by have := g3 _ e.symm; have := HZ.out; omega)); have S3 := hid (S2.out.grown hg3 (fun k hk => by have := g3 _ hk; have := HZ.out; omega)); have Z3 := hid (show W0.heap.size < w3.heap.size by have := hg3.size; simp at this; omega); have c2 := K3.out.cell_ (i := 2) (v := .slice A n c) rfl; have f2 := K3.out.frozen 2; have D3 := hid ((K3.out.set_ 2 (.slice X n a)).alloc (.cells #[] 34)); have M3 := hid ((L3.out.far (p := ⟨w.heap.size, 2, none⟩) (by simp) (.slice X n a)).alloc (.cells #[] 34)); have T3 := hid ((S3.out.setCell (p := ⟨w.heap.size, 2, none⟩) (Nat.le_refl _) (.slice X n a)).alloc (.cells #[] 34)); have XL := hid (show ∀ g, blockOf X = some g → W0.heap.size ≤ g ∧ g < w3.heap.size from O3.out.lt); have U3 := hid ((O3.out.grown (World.grownBy_set w3 w.heap.size 2 (.slice X n a)) (fun k hk hA => by injection hk with hk; have := (XL.out k hA).1; have := HZ.out; omega)).st ((St.refl _).alloc (.cells #[] 34))); have E4 := hid (show (w3.setCell ⟨w.heap.size, 2, none⟩ (.slice X n a)).heap.size = w3.heap.size by simp [World.setCell]); have R4 := hid ((h'.st T3.out).reads); have P4 := hid (row_lit (w3.setCell ⟨w.heap.size, 2, none⟩ (.slice X n a)) 34 4); rw [E4.out] at P4; have d3 := D3.out.cell_ (i := 3) (v := .slice B m d) rfl; clear ho3 hg3 g3 K3 L3 S3 O3)
    | (at_builtin; refine wpList_append_rows _ rfl _ _ 23 rfl w3.heap.size 34 4 32 eZ Try.underlying23 entInfo rfl (by omega) (some ⟨w3.heap.size, 0, none⟩) 0 0 [] rfl P4.out _ B m d (entCells ds) rfl R4.out (entCells_one _) (by omega) (by omega) (by simp [World.setCell]) ?_; intro Y b w5 ho5 hg5; simp only [Nat.zero_add, List.nil_append] at ho5; have g5 : ∀ k, blockOf (some ⟨w3.heap.size, 0, none⟩) = some k → k = w3.heap.size := (fun k hk => by injection hk with hk; exact hk.symm); have K5 := hid (D3.out.grown hg5 (fun e => by have := g5 _ e.symm; have := HZ.out; have := Z3.out; omega)); have L5 := hid (M3.out.grown hg5 (fun e => by have := g5 _ e.symm; have := HZ.out; have := Z3.out; omega)); have S5 := hid (T3.out.grown hg5 (fun k hk => by have := g5 _ hk; have := HZ.out; have := Z3.out; omega)); have O5 := hid (OE.grown U3.out hg5 (fun k hk hA => by have := g5 _ hk; have := (XL.out k hA).2; omega)); have V5 := hid (show OE w5 w3.heap.size Y m b ds from ⟨HL'.out, ho5⟩); have c3 := K5.out.cell_ (i := 3) (v := .slice B m d) rfl; have f3 := K5.out.frozen 3; have F5 := hid (K5.out.set_ 3 (.slice Y m b)); have e0 := F5.out.cell_ (i := 0) (v := .int .i64 I) rfl; have e1 := F5.out.cell_ (i := 1) (v := .int .i64 K) rfl; have e2 := F5.out.cell_ (i := 2) (v := .slice X n a) rfl; have e3 := F5.out.cell_ (i := 3) (v := .slice Y m b) rfl; have G5 := hid (L5.out.far (p := ⟨w.heap.size, 3, none⟩) (by simp) (.slice Y m b)); have y0 := G5.out.cell_ (i := 0) (v := .int .i64 0) rfl; have y1 := G5.out.cell_ (i := 1) (v := .int .i64 0) rfl; have y2 := G5.out.cell_ (i := 2) (v := .slice none 0 0) rfl; have y3 := G5.out.cell_ (i := 3) (v := .slice none 0 0) rfl; have x0 := G5.out.frozen 0; have x1 := G5.out.frozen 1; have x2 := G5.out.frozen 2; have x3 := G5.out.frozen 3; have H5 := hid ((((G5.out.set_ 0 (.int .i64 I)).set_ 1 (.int .i64 K)).set_ 2 (.slice X n a)).set_ 3 (.slice Y m b)); have r0 := H5.out.cell_ (i := 0) (v := .int .i64 I) rfl; have r1 := H5.out.cell_ (i := 1) (v := .int .i64 K) rfl; have r2 := H5.out.cell_ (i := 2) (v := .slice X n a) rfl; have r3 := H5.out.cell_ (i := 3) (v := .slice Y m b) rfl; clear ho5 hg5 g5 d3 c2 f2))
  refine bodyPost_ret (v := grV I K X n a Y m b) (by simp [results, Try.results67, go_sem, r0, r1, r2, r3]) rfl ?_
  have hz := HZ.out
  have hz3 := Z3.out
  have gx : ∀ k, blockOf X = some k → w.heap.size + 1 < k ∧ k < w3.heap.size := fun k hk => by have := XL.out k hk; omega
  have gy : ∀ k, blockOf Y = some k → w3.heap.size ≤ k := fun k hk => (V5.out.lt k hk).1
  have gs : ∀ {g i : Nat} {u : Value} {W : World} {P : Option Addr} {q x : Nat} {es : List Ent} {b0 : Nat}, g ≤ w.heap.size + 1 → (∀ k, blockOf P = some k → w.heap.size + 1 < k) → OE W b0 P q x es → OE (W.setCell ⟨g, i, none⟩ u) b0 P q x es :=
    fun hg hP h => h.grown (World.grownBy_set _ _ _ _) (fun k hk hA => by injection hk with hk; have := hP k hA; omega)
  have gx' : ∀ k, blockOf X = some k → w.heap.size + 1 < k := fun k hk => (gx k hk).1
  have gy' : ∀ k, blockOf Y = some k → w.heap.size + 1 < k := fun k hk => by have := gy k hk; omega
  have o1 := gs (g := w.heap.size + 1) (i := 3) (u := .slice Y m b) (Nat.le_refl _) gx' (gs (g := w.heap.size + 1) (i := 2) (u := .slice X n a) (Nat.le_refl _) gx' (gs (g := w.heap.size + 1) (i := 1) (u := .int .i64 K) (Nat.le_refl _) gx' (gs (g := w.heap.size + 1) (i := 0) (u := .int .i64 I) (Nat.le_refl _) gx' (gs (g := w.heap.size) (i := 3) (u := .slice Y m b) (Nat.le_succ _) gx' O5.out))))
  have p1 := gs (g := w.heap.size + 1) (i := 3) (u := .slice Y m b) (Nat.le_refl _) gy' (gs (g := w.heap.size + 1) (i := 2) (u := .slice X n a) (Nat.le_refl _) gy' (gs (g := w.heap.size + 1) (i := 1) (u := .int .i64 K) (Nat.le_refl _) gy' (gs (g := w.heap.size + 1) (i := 0) (u := .int .i64 I) (Nat.le_refl _) gy' (gs (g := w.heap.size) (i := 3) (u := .slice Y m b) (Nat.le_succ _) gy' V5.out))))
  exact ⟨_, _, _, _, rfl, ⟨o1.less (by omega), p1.less (by omega), fun g hg hA => by have := (gx g hA).2; have := gy g hg; omega⟩, ((((S5.out.setCell (p := ⟨w.heap.size, 3, none⟩) (Nat.le_refl _) _).setCell (p := ⟨w.heap.size + 1, 0, none⟩) (by simp) _).setCell (p := ⟨w.heap.size + 1, 1, none⟩) (by simp) _).setCell (p := ⟨w.heap.size + 1, 2, none⟩) (by simp) _).setCell (p := ⟨w.heap.size + 1, 3, none⟩) (by simp) _⟩
end Go.Proofs.Ytkhgemgmnchodaa
