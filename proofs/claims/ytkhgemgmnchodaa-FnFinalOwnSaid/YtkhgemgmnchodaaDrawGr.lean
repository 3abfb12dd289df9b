/- The drawing of messages and stamps (taken from XDrawRd). -/
import Derived.Test.YtkhgemgmnchodaaGr8
import Derived.Test.YtkhgemgmnchodaaDraw
namespace Go.Proofs.Ytkhgemgmnchodaa
open Go.RowKit Go.Sort
theorem OI.one (w : World) (e : TypeId) (y : Int) : OI (w.alloc (.cells #[.int .i64 y] e)) w.heap.size e (some ⟨w.heap.size, 0, none⟩) 1 1 [y] := World.ownsRow_lit w #[.int .i64 y] 1 (Nat.le_refl _) (by simp [maxLen]) rfl
theorem Rd.alloc {w : World} {R M : Nat} (h : Rd w R M) (o : Obj) : Rd (w.alloc o) R M := h.below ((St.refl w).alloc o) h.lt
theorem Rd.setCell {w : World} {R M g i : Nat} (h : Rd w R M) (hg : R < g) (u : Value) : Rd (w.setCell ⟨g, i, none⟩ u) R M := h.grown (World.grownBy_set w g i u) (fun k hk => by injection hk with hk; omega)
/-- A number that is drawn. -/
def DrawnN (w : World) (R M : Nat) (e : Ending) (w' : World) : Prop := ∃ x : Int, e = .returned (.int .i64 x) ∧ Rd w' R M ∧ w.grownBy w' (some R)
set_option maxHeartbeats 1000000 in
theorem l91Message_any (R M : Nat) (w : World) (hr : Rd w R M) (hM : M ≤ 1099511627000) :
    Calls Try.prog 44 #[.pointer (some ⟨R, 0, none⟩)] w (DrawnN w R (M + 2)) := by
  go_enter Try.func44, Try.ntmps44
  go_wp2_with fail
  refine (pick_any _ _ _ _ hr (by omega) (by omega) (by omega)).mono ?_
  rintro e w1 ⟨x, rfl, _, hr1, hg1⟩
  cases h0 : (x == 0)
  · go_wp2_with fail
    refine (pick_any _ _ _ _ hr1 (by omega) (by omega) (by omega)).mono ?_
    rintro e w2 ⟨y, rfl, _, hr2, hg2⟩
    go_wp2_with fail
    go_ret
    exact ⟨y, rfl, hr2.le (by omega), grown_trans' hg1 hg2⟩
  · have hr2 := hr1.alloc (.cells #[.int .i64 (-1), .int .i64 11, .int .i64 12] 3)
    have hg2 := hid (grown_alloc hg1 (.cells #[.int .i64 (-1), .int .i64 11, .int .i64 12] 3))
    have hb := hid (Blk.new w1 3 #[.int .i64 (-1), .int .i64 11, .int .i64 12])
    have hne : w1.heap.size ≠ R := by have := hr1.lt; omega
    go_wp2_with fail
    refine (pick_any _ _ _ _ hr2 (by omega) (by omega) (by omega)).mono ?_
    rintro e w3 ⟨y, rfl, hp, hr3, hg3⟩
    have hb3 := hb.out.grown hg3 (by intro e; injection e with e; omega)
    have b0 := hb3.cell_ (i := 0) (v := .int .i64 (-1)) rfl
    have b1 := hb3.cell_ (i := 1) (v := .int .i64 11) rfl
    have b2 := hb3.cell_ (i := 2) (v := .int .i64 12) rfl
    have hp1 := hp.1
    have hp2 := hp.2.1 (by omega)
    have hgg := hid (grown_trans' hg2.out hg3)
    have hy : y = 0 ∨ y = 1 ∨ y = 2 := by omega
    clear hp hb hb3 hg3 hp1 hp2
    rcases hy with rfl | rfl | rfl
    all_goals
      go_wp2_with fail
      go_ret
      exact ⟨_, rfl, hr3.le (by omega), hgg.out⟩
/-- A stamp that is drawn. -/
def DrawnS (w : World) (R M : Nat) (e : Ending) (w' : World) : Prop := ∃ t g : Int, e = .returned (.agg #[.int .i64 t, .int .i64 g]) ∧ Rd w' R M ∧ w.grownBy w' (some R)
set_option maxHeartbeats 2000000 in
theorem l91Stamp_any (R M : Nat) (w : World) (hr : Rd w R M) (hM : M ≤ 1099511627000) :
    Calls Try.prog 45 #[.pointer (some ⟨R, 0, none⟩)] w (DrawnS w R (M + 4)) := by
  have hRlt := hr.lt
  have r0 := hr.alloc (.cells #[.int .i64 0, .int .i64 0] 32)
  have K0 := hid (Blk.new w 32 #[.int .i64 0, .int .i64 0])
  have g0 := hid (World.grownBy_alloc w (.cells #[.int .i64 0, .int .i64 0] 32) (some R))
  go_enter Try.func45, Try.ntmps45
  go_wp2_with fail
  refine (pick_any _ _ _ _ r0 (by omega) (by omega) (by omega)).mono ?_
  rintro e w1 ⟨t1, rfl, hp1, hr1, hg1⟩
  have hp11 := hp1.1
  have hp12 := hp1.2.1 (by omega)
  have K1 := hid (K0.out.grown hg1 (by intro e; injection e with e; omega))
  have G1 := hid (grown_trans' g0.out hg1)
  clear hp1 r0 K0 g0 hg1
  go_wp2_with fail
  refine (pick_any _ _ _ _ hr1 (by omega) (by omega) (by omega)).mono ?_
  rintro e w2 ⟨g1, rfl, _, hr2, hg2⟩
  have K2 := hid ((K1.out.grown hg2 (by intro e; injection e with e; omega)).alloc (.cells #[.int .i64 (1 + t1), .int .i64 g1] 32))
  have G2 := hid (grown_alloc (grown_trans' G1.out hg2) (.cells #[.int .i64 (1 + t1), .int .i64 g1] 32))
  have r2 := hr2.alloc (.cells #[.int .i64 (1 + t1), .int .i64 g1] 32)
  have B2 := hid (Blk.new w2 32 #[.int .i64 (1 + t1), .int .i64 g1])
  have z2 : w.heap.size < w2.heap.size := Nat.lt_of_lt_of_le K1.out.lt hg2.size
  clear K1 G1 hg2 hr1
  go_wp2_with fail
  refine (pick_any _ _ _ _ r2 (by omega) (by omega) (by omega)).mono ?_
  rintro e w3 ⟨x, rfl, _, hr3, hg3⟩
  have K3 := hid (K2.out.grown hg3 (by intro e; injection e with e; omega))
  have B3 := hid (B2.out.grown hg3 (by intro e; injection e with e; omega))
  have G3 := hid (grown_trans' G2.out hg3)
  clear K2 B2 G2 hg3 r2 hr2
  have hfin : ∀ (W : World) (t g : Int), Blk W w.heap.size 32 #[.int .i64 0, .int .i64 0] → Rd W R (M + 4) → w.grownBy W (some R) →
      Blk ((W.setCell ⟨w.heap.size, 0, none⟩ (.int .i64 t)).setCell ⟨w.heap.size, 1, none⟩ (.int .i64 g)) w.heap.size 32 #[.int .i64 t, .int .i64 g] ∧
      DrawnS w R (M + 4) (.returned (.agg #[.int .i64 t, .int .i64 g])) ((W.setCell ⟨w.heap.size, 0, none⟩ (.int .i64 t)).setCell ⟨w.heap.size, 1, none⟩ (.int .i64 g)) := by
    intro W t g hk hr hg
    refine ⟨(hk.set_ 0 (.int .i64 t)).set_ 1 (.int .i64 g), t, g, rfl, (hr.setCell hRlt _).setCell hRlt _, ?_⟩
    exact grown_new (grown_new hg (World.grownBy_set W w.heap.size 0 _) (fun k hk => by injection hk with hk; omega)) (World.grownBy_set _ w.heap.size 1 _) (fun k hk => by injection hk with hk; omega)
  have HF := hid hfin
  clear hfin
  cases h0 : (x == 0)
  · cases h1 : (x == 1)
    · have b0 := B3.out.cell_ (i := 0) (v := .int .i64 (1 + t1)) rfl
      have b1 := B3.out.cell_ (i := 1) (v := .int .i64 g1) rfl
      have KZ := K3.out
      have y0 := KZ.cell_ (i := 0) (v := .int .i64 0) rfl
      have y1 := KZ.cell_ (i := 1) (v := .int .i64 0) rfl
      have x0 := KZ.frozen 0
      have x1 := KZ.frozen 1
      have HE := hid (HF.out w3 (1 + t1) g1 KZ (hr3.le (by omega)) G3.out)
      have s0 := HE.out.1.cell_ (i := 0) (v := .int .i64 (1 + t1)) rfl
      have s1 := HE.out.1.cell_ (i := 1) (v := .int .i64 g1) rfl
      clear KZ
      go_wp2_with fail
      refine bodyPost_ret (v := .agg #[.int .i64 (1 + t1), .int .i64 g1]) (by simp [results, Try.results45, go_sem, s0, s1]) rfl HE.out.2
    · go_wp2_with fail
      refine (pick_any _ _ _ _ hr3 (by omega) (by omega) (by omega)).mono ?_
      rintro e w4 ⟨y, rfl, hp, hr4, hg4⟩
      have hp1 := hp.1
      have hp2 := hp.2.1 (by omega)
      have hzB : w2.heap.size ≠ w.heap.size := by omega
      have K4 := hid (K3.out.grown hg4 (by intro e; injection e with e; omega))
      have B4 := hid (B3.out.grown hg4 (by intro e; injection e with e; have := hr4.lt; omega))
      have G4 := hid (grown_trans' G3.out hg4)
      have c1 := B4.out.cell_ (i := 1) (v := .int .i64 g1) rfl
      have f1 := B4.out.frozen 1
      have B5 := hid (B4.out.set_ 1 (.int .i64 (y - 1)))
      have K5 := hid (K4.out.far (p := ⟨w2.heap.size, 1, none⟩) (by simp; omega) (.int .i64 (y - 1)))
      have R5 := hid (hr4.setCell (g := w2.heap.size) (i := 1) (by omega) (.int .i64 (y - 1)))
      have G5 := hid (grown_new G4.out (World.grownBy_set w4 w2.heap.size 1 (.int .i64 (y - 1))) (fun k hk => by injection hk with hk; omega))
      have b0 := B5.out.cell_ (i := 0) (v := .int .i64 (1 + t1)) rfl
      have b1 := B5.out.cell_ (i := 1) (v := .int .i64 (y - 1)) rfl
      clear hp hg4 K3 B3 K4 B4 G3 G4
      have KZ := K5.out
      have y0 := KZ.cell_ (i := 0) (v := .int .i64 0) rfl
      have y1 := KZ.cell_ (i := 1) (v := .int .i64 0) rfl
      have x0 := KZ.frozen 0
      have x1 := KZ.frozen 1
      have HE := hid (HF.out (w4.setCell ⟨w2.heap.size, 1, none⟩ (.int .i64 (y - 1))) (1 + t1) (y - 1) KZ (R5.out.le (by omega)) G5.out)
      have s0 := HE.out.1.cell_ (i := 0) (v := .int .i64 (1 + t1)) rfl
      have s1 := HE.out.1.cell_ (i := 1) (v := .int .i64 (y - 1)) rfl
      clear KZ
      go_wp2_with fail
      refine bodyPost_ret (v := .agg #[.int .i64 (1 + t1), .int .i64 (y - 1)]) (by simp [results, Try.results45, go_sem, s0, s1]) rfl HE.out.2
  · have r4 := hr3.alloc (.cells #[.int .i64 0, .int .i64 (-1), .int .i64 999, .int .i64 1000] 3)
    have K4 := hid (K3.out.alloc (.cells #[.int .i64 0, .int .i64 (-1), .int .i64 999, .int .i64 1000] 3))
    have B4 := hid (B3.out.alloc (.cells #[.int .i64 0, .int .i64 (-1), .int .i64 999, .int .i64 1000] 3))
    have L4 := hid (Blk.new w3 3 #[.int .i64 0, .int .i64 (-1), .int .i64 999, .int .i64 1000])
    have G4 := hid (grown_alloc G3.out (.cells #[.int .i64 0, .int .i64 (-1), .int .i64 999, .int .i64 1000] 3))
    have z3 : w2.heap.size < w3.heap.size := B3.out.lt
    clear K3 B3 G3
    go_wp2_with fail
    refine (pick_any _ _ _ _ r4 (by omega) (by omega) (by omega)).mono ?_
    rintro e w5 ⟨y, rfl, hp, hr5, hg5⟩
    have hp1 := hp.1
    have hp2 := hp.2.1 (by omega)
    have K5 := hid (K4.out.grown hg5 (by intro e; injection e with e; omega))
    have B5 := hid (B4.out.grown hg5 (by intro e; injection e with e; omega))
    have L5 := hid (L4.out.grown hg5 (by intro e; injection e with e; omega))
    have G5 := hid (grown_trans' G4.out hg5)
    have l0 := L5.out.cell_ (i := 0) (v := .int .i64 0) rfl
    have l1 := L5.out.cell_ (i := 1) (v := .int .i64 (-1)) rfl
    have l2 := L5.out.cell_ (i := 2) (v := .int .i64 999) rfl
    have l3 := L5.out.cell_ (i := 3) (v := .int .i64 1000) rfl
    have c0 := B5.out.cell_ (i := 0) (v := .int .i64 (1 + t1)) rfl
    have f0 := B5.out.frozen 0
    clear hp K4 B4 L4 G4 hg5
    have hy : y = 0 ∨ y = 1 ∨ y = 2 ∨ y = 3 := by omega
    clear hp1 hp2
    rcases hy with rfl | rfl | rfl | rfl
    · have B6 := hid (B5.out.set_ 0 (.int .i64 0))
      have K6 := hid (K5.out.far (p := ⟨w2.heap.size, 0, none⟩) (by simp; omega) (.int .i64 0))
      have R6 := hid (hr5.setCell (g := w2.heap.size) (i := 0) (by omega) (.int .i64 0))
      have G6 := hid (grown_new G5.out (World.grownBy_set w5 w2.heap.size 0 (.int .i64 0)) (fun k hk => by injection hk with hk; omega))
      have b0 := B6.out.cell_ (i := 0) (v := .int .i64 0) rfl
      have b1 := B6.out.cell_ (i := 1) (v := .int .i64 g1) rfl
      clear L5 G5 K5 B5
      have KZ := K6.out
      have y0 := KZ.cell_ (i := 0) (v := .int .i64 0) rfl
      have y1 := KZ.cell_ (i := 1) (v := .int .i64 0) rfl
      have x0 := KZ.frozen 0
      have x1 := KZ.frozen 1
      have HE := hid (HF.out (w5.setCell ⟨w2.heap.size, 0, none⟩ (.int .i64 0)) 0 g1 KZ (R6.out.le (by omega)) G6.out)
      have s0 := HE.out.1.cell_ (i := 0) (v := .int .i64 0) rfl
      have s1 := HE.out.1.cell_ (i := 1) (v := .int .i64 g1) rfl
      clear KZ
      go_wp2_with fail
      refine bodyPost_ret (v := .agg #[.int .i64 0, .int .i64 g1]) (by simp [results, Try.results45, go_sem, s0, s1]) rfl HE.out.2
    · have B6 := hid (B5.out.set_ 0 (.int .i64 (-1)))
      have K6 := hid (K5.out.far (p := ⟨w2.heap.size, 0, none⟩) (by simp; omega) (.int .i64 (-1)))
      have R6 := hid (hr5.setCell (g := w2.heap.size) (i := 0) (by omega) (.int .i64 (-1)))
      have G6 := hid (grown_new G5.out (World.grownBy_set w5 w2.heap.size 0 (.int .i64 (-1))) (fun k hk => by injection hk with hk; omega))
      have b0 := B6.out.cell_ (i := 0) (v := .int .i64 (-1)) rfl
      have b1 := B6.out.cell_ (i := 1) (v := .int .i64 g1) rfl
      clear L5 G5 K5 B5
      have KZ := K6.out
      have y0 := KZ.cell_ (i := 0) (v := .int .i64 0) rfl
      have y1 := KZ.cell_ (i := 1) (v := .int .i64 0) rfl
      have x0 := KZ.frozen 0
      have x1 := KZ.frozen 1
      have HE := hid (HF.out (w5.setCell ⟨w2.heap.size, 0, none⟩ (.int .i64 (-1))) (-1) g1 KZ (R6.out.le (by omega)) G6.out)
      have s0 := HE.out.1.cell_ (i := 0) (v := .int .i64 (-1)) rfl
      have s1 := HE.out.1.cell_ (i := 1) (v := .int .i64 g1) rfl
      clear KZ
      go_wp2_with fail
      refine bodyPost_ret (v := .agg #[.int .i64 (-1), .int .i64 g1]) (by simp [results, Try.results45, go_sem, s0, s1]) rfl HE.out.2
    · have B6 := hid (B5.out.set_ 0 (.int .i64 999))
      have K6 := hid (K5.out.far (p := ⟨w2.heap.size, 0, none⟩) (by simp; omega) (.int .i64 999))
      have R6 := hid (hr5.setCell (g := w2.heap.size) (i := 0) (by omega) (.int .i64 999))
      have G6 := hid (grown_new G5.out (World.grownBy_set w5 w2.heap.size 0 (.int .i64 999)) (fun k hk => by injection hk with hk; omega))
      have b0 := B6.out.cell_ (i := 0) (v := .int .i64 999) rfl
      have b1 := B6.out.cell_ (i := 1) (v := .int .i64 g1) rfl
      clear L5 G5 K5 B5
      have KZ := K6.out
      have y0 := KZ.cell_ (i := 0) (v := .int .i64 0) rfl
      have y1 := KZ.cell_ (i := 1) (v := .int .i64 0) rfl
      have x0 := KZ.frozen 0
      have x1 := KZ.frozen 1
      have HE := hid (HF.out (w5.setCell ⟨w2.heap.size, 0, none⟩ (.int .i64 999)) 999 g1 KZ (R6.out.le (by omega)) G6.out)
      have s0 := HE.out.1.cell_ (i := 0) (v := .int .i64 999) rfl
      have s1 := HE.out.1.cell_ (i := 1) (v := .int .i64 g1) rfl
      clear KZ
      go_wp2_with fail
      refine bodyPost_ret (v := .agg #[.int .i64 999, .int .i64 g1]) (by simp [results, Try.results45, go_sem, s0, s1]) rfl HE.out.2
    · have B6 := hid (B5.out.set_ 0 (.int .i64 1000))
      have K6 := hid (K5.out.far (p := ⟨w2.heap.size, 0, none⟩) (by simp; omega) (.int .i64 1000))
      have R6 := hid (hr5.setCell (g := w2.heap.size) (i := 0) (by omega) (.int .i64 1000))
      have G6 := hid (grown_new G5.out (World.grownBy_set w5 w2.heap.size 0 (.int .i64 1000)) (fun k hk => by injection hk with hk; omega))
      have b0 := B6.out.cell_ (i := 0) (v := .int .i64 1000) rfl
      have b1 := B6.out.cell_ (i := 1) (v := .int .i64 g1) rfl
      clear L5 G5 K5 B5
      have KZ := K6.out
      have y0 := KZ.cell_ (i := 0) (v := .int .i64 0) rfl
      have y1 := KZ.cell_ (i := 1) (v := .int .i64 0) rfl
      have x0 := KZ.frozen 0
      have x1 := KZ.frozen 1
      have HE := hid (HF.out (w5.setCell ⟨w2.heap.size, 0, none⟩ (.int .i64 1000)) 1000 g1 KZ (R6.out.le (by omega)) G6.out)
      have s0 := HE.out.1.cell_ (i := 0) (v := .int .i64 1000) rfl
      have s1 := HE.out.1.cell_ (i := 1) (v := .int .i64 g1) rfl
      clear KZ
      go_wp2_with fail
      refine bodyPost_ret (v := .agg #[.int .i64 1000, .int .i64 g1]) (by simp [results, Try.results45, go_sem, s0, s1]) rfl HE.out.2
end Go.Proofs.Ytkhgemgmnchodaa
