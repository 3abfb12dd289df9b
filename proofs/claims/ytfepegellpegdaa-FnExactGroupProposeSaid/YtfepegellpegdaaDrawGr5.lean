/- Draws of groups for the laws. -/
import Derived.Test.YtfepegellpegdaaDrawGr4
namespace Go.Proofs.Ytfepegellpegdaa
open Go.RowKit Go.Sort
/-- A group that was drawn, for a law. -/
structure GD (w' w : World) (I K : Int) (A : Option Addr) (n c : Nat) (B : Option Addr) (m d : Nat) (ps ds : List Ent) : Prop where
  o : OwGr w' w.heap.size I K A n c B m d ps ds
  n : n ≤ 12
  m : m ≤ 12
  k : -1 ≤ K ∧ K ≤ 1000
  s : St w w'
theorem GD.i {w' w : World} {I K : Int} {A : Option Addr} {n c : Nat} {B : Option Addr} {m d : Nat} {ps ds : List Ent} (h : GD w' w I K A n c B m d ps ds) : SE w' A n c ps := h.o.oi.se
theorem GD.j {w' w : World} {I K : Int} {A : Option Addr} {n c : Nat} {B : Option Addr} {m d : Nat} {ps ds : List Ent} (h : GD w' w I K A n c B m d ps ds) : SE w' B m d ds := h.o.oh.se
def DrawnG (w : World) (e : Ending) (w' : World) : Prop := ∃ I K A n c B m d ps ds, e = .returned (grV I K A n c B m d) ∧ GD w' w I K A n c B m d ps ds
def DrawnGM (w : World) (e : Ending) (w' : World) : Prop := ∃ I K A n c B m d ps ds x, e = .returned (.tuple #[grV I K A n c B m d, .int .i64 x]) ∧ GD w' w I K A n c B m d ps ds
structure GA (w W : World) (R L G b : Nat) (I K : Int) (A : Option Addr) (n c : Nat) (B : Option Addr) (m d : Nat) (ps ds : List Ent) : Prop where
  z : Blk W w.heap.size 25 (grC 0 0 none 0 0 none 0 0)
  g : Blk W G 25 (grC I K A n c B m d)
  c : OwGr W b I K A n c B m d ps ds
  r : Rd W R L
  s : St w W
  wR : w.heap.size < R
  Rb : R < b
  bG : b ≤ G
section
variable {w W W1 : World} {R L L' G b n c m d : Nat} {I K : Int} {A B : Option Addr} {ps ds : List Ent}
theorem GA.pick (h : GA w W R L G b I K A n c B m d ps ds) (hr : Rd W1 R L') (hg : W.grownBy W1 (some R)) : GA w W1 R L' G b I K A n c B m d ps ds := by
  have h1 := h.wR
  have h2 := h.Rb
  have h3 := h.bG
  exact ⟨h.z.grown hg (fun e => by injection e with e; omega), h.g.grown hg (fun e => by injection e with e; omega), h.c.row hg h2, hr, h.s.grown hg (fun k hk => by injection hk with hk; omega), h1, h2, h3⟩
theorem GA.dr (h : GA w W R L G b I K A n c B m d ps ds) (s : Dr W W1) : GA w W1 R L G b I K A n c B m d ps ds :=
  ⟨h.z.dr s, h.g.dr s, h.c.st s.st, h.r.dr s, h.s.dr s, h.wR, h.Rb, h.bG⟩
theorem gd_fin (z : Blk W w.heap.size 25 (grC 0 0 none 0 0 none 0 0)) (C : OwGr W b I K A n c B m d ps ds) (s : St w W) (hb : w.heap.size ≤ b) (hn : n ≤ 12) (hm : m ≤ 12) (hk : -1 ≤ K ∧ K ≤ 1000) :
    Hid (Blk (setGr W w.heap.size I K A n c B m d) w.heap.size 25 (grC I K A n c B m d)) ∧ Hid (GD (setGr W w.heap.size I K A n c B m d) w I K A n c B m d ps ds) := by
  obtain ⟨f1, f2, f3⟩ := gr_put (I := I) (K := K) z C s (Nat.le_refl _)
  exact ⟨f1, f2.out.less hb, hn, hm, hk, f3.out⟩
end
set_option maxHeartbeats 1000000 in
theorem DrawGroupBlocked_any (A : Option Addr) (n c : Nat) (bs : List Nat) (w : World) (h : RB w w.heap.size A n bs) (hn : n ≤ 1048576) (hnc : n ≤ c) (hc : c ≤ maxLen) :
    Calls Try.prog 15 #[.slice A n c] w (DrawnG w) := by
  have S0 := hid ((St.refl w).alloc (.cells (grC 0 0 none 0 0 none 0 0) 25))
  have K0 := hid (Blk.new w 25 (grC 0 0 none 0 0 none 0 0))
  have h0 := (h.below S0.out).more S0.out.size
  have z0 := K0.out.lt
  go_enter Try.func15, Try.ntmps15
  go_wp2_with fail
  generalize w.alloc (.cells (grC 0 0 none 0 0 none 0 0) 25) = w0 at S0 K0 h0 z0 ⊢
  refine (l6Open_any _ _ _ _ _ h0 hn hnc hc).mono ?_
  rintro e w1 ⟨rfl, hr1, b1⟩
  have z1 : w0.heap.size < w1.heap.size := hr1.lt
  have b1 : St w0 w1 := b1
  have S1 := hid (S0.out.trans b1)
  have K1 := hid (K0.out.below b1 K0.out.lt)
  clear b1 S0 K0
  go_wp2_with fail
  refine (l91Group_any _ _ _ hr1 (by omega)).mono ?_
  rintro e w2 ⟨I2, J2, A2, n2, c2, B2, m2, d2, ps, ds, rfl, oc, hn2, hm2, hk2, hr2, hg2⟩
  have K2 := hid (K1.out.grown hg2 (by intro e; injection e with e; omega))
  have s2 := hid (S1.out.grown hg2 (fun k hk => by injection hk with hk; omega))
  obtain ⟨f1, f2⟩ := gd_fin K2.out oc s2.out (Nat.le_of_lt (Nat.lt_trans z0 z1)) hn2 hm2 hk2
  have y0 := K2.out.cell_ (i := 0) (v := .int .i64 0) rfl
  have y1 := K2.out.cell_ (i := 1) (v := .int .i64 0) rfl
  have y2 := K2.out.cell_ (i := 2) (v := .slice none 0 0) rfl
  have y3 := K2.out.cell_ (i := 3) (v := .slice none 0 0) rfl
  have x0 := K2.out.frozen 0
  have x1 := K2.out.frozen 1
  have x2 := K2.out.frozen 2
  have x3 := K2.out.frozen 3
  have r0 := f1.out.cell_ (i := 0) (v := .int .i64 I2) rfl
  have r1 := f1.out.cell_ (i := 1) (v := .int .i64 J2) rfl
  have r2 := f1.out.cell_ (i := 2) (v := .slice A2 n2 c2) rfl
  have r3 := f1.out.cell_ (i := 3) (v := .slice B2 m2 d2) rfl
  clear K1 S1 hr1 hr2 hg2 oc
  go_wp2_with fail
  refine bodyPost_ret (v := grV I2 J2 A2 n2 c2 B2 m2 d2) (by simp [results, Try.results15, go_sem, r0, r1, r2, r3]) rfl ⟨_, _, _, _, _, _, _, _, _, _, rfl, f2.out⟩
set_option maxHeartbeats 1000000 in
theorem DrawGroupTrace_any (A : Option Addr) (n c : Nat) (bs : List Nat) (w : World) (h : RB w w.heap.size A n bs) (hn : n ≤ 1048576) (hnc : n ≤ c) (hc : c ≤ maxLen) :
    Calls Try.prog 19 #[.slice A n c] w (DrawnG w) := by
  have S0 := hid ((St.refl w).alloc (.cells (grC 0 0 none 0 0 none 0 0) 25))
  have K0 := hid (Blk.new w 25 (grC 0 0 none 0 0 none 0 0))
  have h0 := (h.below S0.out).more S0.out.size
  have z0 := K0.out.lt
  go_enter Try.func19, Try.ntmps19
  go_wp2_with fail
  generalize w.alloc (.cells (grC 0 0 none 0 0 none 0 0) 25) = w0 at S0 K0 h0 z0 ⊢
  refine (l6Open_any _ _ _ _ _ h0 hn hnc hc).mono ?_
  rintro e w1 ⟨rfl, hr1, b1⟩
  have z1 : w0.heap.size < w1.heap.size := hr1.lt
  have b1 : St w0 w1 := b1
  have S1 := hid (S0.out.trans b1)
  have K1 := hid (K0.out.below b1 K0.out.lt)
  clear b1 S0 K0
  go_wp2_with fail
  refine (l91Group_any _ _ _ hr1 (by omega)).mono ?_
  rintro e w2 ⟨I2, J2, A2, n2, c2, B2, m2, d2, ps, ds, rfl, oc, hn2, hm2, hk2, hr2, hg2⟩
  have K2 := hid (K1.out.grown hg2 (by intro e; injection e with e; omega))
  have s2 := hid (S1.out.grown hg2 (fun k hk => by injection hk with hk; omega))
  obtain ⟨f1, f2⟩ := gd_fin K2.out oc s2.out (Nat.le_of_lt (Nat.lt_trans z0 z1)) hn2 hm2 hk2
  have y0 := K2.out.cell_ (i := 0) (v := .int .i64 0) rfl
  have y1 := K2.out.cell_ (i := 1) (v := .int .i64 0) rfl
  have y2 := K2.out.cell_ (i := 2) (v := .slice none 0 0) rfl
  have y3 := K2.out.cell_ (i := 3) (v := .slice none 0 0) rfl
  have x0 := K2.out.frozen 0
  have x1 := K2.out.frozen 1
  have x2 := K2.out.frozen 2
  have x3 := K2.out.frozen 3
  have r0 := f1.out.cell_ (i := 0) (v := .int .i64 I2) rfl
  have r1 := f1.out.cell_ (i := 1) (v := .int .i64 J2) rfl
  have r2 := f1.out.cell_ (i := 2) (v := .slice A2 n2 c2) rfl
  have r3 := f1.out.cell_ (i := 3) (v := .slice B2 m2 d2) rfl
  clear K1 S1 hr1 hr2 hg2 oc
  go_wp2_with fail
  refine bodyPost_ret (v := grV I2 J2 A2 n2 c2 B2 m2 d2) (by simp [results, Try.results19, go_sem, r0, r1, r2, r3]) rfl ⟨_, _, _, _, _, _, _, _, _, _, rfl, f2.out⟩
set_option maxHeartbeats 2000000 in
theorem DrawGroupPropose_any (A : Option Addr) (n c : Nat) (bs : List Nat) (w : World) (h : RB w w.heap.size A n bs) (hn : n ≤ 1048576) (hnc : n ≤ c) (hc : c ≤ maxLen) :
    Calls Try.prog 35 #[.slice A n c] w (DrawnGM w) := by
  have S0 := hid ((St.refl w).alloc (.cells (grC 0 0 none 0 0 none 0 0) 25))
  have K0 := hid (Blk.new w 25 (grC 0 0 none 0 0 none 0 0))
  have h0 := (h.below S0.out).more S0.out.size
  have z0 := K0.out.lt
  go_enter Try.func35, Try.ntmps35
  go_wp2_with fail
  generalize w.alloc (.cells (grC 0 0 none 0 0 none 0 0) 25) = w0 at S0 K0 h0 z0 ⊢
  refine (l6Open_any _ _ _ _ _ h0 hn hnc hc).mono ?_
  rintro e w1 ⟨rfl, hr1, b1⟩
  have z1 : w0.heap.size < w1.heap.size := hr1.lt
  have b1 : St w0 w1 := b1
  have S1 := hid (S0.out.trans b1)
  have K1 := hid (K0.out.below b1 K0.out.lt)
  clear b1 S0 K0
  go_wp2_with fail
  refine (l91Group_any _ _ _ hr1 (by omega)).mono ?_
  rintro e w2 ⟨I2, J2, A2, n2, c2, B2, m2, d2, ps, ds, rfl, oc, hn2, hm2, hk2, hr2, hg2⟩
  have K2 := hid (K1.out.grown hg2 (by intro e; injection e with e; omega))
  have s2 := hid (S1.out.grown hg2 (fun k hk => by injection hk with hk; omega))
  have sa := (St.refl w2).alloc (.cells (grC I2 J2 A2 n2 c2 B2 m2 d2) 25)
  have D2 := hid (show GA w (w2.alloc (.cells (grC I2 J2 A2 n2 c2 B2 m2 d2) 25)) w0.heap.size (0 + 120) w2.heap.size w1.heap.size I2 J2 A2 n2 c2 B2 m2 d2 ps ds from
    ⟨K2.out.st sa, Blk.new w2 25 (grC I2 J2 A2 n2 c2 B2 m2 d2), oc.st sa, hr2.below sa hr2.lt, s2.out.trans sa, z0, z1, hg2.size⟩)
  clear oc hr2 hg2 K2 s2 sa K1 S1 hr1
  go_upto_region 3 with (fail)
  generalize w2.alloc (.cells _ 25) = w3 at *
  generalize w2.heap.size = G at *
  generalize w0.heap.size = R at *
  have g0 := D2.out.g.cell_ (i := 0) (v := .int .i64 I2) rfl
  have g1 := D2.out.g.cell_ (i := 1) (v := .int .i64 J2) rfl
  have g2 := D2.out.g.cell_ (i := 2) (v := .slice A2 n2 c2) rfl
  have g3 := D2.out.g.cell_ (i := 3) (v := .slice B2 m2 d2) rfl
  have D3 := hid (D2.out.dr (W1 := w3.drew) ⟨1, rfl⟩)
  clear D2
  have hGw : G ≠ w.heap.size := by have h1 := D3.out.bG; have h2 := D3.out.Rb; have h3 := D3.out.wR; omega
  refine wp_region_held_drew (S := (fun w' => w'.cell? ⟨G, 0, none⟩ = some (.int .i64 I2) ∧ w'.cell? ⟨G, 1, none⟩ = some (.int .i64 J2) ∧ w'.cell? ⟨G, 2, none⟩ = some (.slice A2 n2 c2) ∧ w'.cell? ⟨G, 3, none⟩ = some (.slice B2 m2 d2))) (by kernel_rfl) ?_ (fun hH0 => ?_)
  · exact ⟨g0, g1, g2, g3⟩
  refine wpAnyH_take (i := 0) (oi := ⟨some 10, _, _, _, _, _⟩) (v := ?_) rfl (by kernel_rfl) (by kernel_rfl) (by kernel_rfl) (fun _ _ _ h => h) (Or.inl ⟨by rfl, ?_⟩) (by assumption) ?_
  rotate_left
  · (intro w hSw; (try dsimp only at hSw); go_simp; (try with_reducible rfl))
  (try simp only [Act.put, List.setIfInBounds_toArray, List.set_cons_zero, List.set_cons_succ])
  refine wpAnyH_take (i := 1) (oi := ⟨some 11, _, _, _, _, _⟩) (v := ?_) rfl (by kernel_rfl) (by kernel_rfl) (by kernel_rfl) (fun _ _ _ h => h) (Or.inl ⟨by rfl, ?_⟩) (by assumption) ?_
  rotate_left
  · (intro w hSw; (try dsimp only at hSw); go_simp; (try with_reducible rfl))
  (try simp only [Act.put, List.setIfInBounds_toArray, List.set_cons_zero, List.set_cons_succ])
  refine wpAnyH_ready (rs := [2]) (by kernel_rfl) (by simp) ?_
  refine AllReadyH.cons (o := ⟨some 12, _, _, _, _, _⟩) rfl (fun K hK => ?_) AllReadyH.nil
  go_simp
  (go_at_call 58; refine (l91Message_any _ _ _ D3.out.r (by omega)).mono ?_; rintro e w5 ⟨x1, rfl, hrd5, hg5⟩; have D5 := hid (D3.out.pick hrd5 hg5); have u0 := D5.out.g.cell_ (i := 0) (v := .int .i64 I2) rfl; have u1 := D5.out.g.cell_ (i := 1) (v := .int .i64 J2) rfl; have u2 := D5.out.g.cell_ (i := 2) (v := .slice A2 n2 c2) rfl; have u3 := D5.out.g.cell_ (i := 3) (v := .slice B2 m2 d2) rfl; have y0 := D5.out.z.cell_ (i := 0) (v := .int .i64 0) rfl; have y1 := D5.out.z.cell_ (i := 1) (v := .int .i64 0) rfl; have y2 := D5.out.z.cell_ (i := 2) (v := .slice none 0 0) rfl; have y3 := D5.out.z.cell_ (i := 3) (v := .slice none 0 0) rfl; have f0 := D5.out.z.frozen 0; have f1 := D5.out.z.frozen 1; have f2 := D5.out.z.frozen 2; have f3 := D5.out.z.frozen 3)
  (first | (refine hK.out _ _ ?_ (fun hH1 => ?_)) | (go_wp2_with fail; refine hK.out _ _ ?_ (fun hH1 => ?_)))
  · exact ⟨u0, u1, u2, u3⟩
  clear hK K hH0
  (try simp only [Act.put, List.setIfInBounds_toArray, List.set_cons_zero, List.set_cons_succ])
  refine wpAnyH_ready (rs := [3]) (by kernel_rfl) (by simp) ?_
  refine AllReadyH.cons (o := ⟨none, _, _, _, _, _⟩) rfl (fun K hK => ?_) AllReadyH.nil
  go_simp
  (first | (refine hK.out _ _ ?_ (fun hH2 => ?_)) | (go_wp2_with fail; refine hK.out _ _ ?_ (fun hH2 => ?_)))
  · exact ⟨cell_setGr u0 hGw, cell_setGr u1 hGw, cell_setGr u2 hGw, cell_setGr u3 hGw⟩
  clear hK K hH1
  (try simp only [Act.put, List.setIfInBounds_toArray, List.set_cons_zero, List.set_cons_succ])
  refine wpAnyH_take (i := 4) (oi := ⟨some 3, _, _, _, _, _⟩) (v := ?_) rfl (by kernel_rfl) (by kernel_rfl) (by kernel_rfl) (fun _ _ _ h => h) (Or.inl ⟨by rfl, ?_⟩) (by assumption) ?_
  rotate_left
  · (intro w hSw; (try dsimp only at hSw); go_simp; (try with_reducible rfl))
  (try simp only [Act.put, List.setIfInBounds_toArray, List.set_cons_zero, List.set_cons_succ])
  refine wpAnyH_done (by kernel_rfl) ?_ _
  clear hH2
  obtain ⟨F, H⟩ := gd_fin D5.out.z D5.out.c D5.out.s (Nat.le_of_lt (Nat.lt_trans D5.out.wR D5.out.Rb)) hn2 hm2 hk2
  have r0 := F.out.cell_ (i := 0) (v := .int .i64 I2) rfl
  have r1 := F.out.cell_ (i := 1) (v := .int .i64 J2) rfl
  have r2 := F.out.cell_ (i := 2) (v := .slice A2 n2 c2) rfl
  have r3 := F.out.cell_ (i := 3) (v := .slice B2 m2 d2) rfl
  go_wp2_with fail
  refine bodyPost_ret (v := .tuple #[grV I2 J2 A2 n2 c2 B2 m2 d2, .int .i64 x1]) (by simp [results, Try.results35, go_sem, r0, r1, r2, r3]) rfl ⟨_, _, _, _, _, _, _, _, _, _, _, rfl, H.out⟩
set_option maxHeartbeats 1000000 in
theorem DrawGroupStamp_any (A : Option Addr) (n c : Nat) (bs : List Nat) (w : World) (h : RB w w.heap.size A n bs) (hn : n ≤ 1048576) (hnc : n ≤ c) (hc : c ≤ maxLen) :
    Calls Try.prog 31 #[.slice A n c] w (DrawnGM w) := by
  have S0 := hid ((St.refl w).alloc (.cells (grC 0 0 none 0 0 none 0 0) 25))
  have K0 := hid (Blk.new w 25 (grC 0 0 none 0 0 none 0 0))
  have h0 := (h.below S0.out).more S0.out.size
  go_enter Try.func31, Try.ntmps31
  go_wp2_with fail
  generalize w.alloc (.cells (grC 0 0 none 0 0 none 0 0) 25) = w0 at S0 K0 h0 ⊢
  refine (DrawGroupPropose_any _ _ _ _ _ h0 hn hnc hc).mono ?_
  rintro e w1 ⟨I2, J2, A2, n2, c2, B2, m2, d2, ps, ds, x1, rfl, D⟩
  have K1 := hid (K0.out.st D.s)
  obtain ⟨f1, f2⟩ := gd_fin K1.out D.o (S0.out.trans D.s) S0.out.le D.n D.m D.k
  have y0 := K1.out.cell_ (i := 0) (v := .int .i64 0) rfl
  have y1 := K1.out.cell_ (i := 1) (v := .int .i64 0) rfl
  have y2 := K1.out.cell_ (i := 2) (v := .slice none 0 0) rfl
  have y3 := K1.out.cell_ (i := 3) (v := .slice none 0 0) rfl
  have xf0 := K1.out.frozen 0
  have xf1 := K1.out.frozen 1
  have xf2 := K1.out.frozen 2
  have xf3 := K1.out.frozen 3
  have r0 := f1.out.cell_ (i := 0) (v := .int .i64 I2) rfl
  have r1 := f1.out.cell_ (i := 1) (v := .int .i64 J2) rfl
  have r2 := f1.out.cell_ (i := 2) (v := .slice A2 n2 c2) rfl
  have r3 := f1.out.cell_ (i := 3) (v := .slice B2 m2 d2) rfl
  clear D K0 S0 h0
  go_wp2_with fail
  refine bodyPost_ret (v := .tuple #[grV I2 J2 A2 n2 c2 B2 m2 d2, .int .i64 x1]) (by simp [results, Try.results31, go_sem, r0, r1, r2, r3]) rfl ⟨_, _, _, _, _, _, _, _, _, _, _, rfl, f2.out⟩
end Go.Proofs.Ytfepegellpegdaa
