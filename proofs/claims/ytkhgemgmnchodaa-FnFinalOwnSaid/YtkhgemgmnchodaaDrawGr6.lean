/- The drawing of a group, a message and a stamp. -/
import Derived.Test.YtkhgemgmnchodaaDrawGr5
namespace Go.Proofs.Ytkhgemgmnchodaa
open Go.RowKit Go.Sort
def DrawnGMS (w : World) (e : Ending) (w' : World) : Prop := ∃ I K A n c B m d ps ds x t g, e = .returned (.tuple #[grV I K A n c B m d, .int .i64 x, .agg #[.int .i64 t, .int .i64 g]]) ∧ GD w' w I K A n c B m d ps ds
theorem GD.drw {w' w : World} {I K : Int} {A : Option Addr} {n c : Nat} {B : Option Addr} {m d : Nat} {ps ds : List Ent} (h : GD w' w I K A n c B m d ps ds) : GD w'.drew w I K A n c B m d ps ds :=
  ⟨h.o.st (Dr.st ⟨1, rfl⟩), h.n, h.m, h.k, h.s.trans (Dr.st ⟨1, rfl⟩)⟩
/-- Where the drawing stands: the group, the stamp in its own variable, both results' blocks. -/
structure GF (w W : World) (R L G b V : Nat) (I K : Int) (A : Option Addr) (n c : Nat) (B : Option Addr) (m d : Nat) (ps ds : List Ent) (t g : Int) : Prop where
  a : GA w W R L G b I K A n c B m d ps ds
  y : Blk W (w.heap.size + 1) 32 #[.int .i64 0, .int .i64 0]
  v : Blk W V 32 #[.int .i64 t, .int .i64 g]
  yR : w.heap.size + 1 < R
  Rv : R < V
  GV : G < V
section
variable {w W W1 : World} {R L L' G b V n c m d : Nat} {I K t g : Int} {A B : Option Addr} {ps ds : List Ent}
theorem GF.pick (h : GF w W R L G b V I K A n c B m d ps ds t g) (hr : Rd W1 R L') (hg : W.grownBy W1 (some R)) : GF w W1 R L' G b V I K A n c B m d ps ds t g := by
  have h1 := h.yR
  have h2 := h.Rv
  exact ⟨h.a.pick hr hg, h.y.grown hg (fun e => by injection e with e; omega), h.v.grown hg (fun e => by injection e with e; omega), h1, h2, h.GV⟩
theorem GF.st (h : GF w W R L G b V I K A n c B m d ps ds t g) (s : St W W1) : GF w W1 R L G b V I K A n c B m d ps ds t g :=
  ⟨⟨h.a.z.st s, h.a.g.st s, h.a.c.st s, h.a.r.below s h.a.r.lt, h.a.s.trans s, h.a.wR, h.a.Rb, h.a.bG⟩, h.y.st s, h.v.st s, h.yR, h.Rv, h.GV⟩
theorem GF.set (h : GF w W R L G b V I K A n c B m d ps ds t g) (t' g' : Int) : GF w (setSt W V t' g') R L G b V I K A n c B m d ps ds t' g' := by
  have h1 := h.yR
  have h2 := h.Rv
  have h3 := h.a.wR
  have h4 := h.a.Rb
  have h5 := h.a.bG
  have h6 := h.GV
  have v1 := h.v.set_ 0 (.int .i64 t')
  have v2 := v1.set_ 1 (.int .i64 g')
  refine ⟨⟨h.a.z.putSt (by omega), h.a.g.putSt (by omega), h.a.c.putSt h.v, ?_, h.a.s.putSt (by omega), h3, h4, h5⟩, h.y.putSt (by omega), v2, h1, h2, h6⟩
  exact (h.a.r.setCell h2 _).setCell h2 _
theorem GF.gd (_ : GF w W R L G b V I K A n c B m d ps ds t g) {W2 : World} {base : Nat} (o : OwGr W2 base I K A n c B m d ps ds) (s : St w W2) (hn : n ≤ 12) (hm : m ≤ 12) (hk : -1 ≤ K ∧ K ≤ 1000) (hb : w.heap.size ≤ base) : GD W2 w I K A n c B m d ps ds :=
  ⟨o.less hb, hn, hm, hk, s⟩
/-- The four stores of a new entry. -/
abbrev setE0 (W : World) (E : Nat) (m t g : Int) (f : Bool) : World := (((W.setCell ⟨E, 0, none⟩ (.int .i64 m)).setCell ⟨E, 1, none⟩ (.int .i64 t)).setCell ⟨E, 2, none⟩ (.int .i64 g)).setCell ⟨E, 3, none⟩ (.bool f)
theorem GF.setE0 {E : Nat} (h : GF w W R L G b V I K A n c B m d ps ds t g) (hE : V < E) (hA : ∀ k, blockOf A = some k → k ≠ E) (hB : ∀ k, blockOf B = some k → k ≠ E) (m' t' g' : Int) (f' : Bool) : GF w (setE0 W E m' t' g' f') R L G b V I K A n c B m d ps ds t g := by
  have h1 := h.yR
  have h2 := h.Rv
  have h3 := h.a.wR
  have h4 := h.a.Rb
  have h5 := h.a.bG
  have h6 := h.GV
  have hg : W.grownBy (Proofs.Ytkhgemgmnchodaa.setE0 W E m' t' g' f') (some E) := grown_trans' (grown_trans' (grown_trans' (World.grownBy_set _ _ _ _) (World.grownBy_set _ _ _ _)) (World.grownBy_set _ _ _ _)) (World.grownBy_set _ _ _ _)
  refine ⟨⟨h.a.z.grown hg (fun e => by injection e with e; omega), h.a.g.grown hg (fun e => by injection e with e; omega), ⟨h.a.c.oi.grown hg (fun k hk hA' => by injection hk with hk; exact hA k hA' hk.symm), h.a.c.oh.grown hg (fun k hk hB' => by injection hk with hk; exact hB k hB' hk.symm), h.a.c.ne⟩, ?_, h.a.s.grown hg (fun k hk => by injection hk with hk; omega), h3, h4, h5⟩, h.y.grown hg (fun e => by injection e with e; omega), h.v.grown hg (fun e => by injection e with e; omega), h1, h2, h6⟩
  exact (((h.a.r.setCell (by omega) _).setCell (by omega) _).setCell (by omega) _).setCell (by omega) _
end
set_option maxRecDepth 100000 in
set_option maxHeartbeats 4000000 in
theorem DrawGroupFinal_any (A : Option Addr) (n c : Nat) (bs : List Nat) (w : World) (h : RB w w.heap.size A n bs) (hn : n ≤ 1048576) (hnc : n ≤ c) (hc : c ≤ maxLen) :
    Calls Try.prog 15 #[.slice A n c] w (DrawnGMS w) := by
  have S0 := hid (((St.refl w).alloc (.cells (grC 0 0 none 0 0 none 0 0) 25)).alloc (.cells #[.int .i64 0, .int .i64 0] 32))
  have K0 := hid ((Blk.new w 25 (grC 0 0 none 0 0 none 0 0)).alloc (.cells #[.int .i64 0, .int .i64 0] 32))
  have Y0 := hid (blk_second w (.cells (grC 0 0 none 0 0 none 0 0) 25) 32 #[.int .i64 0, .int .i64 0])
  have h0 := (h.below S0.out).more S0.out.size
  have z0 := Y0.out.lt
  go_enter Try.func15, Try.ntmps15
  go_upto_region 1 with (fail)
  generalize (w.alloc (.cells (grC 0 0 none 0 0 none 0 0) 25)).alloc (.cells #[.int .i64 0, .int .i64 0] 32) = w0 at S0 K0 Y0 h0 z0 ⊢
  go_wp2_with fail
  refine (l6Open_any _ _ _ _ _ h0 hn hnc hc).mono ?_
  rintro e w1 ⟨rfl, hr1, b1⟩
  have z1 : w0.heap.size < w1.heap.size := hr1.lt
  have b1 : St w0 w1 := b1
  have S1 := hid (S0.out.trans b1)
  have K1 := hid (K0.out.below b1 K0.out.lt)
  have Y1 := hid (Y0.out.below b1 Y0.out.lt)
  clear b1 S0 K0 Y0 h0
  go_wp2_with fail
  refine (l91Group_any _ _ _ hr1 (by omega)).mono ?_
  rintro e w2 ⟨I2, J2, A2, n2, c2, B2, m2, d2, ps, ds, rfl, oc, hn2, hm2, hk2, hr2, hg2⟩
  have K2 := hid (K1.out.grown hg2 (by intro e; injection e with e; omega))
  have Y2 := hid (Y1.out.grown hg2 (by intro e; injection e with e; omega))
  have s2 := hid (S1.out.grown hg2 (fun k hk => by injection hk with hk; omega))
  have sa := (St.refl w2).alloc (.cells (grC I2 J2 A2 n2 c2 B2 m2 d2) 25)
  have D2 := hid (show GA w (w2.alloc (.cells (grC I2 J2 A2 n2 c2 B2 m2 d2) 25)) w0.heap.size (0 + 120) w2.heap.size w1.heap.size I2 J2 A2 n2 c2 B2 m2 d2 ps ds from
    ⟨K2.out.st sa, Blk.new w2 25 (grC I2 J2 A2 n2 c2 B2 m2 d2), oc.st sa, hr2.below sa hr2.lt, s2.out.trans sa, by omega, z1, hg2.size⟩)
  have Y3 := hid (Y2.out.st sa)
  clear oc hr2 hg2 K2 Y2 s2 sa K1 Y1 S1 hr1 z1
  go_upto_region 3 with (fail)
  generalize w2.alloc (.cells _ 25) = w3 at *
  generalize w2.heap.size = G at *
  generalize w1.heap.size = gb at *
  generalize w0.heap.size = R at *
  go_wp2_with fail
  refine (l91Message_any _ _ _ D2.out.r (by omega)).mono ?_
  rintro e w4 ⟨x, rfl, hr4, hg4⟩
  have D4 := hid (D2.out.pick hr4 hg4)
  have Y4 := hid (Y3.out.grown hg4 (by intro e; injection e with e; omega))
  clear D2 Y3 hr4 hg4
  go_wp2_with fail
  refine (l91Stamp_any _ _ _ D4.out.r (by omega)).mono ?_
  rintro e w5 ⟨t, g, rfl, hr5, hg5⟩
  have D5 := hid (D4.out.pick hr5 hg5)
  have Y5 := hid (Y4.out.grown hg5 (by intro e; injection e with e; omega))
  have sb := (St.refl w5).alloc (.cells #[.int .i64 t, .int .i64 g] 32)
  have D6 := hid (show GF w (w5.alloc (.cells #[.int .i64 t, .int .i64 g] 32)) R _ G gb w5.heap.size I2 J2 A2 n2 c2 B2 m2 d2 ps ds t g from
    ⟨⟨D5.out.z.st sb, D5.out.g.st sb, D5.out.c.st sb, D5.out.r.below sb D5.out.r.lt, D5.out.s.trans sb, D5.out.wR, D5.out.Rb, D5.out.bG⟩, Y5.out.st sb, Blk.new w5 32 #[.int .i64 t, .int .i64 g], z0, D5.out.r.lt, D5.out.g.lt⟩)
  clear D4 Y4 D5 Y5 sb hr5 hg5
  go_upto_region 5 with (fail)
  generalize w5.alloc (.cells _ 32) = w6 at *
  generalize w5.heap.size = V at *
  have hLen := hid D6.out.a.c.oi.se.len
  have hg2 := D6.out.a.g.cell_ (i := 2) (v := .slice A2 n2 c2) rfl
  by_cases hn0 : n2 = 0
  · have hn1 : ¬ (0 : Int) < (n2 : Int) := by omega
    clear hn0
    skip
    go_upto_region 11 with (fail)
    obtain ⟨f1, f2, f3, f4⟩ := pr_fin (I := I2) (K := J2) (t := t) (g := g) D6.out.a.z D6.out.y D6.out.a.c D6.out.a.s (Nat.le_refl _) (Nat.le_succ _) (Nat.ne_of_lt (Nat.lt_succ_self _))
    have HE := hid (GF.gd D6.out f3.out f4.out hn2 hm2 hk2 (by have h1 := D6.out.a.Rb; have h2 := D6.out.yR; omega))
    have hV1 : V ≠ w.heap.size := by have h1 := D6.out.Rv; have h2 := D6.out.yR; omega
    have hV2 : V ≠ w.heap.size + 1 := by have h1 := D6.out.Rv; have h2 := D6.out.yR; omega
    have hG1 : G ≠ w.heap.size := by have h1 := D6.out.a.bG; have h2 := D6.out.a.Rb; have h3 := D6.out.a.wR; omega
    have hG2 : G ≠ w.heap.size + 1 := by have h1 := D6.out.a.bG; have h2 := D6.out.a.Rb; have h3 := D6.out.yR; omega
    have y0 := D6.out.a.z.cell_ (i := 0) (v := .int .i64 0) rfl
    have y1 := D6.out.a.z.cell_ (i := 1) (v := .int .i64 0) rfl
    have y2 := D6.out.a.z.cell_ (i := 2) (v := .slice none 0 0) rfl
    have y3 := D6.out.a.z.cell_ (i := 3) (v := .slice none 0 0) rfl
    have yf0 := D6.out.a.z.frozen 0
    have yf1 := D6.out.a.z.frozen 1
    have yf2 := D6.out.a.z.frozen 2
    have yf3 := D6.out.a.z.frozen 3
    have h0 := D6.out.y.cell_ (i := 0) (v := .int .i64 0) rfl
    have h1 := D6.out.y.cell_ (i := 1) (v := .int .i64 0) rfl
    have hf0 := D6.out.y.frozen 0
    have hf1 := D6.out.y.frozen 1
    have v0 := D6.out.v.cell_ (i := 0) (v := .int .i64 t) rfl
    have v1 := D6.out.v.cell_ (i := 1) (v := .int .i64 g) rfl
    have g0 := D6.out.a.g.cell_ (i := 0) (v := .int .i64 I2) rfl
    have g1 := D6.out.a.g.cell_ (i := 1) (v := .int .i64 J2) rfl
    have g2 := D6.out.a.g.cell_ (i := 2) (v := .slice A2 n2 c2) rfl
    have g3 := D6.out.a.g.cell_ (i := 3) (v := .slice B2 m2 d2) rfl
    have r0 := f1.out.cell_ (i := 0) (v := .int .i64 I2) rfl
    have r1 := f1.out.cell_ (i := 1) (v := .int .i64 J2) rfl
    have r2 := f1.out.cell_ (i := 2) (v := .slice A2 n2 c2) rfl
    have r3 := f1.out.cell_ (i := 3) (v := .slice B2 m2 d2) rfl
    have u0 := f2.out.cell_ (i := 0) (v := .int .i64 t) rfl
    have u1 := f2.out.cell_ (i := 1) (v := .int .i64 g) rfl
    clear D6 f1 f2 f3 f4
    refine wp_region_held_drew (S := (fun w' => w'.cell? ⟨G, 0, none⟩ = some (.int .i64 I2) ∧ w'.cell? ⟨G, 1, none⟩ = some (.int .i64 J2) ∧ w'.cell? ⟨G, 2, none⟩ = some (.slice A2 n2 c2) ∧ w'.cell? ⟨G, 3, none⟩ = some (.slice B2 m2 d2) ∧ w'.cell? ⟨V, 0, none⟩ = some (.int .i64 t) ∧ w'.cell? ⟨V, 1, none⟩ = some (.int .i64 g))) (by kernel_rfl) ?_ (fun hH0 => ?_)
    · exact ⟨g0, g1, g2, g3, v0, v1⟩
    refine wpAnyH_take (i := 0) (oi := ⟨some 52, _, _, _, _, _⟩) (v := ?_) rfl (by kernel_rfl) (by kernel_rfl) (by kernel_rfl) (fun _ _ _ h => h) (Or.inl ⟨by rfl, ?_⟩) (by assumption) ?_
    rotate_left
    · (intro w hSw; (try dsimp only at hSw); go_simp; (try with_reducible rfl))
    (try simp only [Act.put, List.setIfInBounds_toArray, List.set_cons_zero, List.set_cons_succ])
    refine wpAnyH_take (i := 1) (oi := ⟨some 53, _, _, _, _, _⟩) (v := ?_) rfl (by kernel_rfl) (by kernel_rfl) (by kernel_rfl) (fun _ _ _ h => h) (Or.inl ⟨by rfl, ?_⟩) (by assumption) ?_
    rotate_left
    · (intro w hSw; (try dsimp only at hSw); go_simp; (try with_reducible rfl))
    (try simp only [Act.put, List.setIfInBounds_toArray, List.set_cons_zero, List.set_cons_succ])
    refine wpAnyH_take (i := 2) (oi := ⟨some 54, _, _, _, _, _⟩) (v := ?_) rfl (by kernel_rfl) (by kernel_rfl) (by kernel_rfl) (fun _ _ _ h => h) (Or.inl ⟨by rfl, ?_⟩) (by assumption) ?_
    rotate_left
    · (intro w hSw; (try dsimp only at hSw); go_simp; (try with_reducible rfl))
    (try simp only [Act.put, List.setIfInBounds_toArray, List.set_cons_zero, List.set_cons_succ])
    refine wpAnyH_ready (rs := [3]) (by kernel_rfl) (by simp) ?_
    refine AllReadyH.cons (o := ⟨none, _, _, _, _, _⟩) rfl (fun K hK => ?_) AllReadyH.nil
    go_simp
    (first | (refine hK.out _ _ ?_ (fun hH1 => ?_)) | (go_wp2_with fail; refine hK.out _ _ ?_ (fun hH1 => ?_)))
    · exact ⟨cell_drew (cell_setGr g0 hG1), cell_drew (cell_setGr g1 hG1), cell_drew (cell_setGr g2 hG1), cell_drew (cell_setGr g3 hG1), cell_drew (cell_setGr v0 hV1), cell_drew (cell_setGr v1 hV1)⟩
    clear hK K hH0
    (try simp only [Act.put, List.setIfInBounds_toArray, List.set_cons_zero, List.set_cons_succ])
    refine wpAnyH_take (i := 4) (oi := ⟨some 3, _, _, _, _, _⟩) (v := ?_) rfl (by kernel_rfl) (by kernel_rfl) (by kernel_rfl) (fun _ _ _ h => h) (Or.inl ⟨by rfl, ?_⟩) (by assumption) ?_
    rotate_left
    · (intro w hSw; (try dsimp only at hSw); go_simp; (try with_reducible rfl))
    (try simp only [Act.put, List.setIfInBounds_toArray, List.set_cons_zero, List.set_cons_succ])
    refine wpAnyH_ready (rs := [5]) (by kernel_rfl) (by simp) ?_
    refine AllReadyH.cons (o := ⟨none, _, _, _, _, _⟩) rfl (fun K hK => ?_) AllReadyH.nil
    go_simp
    (first | (refine hK.out _ _ ?_ (fun hH2 => ?_)) | (go_wp2_with fail; refine hK.out _ _ ?_ (fun hH2 => ?_)))
    · exact ⟨cell_drew (cell_setSt (cell_setGr g0 hG1) hG2), cell_drew (cell_setSt (cell_setGr g1 hG1) hG2), cell_drew (cell_setSt (cell_setGr g2 hG1) hG2), cell_drew (cell_setSt (cell_setGr g3 hG1) hG2), cell_drew (cell_setSt (cell_setGr v0 hV1) hV2), cell_drew (cell_setSt (cell_setGr v1 hV1) hV2)⟩
    clear hK K hH1
    (try simp only [Act.put, List.setIfInBounds_toArray, List.set_cons_zero, List.set_cons_succ])
    refine wpAnyH_done (by kernel_rfl) ?_ _
    clear hH2
    go_wp2_with fail
    refine bodyPost_ret (v := .tuple #[grV I2 J2 A2 n2 c2 B2 m2 d2, .int .i64 x, .agg #[.int .i64 t, .int .i64 g]]) (by simp [results, Try.results15, go_sem, r0, r1, r2, r3, u0, u1]) rfl ⟨_, _, _, _, _, _, _, _, _, _, _, _, _, rfl, HE.out.drw⟩
  have hn0 : 0 < n2 := by omega
  have hn1 : (0 : Int) < (n2 : Int) := by omega
  go_wp2_with fail
  refine (pick_any _ _ _ _ D6.out.a.r (by omega) (by omega) (by omega)).mono ?_
  rintro e w7 ⟨p1, rfl, hp, hr7, hg7⟩
  have D7 := hid (D6.out.pick hr7 hg7)
  have hp1 := hp.1
  clear D6 hg2 hp hr7 hg7
  by_cases hp0 : 0 < p1
  rotate_left
  · skip
    skip
    go_upto_region 11 with (fail)
    obtain ⟨f1, f2, f3, f4⟩ := pr_fin (I := I2) (K := J2) (t := t) (g := g) D7.out.a.z D7.out.y D7.out.a.c D7.out.a.s (Nat.le_refl _) (Nat.le_succ _) (Nat.ne_of_lt (Nat.lt_succ_self _))
    have HE := hid (GF.gd D7.out f3.out f4.out hn2 hm2 hk2 (by have h1 := D7.out.a.Rb; have h2 := D7.out.yR; omega))
    have hV1 : V ≠ w.heap.size := by have h1 := D7.out.Rv; have h2 := D7.out.yR; omega
    have hV2 : V ≠ w.heap.size + 1 := by have h1 := D7.out.Rv; have h2 := D7.out.yR; omega
    have hG1 : G ≠ w.heap.size := by have h1 := D7.out.a.bG; have h2 := D7.out.a.Rb; have h3 := D7.out.a.wR; omega
    have hG2 : G ≠ w.heap.size + 1 := by have h1 := D7.out.a.bG; have h2 := D7.out.a.Rb; have h3 := D7.out.yR; omega
    have y0 := D7.out.a.z.cell_ (i := 0) (v := .int .i64 0) rfl
    have y1 := D7.out.a.z.cell_ (i := 1) (v := .int .i64 0) rfl
    have y2 := D7.out.a.z.cell_ (i := 2) (v := .slice none 0 0) rfl
    have y3 := D7.out.a.z.cell_ (i := 3) (v := .slice none 0 0) rfl
    have yf0 := D7.out.a.z.frozen 0
    have yf1 := D7.out.a.z.frozen 1
    have yf2 := D7.out.a.z.frozen 2
    have yf3 := D7.out.a.z.frozen 3
    have h0 := D7.out.y.cell_ (i := 0) (v := .int .i64 0) rfl
    have h1 := D7.out.y.cell_ (i := 1) (v := .int .i64 0) rfl
    have hf0 := D7.out.y.frozen 0
    have hf1 := D7.out.y.frozen 1
    have v0 := D7.out.v.cell_ (i := 0) (v := .int .i64 t) rfl
    have v1 := D7.out.v.cell_ (i := 1) (v := .int .i64 g) rfl
    have g0 := D7.out.a.g.cell_ (i := 0) (v := .int .i64 I2) rfl
    have g1 := D7.out.a.g.cell_ (i := 1) (v := .int .i64 J2) rfl
    have g2 := D7.out.a.g.cell_ (i := 2) (v := .slice A2 n2 c2) rfl
    have g3 := D7.out.a.g.cell_ (i := 3) (v := .slice B2 m2 d2) rfl
    have r0 := f1.out.cell_ (i := 0) (v := .int .i64 I2) rfl
    have r1 := f1.out.cell_ (i := 1) (v := .int .i64 J2) rfl
    have r2 := f1.out.cell_ (i := 2) (v := .slice A2 n2 c2) rfl
    have r3 := f1.out.cell_ (i := 3) (v := .slice B2 m2 d2) rfl
    have u0 := f2.out.cell_ (i := 0) (v := .int .i64 t) rfl
    have u1 := f2.out.cell_ (i := 1) (v := .int .i64 g) rfl
    clear D7 f1 f2 f3 f4
    refine wp_region_held_drew (S := (fun w' => w'.cell? ⟨G, 0, none⟩ = some (.int .i64 I2) ∧ w'.cell? ⟨G, 1, none⟩ = some (.int .i64 J2) ∧ w'.cell? ⟨G, 2, none⟩ = some (.slice A2 n2 c2) ∧ w'.cell? ⟨G, 3, none⟩ = some (.slice B2 m2 d2) ∧ w'.cell? ⟨V, 0, none⟩ = some (.int .i64 t) ∧ w'.cell? ⟨V, 1, none⟩ = some (.int .i64 g))) (by kernel_rfl) ?_ (fun hH0 => ?_)
    · exact ⟨g0, g1, g2, g3, v0, v1⟩
    refine wpAnyH_take (i := 0) (oi := ⟨some 52, _, _, _, _, _⟩) (v := ?_) rfl (by kernel_rfl) (by kernel_rfl) (by kernel_rfl) (fun _ _ _ h => h) (Or.inl ⟨by rfl, ?_⟩) (by assumption) ?_
    rotate_left
    · (intro w hSw; (try dsimp only at hSw); go_simp; (try with_reducible rfl))
    (try simp only [Act.put, List.setIfInBounds_toArray, List.set_cons_zero, List.set_cons_succ])
    refine wpAnyH_take (i := 1) (oi := ⟨some 53, _, _, _, _, _⟩) (v := ?_) rfl (by kernel_rfl) (by kernel_rfl) (by kernel_rfl) (fun _ _ _ h => h) (Or.inl ⟨by rfl, ?_⟩) (by assumption) ?_
    rotate_left
    · (intro w hSw; (try dsimp only at hSw); go_simp; (try with_reducible rfl))
    (try simp only [Act.put, List.setIfInBounds_toArray, List.set_cons_zero, List.set_cons_succ])
    refine wpAnyH_take (i := 2) (oi := ⟨some 54, _, _, _, _, _⟩) (v := ?_) rfl (by kernel_rfl) (by kernel_rfl) (by kernel_rfl) (fun _ _ _ h => h) (Or.inl ⟨by rfl, ?_⟩) (by assumption) ?_
    rotate_left
    · (intro w hSw; (try dsimp only at hSw); go_simp; (try with_reducible rfl))
    (try simp only [Act.put, List.setIfInBounds_toArray, List.set_cons_zero, List.set_cons_succ])
    refine wpAnyH_ready (rs := [3]) (by kernel_rfl) (by simp) ?_
    refine AllReadyH.cons (o := ⟨none, _, _, _, _, _⟩) rfl (fun K hK => ?_) AllReadyH.nil
    go_simp
    (first | (refine hK.out _ _ ?_ (fun hH1 => ?_)) | (go_wp2_with fail; refine hK.out _ _ ?_ (fun hH1 => ?_)))
    · exact ⟨cell_drew (cell_setGr g0 hG1), cell_drew (cell_setGr g1 hG1), cell_drew (cell_setGr g2 hG1), cell_drew (cell_setGr g3 hG1), cell_drew (cell_setGr v0 hV1), cell_drew (cell_setGr v1 hV1)⟩
    clear hK K hH0
    (try simp only [Act.put, List.setIfInBounds_toArray, List.set_cons_zero, List.set_cons_succ])
    refine wpAnyH_take (i := 4) (oi := ⟨some 3, _, _, _, _, _⟩) (v := ?_) rfl (by kernel_rfl) (by kernel_rfl) (by kernel_rfl) (fun _ _ _ h => h) (Or.inl ⟨by rfl, ?_⟩) (by assumption) ?_
    rotate_left
    · (intro w hSw; (try dsimp only at hSw); go_simp; (try with_reducible rfl))
    (try simp only [Act.put, List.setIfInBounds_toArray, List.set_cons_zero, List.set_cons_succ])
    refine wpAnyH_ready (rs := [5]) (by kernel_rfl) (by simp) ?_
    refine AllReadyH.cons (o := ⟨none, _, _, _, _, _⟩) rfl (fun K hK => ?_) AllReadyH.nil
    go_simp
    (first | (refine hK.out _ _ ?_ (fun hH2 => ?_)) | (go_wp2_with fail; refine hK.out _ _ ?_ (fun hH2 => ?_)))
    · exact ⟨cell_drew (cell_setSt (cell_setGr g0 hG1) hG2), cell_drew (cell_setSt (cell_setGr g1 hG1) hG2), cell_drew (cell_setSt (cell_setGr g2 hG1) hG2), cell_drew (cell_setSt (cell_setGr g3 hG1) hG2), cell_drew (cell_setSt (cell_setGr v0 hV1) hV2), cell_drew (cell_setSt (cell_setGr v1 hV1) hV2)⟩
    clear hK K hH1
    (try simp only [Act.put, List.setIfInBounds_toArray, List.set_cons_zero, List.set_cons_succ])
    refine wpAnyH_done (by kernel_rfl) ?_ _
    clear hH2
    go_wp2_with fail
    refine bodyPost_ret (v := .tuple #[grV I2 J2 A2 n2 c2 B2 m2 d2, .int .i64 x, .agg #[.int .i64 t, .int .i64 g]]) (by simp [results, Try.results15, go_sem, r0, r1, r2, r3, u0, u1]) rfl ⟨_, _, _, _, _, _, _, _, _, _, _, _, _, rfl, HE.out.drw⟩
  obtain ⟨b, _, _, _, _, rfl, _, hbl, _⟩ := D7.out.a.c.oi.at_ hn0
  have D7a := hid (D7.out.st (((St.refl w7).alloc (.cells #[.int .i64 0, .int .i64 0, .int .i64 0, .bool false] 34)).drew))
  have NA := hid ((Blk.new w7 34 #[.int .i64 0, .int .i64 0, .int .i64 0, .bool false]).dr (w' := (w7.alloc (.cells #[.int .i64 0, .int .i64 0, .int .i64 0, .bool false] 34)).drew) ⟨1, rfl⟩)
  have D7b := hid (D7.out.st (Dr.st ⟨1, rfl⟩ : St w7 w7.drew))
  have hE1 : R < w7.heap.size := D7.out.a.r.lt
  have hE2 : V < w7.heap.size := D7.out.v.lt
  have hE3 : ∀ k, blockOf (some (⟨b, 0, none⟩ : Addr)) = some k → k ≠ w7.heap.size := fun k hk => by have := (D7.out.a.c.oi.lt k hk).2; omega
  have hE4 : ∀ k, blockOf B2 = some k → k ≠ w7.heap.size := fun k hk => by have := (D7.out.a.c.oh.lt k hk).2; omega
  have HE3 := hid hE3
  have HE4 := hid hE4
  have g2 := D7.out.a.g.cell_ (i := 2) (v := .slice (some ⟨b, 0, none⟩) n2 c2) rfl
  clear hE3 hE4
  go_upto_region 6 with (fail)
  go_cut [9] (fun s9 wx => ∃ (E L' : Nat) (m' t' g' : Int) (f' : Bool), s9 = .pointer (some ⟨E, 0, none⟩) ∧ L' ≤ 200 ∧ V < E ∧ Hid (Blk wx E 34 #[.int .i64 m', .int .i64 t', .int .i64 g', .bool f']) ∧ Hid (GF w wx R L' G gb V I2 J2 (some ⟨b, 0, none⟩) n2 c2 B2 m2 d2 ps ds t g))
  case first =>
    refine wp_region_held_drew (S := (fun w' => w'.cell? ⟨G, 2, none⟩ = some (.slice (some ⟨b, 0, none⟩) n2 c2))) (by kernel_rfl) ?_ (fun hH0 => ?_)
    · exact g2
    refine wpAnyH_take (i := 0) (oi := ⟨some 27, _, _, _, _, _⟩) (v := ?_) rfl (by kernel_rfl) (by kernel_rfl) (by kernel_rfl) (fun _ _ _ h => h) (Or.inl ⟨by rfl, ?_⟩) (by assumption) ?_
    rotate_left
    · (intro w hSw; (try dsimp only at hSw); go_simp; (try with_reducible rfl))
    (try simp only [Act.put, List.setIfInBounds_toArray, List.set_cons_zero, List.set_cons_succ])
    refine wpAnyH_take (i := 1) (oi := ⟨some 28, _, _, _, _, _⟩) (v := ?_) rfl (by kernel_rfl) (by kernel_rfl) (by kernel_rfl) (fun _ _ _ h => h) (Or.inl ⟨by rfl, ?_⟩) (by assumption) ?_
    rotate_left
    · (intro w hSw; (try dsimp only at hSw); go_simp; (try with_reducible rfl))
    (try simp only [Act.put, List.setIfInBounds_toArray, List.set_cons_zero, List.set_cons_succ])
    refine wpAnyH_take (i := 2) (oi := ⟨some 29, _, _, _, _, _⟩) (v := ?_) rfl (by kernel_rfl) (by kernel_rfl) (by kernel_rfl) (fun _ _ _ h => h) (Or.inl ⟨by rfl, ?_⟩) (by assumption) ?_
    rotate_left
    · (intro w hSw; (try dsimp only at hSw); go_simp; (try with_reducible rfl))
    (try simp only [Act.put, List.setIfInBounds_toArray, List.set_cons_zero, List.set_cons_succ])
    refine wpAnyH_take (i := 3) (oi := ⟨some 30, _, _, _, _, _⟩) (v := ?_) rfl (by kernel_rfl) (by kernel_rfl) (by kernel_rfl) (fun _ _ _ h => h) (Or.inl ⟨by rfl, ?_⟩) (by assumption) ?_
    rotate_left
    · (intro w hSw; (try dsimp only at hSw); go_simp; (try with_reducible rfl))
    (try simp only [Act.put, List.setIfInBounds_toArray, List.set_cons_zero, List.set_cons_succ])
    refine wpAnyH_take (i := 4) (oi := ⟨some 31, _, _, _, _, _⟩) (v := ?_) rfl (by kernel_rfl) (by kernel_rfl) (by kernel_rfl) (fun _ _ _ h => h) (Or.inl ⟨by rfl, ?_⟩) (by assumption) ?_
    rotate_left
    · (intro w hSw; (try dsimp only at hSw); go_simp; (try with_reducible rfl))
    (try simp only [Act.put, List.setIfInBounds_toArray, List.set_cons_zero, List.set_cons_succ])
    refine wpAnyH_take (i := 5) (oi := ⟨some 32, _, _, _, _, _⟩) (v := ?_) rfl (by kernel_rfl) (by kernel_rfl) (by kernel_rfl) (fun _ _ _ h => h) (Or.inl ⟨by rfl, ?_⟩) (by assumption) ?_
    rotate_left
    · (intro w hSw; (try dsimp only at hSw); go_simp; (try with_reducible rfl))
    (try simp only [Act.put, List.setIfInBounds_toArray, List.set_cons_zero, List.set_cons_succ])
    refine wpAnyH_ready (rs := [6, 9]) (by kernel_rfl) (by simp) ?_
    refine AllReadyH.cons (o := ⟨some 33, _, _, _, _, _⟩) rfl (fun K hK => ?_) ?_
    · skip
      go_simp
      (go_at_call 46; (with_reducible refine (pick_any _ _ _ _ D7b.out.a.r (by omega) (by omega) (by omega)).mono ?_); rintro e w8 ⟨p2, rfl, hq, hr8, hg8⟩; have hq1 := hq.1; have hq2 := hq.2.1 (by omega); have D8 := hid (D7b.out.pick hr8 hg8); (try have N9 := hid (N7.out.grown hg8 (by intro e; injection e with e; omega))); (try (have n0 := N9.out.cell_ (i := 0) (v := .int .i64 0) rfl; have n1 := N9.out.cell_ (i := 1) (v := .int .i64 0) rfl; have n2_ := N9.out.cell_ (i := 2) (v := .int .i64 0) rfl; have n3 := N9.out.cell_ (i := 3) (v := .bool false) rfl; have nf0 := N9.out.frozen 0; have nf1 := N9.out.frozen 1; have nf2 := N9.out.frozen 2; have nf3 := N9.out.frozen 3)); obtain ⟨i, rfl⟩ : ∃ i : Nat, p2 = (i : Int) := ⟨p2.toNat, by omega⟩; obtain ⟨b', m', t', g', f', hbe, _, hbl8, _, hea, _, _⟩ := D8.out.a.c.oi.at_ (k := i) (by omega); injection hbe with hbe; injection hbe with hbe; subst hbe; have z0 := hea.c0; have z1 := hea.c1; have z2 := hea.c2; have z3 := hea.c3; have hi0 : (0 : Int) ≤ (i : Int) := (by omega); have hi1 : (i : Int) < (n2 : Int) := (by omega); have D11v := D8.out.v.lt; clear hq hr8 hg8 hea)
      (first | (refine hK.out _ _ ?_ (fun hH1 => ?_)) | (go_wp2_with fail; refine hK.out _ _ ?_ (fun hH1 => ?_)))
      · exact D8.out.a.g.cell_ (i := 2) (v := .slice (some ⟨b, 0, none⟩) n2 c2) rfl
      clear hK K hH0
      (try simp only [Act.put, List.setIfInBounds_toArray, List.set_cons_zero, List.set_cons_succ])
      refine wpAnyH_take (i := 7) (oi := ⟨some 34, _, _, _, _, _⟩) (v := ?_) rfl (by kernel_rfl) (by kernel_rfl) (by kernel_rfl) (fun _ _ _ h => h) (Or.inl ⟨by rfl, ?_⟩) (by assumption) ?_
      rotate_left
      · (intro w hSw; (try dsimp only at hSw); go_simp; (try with_reducible rfl))
      (try simp only [Act.put, List.setIfInBounds_toArray, List.set_cons_zero, List.set_cons_succ])
      refine wpAnyH_ready (rs := [8, 9]) (by kernel_rfl) (by simp) ?_
      refine AllReadyH.cons (o := ⟨some 35, _, _, _, _, _⟩) rfl (fun K hK => ?_) ?_
      · skip
        go_simp
        (first | (refine hK.out _ _ ?_ (fun hH2 => ?_)) | (go_wp2_with fail; refine hK.out _ _ ?_ (fun hH2 => ?_)))
        · exact D8.out.a.g.cell_ (i := 2) (v := .slice (some ⟨b, 0, none⟩) n2 c2) rfl
        clear hK K hH1
        (try simp only [Act.put, List.setIfInBounds_toArray, List.set_cons_zero, List.set_cons_succ])
        refine wpAnyH_ready (rs := [9]) (by kernel_rfl) (by simp) ?_
        refine AllReadyH.cons (o := ⟨some 9, _, _, _, _, _⟩) rfl (fun K hK => ?_) AllReadyH.nil
        (go_simp; have N9 := hid (Blk.new w8 34 #[.int .i64 0, .int .i64 0, .int .i64 0, .bool false]); (have n0 := N9.out.cell_ (i := 0) (v := .int .i64 0) rfl; have n1 := N9.out.cell_ (i := 1) (v := .int .i64 0) rfl; have n2_ := N9.out.cell_ (i := 2) (v := .int .i64 0) rfl; have n3 := N9.out.cell_ (i := 3) (v := .bool false) rfl; have nf0 := N9.out.frozen 0; have nf1 := N9.out.frozen 1; have nf2 := N9.out.frozen 2; have nf3 := N9.out.frozen 3); have B11 := hid (Blk.new w8 34 #[.int .i64 m', .int .i64 t', .int .i64 g', .bool f']); have D11 := hid (D8.out.st ((St.refl w8).alloc (.cells #[.int .i64 m', .int .i64 t', .int .i64 g', .bool f'] 34))); have s10 := (St.refl w8).alloc (.cells #[.int .i64 0, .int .i64 0, .int .i64 0, .bool false] 34); have D8 := hid (D8.out.st s10); have z0 := s10.cell z0; have z1 := s10.cell z1; have z2 := s10.cell z2; have z3 := s10.cell z3; clear s10)
        (first | (refine hK.out _ _ ?_ (fun hH3 => ?_)) | (go_wp2_with fail; refine hK.out _ _ ?_ (fun hH3 => ?_)))
        · exact D8.out.a.g.cell_ (i := 2) (v := .slice (some ⟨b, 0, none⟩) n2 c2) rfl
        clear hK K hH2
        (try simp only [Act.put, List.setIfInBounds_toArray, List.set_cons_zero, List.set_cons_succ])
        refine wpAnyH_ready (rs := [10]) (by kernel_rfl) (by simp) ?_
        refine AllReadyH.cons (o := ⟨none, _, _, _, _, _⟩) rfl (fun K hK => ?_) AllReadyH.nil
        go_simp
        (first | (refine hK.out _ _ ?_ (fun hH4 => ?_)) | (go_wp2_with fail; refine hK.out _ _ ?_ (fun hH4 => ?_)))
        · exact D11.out.a.g.cell_ (i := 2) (v := .slice (some ⟨b, 0, none⟩) n2 c2) rfl
        clear hK K hH3
        (try simp only [Act.put, List.setIfInBounds_toArray, List.set_cons_zero, List.set_cons_succ])
        refine wpAnyH_done (by kernel_rfl) ?_ _
        clear hH4
        have HVE := hid (show V < w8.heap.size from D11v)
        go_wp2_with fail
        go_meet
        exact ⟨_, _, m', t', g', f', rfl, by omega, HVE.out, B11, D11⟩
      refine AllReadyH.cons (o := ⟨some 9, _, _, _, _, _⟩) rfl (fun K hK => ?_) ?_
      · skip
        (go_simp; have N9 := hid (Blk.new w8 34 #[.int .i64 0, .int .i64 0, .int .i64 0, .bool false]); (have n0 := N9.out.cell_ (i := 0) (v := .int .i64 0) rfl; have n1 := N9.out.cell_ (i := 1) (v := .int .i64 0) rfl; have n2_ := N9.out.cell_ (i := 2) (v := .int .i64 0) rfl; have n3 := N9.out.cell_ (i := 3) (v := .bool false) rfl; have nf0 := N9.out.frozen 0; have nf1 := N9.out.frozen 1; have nf2 := N9.out.frozen 2; have nf3 := N9.out.frozen 3); have B11 := hid (Blk.new w8 34 #[.int .i64 m', .int .i64 t', .int .i64 g', .bool f']); have D11 := hid (D8.out.st ((St.refl w8).alloc (.cells #[.int .i64 m', .int .i64 t', .int .i64 g', .bool f'] 34))); have s10 := (St.refl w8).alloc (.cells #[.int .i64 0, .int .i64 0, .int .i64 0, .bool false] 34); have D8 := hid (D8.out.st s10); have z0 := s10.cell z0; have z1 := s10.cell z1; have z2 := s10.cell z2; have z3 := s10.cell z3; clear s10)
        (first | (refine hK.out _ _ ?_ (fun hH2 => ?_)) | (go_wp2_with fail; refine hK.out _ _ ?_ (fun hH2 => ?_)))
        · exact D8.out.a.g.cell_ (i := 2) (v := .slice (some ⟨b, 0, none⟩) n2 c2) rfl
        clear hK K hH1
        (try simp only [Act.put, List.setIfInBounds_toArray, List.set_cons_zero, List.set_cons_succ])
        refine wpAnyH_ready (rs := [8]) (by kernel_rfl) (by simp) ?_
        refine AllReadyH.cons (o := ⟨some 35, _, _, _, _, _⟩) rfl (fun K hK => ?_) AllReadyH.nil
        go_simp
        (first | (refine hK.out _ _ ?_ (fun hH3 => ?_)) | (go_wp2_with fail; refine hK.out _ _ ?_ (fun hH3 => ?_)))
        · exact D8.out.a.g.cell_ (i := 2) (v := .slice (some ⟨b, 0, none⟩) n2 c2) rfl
        clear hK K hH2
        (try simp only [Act.put, List.setIfInBounds_toArray, List.set_cons_zero, List.set_cons_succ])
        refine wpAnyH_ready (rs := [10]) (by kernel_rfl) (by simp) ?_
        refine AllReadyH.cons (o := ⟨none, _, _, _, _, _⟩) rfl (fun K hK => ?_) AllReadyH.nil
        go_simp
        (first | (refine hK.out _ _ ?_ (fun hH4 => ?_)) | (go_wp2_with fail; refine hK.out _ _ ?_ (fun hH4 => ?_)))
        · exact D11.out.a.g.cell_ (i := 2) (v := .slice (some ⟨b, 0, none⟩) n2 c2) rfl
        clear hK K hH3
        (try simp only [Act.put, List.setIfInBounds_toArray, List.set_cons_zero, List.set_cons_succ])
        refine wpAnyH_done (by kernel_rfl) ?_ _
        clear hH4
        have HVE := hid (show V < w8.heap.size from D11v)
        go_wp2_with fail
        go_meet
        exact ⟨_, _, m', t', g', f', rfl, by omega, HVE.out, B11, D11⟩
      exact AllReadyH.nil
    refine AllReadyH.cons (o := ⟨some 9, _, _, _, _, _⟩) rfl (fun K hK => ?_) ?_
    · skip
      (go_simp; have D7b := D7a; have N7 := NA)
      (first | (refine hK.out _ _ ?_ (fun hH1 => ?_)) | (go_wp2_with fail; refine hK.out _ _ ?_ (fun hH1 => ?_)))
      · exact D7b.out.a.g.cell_ (i := 2) (v := .slice (some ⟨b, 0, none⟩) n2 c2) rfl
      clear hK K hH0
      (try simp only [Act.put, List.setIfInBounds_toArray, List.set_cons_zero, List.set_cons_succ])
      refine wpAnyH_ready (rs := [6]) (by kernel_rfl) (by simp) ?_
      refine AllReadyH.cons (o := ⟨some 33, _, _, _, _, _⟩) rfl (fun K hK => ?_) AllReadyH.nil
      go_simp
      (go_at_call 46; (with_reducible refine (pick_any _ _ _ _ D7b.out.a.r (by omega) (by omega) (by omega)).mono ?_); rintro e w8 ⟨p2, rfl, hq, hr8, hg8⟩; have hq1 := hq.1; have hq2 := hq.2.1 (by omega); have D8 := hid (D7b.out.pick hr8 hg8); (try have N9 := hid (N7.out.grown hg8 (by intro e; injection e with e; omega))); (try (have n0 := N9.out.cell_ (i := 0) (v := .int .i64 0) rfl; have n1 := N9.out.cell_ (i := 1) (v := .int .i64 0) rfl; have n2_ := N9.out.cell_ (i := 2) (v := .int .i64 0) rfl; have n3 := N9.out.cell_ (i := 3) (v := .bool false) rfl; have nf0 := N9.out.frozen 0; have nf1 := N9.out.frozen 1; have nf2 := N9.out.frozen 2; have nf3 := N9.out.frozen 3)); obtain ⟨i, rfl⟩ : ∃ i : Nat, p2 = (i : Int) := ⟨p2.toNat, by omega⟩; obtain ⟨b', m', t', g', f', hbe, _, hbl8, _, hea, _, _⟩ := D8.out.a.c.oi.at_ (k := i) (by omega); injection hbe with hbe; injection hbe with hbe; subst hbe; have z0 := hea.c0; have z1 := hea.c1; have z2 := hea.c2; have z3 := hea.c3; have hi0 : (0 : Int) ≤ (i : Int) := (by omega); have hi1 : (i : Int) < (n2 : Int) := (by omega); have D11v := D8.out.v.lt; clear hq hr8 hg8 hea)
      (first | (refine hK.out _ _ ?_ (fun hH2 => ?_)) | (go_wp2_with fail; refine hK.out _ _ ?_ (fun hH2 => ?_)))
      · exact D8.out.a.g.cell_ (i := 2) (v := .slice (some ⟨b, 0, none⟩) n2 c2) rfl
      clear hK K hH1
      (try simp only [Act.put, List.setIfInBounds_toArray, List.set_cons_zero, List.set_cons_succ])
      refine wpAnyH_take (i := 7) (oi := ⟨some 34, _, _, _, _, _⟩) (v := ?_) rfl (by kernel_rfl) (by kernel_rfl) (by kernel_rfl) (fun _ _ _ h => h) (Or.inl ⟨by rfl, ?_⟩) (by assumption) ?_
      rotate_left
      · (intro w hSw; (try dsimp only at hSw); go_simp; (try with_reducible rfl))
      (try simp only [Act.put, List.setIfInBounds_toArray, List.set_cons_zero, List.set_cons_succ])
      refine wpAnyH_ready (rs := [8]) (by kernel_rfl) (by simp) ?_
      refine AllReadyH.cons (o := ⟨some 35, _, _, _, _, _⟩) rfl (fun K hK => ?_) AllReadyH.nil
      go_simp
      (first | (refine hK.out _ _ ?_ (fun hH3 => ?_)) | (go_wp2_with fail; refine hK.out _ _ ?_ (fun hH3 => ?_)))
      · exact D8.out.a.g.cell_ (i := 2) (v := .slice (some ⟨b, 0, none⟩) n2 c2) rfl
      clear hK K hH2
      (try simp only [Act.put, List.setIfInBounds_toArray, List.set_cons_zero, List.set_cons_succ])
      refine wpAnyH_ready (rs := [10]) (by kernel_rfl) (by simp) ?_
      refine AllReadyH.cons (o := ⟨none, _, _, _, _, _⟩) rfl (fun K hK => ?_) AllReadyH.nil
      go_simp
      (first | (refine hK.out _ _ ?_ (fun hH4 => ?_)) | (go_wp2_with fail; refine hK.out _ _ ?_ (fun hH4 => ?_)))
      · exact (GF.setE0 D8.out hE2 HE3.out HE4.out m' t' g' f').a.g.cell_ (i := 2) (v := .slice (some ⟨b, 0, none⟩) n2 c2) rfl
      clear hK K hH3
      (try simp only [Act.put, List.setIfInBounds_toArray, List.set_cons_zero, List.set_cons_succ])
      refine wpAnyH_done (by kernel_rfl) ?_ _
      clear hH4
      have HVE := hid hE2
      have D11 := hid (GF.setE0 D8.out hE2 HE3.out HE4.out m' t' g' f')
      have B11 := hid ((((N9.out.set_ 0 (.int .i64 m')).set_ 1 (.int .i64 t')).set_ 2 (.int .i64 g')).set_ 3 (.bool f'))
      go_wp2_with fail
      go_meet
      exact ⟨_, _, m', t', g', f', rfl, by omega, HVE.out, B11, D11⟩
    exact AllReadyH.nil
  case rest =>
  obtain ⟨E, L', m', t', g', f', rfl, hL', hVE, NB, D⟩ := hcut
  have hER : E ≠ R := by have := D.out.Rv; omega
  have hEV : E ≠ V := by omega
  clear D7 D7a D7b NA HE3 HE4 hE1 hE2 hbl g2
  have e0 := NB.out.cell_ (i := 0) (v := .int .i64 m') rfl
  go_wp2_with fail
  refine (pick_any _ _ _ _ D.out.a.r (by omega) (by omega) (by omega)).mono ?_
  rintro e w9 ⟨p3, rfl, hp, hr9, hg9⟩
  have hp3 := hp.1
  have D9 := hid (D.out.pick hr9 hg9)
  have NB9 := hid (NB.out.grown hg9 (by intro e; injection e with e; exact hER e))
  clear D NB hp hr9 hg9 e0
  have e0 := NB9.out.cell_ (i := 0) (v := .int .i64 m') rfl
  have e1 := NB9.out.cell_ (i := 1) (v := .int .i64 t') rfl
  have e2 := NB9.out.cell_ (i := 2) (v := .int .i64 g') rfl
  have e3 := NB9.out.cell_ (i := 3) (v := .bool f') rfl
  by_cases hp5 : 0 < p3
  · go_upto_region 9 with (fail)
    have D9b := hid (D9.out.st (Dr.st ⟨1, rfl⟩ : St w9 w9.drew))
    go_cut [] (fun wx => ∃ (L2 : Nat) (tt gg : Int), Hid (GF w wx R L2 G gb V I2 J2 (some ⟨b, 0, none⟩) n2 c2 B2 m2 d2 ps ds tt gg))
    case first =>
      refine wp_region_held_drew (S := (fun w' => w'.cell? ⟨E, 1, none⟩ = some (.int .i64 t'))) (by kernel_rfl) ?_ (fun hH0 => ?_)
      · exact e1
      refine wpAnyH_take (i := 0) (oi := ⟨some 41, _, _, _, _, _⟩) (v := ?_) rfl (by kernel_rfl) (by kernel_rfl) (by kernel_rfl) (fun _ _ _ h => h) (Or.inl ⟨by rfl, ?_⟩) (by assumption) ?_
      rotate_left
      · (intro w hSw; (try dsimp only at hSw); go_simp; (try with_reducible rfl))
      (try simp only [Act.put, List.setIfInBounds_toArray, List.set_cons_zero, List.set_cons_succ])
      refine wpAnyH_take (i := 1) (oi := ⟨some 42, _, _, _, _, _⟩) (v := ?_) rfl (by kernel_rfl) (by kernel_rfl) (by kernel_rfl) (fun _ _ _ h => h) (Or.inl ⟨by rfl, ?_⟩) (by assumption) ?_
      rotate_left
      · (intro w hSw; (try dsimp only at hSw); go_simp; (try with_reducible rfl))
      (try simp only [Act.put, List.setIfInBounds_toArray, List.set_cons_zero, List.set_cons_succ])
      refine wpAnyH_take (i := 2) (oi := ⟨some 43, _, _, _, _, _⟩) (v := ?_) rfl (by kernel_rfl) (by kernel_rfl) (by kernel_rfl) (fun _ _ _ h => h) (Or.inl ⟨by rfl, ?_⟩) (by assumption) ?_
      rotate_left
      · (intro w hSw; (try dsimp only at hSw); go_simp; (try with_reducible rfl))
      (try simp only [Act.put, List.setIfInBounds_toArray, List.set_cons_zero, List.set_cons_succ])
      refine wpAnyH_take (i := 3) (oi := ⟨some 44, _, _, _, _, _⟩) (v := ?_) rfl (by kernel_rfl) (by kernel_rfl) (by kernel_rfl) (fun _ _ _ h => h) (Or.inl ⟨by rfl, ?_⟩) (by assumption) ?_
      rotate_left
      · (intro w hSw; (try dsimp only at hSw); go_simp; (try with_reducible rfl))
      (try simp only [Act.put, List.setIfInBounds_toArray, List.set_cons_zero, List.set_cons_succ])
      refine wpAnyH_take (i := 6) (oi := ⟨some 47, _, _, _, _, _⟩) (v := ?_) rfl (by kernel_rfl) (by kernel_rfl) (by kernel_rfl) (fun _ _ _ h => h) (Or.inl ⟨by rfl, ?_⟩) (by assumption) ?_
      rotate_left
      · (intro w hSw; (try dsimp only at hSw); go_simp; (try with_reducible rfl))
      (try simp only [Act.put, List.setIfInBounds_toArray, List.set_cons_zero, List.set_cons_succ])
      refine wpAnyH_ready (rs := [4]) (by kernel_rfl) (by simp) ?_
      refine AllReadyH.cons (o := ⟨some 45, _, _, _, _, _⟩) rfl (fun K hK => ?_) AllReadyH.nil
      go_simp
      (go_at_call 46; (with_reducible refine (pick_any _ _ _ _ D9b.out.a.r (by omega) (by omega) (by omega)).mono ?_); rintro e w10 ⟨p4, rfl, hq, hr10, hg10⟩; have D10 := hid (D9b.out.pick hr10 hg10); have N10 := hid ((NB9.out.dr (w' := w9.drew) ⟨1, rfl⟩).grown hg10 (by intro e; injection e with e; exact hER e)); have e1 := N10.out.cell_ (i := 1) (v := .int .i64 t') rfl; clear hq hr10 hg10)
      (first | (refine hK.out _ _ ?_ (fun hH1 => ?_)) | (go_wp2_with fail; refine hK.out _ _ ?_ (fun hH1 => ?_)))
      · exact e1
      clear hK K hH0
      (try simp only [Act.put, List.setIfInBounds_toArray, List.set_cons_zero, List.set_cons_succ])
      refine wpAnyH_take (i := 5) (oi := ⟨some 46, _, _, _, _, _⟩) (v := ?_) rfl (by kernel_rfl) (by kernel_rfl) (by kernel_rfl) (fun _ _ _ h => h) (Or.inl ⟨by rfl, ?_⟩) (by assumption) ?_
      rotate_left
      · (intro w hSw; (try dsimp only at hSw); go_simp; (try with_reducible rfl))
      (try simp only [Act.put, List.setIfInBounds_toArray, List.set_cons_zero, List.set_cons_succ])
      refine wpAnyH_ready (rs := [7]) (by kernel_rfl) (by simp) ?_
      refine AllReadyH.cons (o := ⟨some 48, _, _, _, _, _⟩) rfl (fun K hK => ?_) AllReadyH.nil
      go_simp
      (go_at_call 46; (with_reducible refine (pick_any _ _ _ _ D10.out.a.r (by omega) (by omega) (by omega)).mono ?_); rintro e w11 ⟨p5, rfl, hq, hr11, hg11⟩; have D11 := hid (D10.out.pick hr11 hg11); have N11 := hid (N10.out.grown hg11 (by intro e; injection e with e; exact hER e)); have e1 := N11.out.cell_ (i := 1) (v := .int .i64 t') rfl; (have v0 := D11.out.v.cell_ (i := 0) (v := .int .i64 t) rfl; have v1 := D11.out.v.cell_ (i := 1) (v := .int .i64 g) rfl; have vf0 := D11.out.v.frozen 0; have vf1 := D11.out.v.frozen 1); clear hq hr11 hg11)
      (first | (refine hK.out _ _ ?_ (fun hH2 => ?_)) | (go_wp2_with fail; refine hK.out _ _ ?_ (fun hH2 => ?_)))
      · exact e1
      clear hK K hH1
      (try simp only [Act.put, List.setIfInBounds_toArray, List.set_cons_zero, List.set_cons_succ])
      refine wpAnyH_take (i := 8) (oi := ⟨some 49, _, _, _, _, _⟩) (v := ?_) rfl (by kernel_rfl) (by kernel_rfl) (by kernel_rfl) (fun _ _ _ h => h) (Or.inl ⟨by rfl, ?_⟩) (by assumption) ?_
      rotate_left
      · (intro w hSw; (try dsimp only at hSw); go_simp; (try with_reducible rfl))
      (try simp only [Act.put, List.setIfInBounds_toArray, List.set_cons_zero, List.set_cons_succ])
      refine wpAnyH_ready (rs := [9]) (by kernel_rfl) (by simp) ?_
      refine AllReadyH.cons (o := ⟨none, _, _, _, _, _⟩) rfl (fun K hK => ?_) AllReadyH.nil
      go_simp
      (first | (refine hK.out _ _ ?_ (fun hH3 => ?_)) | (go_wp2_with fail; refine hK.out _ _ ?_ (fun hH3 => ?_)))
      · exact cell_setSt e1 hEV
      clear hK K hH2
      (try simp only [Act.put, List.setIfInBounds_toArray, List.set_cons_zero, List.set_cons_succ])
      refine wpAnyH_done (by kernel_rfl) ?_ _
      clear hH3
      have D12 := hid (GF.set D11.out (IntKind.i64.wrap (t' + p4)) p5)
      go_wp2_with fail
      go_meet
      exact ⟨_, _, _, D12⟩
    case rest =>
    obtain ⟨L2, tt, gg, D12⟩ := hcut
    clear D9 NB9 D9b e0 e1 e2 e3
    skip
    go_upto_region 11 with (fail)
    obtain ⟨f1, f2, f3, f4⟩ := pr_fin (I := I2) (K := J2) (t := tt) (g := gg) D12.out.a.z D12.out.y D12.out.a.c D12.out.a.s (Nat.le_refl _) (Nat.le_succ _) (Nat.ne_of_lt (Nat.lt_succ_self _))
    have HE := hid (GF.gd D12.out f3.out f4.out hn2 hm2 hk2 (by have h1 := D12.out.a.Rb; have h2 := D12.out.yR; omega))
    have hV1 : V ≠ w.heap.size := by have h1 := D12.out.Rv; have h2 := D12.out.yR; omega
    have hV2 : V ≠ w.heap.size + 1 := by have h1 := D12.out.Rv; have h2 := D12.out.yR; omega
    have hG1 : G ≠ w.heap.size := by have h1 := D12.out.a.bG; have h2 := D12.out.a.Rb; have h3 := D12.out.a.wR; omega
    have hG2 : G ≠ w.heap.size + 1 := by have h1 := D12.out.a.bG; have h2 := D12.out.a.Rb; have h3 := D12.out.yR; omega
    have y0 := D12.out.a.z.cell_ (i := 0) (v := .int .i64 0) rfl
    have y1 := D12.out.a.z.cell_ (i := 1) (v := .int .i64 0) rfl
    have y2 := D12.out.a.z.cell_ (i := 2) (v := .slice none 0 0) rfl
    have y3 := D12.out.a.z.cell_ (i := 3) (v := .slice none 0 0) rfl
    have yf0 := D12.out.a.z.frozen 0
    have yf1 := D12.out.a.z.frozen 1
    have yf2 := D12.out.a.z.frozen 2
    have yf3 := D12.out.a.z.frozen 3
    have h0 := D12.out.y.cell_ (i := 0) (v := .int .i64 0) rfl
    have h1 := D12.out.y.cell_ (i := 1) (v := .int .i64 0) rfl
    have hf0 := D12.out.y.frozen 0
    have hf1 := D12.out.y.frozen 1
    have v0 := D12.out.v.cell_ (i := 0) (v := .int .i64 tt) rfl
    have v1 := D12.out.v.cell_ (i := 1) (v := .int .i64 gg) rfl
    have g0 := D12.out.a.g.cell_ (i := 0) (v := .int .i64 I2) rfl
    have g1 := D12.out.a.g.cell_ (i := 1) (v := .int .i64 J2) rfl
    have g2 := D12.out.a.g.cell_ (i := 2) (v := .slice (some ⟨b, 0, none⟩) n2 c2) rfl
    have g3 := D12.out.a.g.cell_ (i := 3) (v := .slice B2 m2 d2) rfl
    have r0 := f1.out.cell_ (i := 0) (v := .int .i64 I2) rfl
    have r1 := f1.out.cell_ (i := 1) (v := .int .i64 J2) rfl
    have r2 := f1.out.cell_ (i := 2) (v := .slice (some ⟨b, 0, none⟩) n2 c2) rfl
    have r3 := f1.out.cell_ (i := 3) (v := .slice B2 m2 d2) rfl
    have u0 := f2.out.cell_ (i := 0) (v := .int .i64 tt) rfl
    have u1 := f2.out.cell_ (i := 1) (v := .int .i64 gg) rfl
    clear D12 f1 f2 f3 f4
    refine wp_region_held_drew (S := (fun w' => w'.cell? ⟨G, 0, none⟩ = some (.int .i64 I2) ∧ w'.cell? ⟨G, 1, none⟩ = some (.int .i64 J2) ∧ w'.cell? ⟨G, 2, none⟩ = some (.slice (some ⟨b, 0, none⟩) n2 c2) ∧ w'.cell? ⟨G, 3, none⟩ = some (.slice B2 m2 d2) ∧ w'.cell? ⟨V, 0, none⟩ = some (.int .i64 tt) ∧ w'.cell? ⟨V, 1, none⟩ = some (.int .i64 gg))) (by kernel_rfl) ?_ (fun hH0 => ?_)
    · exact ⟨g0, g1, g2, g3, v0, v1⟩
    refine wpAnyH_take (i := 0) (oi := ⟨some 52, _, _, _, _, _⟩) (v := ?_) rfl (by kernel_rfl) (by kernel_rfl) (by kernel_rfl) (fun _ _ _ h => h) (Or.inl ⟨by rfl, ?_⟩) (by assumption) ?_
    rotate_left
    · (intro w hSw; (try dsimp only at hSw); go_simp; (try with_reducible rfl))
    (try simp only [Act.put, List.setIfInBounds_toArray, List.set_cons_zero, List.set_cons_succ])
    refine wpAnyH_take (i := 1) (oi := ⟨some 53, _, _, _, _, _⟩) (v := ?_) rfl (by kernel_rfl) (by kernel_rfl) (by kernel_rfl) (fun _ _ _ h => h) (Or.inl ⟨by rfl, ?_⟩) (by assumption) ?_
    rotate_left
    · (intro w hSw; (try dsimp only at hSw); go_simp; (try with_reducible rfl))
    (try simp only [Act.put, List.setIfInBounds_toArray, List.set_cons_zero, List.set_cons_succ])
    refine wpAnyH_take (i := 2) (oi := ⟨some 54, _, _, _, _, _⟩) (v := ?_) rfl (by kernel_rfl) (by kernel_rfl) (by kernel_rfl) (fun _ _ _ h => h) (Or.inl ⟨by rfl, ?_⟩) (by assumption) ?_
    rotate_left
    · (intro w hSw; (try dsimp only at hSw); go_simp; (try with_reducible rfl))
    (try simp only [Act.put, List.setIfInBounds_toArray, List.set_cons_zero, List.set_cons_succ])
    refine wpAnyH_ready (rs := [3]) (by kernel_rfl) (by simp) ?_
    refine AllReadyH.cons (o := ⟨none, _, _, _, _, _⟩) rfl (fun K hK => ?_) AllReadyH.nil
    go_simp
    (first | (refine hK.out _ _ ?_ (fun hH1 => ?_)) | (go_wp2_with fail; refine hK.out _ _ ?_ (fun hH1 => ?_)))
    · exact ⟨cell_drew (cell_setGr g0 hG1), cell_drew (cell_setGr g1 hG1), cell_drew (cell_setGr g2 hG1), cell_drew (cell_setGr g3 hG1), cell_drew (cell_setGr v0 hV1), cell_drew (cell_setGr v1 hV1)⟩
    clear hK K hH0
    (try simp only [Act.put, List.setIfInBounds_toArray, List.set_cons_zero, List.set_cons_succ])
    refine wpAnyH_take (i := 4) (oi := ⟨some 3, _, _, _, _, _⟩) (v := ?_) rfl (by kernel_rfl) (by kernel_rfl) (by kernel_rfl) (fun _ _ _ h => h) (Or.inl ⟨by rfl, ?_⟩) (by assumption) ?_
    rotate_left
    · (intro w hSw; (try dsimp only at hSw); go_simp; (try with_reducible rfl))
    (try simp only [Act.put, List.setIfInBounds_toArray, List.set_cons_zero, List.set_cons_succ])
    refine wpAnyH_ready (rs := [5]) (by kernel_rfl) (by simp) ?_
    refine AllReadyH.cons (o := ⟨none, _, _, _, _, _⟩) rfl (fun K hK => ?_) AllReadyH.nil
    go_simp
    (first | (refine hK.out _ _ ?_ (fun hH2 => ?_)) | (go_wp2_with fail; refine hK.out _ _ ?_ (fun hH2 => ?_)))
    · exact ⟨cell_drew (cell_setSt (cell_setGr g0 hG1) hG2), cell_drew (cell_setSt (cell_setGr g1 hG1) hG2), cell_drew (cell_setSt (cell_setGr g2 hG1) hG2), cell_drew (cell_setSt (cell_setGr g3 hG1) hG2), cell_drew (cell_setSt (cell_setGr v0 hV1) hV2), cell_drew (cell_setSt (cell_setGr v1 hV1) hV2)⟩
    clear hK K hH1
    (try simp only [Act.put, List.setIfInBounds_toArray, List.set_cons_zero, List.set_cons_succ])
    refine wpAnyH_done (by kernel_rfl) ?_ _
    clear hH2
    go_wp2_with fail
    refine bodyPost_ret (v := .tuple #[grV I2 J2 (some ⟨b, 0, none⟩) n2 c2 B2 m2 d2, .int .i64 m', .agg #[.int .i64 tt, .int .i64 gg]]) (by simp [results, Try.results15, go_sem, r0, r1, r2, r3, u0, u1]) rfl ⟨_, _, _, _, _, _, _, _, _, _, _, _, _, rfl, HE.out.drw⟩
  · have v0 := D9.out.v.cell_ (i := 0) (v := .int .i64 t) rfl
    have v1 := D9.out.v.cell_ (i := 1) (v := .int .i64 g) rfl
    have vf0 := D9.out.v.frozen 0
    have vf1 := D9.out.v.frozen 1
    have D12 := hid (GF.set D9.out t' g')
    unfold setSt at D12
    go_upto_region 11 with (fail)
    generalize (w9.setCell _ _).setCell _ _ = w12 at *
    clear D9 NB9 v0 v1 vf0 vf1 e0 e1 e2 e3
    skip
    obtain ⟨f1, f2, f3, f4⟩ := pr_fin (I := I2) (K := J2) (t := t') (g := g') D12.out.a.z D12.out.y D12.out.a.c D12.out.a.s (Nat.le_refl _) (Nat.le_succ _) (Nat.ne_of_lt (Nat.lt_succ_self _))
    have HE := hid (GF.gd D12.out f3.out f4.out hn2 hm2 hk2 (by have h1 := D12.out.a.Rb; have h2 := D12.out.yR; omega))
    have hV1 : V ≠ w.heap.size := by have h1 := D12.out.Rv; have h2 := D12.out.yR; omega
    have hV2 : V ≠ w.heap.size + 1 := by have h1 := D12.out.Rv; have h2 := D12.out.yR; omega
    have hG1 : G ≠ w.heap.size := by have h1 := D12.out.a.bG; have h2 := D12.out.a.Rb; have h3 := D12.out.a.wR; omega
    have hG2 : G ≠ w.heap.size + 1 := by have h1 := D12.out.a.bG; have h2 := D12.out.a.Rb; have h3 := D12.out.yR; omega
    have y0 := D12.out.a.z.cell_ (i := 0) (v := .int .i64 0) rfl
    have y1 := D12.out.a.z.cell_ (i := 1) (v := .int .i64 0) rfl
    have y2 := D12.out.a.z.cell_ (i := 2) (v := .slice none 0 0) rfl
    have y3 := D12.out.a.z.cell_ (i := 3) (v := .slice none 0 0) rfl
    have yf0 := D12.out.a.z.frozen 0
    have yf1 := D12.out.a.z.frozen 1
    have yf2 := D12.out.a.z.frozen 2
    have yf3 := D12.out.a.z.frozen 3
    have h0 := D12.out.y.cell_ (i := 0) (v := .int .i64 0) rfl
    have h1 := D12.out.y.cell_ (i := 1) (v := .int .i64 0) rfl
    have hf0 := D12.out.y.frozen 0
    have hf1 := D12.out.y.frozen 1
    have v0 := D12.out.v.cell_ (i := 0) (v := .int .i64 t') rfl
    have v1 := D12.out.v.cell_ (i := 1) (v := .int .i64 g') rfl
    have g0 := D12.out.a.g.cell_ (i := 0) (v := .int .i64 I2) rfl
    have g1 := D12.out.a.g.cell_ (i := 1) (v := .int .i64 J2) rfl
    have g2 := D12.out.a.g.cell_ (i := 2) (v := .slice (some ⟨b, 0, none⟩) n2 c2) rfl
    have g3 := D12.out.a.g.cell_ (i := 3) (v := .slice B2 m2 d2) rfl
    have r0 := f1.out.cell_ (i := 0) (v := .int .i64 I2) rfl
    have r1 := f1.out.cell_ (i := 1) (v := .int .i64 J2) rfl
    have r2 := f1.out.cell_ (i := 2) (v := .slice (some ⟨b, 0, none⟩) n2 c2) rfl
    have r3 := f1.out.cell_ (i := 3) (v := .slice B2 m2 d2) rfl
    have u0 := f2.out.cell_ (i := 0) (v := .int .i64 t') rfl
    have u1 := f2.out.cell_ (i := 1) (v := .int .i64 g') rfl
    clear D12 f1 f2 f3 f4
    refine wp_region_held_drew (S := (fun w' => w'.cell? ⟨G, 0, none⟩ = some (.int .i64 I2) ∧ w'.cell? ⟨G, 1, none⟩ = some (.int .i64 J2) ∧ w'.cell? ⟨G, 2, none⟩ = some (.slice (some ⟨b, 0, none⟩) n2 c2) ∧ w'.cell? ⟨G, 3, none⟩ = some (.slice B2 m2 d2) ∧ w'.cell? ⟨V, 0, none⟩ = some (.int .i64 t') ∧ w'.cell? ⟨V, 1, none⟩ = some (.int .i64 g'))) (by kernel_rfl) ?_ (fun hH0 => ?_)
    · exact ⟨g0, g1, g2, g3, v0, v1⟩
    refine wpAnyH_take (i := 0) (oi := ⟨some 52, _, _, _, _, _⟩) (v := ?_) rfl (by kernel_rfl) (by kernel_rfl) (by kernel_rfl) (fun _ _ _ h => h) (Or.inl ⟨by rfl, ?_⟩) (by assumption) ?_
    rotate_left
    · (intro w hSw; (try dsimp only at hSw); go_simp; (try with_reducible rfl))
    (try simp only [Act.put, List.setIfInBounds_toArray, List.set_cons_zero, List.set_cons_succ])
    refine wpAnyH_take (i := 1) (oi := ⟨some 53, _, _, _, _, _⟩) (v := ?_) rfl (by kernel_rfl) (by kernel_rfl) (by kernel_rfl) (fun _ _ _ h => h) (Or.inl ⟨by rfl, ?_⟩) (by assumption) ?_
    rotate_left
    · (intro w hSw; (try dsimp only at hSw); go_simp; (try with_reducible rfl))
    (try simp only [Act.put, List.setIfInBounds_toArray, List.set_cons_zero, List.set_cons_succ])
    refine wpAnyH_take (i := 2) (oi := ⟨some 54, _, _, _, _, _⟩) (v := ?_) rfl (by kernel_rfl) (by kernel_rfl) (by kernel_rfl) (fun _ _ _ h => h) (Or.inl ⟨by rfl, ?_⟩) (by assumption) ?_
    rotate_left
    · (intro w hSw; (try dsimp only at hSw); go_simp; (try with_reducible rfl))
    (try simp only [Act.put, List.setIfInBounds_toArray, List.set_cons_zero, List.set_cons_succ])
    refine wpAnyH_ready (rs := [3]) (by kernel_rfl) (by simp) ?_
    refine AllReadyH.cons (o := ⟨none, _, _, _, _, _⟩) rfl (fun K hK => ?_) AllReadyH.nil
    go_simp
    (first | (refine hK.out _ _ ?_ (fun hH1 => ?_)) | (go_wp2_with fail; refine hK.out _ _ ?_ (fun hH1 => ?_)))
    · exact ⟨cell_drew (cell_setGr g0 hG1), cell_drew (cell_setGr g1 hG1), cell_drew (cell_setGr g2 hG1), cell_drew (cell_setGr g3 hG1), cell_drew (cell_setGr v0 hV1), cell_drew (cell_setGr v1 hV1)⟩
    clear hK K hH0
    (try simp only [Act.put, List.setIfInBounds_toArray, List.set_cons_zero, List.set_cons_succ])
    refine wpAnyH_take (i := 4) (oi := ⟨some 3, _, _, _, _, _⟩) (v := ?_) rfl (by kernel_rfl) (by kernel_rfl) (by kernel_rfl) (fun _ _ _ h => h) (Or.inl ⟨by rfl, ?_⟩) (by assumption) ?_
    rotate_left
    · (intro w hSw; (try dsimp only at hSw); go_simp; (try with_reducible rfl))
    (try simp only [Act.put, List.setIfInBounds_toArray, List.set_cons_zero, List.set_cons_succ])
    refine wpAnyH_ready (rs := [5]) (by kernel_rfl) (by simp) ?_
    refine AllReadyH.cons (o := ⟨none, _, _, _, _, _⟩) rfl (fun K hK => ?_) AllReadyH.nil
    go_simp
    (first | (refine hK.out _ _ ?_ (fun hH2 => ?_)) | (go_wp2_with fail; refine hK.out _ _ ?_ (fun hH2 => ?_)))
    · exact ⟨cell_drew (cell_setSt (cell_setGr g0 hG1) hG2), cell_drew (cell_setSt (cell_setGr g1 hG1) hG2), cell_drew (cell_setSt (cell_setGr g2 hG1) hG2), cell_drew (cell_setSt (cell_setGr g3 hG1) hG2), cell_drew (cell_setSt (cell_setGr v0 hV1) hV2), cell_drew (cell_setSt (cell_setGr v1 hV1) hV2)⟩
    clear hK K hH1
    (try simp only [Act.put, List.setIfInBounds_toArray, List.set_cons_zero, List.set_cons_succ])
    refine wpAnyH_done (by kernel_rfl) ?_ _
    clear hH2
    go_wp2_with fail
    refine bodyPost_ret (v := .tuple #[grV I2 J2 (some ⟨b, 0, none⟩) n2 c2 B2 m2 d2, .int .i64 m', .agg #[.int .i64 t', .int .i64 g']]) (by simp [results, Try.results15, go_sem, r0, r1, r2, r3, u0, u1]) rfl ⟨_, _, _, _, _, _, _, _, _, _, _, _, _, rfl, HE.out.drw⟩
end Go.Proofs.Ytkhgemgmnchodaa
