/- Draws of groups for the laws. -/
import Derived.Test.YtkhgemgmnchodaaDrawGr4
namespace Go.Proofs.Ytkhgemgmnchodaa
open Go.RowKit Go.Sort
/-- A group that was drawn, for a law. -/
structure GD (w' w : World) (I K : Int) (A : Option Addr) (n c : Nat) (B : Option Addr) (m d : Nat) (ps ds : List Ent) : Prop where
  o : OwGr w' w.heap.size I K A n c B m d ps ds
  n : n ≤ 12
  m : m ≤ 12
  k : -1 ≤ K ∧ K ≤ 1000
  s : St w w'
theorem GD.i {w' w : World} {I K : Int} {A : Option Addr} {n c : Nat} {B : Option Addr} {m d : Nat} {ps ds : List Ent} (h : GD w' w I K A n c B m d ps ds) : SE w' A n c ps := h.o.oi.se
theorem GD.j {w' w : World} {I K : Int} {A : Option Addr} {n c : Nat} {B : Option Addr} {m d : Nat} {ps ds : List Ent} (h : GD w' w I K A n c B m d ps ds) : SE w' B m d ds := h.o.oh.se
def DrawnG (w : World) (e : Ending) (w' : World) : Prop := ∃ I K A n c B m d ps ds, e = .returned (grV I K A n c B m d) ∧ GD w' w I K A n c B m d ps ds
def DrawnGM (w : World) (e : Ending) (w' : World) : Prop := ∃ I K A n c B m d ps ds x, e = .returned (.tuple #[grV I K A n c B m d, .int .i64 x]) ∧ GD w' w I K A n c B m d ps ds
structure GA (w W : World) (R L G b : Nat) (I K : Int) (A : Option Addr) (n c : Nat) (B : Option Addr) (m d : Nat) (ps ds : List Ent) : Prop where
  z : Blk W w.heap.size 25 (grC 0 0 none 0 0 none 0 0)
  g : Blk W G 25 (grC I K A n c B m d)
  c : OwGr W b I K A n c B m d ps ds
  r : Rd W R L
  s : St w W
  wR : w.heap.size < R
  Rb : R < b
  bG : b ≤ G
section
variable {w W W1 : World} {R L L' G b n c m d : Nat} {I K : Int} {A B : Option Addr} {ps ds : List Ent}
theorem GA.pick (h : GA w W R L G b I K A n c B m d ps ds) (hr : Rd W1 R L') (hg : W.grownBy W1 (some R)) : GA w W1 R L' G b I K A n c B m d ps ds := by
  have h1 := h.wR
  have h2 := h.Rb
  have h3 := h.bG
  exact ⟨h.z.grown hg (fun e => by injection e with e; omega), h.g.grown hg (fun e => by injection e with e; omega), h.c.row hg h2, hr, h.s.grown hg (fun k hk => by injection hk with hk; omega), h1, h2, h3⟩
theorem GA.dr (h : GA w W R L G b I K A n c B m d ps ds) (s : Dr W W1) : GA w W1 R L G b I K A n c B m d ps ds :=
  ⟨h.z.dr s, h.g.dr s, h.c.st s.st, h.r.dr s, h.s.dr s, h.wR, h.Rb, h.bG⟩
theorem gd_fin (z : Blk W w.heap.size 25 (grC 0 0 none 0 0 none 0 0)) (C : OwGr W b I K A n c B m d ps ds) (s : St w W) (hb : w.heap.size ≤ b) (hn : n ≤ 12) (hm : m ≤ 12) (hk : -1 ≤ K ∧ K ≤ 1000) :
    Hid (Blk (setGr W w.heap.size I K A n c B m d) w.heap.size 25 (grC I K A n c B m d)) ∧ Hid (GD (setGr W w.heap.size I K A n c B m d) w I K A n c B m d ps ds) := by
  obtain ⟨f1, f2, f3⟩ := gr_put (I := I) (K := K) z C s (Nat.le_refl _)
  exact ⟨f1, f2.out.less hb, hn, hm, hk, f3.out⟩
end
set_option maxHeartbeats 1000000 in
theorem DrawGroupBlocked_any (A : Option Addr) (n c : Nat) (bs : List Nat) (w : World) (h : RB w w.heap.size A n bs) (hn : n ≤ 1048576) (hnc : n ≤ c) (hc : c ≤ maxLen) :
    Calls Try.prog 11 #[.slice A n c] w (DrawnG w) := by
  have S0 := hid ((St.refl w).alloc (.cells (grC 0 0 none 0 0 none 0 0) 25))
  have K0 := hid (Blk.new w 25 (grC 0 0 none 0 0 none 0 0))
  have h0 := (h.below S0.out).more S0.out.size
  have z0 := K0.out.lt
  go_enter Try.func11, Try.ntmps11
  go_wp2_with fail
  generalize w.alloc (.cells (grC 0 0 none 0 0 none 0 0) 25) = w0 at S0 K0 h0 z0 ⊢
  refine (l6Open_any _ _ _ _ _ h0 hn hnc hc).mono ?_
  rintro e w1 ⟨rfl, hr1, b1⟩
  have z1 : w0.heap.size < w1.heap.size := hr1.lt
  have b1 : St w0 w1 := b1
  have S1 := hid (S0.out.trans b1)
  have K1 := hid (K0.out.below b1 K0.out.lt)
  clear b1 S0 K0
  go_wp2_with fail
  refine (l91Group_any _ _ _ hr1 (by omega)).mono ?_
  rintro e w2 ⟨I2, J2, A2, n2, c2, B2, m2, d2, ps, ds, rfl, oc, hn2, hm2, hk2, hr2, hg2⟩
  have K2 := hid (K1.out.grown hg2 (by intro e; injection e with e; omega))
  have s2 := hid (S1.out.grown hg2 (fun k hk => by injection hk with hk; omega))
  obtain ⟨f1, f2⟩ := gd_fin K2.out oc s2.out (Nat.le_of_lt (Nat.lt_trans z0 z1)) hn2 hm2 hk2
  have y0 := K2.out.cell_ (i := 0) (v := .int .i64 0) rfl
  have y1 := K2.out.cell_ (i := 1) (v := .int .i64 0) rfl
  have y2 := K2.out.cell_ (i := 2) (v := .slice none 0 0) rfl
  have y3 := K2.out.cell_ (i := 3) (v := .slice none 0 0) rfl
  have x0 := K2.out.frozen 0
  have x1 := K2.out.frozen 1
  have x2 := K2.out.frozen 2
  have x3 := K2.out.frozen 3
  have r0 := f1.out.cell_ (i := 0) (v := .int .i64 I2) rfl
  have r1 := f1.out.cell_ (i := 1) (v := .int .i64 J2) rfl
  have r2 := f1.out.cell_ (i := 2) (v := .slice A2 n2 c2) rfl
  have r3 := f1.out.cell_ (i := 3) (v := .slice B2 m2 d2) rfl
  clear K1 S1 hr1 hr2 hg2 oc
  go_wp2_with fail
  refine bodyPost_ret (v := grV I2 J2 A2 n2 c2 B2 m2 d2) (by simp [results, Try.results11, go_sem, r0, r1, r2, r3]) rfl ⟨_, _, _, _, _, _, _, _, _, _, rfl, f2.out⟩
end Go.Proofs.Ytkhgemgmnchodaa
