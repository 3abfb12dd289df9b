/- The drawing of rounds. -/
import Derived.Test.YtldclkjknhjbfaaDrawRd
namespace Go.Proofs.Ytldclkjknhjbfaa
open Go.RowKit Go.Sort
set_option maxHeartbeats 400000 in
theorem specRoundNew_own (m : Int) (A : Option Addr) (n c : Nat) (xs : List Int) (w : World) (h : RI w w.heap.size A n xs) (hn : n ≤ 1048576) :
    Calls Try.prog 16 #[.int .i64 m, .slice A n c] w fun e w' => ∃ A1 c1 B1 d1, e = .returned (.tuple #[rdV (rnM m xs) A1 (rnG m xs).length c1 B1 0 d1, .bool (rnOk m xs)]) ∧
      OI w' w.heap.size 3 A1 (rnG m xs).length c1 (rnG m xs) ∧ OS w' w.heap.size B1 0 d1 [] ∧ St w w' := by
  have b1 := (St.refl w).alloc (.cells #[.int .i64 0, .slice none 0 0, .slice none 0 0] 25)
  have h1 := (h.below b1).more b1.le
  have bad : rnOk m xs = false → ∀ w', St w w' → ∃ A1 c1 B1 d1, Ending.returned (.tuple #[rdV 0 none 0 0 none 0 0, .bool false]) = .returned (.tuple #[rdV (rnM m xs) A1 (rnG m xs).length c1 B1 0 d1, .bool (rnOk m xs)]) ∧ OI w' w.heap.size 3 A1 (rnG m xs).length c1 (rnG m xs) ∧ OS w' w.heap.size B1 0 d1 [] ∧ St w w' := by
    intro hb w' hs
    have e1 : rnM m xs = 0 := by simp [rnM, hb]
    have e2 : rnG m xs = [] := by simp [rnG, hb]
    rw [e1, e2, hb]
    exact ⟨none, 0, none, 0, rfl, World.ownsRow_nil _ _ _ _, OS.nil _ _, hs⟩
  have HBad := hid bad
  clear bad
  cases hm : isMsg m
  · have HF := hid (show rnOk m xs = false by unfold rnOk; rw [hm]; rfl)
    go_enter Try.func16, Try.ntmps16
    go_wp2_with fail
    refine (l11Message_any _ _).mono ?_
    rintro e w1 ⟨rfl, rfl⟩
    go_wp2_with fail
    refine bodyPost_ret (v := .tuple #[rdV 0 none 0 0 none 0 0, .bool false]) (by simp [results, Try.results16, go_sem]) rfl (HBad.out HF.out _ b1)
  cases hg : gset xs
  · have HF := hid (show rnOk m xs = false by unfold rnOk; rw [hm, hg]; rfl)
    have hr0 := hid ((Blk.new w 25 #[.int .i64 0, .slice none 0 0, .slice none 0 0]))
    go_enter Try.func16, Try.ntmps16
    go_wp2_with fail
    refine (l11Message_any _ _).mono ?_
    rintro e w1 ⟨rfl, rfl⟩
    go_wp2_with fail
    refine (specGroupsValid_any _ _ _ _ _ _ h1 (by omega)).mono ?_
    rintro e w2 ⟨rfl, d2⟩
    have k2 := hr0.out.dr d2
    have c0 := k2.cell_ (i := 0) (v := .int .i64 0) rfl
    have c1 := k2.cell_ (i := 1) (v := .slice none 0 0) rfl
    have c2 := k2.cell_ (i := 2) (v := .slice none 0 0) rfl
    have f0 := k2.frozen 0
    have f1 := k2.frozen 1
    have f2 := k2.frozen 2
    have k3 := ((k2.set_ 0 (.int .i64 0)).set_ 1 (.slice none 0 0)).set_ 2 (.slice none 0 0)
    have r0 := k3.cell_ (i := 0) (v := .int .i64 0) rfl
    have r1 := k3.cell_ (i := 1) (v := .slice none 0 0) rfl
    have r2 := k3.cell_ (i := 2) (v := .slice none 0 0) rfl
    have S3 := hid ((((b1.dr d2).setCell (p := ⟨w.heap.size, 0, none⟩) (Nat.le_refl _) (.int .i64 0)).setCell (p := ⟨w.heap.size, 1, none⟩) (Nat.le_refl _) (.slice none 0 0)).setCell (p := ⟨w.heap.size, 2, none⟩) (Nat.le_refl _) (.slice none 0 0))
    go_wp2_with fail
    refine bodyPost_ret (v := .tuple #[rdV 0 none 0 0 none 0 0, .bool false]) (by simp [results, Try.results16, go_sem, r0, r1, r2]) rfl (HBad.out HF.out _ S3.out)
  · have HF := hid (show rnOk m xs = true by unfold rnOk; rw [hm, hg]; rfl)
    have hr0 := hid ((Blk.new w 25 #[.int .i64 0, .slice none 0 0, .slice none 0 0]))
    have HLx := hid h.len
    go_enter Try.func16, Try.ntmps16
    go_wp2_with fail
    refine (l11Message_any _ _).mono ?_
    rintro e w1 ⟨rfl, rfl⟩
    go_wp2_with fail
    refine (specGroupsValid_any _ _ _ _ _ _ h1 (by omega)).mono ?_
    rintro e w2 ⟨rfl, d2⟩
    have k2 := hid (hr0.out.dr d2)
    have hz2 : w.heap.size < w2.heap.size := by rw [d2.size]; simp
    have b2 := hid (b1.dr d2)
    have HO := hid (OI.lit (w := w2) (e := 3))
    have HA := hid ((h1.dr d2).alloc (Nat.le_of_eq d2.size.symm) (.cells #[] 3))
    clear d2
    go_wp2_with (at_builtin; refine wpList_append_src _ rfl _ _ 22 rfl w2.heap.size 3 Try.underlying22 intInfo (some ⟨w2.heap.size, 0, none⟩) 0 0 [] rfl HO.out _ A n c xs rfl HA.out (by omega) (by simp) ?_; intro A3 c3 w3 o3 hg3; have hg4 : (w2.alloc (.cells #[] 3)).grownBy w3 (some w2.heap.size) := hg3; have k3 := ((k2.out.alloc (.cells #[] 3)).grown hg4 (fun e => (by injection e with e; omega))).alloc (.cells #[] 45); have c0 := k3.cell_ (i := 0) (v := .int .i64 0) rfl; have c1 := k3.cell_ (i := 1) (v := .slice none 0 0) rfl; have c2 := k3.cell_ (i := 2) (v := .slice none 0 0) rfl; have f0 := k3.frozen 0; have f1 := k3.frozen 1; have f2 := k3.frozen 2; simp only [Nat.zero_add, List.nil_append] at o3 ⊢)
    have k4 := ((k3.set_ 0 (.int .i64 m)).set_ 1 (.slice A3 n c3)).set_ 2 (.slice (some ⟨w3.heap.size, 0, none⟩) 0 0)
    have r0 := k4.cell_ (i := 0) (v := .int .i64 m) rfl
    have r1 := k4.cell_ (i := 1) (v := .slice A3 n c3) rfl
    have r2 := k4.cell_ (i := 2) (v := .slice (some ⟨w3.heap.size, 0, none⟩) 0 0) rfl
    have s3 : St w w3 := St.grown (b2.out.alloc _) hg4 (fun g hg => by injection hg with hg; omega)
    have S4 := ((((s3.alloc (.cells #[] 45)).setCell (p := ⟨w.heap.size, 0, none⟩) (Nat.le_refl _) (.int .i64 m)).setCell (p := ⟨w.heap.size, 1, none⟩) (Nat.le_refl _) (.slice A3 n c3)).setCell (p := ⟨w.heap.size, 2, none⟩) (Nat.le_refl _) (.slice (some ⟨w3.heap.size, 0, none⟩) 0 0))
    have o4 := ((OI.row (World.ownsRow.alloc o3 (.cells #[] 45)) (World.grownBy_set _ w.heap.size 0 (.int .i64 m)) hz2).row (World.grownBy_set _ w.heap.size 1 (.slice A3 n c3)) hz2).row (World.grownBy_set _ w.heap.size 2 (.slice (some ⟨w3.heap.size, 0, none⟩) 0 0)) hz2
    refine bodyPost_ret (v := .tuple #[rdV m A3 n c3 (some ⟨w3.heap.size, 0, none⟩) 0 0, .bool true]) (by simp [results, Try.results16, go_sem, r0, r1, r2]) rfl ?_
    have e1 : rnM m xs = m := by simp [rnM, HF.out]
    have e2 : rnG m xs = xs := by simp [rnG, HF.out]
    rw [e1, e2, HF.out, HLx.out]
    have hz3 : w2.heap.size ≤ w3.heap.size := by have := hg4.size; simp at this; omega
    have p0 : OS (w3.alloc (.cells #[] 45)) w3.heap.size (some ⟨w3.heap.size, 0, none⟩) 0 0 [] := ⟨rfl, row_lit w3 45 2⟩
    have p4 := ((p0.grown (World.grownBy_set _ w.heap.size 0 (.int .i64 m)) (fun k hk hA => by injection hk with hk; injection hA with hA; simp at hA; omega)).grown (World.grownBy_set _ w.heap.size 1 (.slice A3 n c3)) (fun k hk hA => by injection hk with hk; injection hA with hA; simp at hA; omega)).grown (World.grownBy_set _ w.heap.size 2 (.slice (some ⟨w3.heap.size, 0, none⟩) 0 0)) (fun k hk hA => by injection hk with hk; injection hA with hA; simp at hA; omega)
    exact ⟨_, _, _, _, rfl, o4.less (by omega), p4.less (by omega), S4⟩
theorem grown_st {a b c : World} {row : Option Nat} (h : a.grownBy b row) (s : St b c) : a.grownBy c row :=
  grown_new (row' := none) h ⟨s.os, s.tape, s.output, s.size, fun k hk _ => s.block k hk⟩ (by simp)
/-- A stamp added: what the drawing needs of it. -/
def AddEx (M : Int) (n q : Nat) (xs : List Int) (w : World) (e : Ending) (w' : World) : Prop :=
  ∃ (A : Option Addr) (c : Nat) (B : Option Addr) (d q2 : Nat) (ss2 : List (Int × Int)) (bb : Bool), e = .returned (.tuple #[rdV M A n c B q2 d, .bool bb]) ∧ OI w' w.heap.size 3 A n c xs ∧ OS w' w.heap.size B q2 d ss2 ∧ q2 ≤ q + 1 ∧ St w w'
theorem l12Add_ex (M : Int) (A B : Option Addr) (n c q d : Nat) (xs : List Int) (ss : List (Int × Int)) (t g : Int) (w : World) (h : SL w A n c xs) (h' : SS w B q d ss) (hn : n ≤ 1048576) (hq : q ≤ 1048576) :
    Calls Try.prog 73 #[rdV M A n c B q d, .agg #[.int .i64 t, .int .i64 g]] w (AddEx M n q xs w) := by
  refine (l12Add_any M A B n c q d xs ss t g w h h' hn hq).mono ?_
  rintro e w' ⟨A', c', B', d', he, o, p, s⟩
  have hl := h.len
  rw [hl] at he o
  exact ⟨A', c', B', d', _, _, _, he, o, p, by have := addGot_le xs ss (t, g); have := h'.len; omega, s⟩
/-- Behind the region of the drawing that adds a stamp. -/
structure Fin7 (w W : World) (R L bx y : Nat) (M : Int) (n : Nat) (xs : List Int) (A : Option Addr) (c : Nat) (B : Option Addr) (q d : Nat) (ss : List (Int × Int)) (A7 : Option Addr) (c7 : Nat) (B7 : Option Addr) (q7 d7 : Nat) (ss7 : List (Int × Int)) : Prop where
  fbx : Blk W bx 25 #[.int .i64 M, .slice A n c, .slice B q d]
  fy : Blk W y 25 #[.int .i64 M, .slice A7 n c7, .slice B7 q7 d7]
  oa : OI W w.heap.size 3 A n c xs
  ob : OS W w.heap.size B q d ss
  oa7 : OI W w.heap.size 3 A7 n c7 xs
  ob7 : OS W w.heap.size B7 q7 d7 ss7
  kz : Blk W w.heap.size 25 #[.int .i64 0, .slice none 0 0, .slice none 0 0]
  fg : w.grownBy W (some R)
  fr : Rd W R L
  ne : bx ≠ y
theorem Fin7.mk1 {w W : World} {R L bx : Nat} {M : Int} {n : Nat} {xs : List Int} {A : Option Addr} {c : Nat} {B : Option Addr} {q d : Nat} {ss : List (Int × Int)} {A7 : Option Addr} {c7 : Nat} {B7 : Option Addr} {q7 d7 : Nat} {ss7 : List (Int × Int)}
    (hbx : Blk W bx 25 #[.int .i64 M, .slice A n c, .slice B q d]) (oa : OI W w.heap.size 3 A n c xs) (ob : OS W w.heap.size B q d ss) (oa7 : OI W w.heap.size 3 A7 n c7 xs) (ob7 : OS W w.heap.size B7 q7 d7 ss7)
    (kz : Blk W w.heap.size 25 #[.int .i64 0, .slice none 0 0, .slice none 0 0]) (g : w.grownBy W (some R)) (r : Rd W R L) :
    Fin7 w (W.alloc (.cells #[.int .i64 M, .slice A7 n c7, .slice B7 q7 d7] 25)) R L bx W.heap.size M n xs A c B q d ss A7 c7 B7 q7 d7 ss7 :=
  have a := (St.refl W).alloc (.cells #[.int .i64 M, .slice A7 n c7, .slice B7 q7 d7] 25)
  ⟨hbx.alloc _, Blk.new _ _ _, own_below oa a, ob.st a, own_below oa7 a, ob7.st a, kz.alloc _, grown_alloc g _, r.alloc _, by have := hbx.lt; omega⟩
theorem Fin7.mk2 {w W : World} {R L bx y : Nat} {M : Int} {n : Nat} {xs : List Int} {A : Option Addr} {c : Nat} {B : Option Addr} {q d : Nat} {ss : List (Int × Int)} {A7 : Option Addr} {c7 : Nat} {B7 : Option Addr} {q7 d7 : Nat} {ss7 : List (Int × Int)}
    (hbx : Blk W bx 25 #[.int .i64 M, .slice A n c, .slice B q d]) (oa : OI W w.heap.size 3 A n c xs) (ob : OS W w.heap.size B q d ss) (oa7 : OI W w.heap.size 3 A7 n c7 xs) (ob7 : OS W w.heap.size B7 q7 d7 ss7)
    (kz : Blk W w.heap.size 25 #[.int .i64 0, .slice none 0 0, .slice none 0 0]) (g : w.grownBy W (some R)) (r : Rd W R L)
    (hy : Blk W y 25 #[.int .i64 0, .slice none 0 0, .slice none 0 0]) (hxy : bx < y) (hwy : w.heap.size < y) (hR : R < y) (ht : 3 ≠ 25) (ht2 : 45 ≠ 25) :
    Fin7 w (((W.setCell ⟨y, 0, none⟩ (.int .i64 M)).setCell ⟨y, 1, none⟩ (.slice A7 n c7)).setCell ⟨y, 2, none⟩ (.slice B7 q7 d7)) R L bx y M n xs A c B q d ss A7 c7 B7 q7 d7 ss7 := by
  have ne : ∀ (X : Option Addr) (a b : Nat) (zs : List Int), OI W w.heap.size 3 X a b zs → ∀ k, some y = some k → blockOf X ≠ some k := by
    intro X a b zs h k hk
    injection hk with hk
    subst hk
    rw [← ownBlock_slice X a b]
    exact own_blk_ne h hy ht
  have ne2 : ∀ (X : Option Addr) (a b : Nat) (zs : List (Int × Int)), OS W w.heap.size X a b zs → ∀ k, some y = some k → blockOf X ≠ some k := by
    intro X a b zs h k hk
    injection hk with hk
    subst hk
    rw [← ownBlock_slice X a b]
    exact own_blk_ne h.2 hy ht2
  have g1 := World.grownBy_set W y 0 (.int .i64 M)
  have g2 := World.grownBy_set (W.setCell ⟨y, 0, none⟩ (.int .i64 M)) y 1 (.slice A7 n c7)
  have g3 := World.grownBy_set ((W.setCell ⟨y, 0, none⟩ (.int .i64 M)).setCell ⟨y, 1, none⟩ (.slice A7 n c7)) y 2 (.slice B7 q7 d7)
  have gg := grown_trans' (grown_trans' g1 g2) g3
  exact ⟨hbx.grown gg (by intro e; injection e with e; omega), ((hy.set_ 0 _).set_ 1 _).set_ 2 _, oa.grown gg (ne _ _ _ _ oa), ob.grown gg (ne2 _ _ _ _ ob), oa7.grown gg (ne _ _ _ _ oa7), ob7.grown gg (ne2 _ _ _ _ ob7),
    kz.grown gg (by intro e; injection e with e; omega), grown_new g gg (fun k hk => by injection hk with hk; omega), r.grown gg (fun k hk => by injection hk with hk; omega), by omega⟩
theorem Fin7.mk3 {w w6 w7 : World} {R L bx : Nat} {M : Int} {n : Nat} {xs : List Int} {A : Option Addr} {c : Nat} {B : Option Addr} {q d : Nat} {ss : List (Int × Int)} {A7 : Option Addr} {c7 : Nat} {B7 : Option Addr} {q7 d7 : Nat} {ss7 : List (Int × Int)}
    (BX6 : Blk w6 bx 25 #[.int .i64 M, .slice A n c, .slice B q d]) (OA6 : OI w6 w.heap.size 3 A n c xs) (OB6 : OS w6 w.heap.size B q d ss)
    (KZ6 : Blk w6 w.heap.size 25 #[.int .i64 0, .slice none 0 0, .slice none 0 0]) (G6 : w.grownBy w6 (some R)) (hrd6 : Rd w6 R L)
    (s7 : St (w6.alloc (.cells #[.int .i64 0, .slice none 0 0, .slice none 0 0] 25)) w7)
    (o7 : OI w7 (w6.alloc (.cells #[.int .i64 0, .slice none 0 0, .slice none 0 0] 25)).heap.size 3 A7 n c7 xs)
    (p7 : OS w7 (w6.alloc (.cells #[.int .i64 0, .slice none 0 0, .slice none 0 0] 25)).heap.size B7 q7 d7 ss7) :
    Fin7 w (((w7.setCell ⟨w6.heap.size, 0, none⟩ (.int .i64 M)).setCell ⟨w6.heap.size, 1, none⟩ (.slice A7 n c7)).setCell ⟨w6.heap.size, 2, none⟩ (.slice B7 q7 d7)) R L bx w6.heap.size M n xs A c B q d ss A7 c7 B7 q7 d7 ss7 := by
  have hz : w.heap.size ≤ (w6.alloc (.cells #[.int .i64 0, .slice none 0 0, .slice none 0 0] 25)).heap.size := by have := G6.size; simp; omega
  have y := Blk.new w6 25 #[.int .i64 0, .slice none 0 0, .slice none 0 0]
  have a := (St.refl w6).alloc (.cells #[.int .i64 0, .slice none 0 0, .slice none 0 0] 25)
  exact Fin7.mk2 ((BX6.alloc _).below s7 (BX6.alloc _).lt) (own_below (World.ownsRow.alloc OA6 _) s7) ((OB6.st a).st s7) (o7.less hz) (p7.less hz) ((KZ6.alloc _).below s7 (KZ6.alloc _).lt) (grown_st (grown_alloc G6 _) s7) ((hrd6.alloc _).below s7 (hrd6.alloc _).lt) (y.below s7 y.lt) BX6.lt KZ6.lt hrd6.lt (by decide) (by decide)
theorem Fin7.next {w W : World} {R L bx y : Nat} {M : Int} {n : Nat} {xs : List Int} {A : Option Addr} {c : Nat} {B : Option Addr} {q d : Nat} {ss : List (Int × Int)} {A7 : Option Addr} {c7 : Nat} {B7 : Option Addr} {q7 d7 : Nat} {ss7 : List (Int × Int)}
    (F : Fin7 w W R L bx y M n xs A c B q d ss A7 c7 B7 q7 d7 ss7) (hwb : w.heap.size < bx) (hR : R < bx) {W' : World}
    (hW : W' = ((W.setCell ⟨bx, 0, none⟩ (.int .i64 M)).setCell ⟨bx, 1, none⟩ (.slice A7 n c7)).setCell ⟨bx, 2, none⟩ (.slice B7 q7 d7)) :
    Hid (Blk W' bx 25 #[.int .i64 M, .slice A7 n c7, .slice B7 q7 d7]) ∧ Hid (OI W' w.heap.size 3 A7 n c7 xs) ∧ Hid (OS W' w.heap.size B7 q7 d7 ss7) ∧ Hid (Blk W' w.heap.size 25 #[.int .i64 0, .slice none 0 0, .slice none 0 0]) ∧ Hid (w.grownBy W' (some R)) ∧ Hid (Rd W' R L) := by
  subst hW
  have ne : ∀ k, some bx = some k → blockOf A7 ≠ some k := by
    intro k hk
    injection hk with hk
    subst hk
    rw [← ownBlock_slice A7 n c7]
    exact own_blk_ne F.oa7 F.fbx (by decide)
  have ne2 : ∀ k, some bx = some k → blockOf B7 ≠ some k := by
    intro k hk
    injection hk with hk
    subst hk
    rw [← ownBlock_slice B7 q7 d7]
    exact own_blk_ne F.ob7.2 F.fbx (by decide)
  have g1 := World.grownBy_set W bx 0 (.int .i64 M)
  have g2 := World.grownBy_set (W.setCell ⟨bx, 0, none⟩ (.int .i64 M)) bx 1 (.slice A7 n c7)
  have g3 := World.grownBy_set ((W.setCell ⟨bx, 0, none⟩ (.int .i64 M)).setCell ⟨bx, 1, none⟩ (.slice A7 n c7)) bx 2 (.slice B7 q7 d7)
  have gg := grown_trans' (grown_trans' g1 g2) g3
  exact ⟨((F.fbx.set_ 0 _).set_ 1 _).set_ 2 _, F.oa7.grown gg ne, F.ob7.grown gg ne2,
    F.kz.grown gg (by intro e; injection e with e; omega), grown_new F.fg gg (fun k hk => by injection hk with hk; omega), F.fr.grown gg (fun k hk => by injection hk with hk; omega)⟩
/-- The state of the drawing behind the loop. -/
structure RS (w W : World) (R L bx : Nat) (cs : Array Value) (A : Option Addr) (n c : Nat) (xs : List Int) (B : Option Addr) (q d : Nat) (ss : List (Int × Int)) : Prop where
  bx : Blk W bx 25 cs
  oa : OI W w.heap.size 3 A n c xs
  ob : OS W w.heap.size B q d ss
  kz : Blk W w.heap.size 25 #[.int .i64 0, .slice none 0 0, .slice none 0 0]
  g : w.grownBy W (some R)
  r : Rd W R L
section
variable {w W W' : World} {R L L' bx : Nat} {cs : Array Value} {A : Option Addr} {n c : Nat} {xs : List Int} {B : Option Addr} {q d : Nat} {ss : List (Int × Int)}
theorem RS.grown (h : RS w W R L bx cs A n c xs B q d ss) (hg : W.grownBy W' (some R)) (hr : Rd W' R L') (hR : R < w.heap.size) (hb : R < bx) : RS w W' R L' bx cs A n c xs B q d ss :=
  ⟨h.bx.grown hg (by intro e; injection e with e; omega), OI.row h.oa hg hR, h.ob.grown hg (fun k hk hA => by injection hk with hk; have := (h.ob.lt k hA).1; omega), h.kz.grown hg (by intro e; injection e with e; omega), grown_trans' h.g hg, hr⟩
theorem RS.dr (h : RS w W R L bx cs A n c xs B q d ss) (hd : Dr W W') : RS w W' R L bx cs A n c xs B q d ss :=
  ⟨h.bx.dr hd, OI.dr h.oa hd, h.ob.st hd.st, h.kz.dr hd, grown_dr h.g hd, h.r.dr hd⟩
theorem RS.alloc (h : RS w W R L bx cs A n c xs B q d ss) (o : Obj) : RS w (W.alloc o) R L bx cs A n c xs B q d ss :=
  have a := (St.refl W).alloc o
  ⟨h.bx.alloc o, own_below h.oa a, h.ob.st a, h.kz.alloc o, grown_alloc h.g o, h.r.alloc o⟩
theorem RS.set (h : RS w W R L bx cs A n c xs B q d ss) (hwb : w.heap.size < bx) (hb : R < bx) (i : Nat) (v : Value) : RS w (W.setCell ⟨bx, i, none⟩ v) R L bx (cs.setIfInBounds i v) A n c xs B q d ss := by
  have g1 := World.grownBy_set W bx i v
  refine ⟨h.bx.set_ i v, h.oa.grown g1 fun k hk => ?_, h.ob.grown g1 fun k hk => ?_, h.kz.grown g1 (by intro e; injection e with e; omega), grown_new h.g g1 (fun k hk => by injection hk with hk; omega), h.r.grown g1 (fun k hk => by injection hk with hk; omega)⟩
  · injection hk with hk
    subst hk
    rw [← ownBlock_slice A n c]
    exact own_blk_ne h.oa h.bx (by decide)
  · injection hk with hk
    subst hk
    rw [← ownBlock_slice B q d]
    exact own_blk_ne h.ob.2 h.bx (by decide)
theorem RS.groups (h : RS w W R L bx cs A n c xs B q d ss) {A' : Option Addr} {n' c' : Nat} {xs' : List Int} (oa : OI W w.heap.size 3 A' n' c' xs') : RS w W R L bx cs A' n' c' xs' B q d ss := ⟨h.bx, oa, h.ob, h.kz, h.g, h.r⟩
theorem RS.app (h : RS w W R L bx cs A n c xs B q d ss) {X : Option Addr} {a : Nat} {t g : Int} (ho : W'.ownsRow w.heap.size 45 2 (.slice X (q + 1) a) (q + 1) (stampCells (ss ++ [(t, g)]))) (hg : W.grownBy W' (blockOf B)) (hR : R < w.heap.size) : RS w W' R L bx cs A n c xs X (q + 1) a (ss ++ [(t, g)]) := by
  have hlt : ∀ k, blockOf B = some k → w.heap.size ≤ k := fun k hk => (h.ob.lt k hk).1
  refine ⟨h.bx.grown hg fun e => ?_, h.oa.grown hg (fun k hk => OI_OS_ne h.oa h.ob k hk), ⟨by simp [h.ob.1], ho⟩, h.kz.grown hg fun e => ?_, grown_new h.g hg hlt, h.r.grown hg (fun k hk => by have := hlt k hk; omega)⟩
  · have hh := own_blk_ne h.ob.2 h.bx (by decide)
    rw [ownBlock_slice] at hh
    exact hh e.symm
  · have hh := own_blk_ne h.ob.2 h.kz (by decide)
    rw [ownBlock_slice] at hh
    exact hh e.symm
end
/-- A round that was drawn. -/
def RoundAny (w : World) (R L : Nat) (e : Ending) (w' : World) : Prop :=
  ∃ (M : Int) (A : Option Addr) (n c : Nat) (B : Option Addr) (q d : Nat) (xs : List Int) (ss : List (Int × Int)), e = .returned (rdV M A n c B q d) ∧ OI w' w.heap.size 3 A n c xs ∧ OS w' w.heap.size B q d ss ∧ n ≤ 6 ∧ q ≤ 7 ∧ Rd w' R L ∧ w.grownBy w' (some R)
theorem rdFin {w W : World} {R L L' bx : Nat} {cs : Array Value} {A : Option Addr} {n c : Nat} {xs : List Int} {B : Option Addr} {q d : Nat} {ss : List (Int × Int)} (M : Int)
    (h : RS w W R L bx cs A n c xs B q d ss) (hR : R < w.heap.size) (hn : n ≤ 6) (hq : q ≤ 7) (hL : L ≤ L') {W' : World}
    (hW : W' = ((W.setCell ⟨w.heap.size, 0, none⟩ (.int .i64 M)).setCell ⟨w.heap.size, 1, none⟩ (.slice A n c)).setCell ⟨w.heap.size, 2, none⟩ (.slice B q d)) :
    Hid (Blk W' w.heap.size 25 #[.int .i64 M, .slice A n c, .slice B q d] ∧ RoundAny w R L' (.returned (rdV M A n c B q d)) W') := by
  subst hW
  have g1 := World.grownBy_set W w.heap.size 0 (.int .i64 M)
  have g2 := World.grownBy_set (W.setCell ⟨w.heap.size, 0, none⟩ (.int .i64 M)) w.heap.size 1 (.slice A n c)
  have g3 := World.grownBy_set ((W.setCell ⟨w.heap.size, 0, none⟩ (.int .i64 M)).setCell ⟨w.heap.size, 1, none⟩ (.slice A n c)) w.heap.size 2 (.slice B q d)
  have gg := grown_trans' (grown_trans' g1 g2) g3
  have o1 : OI _ w.heap.size 3 A n c xs := h.oa.grown gg (by
    intro k hk
    injection hk with hk
    subst hk
    rw [← ownBlock_slice A n c]
    exact own_blk_ne h.oa h.kz (by decide))
  have o2 : OS _ w.heap.size B q d ss := h.ob.grown gg (by
    intro k hk
    injection hk with hk
    subst hk
    rw [← ownBlock_slice B q d]
    exact own_blk_ne h.ob.2 h.kz (by decide))
  exact ⟨((h.kz.set_ 0 _).set_ 1 _).set_ 2 _, M, A, n, c, B, q, d, xs, ss, rfl, o1, o2, hn, hq, (h.r.grown gg (fun k hk => by injection hk with hk; omega)).le hL, grown_new h.g gg (fun k hk => by injection hk with hk; omega)⟩
set_option maxRecDepth 100000 in
set_option maxHeartbeats 4000000 in
theorem l91Round_any (R M : Nat) (w : World) (hr : Rd w R M) (hM : M ≤ 1099511620000) :
    Calls Try.prog 70 #[.pointer (some ⟨R, 0, none⟩)] w (RoundAny w R (M + 40)) := by
  have hRlt := hr.lt
  have r0 := hid (hr.alloc (.cells #[.int .i64 0, .slice none 0 0, .slice none 0 0] 25))
  have K0 := hid (Blk.new w 25 #[.int .i64 0, .slice none 0 0, .slice none 0 0])
  have g0 := hid (World.grownBy_alloc w (.cells #[.int .i64 0, .slice none 0 0, .slice none 0 0] 25) (some R))
  go_enter Try.func70, Try.ntmps70
  go_wp2_with fail
  refine (pick_any _ _ _ _ r0.out (by omega) (by omega) (by omega)).mono ?_
  rintro e w1 ⟨m, rfl, _, hr1, hg1⟩
  have K1 := hid (K0.out.grown hg1 (by intro e; injection e with e; omega))
  have G1 := hid (grown_trans' g0.out hg1)
  clear r0 K0 g0 hg1
  go_wp2_with fail
  refine (l91Good_any _ _ _ hr1 (by omega)).mono ?_
  rintro e w2 ⟨A2, n2, c2, xs2, rfl, ho2, hn2, hr2, hg2⟩
  have K2 := hid (K1.out.grown hg2 (by intro e; injection e with e; omega))
  have G2 := hid (grown_trans' G1.out hg2)
  have hx2 := rnG_le m xs2
  rw [ho2.len] at hx2
  clear K1 G1 hg2 hr1
  go_wp2_with fail
  refine (specRoundNew_own m _ _ _ _ _ ho2.ri (by omega)).mono ?_
  rintro e w3 ⟨A3, c3, B3, d3, rfl, o3, p3, s3⟩
  generalize hxs : rnG m xs2 = xs at o3 hx2 ⊢
  generalize rnM m xs2 = Mm
  have HL := hid (show xs.length = xs.length from rfl)
  generalize hn : xs.length = n at o3 hx2 ⊢
  have HN := hid hn
  have a3 := (St.refl w3).alloc (.cells #[.int .i64 Mm, .slice A3 n c3, .slice B3 0 d3] 25)
  have BX := hid (Blk.new w3 25 #[.int .i64 Mm, .slice A3 n c3, .slice B3 0 d3])
  have O3 := hid (OI.less (own_below o3 a3) (show w.heap.size ≤ w2.heap.size from G2.out.size))
  have P3 := hid ((p3.st a3).less (show w.heap.size ≤ w2.heap.size from G2.out.size))
  have K3 := hid (K2.out.below (s3.trans a3) K2.out.lt)
  have G3 := hid (grown_new G2.out (⟨(s3.trans a3).os, (s3.trans a3).tape, (s3.trans a3).output, (s3.trans a3).size, fun k hk _ => (s3.trans a3).block k hk⟩ : w2.grownBy _ none) (by simp))
  have R3 := hid (hr2.below (s3.trans a3) hr2.lt)
  have zx : w2.heap.size ≤ w3.heap.size := s3.le
  have zk : w.heap.size < w2.heap.size := K2.out.lt
  clear o3 p3 a3 K2 G2 s3 ho2 hr2 hxs hn HL
  go_wp2_with fail
  generalize w3.alloc (.cells #[.int .i64 Mm, .slice A3 n c3, .slice B3 0 d3] 25) = w4 at BX O3 P3 K3 G3 R3 ⊢
  generalize hbx : w3.heap.size = bx at BX zx ⊢
  clear hbx
  go_loopw [5] (fun i wr => ∃ (k q d : Nat) (c : Nat) (A B : Option Addr) (ss : List (Int × Int)), k ≤ n ∧ i = .int .i64 k ∧ q ≤ k ∧ Hid (Blk wr bx 25 #[.int .i64 Mm, .slice A n c, .slice B q d]) ∧ Hid (OI wr w.heap.size 3 A n c xs) ∧ Hid (OS wr w.heap.size B q d ss) ∧ Hid (Blk wr w.heap.size 25 #[.int .i64 0, .slice none 0 0, .slice none 0 0]) ∧ Hid (w.grownBy wr (some R)) ∧ Hid (Rd wr R (M + 10 + 2 * k))) (fun i _ => n - (intOf i).toNat)
  case atStart => exact ⟨0, 0, d3, c3, A3, B3, [], Nat.zero_le _, rfl, Nat.le_refl _, BX, O3, P3, K3, G3, R3.out.le (by omega)⟩
  case round =>
    obtain ⟨k, q, d, c, A, B, ss, hk, rfl, hqk, hbx, hoa, hob, hkz, hg, hrd⟩ := hrel
    have x1 := hbx.out.cell_ (i := 1) (v := .slice A n c) rfl
    by_cases hlt : k < n
    · have hki : (k : Int) < (n : Int) := by omega
      go_wp2_with fail
      refine (pick_any _ _ _ _ hrd.out (by omega) (by omega) (by omega)).mono ?_
      rintro e w5 ⟨y, rfl, hp, hrd5, hg5⟩
      have hp1 := hp.1
      have hp2 := hp.2.1 (by omega)
      have hRb : R < bx := by omega
      have BX5 := hid (hbx.out.grown hg5 (by intro e; injection e with e; omega))
      have OA5 := hid (OI.row hoa.out hg5 hRlt)
      have OB5 := hid (OS.grown hob.out hg5 (fun k hk hA => by injection hk with hk; have := (hob.out.lt k hA).1; omega))
      have KZ5 := hid (hkz.out.grown hg5 (by intro e; injection e with e; omega))
      have G5 := hid (grown_trans' hg.out hg5)
      clear hp hbx hoa hob hkz hg hrd hg5 x1
      by_cases hy : 0 < y
      · obtain ⟨ga, gi, rfl, hgab, hgal, hgx, hgc, _, _⟩ := OA5.out.at_ hlt
        have u0 := BX5.out.cell_ (i := 0) (v := .int .i64 Mm) rfl
        have u1 := BX5.out.cell_ (i := 1) (v := .slice (some ⟨ga, 0, none⟩) n c) rfl
        have u2 := BX5.out.cell_ (i := 2) (v := .slice B q d) rfl
        have hk0 : (0 : Int) ≤ (k : Int) := by omega
        have hbl := BX5.out.lt
        have hgx2 := hid (show (xs.map (Value.int .i64))[k]? = some (.int .i64 gi) by rw [List.getElem?_map, hgx.out]; rfl)
        have hOBlt := hid (show ∀ g, blockOf B = some g → R < g from fun g hg => by have := (OB5.out.lt g hg).1; omega)
        have RD51 := hid (show Rd w5.drew R (M + 10 + 2 * k + 1) from hrd5.dr ⟨1, rfl⟩)
        have RD52 := hid (show Rd (w5.alloc (.cells #[.int .i64 0, .slice none 0 0, .slice none 0 0] 25)).drew R (M + 10 + 2 * k + 1) from (hrd5.alloc _).dr ⟨1, rfl⟩)
        have BZ5 := hid (show Blk (w5.alloc (.cells #[.int .i64 0, .slice none 0 0, .slice none 0 0] 25)).drew bx 25 #[.int .i64 Mm, .slice (some ⟨ga, 0, none⟩) n c, .slice B q d] from (BX5.out.alloc _).dr ⟨1, rfl⟩)
        have OAZ5 := hid (show OI (w5.alloc (.cells #[.int .i64 0, .slice none 0 0, .slice none 0 0] 25)).drew w.heap.size 3 (some ⟨ga, 0, none⟩) n c xs from OI.dr (World.ownsRow.alloc OA5.out _) ⟨1, rfl⟩)
        have OBZ5 := hid (show OS (w5.alloc (.cells #[.int .i64 0, .slice none 0 0, .slice none 0 0] 25)).drew w.heap.size B q d ss from OS.st (OB5.out.st ((St.refl w5).alloc _)) (Dr.st ⟨1, rfl⟩))
        have KZZ5 := hid (show Blk (w5.alloc (.cells #[.int .i64 0, .slice none 0 0, .slice none 0 0] 25)).drew w.heap.size 25 #[.int .i64 0, .slice none 0 0, .slice none 0 0] from (KZ5.out.alloc _).dr ⟨1, rfl⟩)
        have GZ5 := hid (show w.grownBy (w5.alloc (.cells #[.int .i64 0, .slice none 0 0, .slice none 0 0] 25)).drew (some R) from grown_dr (grown_alloc G5.out _) ⟨1, rfl⟩)
        have YB5 := hid (show Blk (w5.alloc (.cells #[.int .i64 0, .slice none 0 0, .slice none 0 0] 25)).drew w5.heap.size 25 #[.int .i64 0, .slice none 0 0, .slice none 0 0] from (Blk.new w5 25 #[.int .i64 0, .slice none 0 0, .slice none 0 0]).dr ⟨1, rfl⟩)
        have hz5 := G5.out.size
        have hwb : w.heap.size < bx := by omega
        go_wp2_with fail
        go_region_held3 (fun w' => w'.cell? ⟨bx, 0, none⟩ = some (.int .i64 Mm) ∧ w'.cell? ⟨bx, 1, none⟩ = some (.slice (some ⟨ga, 0, none⟩) n c) ∧ w'.cell? ⟨bx, 2, none⟩ = some (.slice B q d) ∧ w'.cell? ⟨ga, k, none⟩ = some (.int .i64 gi)) (first | with_reducible exact ⟨v0, v1, v2, v3⟩ | with_reducible exact ⟨t0, t1, t2, t3⟩ | (simp [*, World.cell?_alloc_some]; done) | exact ⟨F7.out.fbx.cell_ (i := 0) (v := .int .i64 Mm) rfl, F7.out.fbx.cell_ (i := 1) (v := .slice (some ⟨ga, 0, none⟩) n c) rfl, F7.out.fbx.cell_ (i := 2) (v := .slice B q d) rfl, (World.ownsRow.cellAt F7.out.oa k (by omega)).trans hgx2.out⟩)
          (first
            | (go_at_call 81; (with_reducible refine (pick_any _ _ _ _ RD51.out (by omega) (by omega) (by omega)).mono ?_); rintro e w6 ⟨z, rfl, hpz, hrd6, hg6⟩; have hz1 := hpz.1; have hz2 := hpz.2.1 (by omega); have BX6 := (BX5.out.dr ⟨1, rfl⟩).grown hg6 (by intro e; injection e with e; omega); have OA6 := OI.row (OI.dr OA5.out ⟨1, rfl⟩) hg6 hRlt; have OB6 := OS.grown (OS.st OB5.out (Dr.st ⟨1, rfl⟩)) hg6 (fun k hk hA => by injection hk with hk; have := (hOBlt.out k hA); omega); have KZ6 := Blk.grown (Blk.dr KZ5.out ⟨1, rfl⟩) hg6 (by intro e; injection e with e; omega); have G6 := grown_trans' (grown_dr G5.out ⟨1, rfl⟩) hg6; have YB6 := trivial; have v0 := BX6.cell_ (i := 0) (v := .int .i64 Mm) rfl; have v1 := BX6.cell_ (i := 1) (v := .slice (some ⟨ga, 0, none⟩) n c) rfl; have v2 := BX6.cell_ (i := 2) (v := .slice B q d) rfl; have v3 := (World.ownsRow.cellAt OA6 k (by omega)).trans hgx2.out; clear hpz)
            | (go_at_call 81; (with_reducible refine (pick_any _ _ _ _ RD52.out (by omega) (by omega) (by omega)).mono ?_); rintro e w6 ⟨z, rfl, hpz, hrd6, hg6⟩; have hz1 := hpz.1; have hz2 := hpz.2.1 (by omega); have BX6 := (BZ5.out).grown hg6 (by intro e; injection e with e; omega); have OA6 := OI.row OAZ5.out hg6 hRlt; have OB6 := OS.grown OBZ5.out hg6 (fun k hk hA => by injection hk with hk; have := (hOBlt.out k hA); omega); have KZ6 := Blk.grown KZZ5.out hg6 (by intro e; injection e with e; omega); have G6 := grown_trans' GZ5.out hg6; have YB6 := YB5.out.grown hg6 (by intro e; injection e with e; omega); have v0 := BX6.cell_ (i := 0) (v := .int .i64 Mm) rfl; have v1 := BX6.cell_ (i := 1) (v := .slice (some ⟨ga, 0, none⟩) n c) rfl; have v2 := BX6.cell_ (i := 2) (v := .slice B q d) rfl; have v3 := (World.ownsRow.cellAt OA6 k (by omega)).trans hgx2.out; clear hpz)
            | (go_at_call 73; (with_reducible refine (l12Add_ex Mm (some ⟨ga, 0, none⟩) B n c q d xs ss (IntKind.i64.wrap (1 + z)) gi _ OA6.sl OB6.ss (by omega) (by omega)).mono ?_); rintro e w7 ⟨A7, c7, B7, d7, q7, ss7, bb, rfl, o7, p7, hq7, s7⟩; have t0 := s7.cell v0; have t1 := s7.cell v1; have t2 := s7.cell v2; have t3 := s7.cell v3; have F7 := hid (Fin7.mk2 (BX6.below s7 BX6.lt) (own_below OA6 s7) (OB6.st s7) (o7.less G6.size) (p7.less G6.size) (KZ6.below s7 KZ6.lt) (grown_st G6 s7) (hrd6.below s7 hrd6.lt) (YB6.below s7 YB6.lt) hbl (by omega) (by omega) (by decide) (by decide)); have Y7 := YB6.below s7 YB6.lt; have y0 := Y7.cell_ (i := 0) (v := .int .i64 0) rfl; have y1 := Y7.cell_ (i := 1) (v := .slice none 0 0) rfl; have y2 := Y7.cell_ (i := 2) (v := .slice none 0 0) rfl; have z0 := Y7.frozen 0; have z1 := Y7.frozen 1; have z2 := Y7.frozen 2)
            | (go_at_call 73; (with_reducible refine (l12Add_ex Mm (some ⟨ga, 0, none⟩) B n c q d xs ss (IntKind.i64.wrap (1 + z)) gi _ OA6.sl OB6.ss (by omega) (by omega)).mono ?_); rintro e w7 ⟨A7, c7, B7, d7, q7, ss7, bb, rfl, o7, p7, hq7, s7⟩; have t0 := s7.cell v0; have t1 := s7.cell v1; have t2 := s7.cell v2; have t3 := s7.cell v3; have F7 := hid (Fin7.mk1 (BX6.below s7 BX6.lt) (own_below OA6 s7) (OB6.st s7) (o7.less G6.size) (p7.less G6.size) (KZ6.below s7 KZ6.lt) (grown_st G6 s7) (hrd6.below s7 hrd6.lt)))
            | (go_at_call 73; (with_reducible refine (l12Add_ex Mm (some ⟨ga, 0, none⟩) B n c q d xs ss (IntKind.i64.wrap (1 + z)) gi _ (OA6.sl.st ((St.refl w6).alloc _)) (OB6.ss.st ((St.refl w6).alloc _)) (by omega) (by omega)).mono ?_); rintro e w7 ⟨A7, c7, B7, d7, q7, ss7, bb, rfl, o7, p7, hq7, s7⟩; have t0 := s7.cell (((St.refl w6).alloc _).cell v0); have t1 := s7.cell (((St.refl w6).alloc _).cell v1); have t2 := s7.cell (((St.refl w6).alloc _).cell v2); have t3 := s7.cell (((St.refl w6).alloc _).cell v3); have F7 := hid (Fin7.mk3 BX6 OA6 OB6 KZ6 G6 hrd6 s7 o7 p7); have Y6 := Blk.new w6 25 #[.int .i64 0, .slice none 0 0, .slice none 0 0]; have Y7 := Y6.below s7 Y6.lt; have y0 := Y7.cell_ (i := 0) (v := .int .i64 0) rfl; have y1 := Y7.cell_ (i := 1) (v := .slice none 0 0) rfl; have y2 := Y7.cell_ (i := 2) (v := .slice none 0 0) rfl; have z0 := Y7.frozen 0; have z1 := Y7.frozen 1; have z2 := Y7.frozen 2))
        all_goals
          have hy0 := F7.out.fy.cell_ (i := 0) (v := .int .i64 Mm) rfl
          have hy1 := F7.out.fy.cell_ (i := 1) (v := .slice A7 n c7) rfl
          have hy2 := F7.out.fy.cell_ (i := 2) (v := .slice B7 q7 d7) rfl
          have hx0 := F7.out.fbx.cell_ (i := 0) (v := .int .i64 Mm) rfl
          have hx1 := F7.out.fbx.cell_ (i := 1) (v := .slice (some ⟨ga, 0, none⟩) n c) rfl
          have hx3 := F7.out.fbx.cell_ (i := 2) (v := .slice B q d) rfl
          have hz0 := F7.out.fbx.frozen 0
          have hz1 := F7.out.fbx.frozen 1
          have hz2 := F7.out.fbx.frozen 2
          cases bb
          · go_wp2_with fail
            go_roundw
            case rel => exact ⟨k + 1, q, d, c, _, _, ss, by omega, by go_num, by omega, hid F7.out.fbx, hid F7.out.oa, hid F7.out.ob, hid F7.out.kz, hid F7.out.fg, hid (F7.out.fr.le (by omega))⟩
            case measure => simp [intOf]; omega
          · go_wp2_with fail
            go_roundw
            case rel =>
              obtain ⟨e1, e2, e3, e4, e5, e6⟩ := Fin7.next F7.out hwb hRb rfl
              exact ⟨k + 1, q7, d7, c7, _, _, ss7, by omega, by go_num, by omega, e1, e2, e3, e4, e5, hid (e6.out.le (by omega))⟩
            case measure => simp [intOf]; omega
      · go_wp2_with fail
        go_roundw
        case rel => exact ⟨k + 1, q, d, c, _, _, ss, by omega, by go_num, by omega, BX5, OA5, OB5, KZ5, G5, hid (hrd5.le (by omega))⟩
        case measure => simp [intOf]; omega
    · obtain rfl : k = n := by omega
      have hnn : ¬ (k : Int) < (k : Int) := by omega
      have hwb : w.heap.size < bx := by omega
      have hRb : R < bx := by omega
      go_wp2_with fail
      refine (pick_any _ _ _ _ hrd.out (by omega) (by omega) (by omega)).mono ?_
      rintro e w5 ⟨y, rfl, hp, hrd5, hg5⟩
      have X5 := hid (RS.grown ⟨hbx.out, hoa.out, hob.out, hkz.out, hg.out, hrd.out⟩ hg5 hrd5 hRlt hRb)
      clear hp hbx hoa hob hkz hg hrd hg5 x1
      cases h0 : (y == 0)
      · cases h1 : (y == 1)
        · cases h2 : (y == 2)
          · have b0 := X5.out.bx.cell_ (i := 0) (v := .int .i64 Mm) rfl
            have b1 := X5.out.bx.cell_ (i := 1) (v := .slice A k c) rfl
            have b2 := X5.out.bx.cell_ (i := 2) (v := .slice B q d) rfl
            have y0 := X5.out.kz.cell_ (i := 0) (v := .int .i64 0) rfl
            have y1 := X5.out.kz.cell_ (i := 1) (v := .slice none 0 0) rfl
            have y2 := X5.out.kz.cell_ (i := 2) (v := .slice none 0 0) rfl
            have x0 := X5.out.kz.frozen 0
            have x1 := X5.out.kz.frozen 1
            have x2 := X5.out.kz.frozen 2
            have HE := rdFin (L' := M + 40) Mm X5.out hRlt (by omega) (by omega) (by omega) rfl
            have s0 := HE.out.1.cell_ (i := 0) (v := .int .i64 Mm) rfl
            have s1 := HE.out.1.cell_ (i := 1) (v := .slice A k c) rfl
            have s2 := HE.out.1.cell_ (i := 2) (v := .slice B q d) rfl
            go_wp2_with fail
            refine bodyPost_ret (v := .agg #[.int .i64 Mm, .slice A k c, .slice B q d]) (by simp [results, Try.results70, go_sem, s0, s1, s2]) rfl HE.out.2
          · have u2 : w5.drew.cell? ⟨bx, 2, none⟩ = some (.slice B q d) := X5.out.bx.cell_ (i := 2) (v := .slice B q d) rfl
            have f2 : w5.drew.frozen? ⟨bx, 2, none⟩ = false := X5.out.bx.frozen 2
            have X51 := hid (show RS w w5.drew R (M + 10 + 2 * k + 1) bx _ A k c xs B q d ss from X5.out.dr ⟨1, rfl⟩)
            have RD51 := hid (show Rd w5.drew R (M + 10 + 2 * k + 1) from X51.out.r)
            have HS2 := hid (show (Value.agg #[.int .i64 0, .int .i64 0]).cells.size = 2 from rfl)
            have HS3 := hid (show 0 < 2 by omega)
            have G3 := hid (show q + 1 ≤ 1099511627776 by omega)
            have G4 := hid (show (q + 1) * 16 ≤ 140737488355328 by omega)
            go_wp2_with fail
            refine wp_region_any (by kernel_rfl) ?_
            (try (change wpAny _ _ _ _ _ _ _ (World.drew _)))
            refine wpAny_take (i := 0) (v := ?_) rfl (by kernel_rfl) (by kernel_rfl) (by kernel_rfl) (fun _ _ _ h => h) (Or.inl ⟨by rfl, ?_⟩) ?_
            rotate_left
            · (intro wq; go_simp; (try with_reducible rfl))
            refine wpAny_take (i := 2) (v := ?_) rfl (by kernel_rfl) (by kernel_rfl) (by kernel_rfl) (fun _ _ _ h => h) (Or.inl ⟨by rfl, ?_⟩) ?_
            rotate_left
            · (intro wq; go_simp; (try with_reducible rfl))
            refine wpAny_ready (rs := [1, 3]) (by kernel_rfl) (by simp) ?_
            refine AllReady.cons rfl (fun K hK => ?_) ?_
            · go_simp
              (first | (refine hK _ _ ?_; clear hK K) | skip)
              refine wpAny_ready (rs := [3]) (by kernel_rfl) (by simp) ?_
              refine AllReady.cons rfl (fun K hK => ?_) ?_
              · go_simp; go_wp2_with ((go_at_call 71; (with_reducible refine (l91Stamp_any _ _ _ RD51.out (by omega)).mono ?_); rintro e w6 ⟨t, g, rfl, hrd6, hg6⟩; have X6 := hid (RS.grown X51.out hg6 hrd6 hRlt hRb); have v2 := X6.out.bx.cell_ (i := 2) (v := .slice B q d) rfl; have g2 := X6.out.bx.frozen 2; have X6a := hid (X6.out.alloc (.cells #[.int .i64 t, .int .i64 g] 45)); have a2 := X6a.out.bx.cell_ (i := 2) (v := .slice B q d) rfl; have ga2 := X6a.out.bx.frozen 2))
                (first | (refine hK _ _ ?_; clear hK K) | skip)
                refine wpAny_ready (rs := [4]) (by kernel_rfl) (by simp) ?_
                refine AllReady.cons rfl (fun K hK => ?_) ?_
                · go_simp
                  (first | (refine hK _ _ ?_; clear hK K) | skip)
                  refine wpAny_ready (rs := [5]) (by kernel_rfl) (by simp) ?_
                  refine AllReady.cons rfl (fun K hK => ?_) ?_
                  · (refine step_append_rows (w6.alloc (.cells #[.int .i64 t, .int .i64 g] 45)) (by rfl) (.tmp 58) (.tmp 61) 23 (by rfl) w.heap.size 45 2 16 (.agg #[.int .i64 0, .int .i64 0]) Try.underlying23 stampInfo HS2.out HS3.out B q d (stampCells ss) (by rfl) X6a.out.ob.2 _ (some ⟨w6.heap.size, 0, none⟩) 1 1 (stampCells [(t, g)]) (by rfl) (Reads.one w6 45 #[.int .i64 t, .int .i64 g] 2 rfl) (stampCells_one _) G3.out G4.out X6a.out.g.size ?_; intro X a w7 ho7 hg7; rw [← stampCells_append] at ho7; have X7 := hid (RS.app X6a.out ho7 hg7 hRlt); have t2 := X7.out.bx.cell_ (i := 2) (v := .slice B q d) rfl; have h2 := X7.out.bx.frozen 2; clear ho7 hg7)
                    (first | (refine hK _ _ ?_; clear hK K) | skip)
                    refine wpAny_take (i := 6) (v := ?_) rfl (by kernel_rfl) (by kernel_rfl) (by kernel_rfl) (fun _ _ _ h => h) (Or.inl ⟨by rfl, ?_⟩) ?_
                    rotate_left
                    · (intro wq; go_simp; (try with_reducible rfl))
                    refine wpAny_ready (rs := [7]) (by kernel_rfl) (by simp) ?_
                    refine AllReady.cons rfl (fun K hK => ?_) ?_
                    · go_simp
                      (first | (refine hK _ _ ?_; clear hK K) | skip)
                      refine wpAny_done (by kernel_rfl) ?_ _
                      have X8 := hid (X7.out.set hwb hRb 2 (.slice X (q + 1) a))
                      have b0 := X8.out.bx.cell_ (i := 0) (v := .int .i64 Mm) rfl
                      have b1 := X8.out.bx.cell_ (i := 1) (v := .slice A k c) rfl
                      have b2 := X8.out.bx.cell_ (i := 2) (v := .slice X (q + 1) a) rfl
                      have y0 := X8.out.kz.cell_ (i := 0) (v := .int .i64 0) rfl
                      have y1 := X8.out.kz.cell_ (i := 1) (v := .slice none 0 0) rfl
                      have y2 := X8.out.kz.cell_ (i := 2) (v := .slice none 0 0) rfl
                      have x0 := X8.out.kz.frozen 0
                      have x1 := X8.out.kz.frozen 1
                      have x2 := X8.out.kz.frozen 2
                      have HE := rdFin (L' := M + 40) Mm X8.out hRlt (by omega) (by omega) (by omega) rfl
                      have s0 := HE.out.1.cell_ (i := 0) (v := .int .i64 Mm) rfl
                      have s1 := HE.out.1.cell_ (i := 1) (v := .slice A k c) rfl
                      have s2 := HE.out.1.cell_ (i := 2) (v := .slice X (q + 1) a) rfl
                      go_wp2_with fail
                      refine bodyPost_ret (v := .agg #[.int .i64 Mm, .slice A k c, .slice X (q + 1) a]) (by simp [results, Try.results70, go_sem, s0, s1, s2]) rfl HE.out.2
                    exact AllReady.nil
                  exact AllReady.nil
                exact AllReady.nil
              exact AllReady.nil
            refine AllReady.cons rfl (fun K hK => ?_) ?_
            · go_simp; go_wp2_with ((go_at_call 71; (with_reducible refine (l91Stamp_any _ _ _ RD51.out (by omega)).mono ?_); rintro e w6 ⟨t, g, rfl, hrd6, hg6⟩; have X6 := hid (RS.grown X51.out hg6 hrd6 hRlt hRb); have v2 := X6.out.bx.cell_ (i := 2) (v := .slice B q d) rfl; have g2 := X6.out.bx.frozen 2; have X6a := hid (X6.out.alloc (.cells #[.int .i64 t, .int .i64 g] 45)); have a2 := X6a.out.bx.cell_ (i := 2) (v := .slice B q d) rfl; have ga2 := X6a.out.bx.frozen 2))
              (first | (refine hK _ _ ?_; clear hK K) | skip)
              refine wpAny_ready (rs := [1, 4]) (by kernel_rfl) (by simp) ?_
              refine AllReady.cons rfl (fun K hK => ?_) ?_
              · go_simp
                (first | (refine hK _ _ ?_; clear hK K) | skip)
                refine wpAny_ready (rs := [4]) (by kernel_rfl) (by simp) ?_
                refine AllReady.cons rfl (fun K hK => ?_) ?_
                · go_simp
                  (first | (refine hK _ _ ?_; clear hK K) | skip)
                  refine wpAny_ready (rs := [5]) (by kernel_rfl) (by simp) ?_
                  refine AllReady.cons rfl (fun K hK => ?_) ?_
                  · (refine step_append_rows (w6.alloc (.cells #[.int .i64 t, .int .i64 g] 45)) (by rfl) (.tmp 58) (.tmp 61) 23 (by rfl) w.heap.size 45 2 16 (.agg #[.int .i64 0, .int .i64 0]) Try.underlying23 stampInfo HS2.out HS3.out B q d (stampCells ss) (by rfl) X6a.out.ob.2 _ (some ⟨w6.heap.size, 0, none⟩) 1 1 (stampCells [(t, g)]) (by rfl) (Reads.one w6 45 #[.int .i64 t, .int .i64 g] 2 rfl) (stampCells_one _) G3.out G4.out X6a.out.g.size ?_; intro X a w7 ho7 hg7; rw [← stampCells_append] at ho7; have X7 := hid (RS.app X6a.out ho7 hg7 hRlt); have t2 := X7.out.bx.cell_ (i := 2) (v := .slice B q d) rfl; have h2 := X7.out.bx.frozen 2; clear ho7 hg7)
                    (first | (refine hK _ _ ?_; clear hK K) | skip)
                    refine wpAny_take (i := 6) (v := ?_) rfl (by kernel_rfl) (by kernel_rfl) (by kernel_rfl) (fun _ _ _ h => h) (Or.inl ⟨by rfl, ?_⟩) ?_
                    rotate_left
                    · (intro wq; go_simp; (try with_reducible rfl))
                    refine wpAny_ready (rs := [7]) (by kernel_rfl) (by simp) ?_
                    refine AllReady.cons rfl (fun K hK => ?_) ?_
                    · go_simp
                      (first | (refine hK _ _ ?_; clear hK K) | skip)
                      refine wpAny_done (by kernel_rfl) ?_ _
                      have X8 := hid (X7.out.set hwb hRb 2 (.slice X (q + 1) a))
                      have b0 := X8.out.bx.cell_ (i := 0) (v := .int .i64 Mm) rfl
                      have b1 := X8.out.bx.cell_ (i := 1) (v := .slice A k c) rfl
                      have b2 := X8.out.bx.cell_ (i := 2) (v := .slice X (q + 1) a) rfl
                      have y0 := X8.out.kz.cell_ (i := 0) (v := .int .i64 0) rfl
                      have y1 := X8.out.kz.cell_ (i := 1) (v := .slice none 0 0) rfl
                      have y2 := X8.out.kz.cell_ (i := 2) (v := .slice none 0 0) rfl
                      have x0 := X8.out.kz.frozen 0
                      have x1 := X8.out.kz.frozen 1
                      have x2 := X8.out.kz.frozen 2
                      have HE := rdFin (L' := M + 40) Mm X8.out hRlt (by omega) (by omega) (by omega) rfl
                      have s0 := HE.out.1.cell_ (i := 0) (v := .int .i64 Mm) rfl
                      have s1 := HE.out.1.cell_ (i := 1) (v := .slice A k c) rfl
                      have s2 := HE.out.1.cell_ (i := 2) (v := .slice X (q + 1) a) rfl
                      go_wp2_with fail
                      refine bodyPost_ret (v := .agg #[.int .i64 Mm, .slice A k c, .slice X (q + 1) a]) (by simp [results, Try.results70, go_sem, s0, s1, s2]) rfl HE.out.2
                    exact AllReady.nil
                  exact AllReady.nil
                exact AllReady.nil
              refine AllReady.cons rfl (fun K hK => ?_) ?_
              · go_simp
                (first | (refine hK _ _ ?_; clear hK K) | skip)
                refine wpAny_ready (rs := [1]) (by kernel_rfl) (by simp) ?_
                refine AllReady.cons rfl (fun K hK => ?_) ?_
                · go_simp
                  (first | (refine hK _ _ ?_; clear hK K) | skip)
                  refine wpAny_ready (rs := [5]) (by kernel_rfl) (by simp) ?_
                  refine AllReady.cons rfl (fun K hK => ?_) ?_
                  · (refine step_append_rows (w6.alloc (.cells #[.int .i64 t, .int .i64 g] 45)) (by rfl) (.tmp 58) (.tmp 61) 23 (by rfl) w.heap.size 45 2 16 (.agg #[.int .i64 0, .int .i64 0]) Try.underlying23 stampInfo HS2.out HS3.out B q d (stampCells ss) (by rfl) X6a.out.ob.2 _ (some ⟨w6.heap.size, 0, none⟩) 1 1 (stampCells [(t, g)]) (by rfl) (Reads.one w6 45 #[.int .i64 t, .int .i64 g] 2 rfl) (stampCells_one _) G3.out G4.out X6a.out.g.size ?_; intro X a w7 ho7 hg7; rw [← stampCells_append] at ho7; have X7 := hid (RS.app X6a.out ho7 hg7 hRlt); have t2 := X7.out.bx.cell_ (i := 2) (v := .slice B q d) rfl; have h2 := X7.out.bx.frozen 2; clear ho7 hg7)
                    (first | (refine hK _ _ ?_; clear hK K) | skip)
                    refine wpAny_take (i := 6) (v := ?_) rfl (by kernel_rfl) (by kernel_rfl) (by kernel_rfl) (fun _ _ _ h => h) (Or.inl ⟨by rfl, ?_⟩) ?_
                    rotate_left
                    · (intro wq; go_simp; (try with_reducible rfl))
                    refine wpAny_ready (rs := [7]) (by kernel_rfl) (by simp) ?_
                    refine AllReady.cons rfl (fun K hK => ?_) ?_
                    · go_simp
                      (first | (refine hK _ _ ?_; clear hK K) | skip)
                      refine wpAny_done (by kernel_rfl) ?_ _
                      have X8 := hid (X7.out.set hwb hRb 2 (.slice X (q + 1) a))
                      have b0 := X8.out.bx.cell_ (i := 0) (v := .int .i64 Mm) rfl
                      have b1 := X8.out.bx.cell_ (i := 1) (v := .slice A k c) rfl
                      have b2 := X8.out.bx.cell_ (i := 2) (v := .slice X (q + 1) a) rfl
                      have y0 := X8.out.kz.cell_ (i := 0) (v := .int .i64 0) rfl
                      have y1 := X8.out.kz.cell_ (i := 1) (v := .slice none 0 0) rfl
                      have y2 := X8.out.kz.cell_ (i := 2) (v := .slice none 0 0) rfl
                      have x0 := X8.out.kz.frozen 0
                      have x1 := X8.out.kz.frozen 1
                      have x2 := X8.out.kz.frozen 2
                      have HE := rdFin (L' := M + 40) Mm X8.out hRlt (by omega) (by omega) (by omega) rfl
                      have s0 := HE.out.1.cell_ (i := 0) (v := .int .i64 Mm) rfl
                      have s1 := HE.out.1.cell_ (i := 1) (v := .slice A k c) rfl
                      have s2 := HE.out.1.cell_ (i := 2) (v := .slice X (q + 1) a) rfl
                      go_wp2_with fail
                      refine bodyPost_ret (v := .agg #[.int .i64 Mm, .slice A k c, .slice X (q + 1) a]) (by simp [results, Try.results70, go_sem, s0, s1, s2]) rfl HE.out.2
                    exact AllReady.nil
                  exact AllReady.nil
                exact AllReady.nil
              exact AllReady.nil
            exact AllReady.nil
        · go_wp2_with fail
          refine (l91Set_any _ _ _ hrd5 (by omega)).mono ?_
          rintro e w6 ⟨A6, n6, c6, xs6, rfl, ho6, hn6, hrd6, hg6⟩
          have X6 := hid ((RS.grown X5.out hg6 hrd6 hRlt hRb).groups (ho6.less X5.out.g.size))
          have c1 := X6.out.bx.cell_ (i := 1) (v := .slice A k c) rfl
          have f1 := X6.out.bx.frozen 1
          have X7 := hid (X6.out.set hwb hRb 1 (.slice A6 n6 c6))
          clear ho6 hg6
          have b0 := X7.out.bx.cell_ (i := 0) (v := .int .i64 Mm) rfl
          have b1 := X7.out.bx.cell_ (i := 1) (v := .slice A6 n6 c6) rfl
          have b2 := X7.out.bx.cell_ (i := 2) (v := .slice B q d) rfl
          have y0 := X7.out.kz.cell_ (i := 0) (v := .int .i64 0) rfl
          have y1 := X7.out.kz.cell_ (i := 1) (v := .slice none 0 0) rfl
          have y2 := X7.out.kz.cell_ (i := 2) (v := .slice none 0 0) rfl
          have x0 := X7.out.kz.frozen 0
          have x1 := X7.out.kz.frozen 1
          have x2 := X7.out.kz.frozen 2
          have HE := rdFin (L' := M + 40) Mm X7.out hRlt (by omega) (by omega) (by omega) rfl
          have s0 := HE.out.1.cell_ (i := 0) (v := .int .i64 Mm) rfl
          have s1 := HE.out.1.cell_ (i := 1) (v := .slice A6 n6 c6) rfl
          have s2 := HE.out.1.cell_ (i := 2) (v := .slice B q d) rfl
          go_wp2_with fail
          refine bodyPost_ret (v := .agg #[.int .i64 Mm, .slice A6 n6 c6, .slice B q d]) (by simp [results, Try.results70, go_sem, s0, s1, s2]) rfl HE.out.2
      · go_wp2_with fail
        refine (pick_any _ _ _ _ hrd5 (by omega) (by omega) (by omega)).mono ?_
        rintro e w6 ⟨z, rfl, hp, hrd6, hg6⟩
        have hp1 := hp.1
        have hp2 := hp.2.1 (by omega)
        have X6 := hid (RS.grown X5.out hg6 hrd6 hRlt hRb)
        have c1 := X6.out.bx.cell_ (i := 0) (v := .int .i64 Mm) rfl
        have f1 := X6.out.bx.frozen 0
        have X7 := hid (X6.out.set hwb hRb 0 (.int .i64 (z - 1)))
        clear hp hg6
        have b0 := X7.out.bx.cell_ (i := 0) (v := .int .i64 (z - 1)) rfl
        have b1 := X7.out.bx.cell_ (i := 1) (v := .slice A k c) rfl
        have b2 := X7.out.bx.cell_ (i := 2) (v := .slice B q d) rfl
        have y0 := X7.out.kz.cell_ (i := 0) (v := .int .i64 0) rfl
        have y1 := X7.out.kz.cell_ (i := 1) (v := .slice none 0 0) rfl
        have y2 := X7.out.kz.cell_ (i := 2) (v := .slice none 0 0) rfl
        have x0 := X7.out.kz.frozen 0
        have x1 := X7.out.kz.frozen 1
        have x2 := X7.out.kz.frozen 2
        have HE := rdFin (L' := M + 40) (z - 1) X7.out hRlt (by omega) (by omega) (by omega) rfl
        have s0 := HE.out.1.cell_ (i := 0) (v := .int .i64 (z - 1)) rfl
        have s1 := HE.out.1.cell_ (i := 1) (v := .slice A k c) rfl
        have s2 := HE.out.1.cell_ (i := 2) (v := .slice B q d) rfl
        go_wp2_with fail
        refine bodyPost_ret (v := .agg #[.int .i64 (z - 1), .slice A k c, .slice B q d]) (by simp [results, Try.results70, go_sem, s0, s1, s2]) rfl HE.out.2
end Go.Proofs.Ytldclkjknhjbfaa
