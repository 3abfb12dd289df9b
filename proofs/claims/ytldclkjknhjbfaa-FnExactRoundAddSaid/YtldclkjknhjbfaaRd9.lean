/- RoundAdd, the given side's. -/
import Derived.Test.YtldclkjknhjbfaaRd8
import Derived.Test.YtldclkjknhjbfaaRd6
namespace Go.Proofs.Ytldclkjknhjbfaa
open Go.RowKit Go.Sort
/-- What RoundAdd returns. -/
def raGood (M : Int) (xs : List Int) (ss : List (Int × Int)) (s : Int × Int) : Bool := rdValid M xs ss && stOk s
def raOk (M : Int) (xs : List Int) (ss : List (Int × Int)) (s : Int × Int) : Bool := raGood M xs ss s && addOk xs ss s.2
def raM (M : Int) (xs : List Int) (ss : List (Int × Int)) (s : Int × Int) : Int := if raGood M xs ss s then M else 0
def raXs (M : Int) (xs : List Int) (ss : List (Int × Int)) (s : Int × Int) : List Int := if raGood M xs ss s then xs else []
def raSs (M : Int) (xs : List Int) (ss : List (Int × Int)) (s : Int × Int) : List (Int × Int) := if raGood M xs ss s then addGot xs ss s else []
def RAEnd (M : Int) (xs : List Int) (ss : List (Int × Int)) (s : Int × Int) (w : World) (e : Ending) (w' : World) : Prop :=
  ∃ A c B d, e = .returned (.tuple #[rdV (raM M xs ss s) A (raXs M xs ss s).length c B (raSs M xs ss s).length d, .bool (raOk M xs ss s)]) ∧ OI w' w.heap.size 3 A (raXs M xs ss s).length c (raXs M xs ss s) ∧ OS w' w.heap.size B (raSs M xs ss s).length d (raSs M xs ss s) ∧ St w w'
theorem RAEnd.bad {M : Int} {xs : List Int} {ss : List (Int × Int)} {s : Int × Int} {w W : World} (h : raGood M xs ss s = false) (hs : St w W) : RAEnd M xs ss s w (.returned (.tuple #[.agg #[.int .i64 0, .slice none 0 0, .slice none 0 0], .bool false])) W := by
  unfold RAEnd raOk raM raXs raSs
  rw [h]
  exact ⟨none, 0, none, 0, rfl, World.ownsRow_nil _ _ _ _, OS.nil _ _, hs⟩
theorem RAEnd.good {M : Int} {xs : List Int} {ss : List (Int × Int)} {s : Int × Int} {w W : World} {A B : Option Addr} {c d : Nat} {ok : Bool} (h : raGood M xs ss s = true) (hok : addOk xs ss s.2 = ok) (oa : OI W w.heap.size 3 A xs.length c xs) (ob : OS W w.heap.size B (addGot xs ss s).length d (addGot xs ss s)) (hs : St w W) :
    RAEnd M xs ss s w (.returned (.tuple #[.agg #[.int .i64 M, .slice A xs.length c, .slice B (addGot xs ss s).length d], .bool ok])) W := by
  unfold RAEnd raOk raM raXs raSs
  rw [h, Bool.true_and, hok]
  exact ⟨A, c, B, d, rfl, oa, ob, hs⟩
theorem raFin {w W : World} {g base : Nat} {A : Option Addr} {n c : Nat} {xs : List Int} {B : Option Addr} {q d : Nat} {ss : List (Int × Int)} (M : Int)
    (hk : Blk W g 25 #[.int .i64 0, .slice none 0 0, .slice none 0 0]) (oa : OI W base 3 A n c xs) (ob : OS W base B q d ss) (s : St w W) (hw : w.heap.size ≤ g) (hg : g < base) {W' : World}
    (hW : W' = ((W.setCell ⟨g, 0, none⟩ (.int .i64 M)).setCell ⟨g, 1, none⟩ (.slice A n c)).setCell ⟨g, 2, none⟩ (.slice B q d)) :
    Hid (Blk W' g 25 #[.int .i64 M, .slice A n c, .slice B q d] ∧ OI W' w.heap.size 3 A n c xs ∧ OS W' w.heap.size B q d ss ∧ St w W') := by
  subst hW
  have g1 := World.grownBy_set W g 0 (.int .i64 M)
  have g2 := World.grownBy_set (W.setCell ⟨g, 0, none⟩ (.int .i64 M)) g 1 (.slice A n c)
  have g3 := World.grownBy_set ((W.setCell ⟨g, 0, none⟩ (.int .i64 M)).setCell ⟨g, 1, none⟩ (.slice A n c)) g 2 (.slice B q d)
  have gg := grown_trans' (grown_trans' g1 g2) g3
  have o1 : OI _ base 3 A n c xs := oa.grown gg (fun k hk hA => by injection hk with hk; have := (oa.lt k hA).1; omega)
  have o2 : OS _ base B q d ss := ob.grown gg (fun k hk hA => by injection hk with hk; have := (ob.lt k hA).1; omega)
  exact ⟨((hk.set_ 0 _).set_ 1 _).set_ 2 _, o1.less (by omega), o2.less (by omega), St.grown s gg (fun k hk => by injection hk with hk; omega)⟩
theorem blk_third (w : World) (o o2 : Obj) (t : TypeId) (cs : Array Value) : Blk (((w.alloc o).alloc o2).alloc (.cells cs t)) (w.heap.size + 2) t cs := by
  have := Blk.new ((w.alloc o).alloc o2) t cs
  rw [World.heap_alloc_size', World.heap_alloc_size'] at this
  exact this
set_option maxRecDepth 100000 in
set_option maxHeartbeats 2000000 in
theorem specRoundAdd_any (M : Int) (A B : Option Addr) (n c q d : Nat) (xs : List Int) (ss : List (Int × Int)) (t g : Int) (w : World) (h : SL w A n c xs) (h' : SS w B q d ss) (hn : n ≤ 1048576) (hq : q ≤ 1048576) :
    Calls Try.prog 38 #[rdV M A n c B q d, .agg #[.int .i64 t, .int .i64 g]] w (RAEnd M xs ss (t, g) w) := by
  have s0 := (((St.refl w).alloc (.cells #[.int .i64 M, .slice A n c, .slice B q d] 25)).alloc (.cells #[.int .i64 t, .int .i64 g] 45)).alloc (.cells #[.int .i64 0, .slice none 0 0, .slice none 0 0] 25)
  have K0 := hid (((Blk.new w 25 #[.int .i64 M, .slice A n c, .slice B q d]).alloc (.cells #[.int .i64 t, .int .i64 g] 45)).alloc (.cells #[.int .i64 0, .slice none 0 0, .slice none 0 0] 25))
  have K1 := hid ((blk_second w (.cells #[.int .i64 M, .slice A n c, .slice B q d] 25) 45 #[.int .i64 t, .int .i64 g]).alloc (.cells #[.int .i64 0, .slice none 0 0, .slice none 0 0] 25))
  have K2 := hid (blk_third w (.cells #[.int .i64 M, .slice A n c, .slice B q d] 25) (.cells #[.int .i64 t, .int .i64 g] 45) 25 #[.int .i64 0, .slice none 0 0, .slice none 0 0])
  have S0 := hid s0
  have I0 := hid (h.st s0)
  have J0 := hid (h'.st s0)
  have q0 := K0.out.cell_ (i := 0) (v := .int .i64 M) rfl
  have q1 := K0.out.cell_ (i := 1) (v := .slice A n c) rfl
  have q2 := K0.out.cell_ (i := 2) (v := .slice B q d) rfl
  have hxl := h.len
  have HXL := hid hxl
  clear s0 hxl
  go_enter Try.func38, Try.ntmps38
  go_wp2_with fail
  generalize ((w.alloc (.cells #[.int .i64 M, .slice A n c, .slice B q d] 25)).alloc (.cells #[.int .i64 t, .int .i64 g] 45)).alloc (.cells #[.int .i64 0, .slice none 0 0, .slice none 0 0] 25) = w0 at K0 K1 K2 S0 I0 J0 q0 q1 q2 ⊢
  refine (specRoundValid_any M A B n c q d xs ss _ I0.out J0.out hn).mono ?_
  rintro e w1 ⟨rfl, s1⟩
  have L0 := hid (K0.out.below s1 K0.out.lt)
  have L1 := hid (K1.out.below s1 K1.out.lt)
  have L2 := hid (K2.out.below s1 K2.out.lt)
  have S1 := hid (S0.out.trans s1)
  have I1 := hid (I0.out.st s1)
  have J1 := hid (J0.out.st s1)
  clear q0 q1 q2 K0 K1 K2 S0 I0 J0 s1
  have y0 := L2.out.cell_ (i := 0) (v := .int .i64 0) rfl
  have y1 := L2.out.cell_ (i := 1) (v := .slice none 0 0) rfl
  have y2 := L2.out.cell_ (i := 2) (v := .slice none 0 0) rfl
  have x0 := L2.out.frozen 0
  have x1 := L2.out.frozen 1
  have x2 := L2.out.frozen 2
  have z0 := L1.out.cell_ (i := 0) (v := .int .i64 t) rfl
  have z1 := L1.out.cell_ (i := 1) (v := .int .i64 g) rfl
  cases hv : rdValid M xs ss
  · have HG := hid (show raGood M xs ss (t, g) = false by unfold raGood; rw [hv]; rfl)
    have HE := raFin (A := none) (n := 0) (c := 0) (B := none) (q := 0) (d := 0) (base := w.heap.size + 3) (xs := []) (ss := []) 0 L2.out (World.ownsRow_nil _ _ _ _) (OS.nil _ _) S1.out (by omega) (by omega) rfl
    have e0 := HE.out.1.cell_ (i := 0) (v := .int .i64 0) rfl
    have e1 := HE.out.1.cell_ (i := 1) (v := .slice none 0 0) rfl
    have e2 := HE.out.1.cell_ (i := 2) (v := .slice none 0 0) rfl
    clear hv
    go_wp2_with fail
    refine bodyPost_ret (v := .tuple #[.agg #[.int .i64 0, .slice none 0 0, .slice none 0 0], .bool false]) (by simp [results, Try.results38, go_sem, e0, e1, e2]) rfl (RAEnd.bad HG.out HE.out.2.2.2)
  go_wp2_with fail
  refine (specStampValid_any _ _ _).mono ?_
  rintro e w2 ⟨rfl, s2⟩
  have N0 := hid (L0.out.below s2 L0.out.lt)
  have N1 := hid (L1.out.below s2 L1.out.lt)
  have N2 := hid (L2.out.below s2 L2.out.lt)
  have S2 := hid (S1.out.trans s2)
  have I2 := hid (I1.out.st s2)
  have J2 := hid (J1.out.st s2)
  clear y0 y1 y2 x0 x1 x2 z0 z1 L0 L1 L2 S1 I1 J1 s2
  cases hs : stOk (t, g)
  · have HG := hid (show raGood M xs ss (t, g) = false by unfold raGood; rw [hs, Bool.and_false])
    have y0 := N2.out.cell_ (i := 0) (v := .int .i64 0) rfl
    have y1 := N2.out.cell_ (i := 1) (v := .slice none 0 0) rfl
    have y2 := N2.out.cell_ (i := 2) (v := .slice none 0 0) rfl
    have x0 := N2.out.frozen 0
    have x1 := N2.out.frozen 1
    have x2 := N2.out.frozen 2
    have HE := raFin (A := none) (n := 0) (c := 0) (B := none) (q := 0) (d := 0) (base := w.heap.size + 3) (xs := []) (ss := []) 0 N2.out (World.ownsRow_nil _ _ _ _) (OS.nil _ _) S2.out (by omega) (by omega) rfl
    have e0 := HE.out.1.cell_ (i := 0) (v := .int .i64 0) rfl
    have e1 := HE.out.1.cell_ (i := 1) (v := .slice none 0 0) rfl
    have e2 := HE.out.1.cell_ (i := 2) (v := .slice none 0 0) rfl
    clear hv hs
    go_wp2_with fail
    refine bodyPost_ret (v := .tuple #[.agg #[.int .i64 0, .slice none 0 0, .slice none 0 0], .bool false]) (by simp [results, Try.results38, go_sem, e0, e1, e2]) rfl (RAEnd.bad HG.out HE.out.2.2.2)
  have HG := hid (show raGood M xs ss (t, g) = true by unfold raGood; rw [hv, hs]; rfl)
  have q0 := N0.out.cell_ (i := 0) (v := .int .i64 M) rfl
  have q1 := N0.out.cell_ (i := 1) (v := .slice A n c) rfl
  have q2 := N0.out.cell_ (i := 2) (v := .slice B q d) rfl
  have z0 := N1.out.cell_ (i := 0) (v := .int .i64 t) rfl
  have z1 := N1.out.cell_ (i := 1) (v := .int .i64 g) rfl
  clear hv hs
  go_wp2_with fail
  refine (l12Add_any M A B n c q d xs ss t g w2 I2.out J2.out hn hq).mono ?_
  rintro e w3 ⟨A3, c3, B3, d3, rfl, o3, p3, s3⟩
  obtain ⟨gl, hgl⟩ : ∃ l, (addGot xs ss (t, g)).length = l := ⟨_, rfl⟩
  obtain ⟨ok, hok⟩ : ∃ b, addOk xs ss g = b := ⟨_, rfl⟩
  have P2 := hid (N2.out.below s3 N2.out.lt)
  have S3 := hid (S2.out.trans s3)
  have hb : w.heap.size + 2 < w2.heap.size := N2.out.lt
  have HE := raFin M P2.out o3 p3 S3.out (by omega) hb rfl
  have HR := hid (RAEnd.good (ok := ok) HG.out hok HE.out.2.1 HE.out.2.2.1 HE.out.2.2.2)
  have y0 := P2.out.cell_ (i := 0) (v := .int .i64 0) rfl
  have y1 := P2.out.cell_ (i := 1) (v := .slice none 0 0) rfl
  have y2 := P2.out.cell_ (i := 2) (v := .slice none 0 0) rfl
  have x0 := P2.out.frozen 0
  have x1 := P2.out.frozen 1
  have x2 := P2.out.frozen 2
  have e0 := HE.out.1.cell_ (i := 0) (v := .int .i64 M) rfl
  have e1 := HE.out.1.cell_ (i := 1) (v := .slice A3 xs.length c3) rfl
  have e2 := HE.out.1.cell_ (i := 2) (v := .slice B3 (addGot xs ss (t, g)).length d3) rfl
  rw [hok]
  clear q0 q1 q2 z0 z1 N0 N1 N2 S2 I2 J2 s3 o3 p3 P2 S3 hgl
  go_wp2_with fail
  refine bodyPost_ret (v := .tuple #[.agg #[.int .i64 M, .slice A3 xs.length c3, .slice B3 (addGot xs ss (t, g)).length d3], .bool ok]) (by simp [results, Try.results38, go_sem, e0, e1, e2]) rfl HR.out
end Go.Proofs.Ytldclkjknhjbfaa
