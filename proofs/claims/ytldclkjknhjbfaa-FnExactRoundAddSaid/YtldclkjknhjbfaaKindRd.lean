/- Rounds as the argument of an exact law: the uniform shapes that exact.py's walks use. -/
import Derived.Test.YtldclkjknhjbfaaRd3
namespace Go.Proofs.Ytldclkjknhjbfaa
open Go.RowKit Go.Sort
/-- What is left of a size behind a round, or -1. -/
def szR (left : Int) (n m : Nat) : Int := if szM left n < 0 then -1 else szM (szM left n) m
theorem szRound_any (M : Int) (A B : Option Addr) (n c m d : Nat) (xs : List Int) (ss : List (Int × Int)) (left : Int) (w : World) (h : SL w A n c xs) (h' : SS w B m d ss) (hl : 0 ≤ left) (hl' : left ≤ 1048576) :
    Calls Try.prog 24 #[rdV M A n c B m d, .int .i64 left] w fun e w' => e = .returned (.int .i64 (szR left n m)) ∧ St w w' := by
  have s0 := hid ((St.refl w).alloc (.cells #[.int .i64 M, .slice A n c, .slice B m d] 36))
  have hc := h.nc
  have hcm := h.cm
  have hd := h'.nc
  have hdm := h'.cm
  unfold maxLen at hcm hdm
  have hge : -1 ≤ szM left n ∧ szM left n ≤ left := by unfold szM; split <;> omega
  by_cases hz : szM left n < 0
  · have HD := hid (show szR left n m = -1 from if_pos hz)
    go_enter Try.func24, Try.ntmps24
    go_wp2_with fail
    refine (szIntS_any _ _ _ _ _ hl hl' (by omega)).mono ?_
    rintro e w1 ⟨rfl, rfl⟩
    go_wp2_with fail
    go_ret
    exact ⟨ret_int HD.out.symm, s0.out⟩
  · have HD := hid (show szR left n m = szM (szM left n) m from if_neg hz)
    have hge2 : -1 ≤ szM (szM left n) m := by unfold szM; split <;> omega
    go_enter Try.func24, Try.ntmps24
    go_wp2_with fail
    refine (szIntS_any _ _ _ _ _ hl hl' (by omega)).mono ?_
    rintro e w1 ⟨rfl, rfl⟩
    go_wp2_with fail
    refine (szStampS_any _ _ _ _ _ (by omega) (by omega) (by omega)).mono ?_
    rintro e w1 ⟨rfl, rfl⟩
    by_cases hy : szM (szM left n) m < 0
    · have HY := hid (show szM (szM left n) m = -1 by omega)
      go_wp2_with fail
      go_ret
      exact ⟨ret_int (by rw [HD.out, HY.out]), s0.out⟩
    · go_wp2_with fail
      go_ret
      exact ⟨ret_int HD.out.symm, s0.out⟩
theorem markRound_w (P : Nat → Prop) (M : Int) (A B : Option Addr) (n c m d : Nat) (k : Int) (w : World) (h : WI P w A n) (h' : WS P w B m) (hn : n ≤ 1048576) (hm : m ≤ 1048576) (hk : 0 ≤ k) (hk' : k ≤ 1048576) :
    Calls Try.prog 22 #[rdV M A n c B m d, .int .i64 k] w fun e w' => (∃ m : Int, e = .returned (.int .i64 m) ∧ 0 ≤ m) ∧ Kept P w w' := by
  have k0 : Kept P w (w.alloc (.cells #[.int .i64 M, .slice A n c, .slice B m d] 25)) := Kept.of_st ((St.refl w).alloc _)
  have h1 := h.kept k0
  have hb := Blk.new w 25 #[.int .i64 M, .slice A n c, .slice B m d]
  have q1 := hb.cell_ (i := 2) (v := .slice B m d) rfl
  have HK := hid k0
  clear k0
  go_enter Try.func22, Try.ntmps22
  go_wp2_with fail
  refine (markIntS_w P _ _ _ _ _ h1 hn hk (by omega)).mono ?_
  rintro e w1 ⟨rfl, k1⟩
  have h2 := (h'.kept HK.out).kept k1
  have hx : ∃ u, w1.cell? ⟨w.heap.size, 2, none⟩ = some u ∧ kindEq (.slice B m d) u := k1.ck _ _ q1
  obtain ⟨u, q2, hu⟩ := hx
  obtain rfl := kind_slice hu
  go_wp2_with fail
  refine (markStampS_w P _ _ _ _ _ h2 hm (by omega) (by omega)).mono ?_
  rintro e w2 ⟨rfl, k2⟩
  go_wp2_with fail
  go_ret
  exact ⟨⟨_, rfl, by omega⟩, (HK.out.trans k1).trans k2⟩
structure RdRd (w : World) (M : Int) (A : Option Addr) (n c : Nat) (B : Option Addr) (m d : Nat) (xs : List Int) (ss : List (Int × Int)) : Prop where
  sl : SL w A n c xs
  sh : SS w B m d ss
structure FitRd (xs : List Int) (ss : List (Int × Int)) : Prop where
  n : xs.length ≤ 1048576
  m : ss.length ≤ 1048576
structure OwRd (w : World) (base : Nat) (M : Int) (A : Option Addr) (n c : Nat) (B : Option Addr) (m d : Nat) (xs : List Int) (ss : List (Int × Int)) : Prop where
  oi : OI w base 3 A n c xs
  oh : OS w base B m d ss
structure WrRd (P : Nat → Prop) (w : World) (A : Option Addr) (n : Nat) (B : Option Addr) (m : Nat) : Prop where
  wi : WI P w A n
  wh : WS P w B m
  n : n ≤ 1048576
  m : m ≤ 1048576
section
variable {w w' : World} {M : Int} {A B A' B' : Option Addr} {n c m d n' c' m' d' base : Nat} {xs : List Int} {ss : List (Int × Int)} {P : Nat → Prop}
theorem RdRd.st (h : RdRd w M A n c B m d xs ss) (s : St w w') : RdRd w' M A n c B m d xs ss := ⟨h.sl.st s, h.sh.st s⟩
theorem RdRd.n_ (h : RdRd w M A n c B m d xs ss) (f : FitRd xs ss) : n ≤ 1048576 := by have := h.sl.len; have := f.n; omega
theorem RdRd.m_ (h : RdRd w M A n c B m d xs ss) (f : FitRd xs ss) : m ≤ 1048576 := by have := h.sh.len; have := f.m; omega
theorem OwRd.rd (h : OwRd w base M A n c B m d xs ss) : RdRd w M A n c B m d xs ss := ⟨h.oi.sl, h.oh.ss⟩
theorem WrRd.kept (h : WrRd P w A n B m) (k : Kept P w w') : WrRd P w' A n B m := ⟨h.wi.kept k, h.wh.kept k, h.n, h.m⟩
theorem rd_wr (h : OwRd w base M A n c B m d xs ss) (f : FitRd xs ss) (hP : ∀ g, base ≤ g → g < w.heap.size → P g) : WrRd P w A n B m :=
  ⟨h.oi.wi hP, h.oh.ws hP, h.rd.n_ f, h.rd.m_ f⟩
theorem rd_sz (h : RdRd w M A n c B m d xs ss) : Calls Try.prog 24 #[rdV M A n c B m d, .int .i64 1048576] w fun e w' => (∃ r : Int, e = .returned (.int .i64 r) ∧ (r < 0 ∨ FitRd xs ss)) ∧ St w w' :=
  (szRound_any _ _ _ _ _ _ _ _ _ _ _ h.sl h.sh (by omega) (by omega)).mono fun _ _ ⟨a, b⟩ => ⟨⟨_, a, by
    have h1 := h.sl.len
    have h2 := h.sh.len
    unfold szR
    by_cases hz : szM 1048576 n < 0
    · left; rw [if_pos hz]; omega
    · rw [if_neg hz]
      by_cases hy : szM (szM 1048576 n) m < 0
      · exact .inl hy
      · right
        unfold szM at hz hy
        split at hz
        · omega
        · rename_i h3
          rw [if_neg h3] at hy
          split at hy
          · omega
          · exact ⟨by omega, by omega⟩⟩, b⟩
theorem rd_to (h : RdRd w M A n c B m d xs ss) (f : FitRd xs ss) : Calls Try.prog 26 #[rdV M A n c B m d] w fun e w' => ∃ A' n' c' B' m' d', e = .returned (rdV M A' n' c' B' m' d') ∧ OwRd w' w.heap.size M A' n' c' B' m' d' xs ss ∧ St w w' :=
  (toRound_any _ _ _ _ _ _ _ _ _ _ h.sl h.sh (h.n_ f) (h.m_ f)).mono fun _ _ ⟨A', c', B', d', a, b, e, s⟩ => ⟨A', n, c', B', m, d', a, ⟨b, e⟩, s⟩
theorem rd_same (h : RdRd w M A n c B m d xs ss) (h' : RdRd w M A' n' c' B' m' d' xs ss) (f : FitRd xs ss) : Calls Try.prog 19 #[rdV M A n c B m d, rdV M A' n' c' B' m' d'] w fun e w' => e = .returned (.bool true) ∧ St w w' :=
  eqRound_same _ _ _ _ _ _ _ _ _ _ _ _ _ _ _ _ h.sl h.sh h'.sl h'.sh (h.n_ f) (h.m_ f)
theorem rd_mark (h : WrRd P w A n B m) (_ : FitRd xs ss) : Calls Try.prog 22 #[rdV M A n c B m d, .int .i64 1] w fun e w' => (∃ r : Int, e = .returned (.int .i64 r) ∧ 0 ≤ r) ∧ Kept P w w' :=
  markRound_w P M A B n c m d 1 w h.wi h.wh h.n h.m (by omega) (by omega)
theorem RoundValid_r (h : RdRd w M A n c B m d xs ss) (f : FitRd xs ss) : Calls Try.prog 27 #[rdV M A n c B m d] w fun e w' => e = .returned (.bool (rdValid M xs ss)) ∧ St w w' :=
  RoundValid_any _ _ _ _ _ _ _ _ _ _ h.sl h.sh (h.n_ f)
theorem specRoundValid_r (h : RdRd w M A n c B m d xs ss) (f : FitRd xs ss) : Calls Try.prog 25 #[rdV M A n c B m d] w fun e w' => e = .returned (.bool (rdValid M xs ss)) ∧ St w w' :=
  specRoundValid_any _ _ _ _ _ _ _ _ _ _ h.sl h.sh (h.n_ f)
end
end Go.Proofs.Ytldclkjknhjbfaa
