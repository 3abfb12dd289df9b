/- FnRoundAddOrder returns true. -/
import Derived.Test.YtldclkjknhjbfaaRd15
import Derived.Test.YtldclkjknhjbfaaDrawRd5
import Derived.Test.YtldclkjknhjbfaaSameRd
namespace Go.Proofs.Ytldclkjknhjbfaa
open Go.RowKit Go.Sort
set_option maxRecDepth 100000 in
set_option maxHeartbeats 4000000 in
theorem walkRoundAddOrder (A : Option Addr) (n c : Nat) (bs : List Nat) {w : World} (h : RB w w.heap.size A n bs) (hnc : n ≤ c ∧ c ≤ maxLen) (A' : Option Addr) (n' c' : Nat) (bs' : List Nat) (h' : RB w w.heap.size A' n' bs') (hnc' : n' ≤ c' ∧ c' ≤ maxLen) :
    Calls Try.prog 7 #[.slice A n c, .slice A' n' c'] w fun e w' => e = .returned (.bool true) ∧ Below w.heap.size w w' := by
  obtain ⟨hnc, hcm⟩ := hnc
  have HCM := hid hcm
  have HNC' := hid hnc'
  have HB' := hid h'
  clear hcm hnc' h'
  by_cases hn : 1048576 < n
  · have hn : (1048576 : Int) < (n : Int) := by omega
    go_enter Try.func7, Try.ntmps7
    go_wp2_with fail
    go_ret
    exact ⟨rfl, Below.refl _ _⟩
  by_cases hn' : 1048576 < n'
  · have hn : ¬ (1048576 : Int) < (n : Int) := by omega
    have hn' : (1048576 : Int) < (n' : Int) := by omega
    go_enter Try.func7, Try.ntmps7
    go_wp2_with fail
    go_ret
    exact ⟨rfl, Below.refl _ _⟩
  have hni : ¬ (1048576 : Int) < (n : Int) := by omega
  have hni' : ¬ (1048576 : Int) < (n' : Int) := by omega
  go_enter Try.func7, Try.ntmps7
  go_wp2_with fail
  refine (DrawRoundAdd_any _ _ _ _ _ h (by omega) hnc HCM.out).mono ?_
  rintro e w1 ⟨M, A1, n1, c1, B1, q1, d1, xs, ss, t, g, rfl, i1, f1, hn1, hq1, s1⟩
  have a1 := ((St.refl w1).alloc (.cells #[.int .i64 M, .slice A1 n1 c1, .slice B1 q1 d1] 25)).alloc (.cells #[.int .i64 t, .int .i64 g] 45)
  have K2 := (Blk.new w1 25 #[.int .i64 M, .slice A1 n1 c1, .slice B1 q1 d1]).alloc (.cells #[.int .i64 t, .int .i64 g] 45)
  have P2 := blk_second w1 (.cells #[.int .i64 M, .slice A1 n1 c1, .slice B1 q1 d1] 25) 45 #[.int .i64 t, .int .i64 g]
  have x0 := K2.cell_ (i := 0) (v := .int .i64 M) rfl
  have x1 := K2.cell_ (i := 1) (v := .slice A1 n1 c1) rfl
  have x2 := K2.cell_ (i := 2) (v := .slice B1 q1 d1) rfl
  have p0 := P2.cell_ (i := 0) (v := .int .i64 t) rfl
  have p1 := P2.cell_ (i := 1) (v := .int .i64 g) rfl
  have I := hid (i1.st a1)
  have S := hid (s1.trans a1)
  have F := hid f1
  have FT := hid (ra_fit (M := M) (xs := xs) (ss := ss) (t, g) (by have := f1.n; have := f1.m; have := i1.sl.len; have := i1.sh.len; omega))
  obtain ⟨m3, hm3⟩ : ∃ v, raM M xs ss (t, g) = v := ⟨_, rfl⟩
  obtain ⟨ys, hys⟩ : ∃ v, raXs M xs ss (t, g) = v := ⟨_, rfl⟩
  obtain ⟨ps, hps⟩ : ∃ v, raSs M xs ss (t, g) = v := ⟨_, rfl⟩
  obtain ⟨ok, hok⟩ : ∃ v, raOk M xs ss (t, g) = v := ⟨_, rfl⟩
  obtain ⟨va, hva⟩ : ∃ v, rdValid M xs ss = v := ⟨_, rfl⟩
  obtain ⟨vs, hvs⟩ : ∃ v, stOk (t, g) = v := ⟨_, rfl⟩
  rw [hys, hps] at FT
  have HE := hid (And.intro hm3 (And.intro hys (And.intro hps (And.intro hok (And.intro hva hvs)))))
  clear a1 K2 P2 i1 s1 f1 hm3 hys hps hok hva hvs
  go_wp2_with fail
  generalize (w1.alloc (.cells #[.int .i64 M, .slice A1 n1 c1, .slice B1 q1 d1] 25)).alloc (.cells #[.int .i64 t, .int .i64 g] 45) = w2 at x0 x1 x2 p0 p1 I S ⊢
  refine (RoundAdd_r t g I.out F.out).mono ?_
  rintro e w3 ⟨A3, n3, c3, B3, q3, d3, rfl, o3, s3⟩
  rw [HE.out.1, HE.out.2.1, HE.out.2.2.1] at o3
  rw [HE.out.1, HE.out.2.2.2.1]
  have O3 := hid o3.rd
  have t3 := s3.alloc (.cells #[.int .i64 m3, .slice A3 n3 c3, .slice B3 q3 d3] 25)
  have u3 := (St.refl w3).alloc (.cells #[.int .i64 m3, .slice A3 n3 c3, .slice B3 q3 d3] 25)
  have Y3 := Blk.new w3 25 #[.int .i64 m3, .slice A3 n3 c3, .slice B3 q3 d3]
  replace I := hid (I.out.st t3)
  replace S := hid (S.out.st t3)
  replace x0 := t3.cell x0
  replace x1 := t3.cell x1
  replace x2 := t3.cell x2
  replace p0 := t3.cell p0
  replace p1 := t3.cell p1
  replace O3 := hid (O3.out.st u3)
  have y0 := Y3.cell_ (i := 0) (v := .int .i64 m3) rfl
  have y1 := Y3.cell_ (i := 1) (v := .slice A3 n3 c3) rfl
  have y2 := Y3.cell_ (i := 2) (v := .slice B3 q3 d3) rfl
  clear o3 s3 t3 u3 Y3
  go_wp2_with fail
  generalize w3.alloc (.cells #[.int .i64 m3, .slice A3 n3 c3, .slice B3 q3 d3] 25) = w4 at x0 x1 x2 p0 p1 y0 y1 y2 I S O3 ⊢
  refine (specRoundAdd_r t g I.out F.out).mono ?_
  rintro e w5 ⟨A5, n5, c5, B5, q5, d5, rfl, o5, s5⟩
  rw [HE.out.1, HE.out.2.1, HE.out.2.2.1] at o5
  rw [HE.out.1, HE.out.2.2.2.1]
  have O5 := hid o5.rd
  have t5 := s5.alloc (.cells #[.int .i64 m3, .slice A5 n5 c5, .slice B5 q5 d5] 25)
  have u5 := (St.refl w5).alloc (.cells #[.int .i64 m3, .slice A5 n5 c5, .slice B5 q5 d5] 25)
  have Z5 := Blk.new w5 25 #[.int .i64 m3, .slice A5 n5 c5, .slice B5 q5 d5]
  replace I := hid (I.out.st t5)
  replace S := hid (S.out.st t5)
  replace O3 := hid (O3.out.st t5)
  replace x0 := t5.cell x0
  replace x1 := t5.cell x1
  replace x2 := t5.cell x2
  replace p0 := t5.cell p0
  replace p1 := t5.cell p1
  replace y0 := t5.cell y0
  replace y1 := t5.cell y1
  replace y2 := t5.cell y2
  replace O5 := hid (O5.out.st u5)
  have z0 := Z5.cell_ (i := 0) (v := .int .i64 m3) rfl
  have z1 := Z5.cell_ (i := 1) (v := .slice A5 n5 c5) rfl
  have z2 := Z5.cell_ (i := 2) (v := .slice B5 q5 d5) rfl
  have hoo : (ok == ok) = true := by simp
  have hon : (ok != ok) = false := by simp
  clear o5 s5 t5 u5 Z5
  go_wp2_with fail
  generalize w5.alloc (.cells #[.int .i64 m3, .slice A5 n5 c5, .slice B5 q5 d5] 25) = w6 at x0 x1 x2 p0 p1 y0 y1 y2 z0 z1 z2 I S O3 O5 ⊢
  refine (sameRound_same O3.out O5.out FT.out).mono ?_
  rintro e w7 ⟨rfl, s7⟩
  replace I := hid (I.out.st s7)
  replace S := hid (S.out.st s7)
  replace O3 := hid (O3.out.st s7)
  replace O5 := hid (O5.out.st s7)
  replace x0 := s7.cell x0
  replace x1 := s7.cell x1
  replace x2 := s7.cell x2
  replace p0 := s7.cell p0
  replace p1 := s7.cell p1
  replace y0 := s7.cell y0
  replace y1 := s7.cell y1
  replace y2 := s7.cell y2
  replace z0 := s7.cell z0
  replace z1 := s7.cell z1
  replace z2 := s7.cell z2
  clear s7
  cases ok
  · go_wp2_with fail
    refine (sameRound_same O3.out O5.out FT.out).mono ?_
    rintro e w9 ⟨rfl, s9⟩
    replace S := hid (S.out.st s9)
    go_wp2_with fail
    go_ret
    exact ⟨rfl, S.out⟩
  have ho := ra_ok HE.out.2.2.2.1
  rw [HE.out.1, HE.out.2.1, HE.out.2.2.1] at ho
  obtain ⟨hv, hst, hao, hm, hx, hp⟩ := ho
  have HAO := hid (And.intro hv (And.intro hst (And.intro hao hp)))
  replace hm := hm.symm
  replace hx := hx.symm
  subst hm hx
  have hb7 := HB'.out.below S.out
  have hb7 := hb7.more S.out.le
  have FP := hid (show FitRd xs ps from FT.out)
  clear z0 z1 z2 hoo hon hv hst hao hp
  go_wp2_with fail
  refine (DrawRoundAdd_any _ _ _ _ _ hb7 (by omega) HNC'.out.1 HNC'.out.2).mono ?_
  rintro e w8 ⟨M8, A8, n8, c8, B8, q8, d8, xs8, ss8, t8, g8, rfl, i8, f8, hn8, hq8, s8⟩
  have t9 := (s8.alloc (.cells #[.int .i64 M8, .slice A8 n8 c8, .slice B8 q8 d8] 25)).alloc (.cells #[.int .i64 t8, .int .i64 g8] 45)
  have P8 := blk_second w8 (.cells #[.int .i64 M8, .slice A8 n8 c8, .slice B8 q8 d8] 25) 45 #[.int .i64 t8, .int .i64 g8]
  replace I := hid (I.out.st t9)
  replace S := hid (S.out.st t9)
  replace O3 := hid (O3.out.st t9)
  replace x0 := t9.cell x0
  replace x1 := t9.cell x1
  replace x2 := t9.cell x2
  replace p0 := t9.cell p0
  replace p1 := t9.cell p1
  replace y0 := t9.cell y0
  replace y1 := t9.cell y1
  replace y2 := t9.cell y2
  have r0 := P8.cell_ (i := 0) (v := .int .i64 t8) rfl
  have r1 := P8.cell_ (i := 1) (v := .int .i64 g8) rfl
  have FA := hid (ra_fit (M := M) (xs := xs) (ss := ps) (t8, g8) (by have h1 := I.out.sl.len; have h2 := I.out.sh.len; have h3 := addGot_le xs ss (t, g); rw [← HAO.out.2.2.2] at h3; omega))
  have FB := hid (ra_fit (M := M) (xs := xs) (ss := ss) (t8, g8) (by have h1 := I.out.sl.len; have h2 := I.out.sh.len; omega))
  obtain ⟨ma, hma⟩ : ∃ v, raM M xs ps (t8, g8) = v := ⟨_, rfl⟩
  obtain ⟨xa, hxa⟩ : ∃ v, raXs M xs ps (t8, g8) = v := ⟨_, rfl⟩
  obtain ⟨sa, hsa⟩ : ∃ v, raSs M xs ps (t8, g8) = v := ⟨_, rfl⟩
  obtain ⟨oka, hoka⟩ : ∃ v, raOk M xs ps (t8, g8) = v := ⟨_, rfl⟩
  obtain ⟨mb, hmb⟩ : ∃ v, raM M xs ss (t8, g8) = v := ⟨_, rfl⟩
  obtain ⟨xb, hxb⟩ : ∃ v, raXs M xs ss (t8, g8) = v := ⟨_, rfl⟩
  obtain ⟨sb, hsb⟩ : ∃ v, raSs M xs ss (t8, g8) = v := ⟨_, rfl⟩
  obtain ⟨okb, hokb⟩ : ∃ v, raOk M xs ss (t8, g8) = v := ⟨_, rfl⟩
  rw [hxa, hsa] at FA
  rw [hxb, hsb] at FB
  have HA := hid (And.intro hma (And.intro hxa (And.intro hsa hoka)))
  have HB := hid (And.intro hmb (And.intro hxb (And.intro hsb hokb)))
  clear i8 f8 s8 t9 P8 hb7 hma hxa hsa hoka hmb hxb hsb hokb
  go_wp2_with fail
  generalize (w8.alloc (.cells #[.int .i64 M8, .slice A8 n8 c8, .slice B8 q8 d8] 25)).alloc (.cells #[.int .i64 t8, .int .i64 g8] 45) = w9 at I S O3 x0 x1 x2 p0 p1 y0 y1 y2 r0 r1 ⊢
  refine (RoundAdd_r t8 g8 O3.out FP.out).mono ?_
  rintro e wa ⟨Aa, na, ca, Ba, qa, da, rfl, oa, sa'⟩
  rw [HA.out.1, HA.out.2.1, HA.out.2.2.1] at oa
  rw [HA.out.1, HA.out.2.2.2]
  have OA := hid oa.rd
  have ta := sa'.alloc (.cells #[.int .i64 ma, .slice Aa na ca, .slice Ba qa da] 25)
  have ua := (St.refl wa).alloc (.cells #[.int .i64 ma, .slice Aa na ca, .slice Ba qa da] 25)
  have ZA := Blk.new wa 25 #[.int .i64 ma, .slice Aa na ca, .slice Ba qa da]
  replace I := hid (I.out.st ta)
  replace S := hid (S.out.st ta)
  replace O3 := hid (O3.out.st ta)
  replace x0 := ta.cell x0
  replace x1 := ta.cell x1
  replace x2 := ta.cell x2
  replace p0 := ta.cell p0
  replace p1 := ta.cell p1
  replace r0 := ta.cell r0
  replace r1 := ta.cell r1
  replace OA := hid (OA.out.st ua)
  have z0 := ZA.cell_ (i := 0) (v := .int .i64 ma) rfl
  have z1 := ZA.cell_ (i := 1) (v := .slice Aa na ca) rfl
  have z2 := ZA.cell_ (i := 2) (v := .slice Ba qa da) rfl
  clear oa sa' ta ua ZA y0 y1 y2
  go_wp2_with fail
  generalize wa.alloc (.cells #[.int .i64 ma, .slice Aa na ca, .slice Ba qa da] 25) = wb at I S O3 OA x0 x1 x2 p0 p1 r0 r1 z0 z1 z2 ⊢
  refine (RoundAdd_r t8 g8 I.out F.out).mono ?_
  rintro e wc ⟨Ac, nc, cc, Bc, qc, dc, rfl, oc, sc⟩
  rw [HB.out.1, HB.out.2.1, HB.out.2.2.1] at oc
  rw [HB.out.1, HB.out.2.2.2]
  have OC := hid oc.rd
  have tc := sc.alloc (.cells #[.int .i64 mb, .slice Ac nc cc, .slice Bc qc dc] 25)
  have uc := (St.refl wc).alloc (.cells #[.int .i64 mb, .slice Ac nc cc, .slice Bc qc dc] 25)
  have ZC := Blk.new wc 25 #[.int .i64 mb, .slice Ac nc cc, .slice Bc qc dc]
  replace S := hid (S.out.st tc)
  replace OA := hid (OA.out.st tc)
  replace p0 := tc.cell p0
  replace p1 := tc.cell p1
  replace z0 := tc.cell z0
  replace z1 := tc.cell z1
  replace z2 := tc.cell z2
  replace OC := hid (OC.out.st uc)
  have v0 := ZC.cell_ (i := 0) (v := .int .i64 mb) rfl
  have v1 := ZC.cell_ (i := 1) (v := .slice Ac nc cc) rfl
  have v2 := ZC.cell_ (i := 2) (v := .slice Bc qc dc) rfl
  clear oc sc tc uc ZC x0 x1 x2 r0 r1
  cases oka
  · go_wp2_with fail
    go_ret
    exact ⟨rfl, S.out⟩
  cases okb
  · go_wp2_with fail
    go_ret
    exact ⟨rfl, S.out⟩
  have hl := order_law (M := M) (xs := xs) (ss := ss) (s := (t, g)) (t := (t8, g8)) HE.out.2.2.2.1 (by rw [← HAO.out.2.2.2]; exact HA.out.2.2.2) HB.out.2.2.2
  have ha := ra_ok HA.out.2.2.2
  have hb := ra_ok HB.out.2.2.2
  rw [HA.out.1, HA.out.2.1, HA.out.2.2.1] at ha
  rw [HB.out.1, HB.out.2.1, HB.out.2.2.1] at hb
  rw [← HAO.out.2.2.2, ← hb.2.2.2.2.2, ← ha.2.2.2.2.2] at hl
  have e1 := ha.2.2.2.1.symm
  have e2 := ha.2.2.2.2.1.symm
  have e3 := hb.2.2.2.1.symm
  have e4 := hb.2.2.2.2.1.symm
  have HL := hid hl
  clear hl ha hb
  subst e1 e2 e3 e4
  go_wp2_with fail
  generalize wc.alloc (.cells #[.int .i64 M, .slice Ac nc cc, .slice Bc qc dc] 25) = wd at S OA OC p0 p1 z0 z1 z2 v0 v1 v2 ⊢
  refine (RoundAdd_r t g OC.out FB.out).mono ?_
  rintro e we ⟨Ae, ne, ce, Be, qe, de, rfl, oe, se⟩
  rw [HL.out.2.1, HL.out.2.2.1, HL.out.2.2.2] at oe
  rw [HL.out.2.1, HL.out.1]
  have OE := hid oe.rd
  have te := se.alloc (.cells #[.int .i64 M, .slice Ae ne ce, .slice Be qe de] 25)
  have ue := (St.refl we).alloc (.cells #[.int .i64 M, .slice Ae ne ce, .slice Be qe de] 25)
  have ZE := Blk.new we 25 #[.int .i64 M, .slice Ae ne ce, .slice Be qe de]
  replace S := hid (S.out.st te)
  replace OA := hid (OA.out.st te)
  replace z0 := te.cell z0
  replace z1 := te.cell z1
  replace z2 := te.cell z2
  replace OE := hid (OE.out.st ue)
  have k0 := ZE.cell_ (i := 0) (v := .int .i64 M) rfl
  have k1 := ZE.cell_ (i := 1) (v := .slice Ae ne ce) rfl
  have k2 := ZE.cell_ (i := 2) (v := .slice Be qe de) rfl
  clear oe se te ue ZE p0 p1 v0 v1 v2
  go_wp2_with fail
  generalize we.alloc (.cells #[.int .i64 M, .slice Ae ne ce, .slice Be qe de] 25) = wf at S OA OE z0 z1 z2 k0 k1 k2 ⊢
  refine (sameRound_same OE.out OA.out FA.out).mono ?_
  rintro e wg ⟨rfl, sg⟩
  go_wp2_with fail
  go_ret
  exact ⟨rfl, S.out.trans sg⟩
end Go.Proofs.Ytldclkjknhjbfaa
