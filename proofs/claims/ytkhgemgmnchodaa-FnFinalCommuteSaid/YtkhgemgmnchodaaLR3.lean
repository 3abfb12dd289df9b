/- FnFinalCommute returns true. -/
import Derived.Test.YtkhgemgmnchodaaLawFn
namespace Go.Proofs.Ytkhgemgmnchodaa
open Go.RowKit Go.Sort
set_option maxRecDepth 100000 in
set_option maxHeartbeats 4000000 in
theorem walkCommute (A : Option Addr) (n c : Nat) (bs : List Nat) {w : World} (h : RB w w.heap.size A n bs) (hnc : n ≤ c ∧ c ≤ maxLen) (A' : Option Addr) (n' c' : Nat) (bs' : List Nat) (h' : RB w w.heap.size A' n' bs') (hnc' : n' ≤ c' ∧ c' ≤ maxLen) :
    Calls Try.prog 5 #[.slice A n c, .slice A' n' c'] w fun e w' => e = .returned (.bool true) ∧ Below w.heap.size w w' := by
  obtain ⟨hnc, hcm⟩ := hnc
  have HCM := hid hcm
  have HNC' := hid hnc'
  have HB' := hid h'
  clear hcm hnc' h'
  by_cases hn : 1048576 < n
  · have hn : (1048576 : Int) < (n : Int) := by omega
    go_enter Try.func5, Try.ntmps5
    go_wp2_with fail
    go_ret
    exact ⟨rfl, Below.refl _ _⟩
  by_cases hn' : 1048576 < n'
  · have hn : ¬ (1048576 : Int) < (n : Int) := by omega
    have hn' : (1048576 : Int) < (n' : Int) := by omega
    go_enter Try.func5, Try.ntmps5
    go_wp2_with fail
    go_ret
    exact ⟨rfl, Below.refl _ _⟩
  have hni : ¬ (1048576 : Int) < (n : Int) := by omega
  have hni' : ¬ (1048576 : Int) < (n' : Int) := by omega
  have HN' := hid (show n' ≤ 1048576 by omega)
  go_enter Try.func5, Try.ntmps5
  go_wp2_with fail
  refine (DrawGroupFinal_any _ _ _ _ _ h (by omega) hnc HCM.out).mono ?_
  rintro e w1 ⟨I, K, A1, n1, c1, B1, m1, d1, ps, ds, x, st, sg, rfl, D⟩
  have hn1 := D.n
  have hm1 := D.m
  have sa := ((St.refl w1).alloc (.cells (grC I K A1 n1 c1 B1 m1 d1) 25)).alloc (.cells #[.int .i64 st, .int .i64 sg] 32)
  have X := hid (show LG w ((w1.alloc (.cells (grC I K A1 n1 c1 B1 m1 d1) 25)).alloc (.cells #[.int .i64 st, .int .i64 sg] 32)) w1.heap.size I K A1 n1 c1 B1 m1 d1 ps ds from ⟨(Blk.new w1 25 (grC I K A1 n1 c1 B1 m1 d1)).alloc _, D.i.st sa, D.j.st sa, D.s.trans sa⟩)
  have Y := hid (blk_second w1 (.cells (grC I K A1 n1 c1 B1 m1 d1) 25) 32 #[.int .i64 st, .int .i64 sg])
  clear sa
  clear D h hn hni hnc HCM hn' hni'
  go_upto_region 4 with (fail)
  generalize (w1.alloc (.cells _ 25)).alloc (.cells _ 32) = w2 at *
  generalize w1.heap.size = bx at *
  have q0 := X.out.k.cell_ (i := 0) (v := .int .i64 I) rfl
  have q1 := X.out.k.cell_ (i := 1) (v := .int .i64 K) rfl
  have q2 := X.out.k.cell_ (i := 2) (v := .slice A1 n1 c1) rfl
  have q3 := X.out.k.cell_ (i := 3) (v := .slice B1 m1 d1) rfl
  have y0 := Y.out.cell_ (i := 0) (v := .int .i64 st) rfl
  have y1 := Y.out.cell_ (i := 1) (v := .int .i64 sg) rfl
  go_wp2_with fail
  refine (GroupFinal_any _ _ _ _ _ _ _ _ _ _ x st sg _ X.out.i X.out.j (by omega) (by omega)).mono ?_
  rintro e w3 ⟨A2, n2, c2, B2, m2, d2, T2, u2, rfl, C2, O2, s3⟩
  obtain ⟨⟨⟨I', K', ps', ds'⟩, xs, ok⟩, hr⟩ : ∃ r, finM ⟨I, K, ps, ds⟩ x (st, sg) = r := ⟨_, rfl⟩
  have hpl := fin_len ⟨I, K, ps, ds⟩ x (st, sg)
  rw [hr] at C2 O2 hpl ⊢
  simp only at C2 O2 hpl ⊢
  rw [X.out.i.len, X.out.j.len, C2.oi.se.len, C2.oh.se.len] at hpl
  obtain ⟨hn2, hm2, hx2⟩ := hpl
  have HR := hid hr
  clear hr
  have O := hid (LG.new (I := I') (K := K') C2.oi.se C2.oh.se (X.out.s.trans s3))
  have sa := (St.refl w3).alloc (.cells (grC I' K' A2 n2 c2 B2 m2 d2) 25)
  have OL := hid (O2.sl.st sa)
  have ss := s3.trans sa
  replace X := hid (X.out.st ss)
  replace Y := hid (Y.out.st ss)
  replace q0 := ss.cell q0
  replace q1 := ss.cell q1
  replace q2 := ss.cell q2
  replace q3 := ss.cell q3
  replace y0 := ss.cell y0
  replace y1 := ss.cell y1
  clear s3 sa ss C2 O2
  go_upto_region 5 with (fail)
  generalize w3.alloc (.cells _ 25) = w4 at *
  generalize w3.heap.size = b1 at *
  go_wp2_with fail
  refine (specGroupFinal_any _ _ _ _ _ _ _ _ _ _ x st sg _ X.out.i X.out.j (by omega) (by omega)).mono ?_
  rintro e w5 ⟨A3, n3, c3, B3, m3, d3, T3, u3, rfl, C3, O3, s5⟩
  rw [HR.out] at C3 O3 ⊢
  simp only at C3 O3 ⊢
  have Q := hid (LG.new (I := I') (K := K') C3.oi.se C3.oh.se (X.out.s.trans s5))
  have sa := (St.refl w5).alloc (.cells (grC I' K' A3 n3 c3 B3 m3 d3) 25)
  have QL := hid (O3.sl.st sa)
  have ss := s5.trans sa
  replace X := hid (X.out.st ss)
  replace Y := hid (Y.out.st ss)
  replace O := hid (O.out.st ss)
  replace OL := hid (OL.out.st ss)
  replace q0 := ss.cell q0
  replace q1 := ss.cell q1
  replace q2 := ss.cell q2
  replace q3 := ss.cell q3
  replace y0 := ss.cell y0
  replace y1 := ss.cell y1
  clear s5 sa ss C3 O3
  go_upto_region 6 with (fail)
  generalize w5.alloc (.cells _ 25) = w6 at *
  generalize w5.heap.size = b2 at *
  have o0 := O.out.k.cell_ (i := 0) (v := .int .i64 I') rfl
  have o1 := O.out.k.cell_ (i := 1) (v := .int .i64 K') rfl
  have o2 := O.out.k.cell_ (i := 2) (v := .slice A2 n2 c2) rfl
  have o3 := O.out.k.cell_ (i := 3) (v := .slice B2 m2 d2) rfl
  have k0 := Q.out.k.cell_ (i := 0) (v := .int .i64 I') rfl
  have k1 := Q.out.k.cell_ (i := 1) (v := .int .i64 K') rfl
  have k2 := Q.out.k.cell_ (i := 2) (v := .slice A3 n3 c3) rfl
  have k3 := Q.out.k.cell_ (i := 3) (v := .slice B3 m3 d3) rfl
  cases ok
  · go_wp2_with fail
    refine (sameInts_same OL.out QL.out (by omega)).mono ?_
    rintro e w7a ⟨rfl, d7⟩
    have s7 := d7.st
    replace X := hid (X.out.st s7)
    replace Y := hid (Y.out.st s7)
    replace O := hid (O.out.st s7)
    replace Q := hid (Q.out.st s7)
    replace OL := hid (OL.out.st s7)
    replace QL := hid (QL.out.st s7)
    replace q0 := s7.cell q0
    replace q1 := s7.cell q1
    replace q2 := s7.cell q2
    replace q3 := s7.cell q3
    replace y0 := s7.cell y0
    replace y1 := s7.cell y1
    replace o0 := s7.cell o0
    replace o1 := s7.cell o1
    replace o2 := s7.cell o2
    replace o3 := s7.cell o3
    replace k0 := s7.cell k0
    replace k1 := s7.cell k1
    replace k2 := s7.cell k2
    replace k3 := s7.cell k3
    clear s7 d7
    go_wp2_with fail
    refine (sameGroup_same O.out.i O.out.j Q.out.i Q.out.j (by omega) (by omega)).mono ?_
    rintro e w7 ⟨rfl, s7⟩
    replace X := hid (X.out.st s7)
    replace Y := hid (Y.out.st s7)
    replace O := hid (O.out.st s7)
    replace Q := hid (Q.out.st s7)
    replace OL := hid (OL.out.st s7)
    replace QL := hid (QL.out.st s7)
    replace q0 := s7.cell q0
    replace q1 := s7.cell q1
    replace q2 := s7.cell q2
    replace q3 := s7.cell q3
    replace y0 := s7.cell y0
    replace y1 := s7.cell y1
    replace o0 := s7.cell o0
    replace o1 := s7.cell o1
    replace o2 := s7.cell o2
    replace o3 := s7.cell o3
    replace k0 := s7.cell k0
    replace k1 := s7.cell k1
    replace k2 := s7.cell k2
    replace k3 := s7.cell k3
    clear s7
    go_wp2_with fail
    refine (sameInts_same OL.out QL.out (by omega)).mono ?_
    rintro e w8a ⟨rfl, d7⟩
    have s7 := d7.st
    replace X := hid (X.out.st s7)
    replace Y := hid (Y.out.st s7)
    replace O := hid (O.out.st s7)
    replace Q := hid (Q.out.st s7)
    replace OL := hid (OL.out.st s7)
    replace QL := hid (QL.out.st s7)
    replace q0 := s7.cell q0
    replace q1 := s7.cell q1
    replace q2 := s7.cell q2
    replace q3 := s7.cell q3
    replace y0 := s7.cell y0
    replace y1 := s7.cell y1
    replace o0 := s7.cell o0
    replace o1 := s7.cell o1
    replace o2 := s7.cell o2
    replace o3 := s7.cell o3
    replace k0 := s7.cell k0
    replace k1 := s7.cell k1
    replace k2 := s7.cell k2
    replace k3 := s7.cell k3
    clear s7 d7
    go_wp2_with fail
    refine (sameGroup_same O.out.i O.out.j Q.out.i Q.out.j (by omega) (by omega)).mono ?_
    rintro e w8 ⟨rfl, s7⟩
    replace X := hid (X.out.st s7)
    replace Y := hid (Y.out.st s7)
    replace O := hid (O.out.st s7)
    replace Q := hid (Q.out.st s7)
    replace OL := hid (OL.out.st s7)
    replace QL := hid (QL.out.st s7)
    replace q0 := s7.cell q0
    replace q1 := s7.cell q1
    replace q2 := s7.cell q2
    replace q3 := s7.cell q3
    replace y0 := s7.cell y0
    replace y1 := s7.cell y1
    replace o0 := s7.cell o0
    replace o1 := s7.cell o1
    replace o2 := s7.cell o2
    replace o3 := s7.cell o3
    replace k0 := s7.cell k0
    replace k1 := s7.cell k1
    replace k2 := s7.cell k2
    replace k3 := s7.cell k3
    clear s7
    go_wp2_with fail
    go_ret
    exact ⟨rfl, X.out.s⟩
  have HY := hid (finM_yes HR.out)
  have V := hid HY.out.1
  go_wp2_with fail
  refine (sameInts_same OL.out QL.out (by omega)).mono ?_
  rintro e w7a ⟨rfl, d7⟩
  have s7 := d7.st
  replace X := hid (X.out.st s7)
  replace Y := hid (Y.out.st s7)
  replace O := hid (O.out.st s7)
  replace Q := hid (Q.out.st s7)
  replace OL := hid (OL.out.st s7)
  replace QL := hid (QL.out.st s7)
  replace q0 := s7.cell q0
  replace q1 := s7.cell q1
  replace q2 := s7.cell q2
  replace q3 := s7.cell q3
  replace y0 := s7.cell y0
  replace y1 := s7.cell y1
  replace o0 := s7.cell o0
  replace o1 := s7.cell o1
  replace o2 := s7.cell o2
  replace o3 := s7.cell o3
  replace k0 := s7.cell k0
  replace k1 := s7.cell k1
  replace k2 := s7.cell k2
  replace k3 := s7.cell k3
  clear s7 d7
  go_wp2_with fail
  refine (sameGroup_same O.out.i O.out.j Q.out.i Q.out.j (by omega) (by omega)).mono ?_
  rintro e w7 ⟨rfl, s7⟩
  replace X := hid (X.out.st s7)
  replace Y := hid (Y.out.st s7)
  replace O := hid (O.out.st s7)
  replace Q := hid (Q.out.st s7)
  replace OL := hid (OL.out.st s7)
  replace QL := hid (QL.out.st s7)
  replace q0 := s7.cell q0
  replace q1 := s7.cell q1
  replace q2 := s7.cell q2
  replace q3 := s7.cell q3
  replace y0 := s7.cell y0
  replace y1 := s7.cell y1
  replace o0 := s7.cell o0
  replace o1 := s7.cell o1
  replace o2 := s7.cell o2
  replace o3 := s7.cell o3
  replace k0 := s7.cell k0
  replace k1 := s7.cell k1
  replace k2 := s7.cell k2
  replace k3 := s7.cell k3
  clear s7
  clear k0 k1 k2 k3 Q QL
  have hb7 := (HB'.out.below X.out.s).more X.out.s.le
  go_wp2_with fail
  refine (DrawGroupFinal_any _ _ _ _ _ hb7 HN'.out HNC'.out.1 HNC'.out.2).mono ?_
  rintro e w8 ⟨I9, K9, A9, n9, c9, B9, m9, d9, ps9, ds9, y, zt, zg, rfl, D⟩
  have s8 := D.s
  have sa := ((St.refl w8).alloc (.cells (grC I9 K9 A9 n9 c9 B9 m9 d9) 25)).alloc (.cells #[.int .i64 zt, .int .i64 zg] 32)
  have Z := hid (blk_second w8 (.cells (grC I9 K9 A9 n9 c9 B9 m9 d9) 25) 32 #[.int .i64 zt, .int .i64 zg])
  have ss := s8.trans sa
  replace X := hid (X.out.st ss)
  replace Y := hid (Y.out.st ss)
  replace O := hid (O.out.st ss)
  replace q0 := ss.cell q0
  replace q1 := ss.cell q1
  replace q2 := ss.cell q2
  replace q3 := ss.cell q3
  replace y0 := ss.cell y0
  replace y1 := ss.cell y1
  replace o0 := ss.cell o0
  replace o1 := ss.cell o1
  replace o2 := ss.cell o2
  replace o3 := ss.cell o3
  clear s8 sa ss D hb7
  go_upto_region 9 with (fail)
  generalize (w8.alloc (.cells _ 25)).alloc (.cells _ 32) = w9 at *
  generalize w8.heap.size = b8 at *
  have z0 := Z.out.cell_ (i := 0) (v := .int .i64 zt) rfl
  have z1 := Z.out.cell_ (i := 1) (v := .int .i64 zg) rfl
  go_wp2_with fail
  refine (GroupFinal_any _ _ _ _ _ _ _ _ _ _ y zt zg _ O.out.i O.out.j (by omega) (by omega)).mono ?_
  rintro e w10 ⟨A4, n4, c4, B4, m4, d4, T4, u4, rfl, C4, O4, s10⟩
  obtain ⟨⟨⟨I4, K4, ps4, ds4⟩, xs4, one⟩, hr4⟩ : ∃ r, finM ⟨I', K', ps', ds'⟩ y (zt, zg) = r := ⟨_, rfl⟩
  have hpl := fin_len ⟨I', K', ps', ds'⟩ y (zt, zg)
  rw [hr4] at C4 O4 hpl ⊢
  simp only at C4 O4 hpl ⊢
  rw [O.out.i.len, O.out.j.len, C4.oi.se.len, C4.oh.se.len] at hpl
  obtain ⟨hn4, hm4, _⟩ := hpl
  have HR4 := hid hr4
  have P := hid (LG.new (I := I4) (K := K4) C4.oi.se C4.oh.se (X.out.s.trans s10))
  have sa := (St.refl w10).alloc (.cells (grC I4 K4 A4 n4 c4 B4 m4 d4) 25)
  have ss := s10.trans sa
  replace X := hid (X.out.st ss)
  replace Y := hid (Y.out.st ss)
  replace O := hid (O.out.st ss)
  replace Z := hid (Z.out.st ss)
  replace q0 := ss.cell q0
  replace q1 := ss.cell q1
  replace q2 := ss.cell q2
  replace q3 := ss.cell q3
  replace y0 := ss.cell y0
  replace y1 := ss.cell y1
  replace o0 := ss.cell o0
  replace o1 := ss.cell o1
  replace o2 := ss.cell o2
  replace o3 := ss.cell o3
  replace z0 := ss.cell z0
  replace z1 := ss.cell z1
  clear s10 sa ss C4 O4 hr4
  go_upto_region 10 with (fail)
  generalize w10.alloc (.cells _ 25) = w11 at *
  generalize w10.heap.size = b10 at *
  have p0 := P.out.k.cell_ (i := 0) (v := .int .i64 I4) rfl
  have p1 := P.out.k.cell_ (i := 1) (v := .int .i64 K4) rfl
  have p2 := P.out.k.cell_ (i := 2) (v := .slice A4 n4 c4) rfl
  have p3 := P.out.k.cell_ (i := 3) (v := .slice B4 m4 d4) rfl
  go_wp2_with fail
  refine (GroupFinal_any _ _ _ _ _ _ _ _ _ _ y zt zg _ X.out.i X.out.j (by omega) (by omega)).mono ?_
  rintro e w12 ⟨A5, n5, c5, B5, m5, d5, T5, u5, rfl, C5, O5, s12⟩
  obtain ⟨⟨⟨I5, K5, ps5, ds5⟩, xs5, two⟩, hr5⟩ : ∃ r, finM ⟨I, K, ps, ds⟩ y (zt, zg) = r := ⟨_, rfl⟩
  have hpl := fin_len ⟨I, K, ps, ds⟩ y (zt, zg)
  rw [hr5] at C5 O5 hpl ⊢
  simp only at C5 O5 hpl ⊢
  rw [X.out.i.len, X.out.j.len, C5.oi.se.len, C5.oh.se.len] at hpl
  obtain ⟨hn5, hm5, _⟩ := hpl
  have HR5 := hid hr5
  have R := hid (LG.new (I := I5) (K := K5) C5.oi.se C5.oh.se (X.out.s.trans s12))
  have sa := (St.refl w12).alloc (.cells (grC I5 K5 A5 n5 c5 B5 m5 d5) 25)
  have ss := s12.trans sa
  replace X := hid (X.out.st ss)
  replace Y := hid (Y.out.st ss)
  replace O := hid (O.out.st ss)
  replace Z := hid (Z.out.st ss)
  replace P := hid (P.out.st ss)
  replace q0 := ss.cell q0
  replace q1 := ss.cell q1
  replace q2 := ss.cell q2
  replace q3 := ss.cell q3
  replace y0 := ss.cell y0
  replace y1 := ss.cell y1
  replace o0 := ss.cell o0
  replace o1 := ss.cell o1
  replace o2 := ss.cell o2
  replace o3 := ss.cell o3
  replace z0 := ss.cell z0
  replace z1 := ss.cell z1
  replace p0 := ss.cell p0
  replace p1 := ss.cell p1
  replace p2 := ss.cell p2
  replace p3 := ss.cell p3
  clear s12 sa ss C5 O5 hr5
  go_upto_region 11 with (fail)
  generalize w12.alloc (.cells _ 25) = w13 at *
  generalize w12.heap.size = b12 at *
  have r0 := R.out.k.cell_ (i := 0) (v := .int .i64 I5) rfl
  have r1 := R.out.k.cell_ (i := 1) (v := .int .i64 K5) rfl
  have r2 := R.out.k.cell_ (i := 2) (v := .slice A5 n5 c5) rfl
  have r3 := R.out.k.cell_ (i := 3) (v := .slice B5 m5 d5) rfl
  cases one
  · go_wp2_with fail
    go_ret
    exact ⟨rfl, X.out.s⟩
  cases two
  · go_wp2_with fail
    go_ret
    exact ⟨rfl, X.out.s⟩
  obtain ⟨l4, hl4⟩ := fin_comm HR.out HR4.out HR5.out
  have HC := hid hl4
  clear hl4
  go_wp2_with fail
  refine (GroupFinal_any _ _ _ _ _ _ _ _ _ _ x st sg _ R.out.i R.out.j (by omega) (by omega)).mono ?_
  rintro e w14 ⟨A6, n6, c6, B6, m6, d6, T6, u6, rfl, C6, O6, s14⟩
  have hpl := fin_len ⟨I5, K5, ps5, ds5⟩ x (st, sg)
  rw [HC.out] at C6 O6 hpl ⊢
  simp only at C6 O6 hpl ⊢
  rw [R.out.i.len, R.out.j.len, C6.oi.se.len, C6.oh.se.len] at hpl
  obtain ⟨hn6, hm6, _⟩ := hpl
  have S := hid (LG.new (I := I4) (K := K4) C6.oi.se C6.oh.se (X.out.s.trans s14))
  have sa := (St.refl w14).alloc (.cells (grC I4 K4 A6 n6 c6 B6 m6 d6) 25)
  have ss := s14.trans sa
  replace X := hid (X.out.st ss)
  replace P := hid (P.out.st ss)
  replace p0 := ss.cell p0
  replace p1 := ss.cell p1
  replace p2 := ss.cell p2
  replace p3 := ss.cell p3
  clear s14 sa ss C6 O6
  go_upto_region 14 with (fail)
  generalize w14.alloc (.cells _ 25) = w15 at *
  generalize w14.heap.size = b14 at *
  have s0 := S.out.k.cell_ (i := 0) (v := .int .i64 I4) rfl
  have s1 := S.out.k.cell_ (i := 1) (v := .int .i64 K4) rfl
  have s2 := S.out.k.cell_ (i := 2) (v := .slice A6 n6 c6) rfl
  have s3 := S.out.k.cell_ (i := 3) (v := .slice B6 m6 d6) rfl
  go_wp2_with fail
  refine (sameGroup_same S.out.i S.out.j P.out.i P.out.j (by omega) (by omega)).mono ?_
  rintro e w16 ⟨rfl, s16⟩
  go_wp2_with fail
  go_ret
  exact ⟨rfl, X.out.s.trans s16⟩
end Go.Proofs.Ytkhgemgmnchodaa
