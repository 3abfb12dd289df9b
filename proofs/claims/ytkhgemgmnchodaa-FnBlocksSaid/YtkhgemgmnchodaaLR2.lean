/- FnBlocks returns true. -/
import Derived.Test.YtkhgemgmnchodaaLawFn
namespace Go.Proofs.Ytkhgemgmnchodaa
open Go.RowKit Go.Sort
set_option maxRecDepth 100000 in
set_option maxHeartbeats 2000000 in
theorem walkBlocks (A : Option Addr) (n c : Nat) (bs : List Nat) {w : World} (h : RB w w.heap.size A n bs) (hnc : n ≤ c ∧ c ≤ maxLen) :
    Calls Try.prog 4 #[.slice A n c] w fun e w' => e = .returned (.bool true) ∧ Below w.heap.size w w' := by
  obtain ⟨hnc, hcm⟩ := hnc
  have HCM := hid hcm
  clear hcm
  by_cases hn : 1048576 < n
  · have hn : (1048576 : Int) < (n : Int) := by omega
    go_enter Try.func4, Try.ntmps4
    go_wp2_with fail
    go_ret
    exact ⟨rfl, Below.refl _ _⟩
  have hni : ¬ (1048576 : Int) < (n : Int) := by omega
  go_enter Try.func4, Try.ntmps4
  go_wp2_with fail
  refine (DrawGroupFinal_any _ _ _ _ _ h (by omega) hnc HCM.out).mono ?_
  rintro e w1 ⟨I, K, A1, n1, c1, B1, m1, d1, ps, ds, x, st, sg, rfl, D⟩
  have hn1 := D.n
  have hm1 := D.m
  have sa := ((St.refl w1).alloc (.cells (grC I K A1 n1 c1 B1 m1 d1) 25)).alloc (.cells #[.int .i64 st, .int .i64 sg] 32)
  have X := hid (show LG w ((w1.alloc (.cells (grC I K A1 n1 c1 B1 m1 d1) 25)).alloc (.cells #[.int .i64 st, .int .i64 sg] 32)) w1.heap.size I K A1 n1 c1 B1 m1 d1 ps ds from ⟨(Blk.new w1 25 (grC I K A1 n1 c1 B1 m1 d1)).alloc _, D.i.st sa, D.j.st sa, D.s.trans sa⟩)
  have Y := hid (blk_second w1 (.cells (grC I K A1 n1 c1 B1 m1 d1) 25) 32 #[.int .i64 st, .int .i64 sg])
  clear sa
  clear D h hn hni hnc HCM
  go_upto_region 4 with (fail)
  generalize (w1.alloc (.cells _ 25)).alloc (.cells _ 32) = w2 at *
  generalize w1.heap.size = bx at *
  have q0 := X.out.k.cell_ (i := 0) (v := .int .i64 I) rfl
  have q1 := X.out.k.cell_ (i := 1) (v := .int .i64 K) rfl
  have q2 := X.out.k.cell_ (i := 2) (v := .slice A1 n1 c1) rfl
  have q3 := X.out.k.cell_ (i := 3) (v := .slice B1 m1 d1) rfl
  have y0 := Y.out.cell_ (i := 0) (v := .int .i64 st) rfl
  have y1 := Y.out.cell_ (i := 1) (v := .int .i64 sg) rfl
  go_wp2_with fail
  refine (GroupFinal_any _ _ _ _ _ _ _ _ _ _ x st sg _ X.out.i X.out.j (by omega) (by omega)).mono ?_
  rintro e w3 ⟨A2, n2, c2, B2, m2, d2, T2, u2, rfl, C2, O2, s3⟩
  obtain ⟨⟨⟨I', K', ps', ds'⟩, xs, ok⟩, hr⟩ : ∃ r, finM ⟨I, K, ps, ds⟩ x (st, sg) = r := ⟨_, rfl⟩
  have hpl := fin_len ⟨I, K, ps, ds⟩ x (st, sg)
  rw [hr] at C2 O2 hpl ⊢
  simp only at C2 O2 hpl ⊢
  rw [X.out.i.len, X.out.j.len, C2.oi.se.len, C2.oh.se.len] at hpl
  obtain ⟨hn2, hm2, hx2⟩ := hpl
  have HR := hid hr
  clear hr
  have O := hid (LG.new (I := I') (K := K') C2.oi.se C2.oh.se (X.out.s.trans s3))
  have sa := (St.refl w3).alloc (.cells (grC I' K' A2 n2 c2 B2 m2 d2) 25)
  have OL := hid (O2.sl.st sa)
  have ss := s3.trans sa
  replace X := hid (X.out.st ss)
  replace Y := hid (Y.out.st ss)
  replace q0 := ss.cell q0
  replace q1 := ss.cell q1
  replace q2 := ss.cell q2
  replace q3 := ss.cell q3
  replace y0 := ss.cell y0
  replace y1 := ss.cell y1
  clear s3 sa ss C2 O2
  go_upto_region 5 with (fail)
  generalize w3.alloc (.cells _ 25) = w4 at *
  generalize w3.heap.size = b1 at *
  go_wp2_with fail
  refine (specGroupFinal_any _ _ _ _ _ _ _ _ _ _ x st sg _ X.out.i X.out.j (by omega) (by omega)).mono ?_
  rintro e w5 ⟨A3, n3, c3, B3, m3, d3, T3, u3, rfl, C3, O3, s5⟩
  rw [HR.out] at C3 O3 ⊢
  simp only at C3 O3 ⊢
  have Q := hid (LG.new (I := I') (K := K') C3.oi.se C3.oh.se (X.out.s.trans s5))
  have sa := (St.refl w5).alloc (.cells (grC I' K' A3 n3 c3 B3 m3 d3) 25)
  have QL := hid (O3.sl.st sa)
  have ss := s5.trans sa
  replace X := hid (X.out.st ss)
  replace Y := hid (Y.out.st ss)
  replace O := hid (O.out.st ss)
  replace OL := hid (OL.out.st ss)
  replace q0 := ss.cell q0
  replace q1 := ss.cell q1
  replace q2 := ss.cell q2
  replace q3 := ss.cell q3
  replace y0 := ss.cell y0
  replace y1 := ss.cell y1
  clear s5 sa ss C3 O3
  go_upto_region 6 with (fail)
  generalize w5.alloc (.cells _ 25) = w6 at *
  generalize w5.heap.size = b2 at *
  have o0 := O.out.k.cell_ (i := 0) (v := .int .i64 I') rfl
  have o1 := O.out.k.cell_ (i := 1) (v := .int .i64 K') rfl
  have o2 := O.out.k.cell_ (i := 2) (v := .slice A2 n2 c2) rfl
  have o3 := O.out.k.cell_ (i := 3) (v := .slice B2 m2 d2) rfl
  have k0 := Q.out.k.cell_ (i := 0) (v := .int .i64 I') rfl
  have k1 := Q.out.k.cell_ (i := 1) (v := .int .i64 K') rfl
  have k2 := Q.out.k.cell_ (i := 2) (v := .slice A3 n3 c3) rfl
  have k3 := Q.out.k.cell_ (i := 3) (v := .slice B3 m3 d3) rfl
  cases ok
  · go_wp2_with fail
    refine (sameInts_same OL.out QL.out (by omega)).mono ?_
    rintro e w7a ⟨rfl, d7⟩
    have s7 := d7.st
    replace X := hid (X.out.st s7)
    replace Y := hid (Y.out.st s7)
    replace O := hid (O.out.st s7)
    replace Q := hid (Q.out.st s7)
    replace OL := hid (OL.out.st s7)
    replace QL := hid (QL.out.st s7)
    replace q0 := s7.cell q0
    replace q1 := s7.cell q1
    replace q2 := s7.cell q2
    replace q3 := s7.cell q3
    replace y0 := s7.cell y0
    replace y1 := s7.cell y1
    replace o0 := s7.cell o0
    replace o1 := s7.cell o1
    replace o2 := s7.cell o2
    replace o3 := s7.cell o3
    replace k0 := s7.cell k0
    replace k1 := s7.cell k1
    replace k2 := s7.cell k2
    replace k3 := s7.cell k3
    clear s7 d7
    go_wp2_with fail
    refine (sameGroup_same O.out.i O.out.j Q.out.i Q.out.j (by omega) (by omega)).mono ?_
    rintro e w7 ⟨rfl, s7⟩
    replace X := hid (X.out.st s7)
    replace Y := hid (Y.out.st s7)
    replace O := hid (O.out.st s7)
    replace Q := hid (Q.out.st s7)
    replace OL := hid (OL.out.st s7)
    replace QL := hid (QL.out.st s7)
    replace q0 := s7.cell q0
    replace q1 := s7.cell q1
    replace q2 := s7.cell q2
    replace q3 := s7.cell q3
    replace y0 := s7.cell y0
    replace y1 := s7.cell y1
    replace o0 := s7.cell o0
    replace o1 := s7.cell o1
    replace o2 := s7.cell o2
    replace o3 := s7.cell o3
    replace k0 := s7.cell k0
    replace k1 := s7.cell k1
    replace k2 := s7.cell k2
    replace k3 := s7.cell k3
    clear s7
    go_wp2_with fail
    refine (sameInts_same OL.out QL.out (by omega)).mono ?_
    rintro e w8a ⟨rfl, d7⟩
    have s7 := d7.st
    replace X := hid (X.out.st s7)
    replace Y := hid (Y.out.st s7)
    replace O := hid (O.out.st s7)
    replace Q := hid (Q.out.st s7)
    replace OL := hid (OL.out.st s7)
    replace QL := hid (QL.out.st s7)
    replace q0 := s7.cell q0
    replace q1 := s7.cell q1
    replace q2 := s7.cell q2
    replace q3 := s7.cell q3
    replace y0 := s7.cell y0
    replace y1 := s7.cell y1
    replace o0 := s7.cell o0
    replace o1 := s7.cell o1
    replace o2 := s7.cell o2
    replace o3 := s7.cell o3
    replace k0 := s7.cell k0
    replace k1 := s7.cell k1
    replace k2 := s7.cell k2
    replace k3 := s7.cell k3
    clear s7 d7
    go_wp2_with fail
    refine (sameGroup_same O.out.i O.out.j Q.out.i Q.out.j (by omega) (by omega)).mono ?_
    rintro e w8 ⟨rfl, s7⟩
    replace X := hid (X.out.st s7)
    replace Y := hid (Y.out.st s7)
    replace O := hid (O.out.st s7)
    replace Q := hid (Q.out.st s7)
    replace OL := hid (OL.out.st s7)
    replace QL := hid (QL.out.st s7)
    replace q0 := s7.cell q0
    replace q1 := s7.cell q1
    replace q2 := s7.cell q2
    replace q3 := s7.cell q3
    replace y0 := s7.cell y0
    replace y1 := s7.cell y1
    replace o0 := s7.cell o0
    replace o1 := s7.cell o1
    replace o2 := s7.cell o2
    replace o3 := s7.cell o3
    replace k0 := s7.cell k0
    replace k1 := s7.cell k1
    replace k2 := s7.cell k2
    replace k3 := s7.cell k3
    clear s7
    go_wp2_with fail
    go_ret
    exact ⟨rfl, X.out.s⟩
  have HY := hid (finM_yes HR.out)
  have V := hid HY.out.1
  go_wp2_with fail
  refine (sameInts_same OL.out QL.out (by omega)).mono ?_
  rintro e w7a ⟨rfl, d7⟩
  have s7 := d7.st
  replace X := hid (X.out.st s7)
  replace Y := hid (Y.out.st s7)
  replace O := hid (O.out.st s7)
  replace Q := hid (Q.out.st s7)
  replace OL := hid (OL.out.st s7)
  replace QL := hid (QL.out.st s7)
  replace q0 := s7.cell q0
  replace q1 := s7.cell q1
  replace q2 := s7.cell q2
  replace q3 := s7.cell q3
  replace y0 := s7.cell y0
  replace y1 := s7.cell y1
  replace o0 := s7.cell o0
  replace o1 := s7.cell o1
  replace o2 := s7.cell o2
  replace o3 := s7.cell o3
  replace k0 := s7.cell k0
  replace k1 := s7.cell k1
  replace k2 := s7.cell k2
  replace k3 := s7.cell k3
  clear s7 d7
  go_wp2_with fail
  refine (sameGroup_same O.out.i O.out.j Q.out.i Q.out.j (by omega) (by omega)).mono ?_
  rintro e w7 ⟨rfl, s7⟩
  replace X := hid (X.out.st s7)
  replace Y := hid (Y.out.st s7)
  replace O := hid (O.out.st s7)
  replace Q := hid (Q.out.st s7)
  replace OL := hid (OL.out.st s7)
  replace QL := hid (QL.out.st s7)
  replace q0 := s7.cell q0
  replace q1 := s7.cell q1
  replace q2 := s7.cell q2
  replace q3 := s7.cell q3
  replace y0 := s7.cell y0
  replace y1 := s7.cell y1
  replace o0 := s7.cell o0
  replace o1 := s7.cell o1
  replace o2 := s7.cell o2
  replace o3 := s7.cell o3
  replace k0 := s7.cell k0
  replace k1 := s7.cell k1
  replace k2 := s7.cell k2
  replace k3 := s7.cell k3
  clear s7
  obtain ⟨p, t, hp, hb⟩ := fin_block HR.out
  simp only at hp
  subst hp
  obtain ⟨pm, ⟨pt, pg⟩, pf⟩ := p
  simp only at hb
  have hn0 : 0 < n1 := by rw [← X.out.i.len]; simp
  have hn0i : (0 : Int) < (n1 : Int) := by omega
  obtain ⟨ad, m', t', g', f', rfl, hbl, hx, c0, c1', c2', c3⟩ := X.out.i.at_ hn0
  have hx := hx.out
  simp only [List.getElem?_cons_zero, Option.some.injEq, Prod.mk.injEq] at hx
  obtain ⟨rfl, ⟨rfl, rfl⟩, rfl⟩ := hx
  have had : ad.add (0 * 4) = ad := by cases ad; simp [Addr.add]
  rw [had] at c0 c1' c2' c3
  clear k0 k1 k2 k3 Q QL
  clear c1' c2' c3 had OL
  by_cases h0 : x = pm
  · clear hb
    go_wp2_with fail
    go_ret
    exact ⟨rfl, X.out.s⟩
  · have hb := hb.resolve_left h0
    subst hb
    go_wp2_with fail
    go_ret
    exact ⟨rfl, X.out.s⟩
end Go.Proofs.Ytkhgemgmnchodaa
