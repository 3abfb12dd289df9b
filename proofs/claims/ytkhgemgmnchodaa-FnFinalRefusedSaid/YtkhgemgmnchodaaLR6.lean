/- FnFinalRefused returns true. -/
import Derived.Test.YtkhgemgmnchodaaLawFn
import Derived.Deep.DeepCutAuto
namespace Go.Proofs.Ytkhgemgmnchodaa
open Go.RowKit Go.Sort
theorem any_succ' {p : Ent → Bool} {l : List Ent} {j : Nat} {y : Ent} (h : l[j]? = some y) : (l.take (j + 1)).any p = ((l.take j).any p || p y) := by
  rw [take_snoc h, List.any_append]; simp
theorem StampLess_any (t g t' g' : Int) (w : World) : Calls Try.prog 25 #[.agg #[.int .i64 t, .int .i64 g], .agg #[.int .i64 t', .int .i64 g']] w fun e w' => e = .returned (.bool ((stOk (t, g) && stOk (t', g')) && ltS (t, g) (t', g'))) ∧ St w w' := by
  have s0 := ((St.refl w).alloc (.cells #[.int .i64 t, .int .i64 g] 32)).alloc (.cells #[.int .i64 t', .int .i64 g'] 32)
  have K0 := hid ((Blk.new w 32 #[.int .i64 t, .int .i64 g]).alloc (.cells #[.int .i64 t', .int .i64 g'] 32))
  have K1 := hid (blk_second w (.cells #[.int .i64 t, .int .i64 g] 32) 32 #[.int .i64 t', .int .i64 g'])
  have a0 := K0.out.cell_ (i := 0) (v := .int .i64 t) rfl
  have a1 := K0.out.cell_ (i := 1) (v := .int .i64 g) rfl
  have S0 := hid s0
  clear s0
  go_enter Try.func25, Try.ntmps25
  go_wp2_with fail
  refine (StampValid_any _ _ _).mono ?_
  rintro e w1 ⟨rfl, s1⟩
  have K0 := hid (K0.out.below s1 K0.out.lt)
  have K1 := hid (K1.out.below s1 K1.out.lt)
  have S1 := hid (S0.out.trans s1)
  clear a0 a1 s1 S0
  have b0 := K1.out.cell_ (i := 0) (v := .int .i64 t') rfl
  have b1 := K1.out.cell_ (i := 1) (v := .int .i64 g') rfl
  cases h1 : stOk (t, g)
  · go_wp2_with fail
    go_ret
    exact ⟨by rw [h1]; rfl, S1.out⟩
  go_wp2_with fail
  refine (StampValid_any _ _ _).mono ?_
  rintro e w2 ⟨rfl, s2⟩
  have K0 := hid (K0.out.below s2 K0.out.lt)
  have K1 := hid (K1.out.below s2 K1.out.lt)
  have S2 := hid (S1.out.trans s2)
  clear b0 b1 s2 S1
  have a0 := K0.out.cell_ (i := 0) (v := .int .i64 t) rfl
  have a1 := K0.out.cell_ (i := 1) (v := .int .i64 g) rfl
  have b0 := K1.out.cell_ (i := 0) (v := .int .i64 t') rfl
  have b1 := K1.out.cell_ (i := 1) (v := .int .i64 g') rfl
  cases h2 : stOk (t', g')
  · go_wp2_with fail
    go_ret
    exact ⟨by rw [h1, h2]; rfl, S2.out⟩
  go_wp2_with fail
  refine (less_any _ _ _ _ _).mono ?_
  rintro e w3 ⟨rfl, s3⟩
  have S3 := hid (S2.out.trans s3)
  cases h3 : ltS (t, g) (t', g')
  · go_wp2_with fail
    go_ret
    exact ⟨by rw [h1, h2, h3]; rfl, S3.out⟩
  · go_wp2_with fail
    go_ret
    exact ⟨by rw [h1, h2, h3]; rfl, S3.out⟩
set_option maxRecDepth 100000 in
set_option maxHeartbeats 8000000 in
theorem walkRefused (A : Option Addr) (n c : Nat) (bs : List Nat) {w : World} (h : RB w w.heap.size A n bs) (hnc : n ≤ c ∧ c ≤ maxLen) :
    Calls Try.prog 9 #[.slice A n c] w fun e w' => e = .returned (.bool true) ∧ Below w.heap.size w w' := by
  obtain ⟨hnc, hcm⟩ := hnc
  have HCM := hid hcm
  clear hcm
  by_cases hn : 1048576 < n
  · have hn : (1048576 : Int) < (n : Int) := by omega
    go_enter Try.func9, Try.ntmps9
    go_wp2_with fail
    go_ret
    exact ⟨rfl, Below.refl _ _⟩
  have hni : ¬ (1048576 : Int) < (n : Int) := by omega
  go_enter Try.func9, Try.ntmps9
  go_wp2_with fail
  refine (DrawGroupFinal_any _ _ _ _ _ h (by omega) hnc HCM.out).mono ?_
  rintro e w1 ⟨I, K, A1, n1, c1, B1, m1, d1, ps, ds, x, st, sg, rfl, D⟩
  have hn1 := D.n
  have hm1 := D.m
  have sa := ((St.refl w1).alloc (.cells (grC I K A1 n1 c1 B1 m1 d1) 25)).alloc (.cells #[.int .i64 st, .int .i64 sg] 32)
  have X := hid (show LG w ((w1.alloc (.cells (grC I K A1 n1 c1 B1 m1 d1) 25)).alloc (.cells #[.int .i64 st, .int .i64 sg] 32)) w1.heap.size I K A1 n1 c1 B1 m1 d1 ps ds from ⟨(Blk.new w1 25 (grC I K A1 n1 c1 B1 m1 d1)).alloc _, D.i.st sa, D.j.st sa, D.s.trans sa⟩)
  have Y := hid (blk_second w1 (.cells (grC I K A1 n1 c1 B1 m1 d1) 25) 32 #[.int .i64 st, .int .i64 sg])
  clear sa
  clear D h hn hni hnc HCM
  go_upto_region 4 with (fail)
  generalize (w1.alloc (.cells _ 25)).alloc (.cells _ 32) = w2 at *
  generalize w1.heap.size = bx at *
  have q0 := X.out.k.cell_ (i := 0) (v := .int .i64 I) rfl
  have q1 := X.out.k.cell_ (i := 1) (v := .int .i64 K) rfl
  have q2 := X.out.k.cell_ (i := 2) (v := .slice A1 n1 c1) rfl
  have q3 := X.out.k.cell_ (i := 3) (v := .slice B1 m1 d1) rfl
  have y0 := Y.out.cell_ (i := 0) (v := .int .i64 st) rfl
  have y1 := Y.out.cell_ (i := 1) (v := .int .i64 sg) rfl
  go_wp2_with fail
  refine (GroupFinal_any _ _ _ _ _ _ _ _ _ _ x st sg _ X.out.i X.out.j (by omega) (by omega)).mono ?_
  rintro e w3 ⟨A2, n2, c2, B2, m2, d2, T2, u2, rfl, C2, O2, s3⟩
  obtain ⟨⟨⟨I', K', ps', ds'⟩, xs, ok⟩, hr⟩ : ∃ r, finM ⟨I, K, ps, ds⟩ x (st, sg) = r := ⟨_, rfl⟩
  have hpl := fin_len ⟨I, K, ps, ds⟩ x (st, sg)
  rw [hr] at C2 O2 hpl ⊢
  simp only at C2 O2 hpl ⊢
  rw [X.out.i.len, X.out.j.len, C2.oi.se.len, C2.oh.se.len] at hpl
  obtain ⟨hn2, hm2, hx2⟩ := hpl
  have HR := hid hr
  clear hr
  have O := hid (LG.new (I := I') (K := K') C2.oi.se C2.oh.se (X.out.s.trans s3))
  have sa := (St.refl w3).alloc (.cells (grC I' K' A2 n2 c2 B2 m2 d2) 25)
  have OL := hid (O2.sl.st sa)
  have ss := s3.trans sa
  replace X := hid (X.out.st ss)
  replace Y := hid (Y.out.st ss)
  replace q0 := ss.cell q0
  replace q1 := ss.cell q1
  replace q2 := ss.cell q2
  replace q3 := ss.cell q3
  replace y0 := ss.cell y0
  replace y1 := ss.cell y1
  clear s3 sa ss C2 O2
  go_upto_region 5 with (fail)
  generalize w3.alloc (.cells _ 25) = w4 at *
  generalize w3.heap.size = b1 at *
  go_wp2_with fail
  refine (specGroupFinal_any _ _ _ _ _ _ _ _ _ _ x st sg _ X.out.i X.out.j (by omega) (by omega)).mono ?_
  rintro e w5 ⟨A3, n3, c3, B3, m3, d3, T3, u3, rfl, C3, O3, s5⟩
  rw [HR.out] at C3 O3 ⊢
  simp only at C3 O3 ⊢
  have Q := hid (LG.new (I := I') (K := K') C3.oi.se C3.oh.se (X.out.s.trans s5))
  have sa := (St.refl w5).alloc (.cells (grC I' K' A3 n3 c3 B3 m3 d3) 25)
  have QL := hid (O3.sl.st sa)
  have ss := s5.trans sa
  replace X := hid (X.out.st ss)
  replace Y := hid (Y.out.st ss)
  replace O := hid (O.out.st ss)
  replace OL := hid (OL.out.st ss)
  replace q0 := ss.cell q0
  replace q1 := ss.cell q1
  replace q2 := ss.cell q2
  replace q3 := ss.cell q3
  replace y0 := ss.cell y0
  replace y1 := ss.cell y1
  clear s5 sa ss C3 O3
  go_upto_region 6 with (fail)
  generalize w5.alloc (.cells _ 25) = w6 at *
  generalize w5.heap.size = b2 at *
  have o0 := O.out.k.cell_ (i := 0) (v := .int .i64 I') rfl
  have o1 := O.out.k.cell_ (i := 1) (v := .int .i64 K') rfl
  have o2 := O.out.k.cell_ (i := 2) (v := .slice A2 n2 c2) rfl
  have o3 := O.out.k.cell_ (i := 3) (v := .slice B2 m2 d2) rfl
  have k0 := Q.out.k.cell_ (i := 0) (v := .int .i64 I') rfl
  have k1 := Q.out.k.cell_ (i := 1) (v := .int .i64 K') rfl
  have k2 := Q.out.k.cell_ (i := 2) (v := .slice A3 n3 c3) rfl
  have k3 := Q.out.k.cell_ (i := 3) (v := .slice B3 m3 d3) rfl
  have hoo : (ok == ok) = true := by simp
  have hon : (ok != ok) = false := by simp
  cases hv : grOk ⟨I, K, ps, ds⟩
  · go_wp2_with fail
    refine (sameInts_same OL.out QL.out (by omega)).mono ?_
    rintro e w7a ⟨rfl, d7⟩
    have s7 := d7.st
    replace X := hid (X.out.st s7)
    replace Y := hid (Y.out.st s7)
    replace O := hid (O.out.st s7)
    replace Q := hid (Q.out.st s7)
    replace OL := hid (OL.out.st s7)
    replace QL := hid (QL.out.st s7)
    replace q0 := s7.cell q0
    replace q1 := s7.cell q1
    replace q2 := s7.cell q2
    replace q3 := s7.cell q3
    replace y0 := s7.cell y0
    replace y1 := s7.cell y1
    replace o0 := s7.cell o0
    replace o1 := s7.cell o1
    replace o2 := s7.cell o2
    replace o3 := s7.cell o3
    replace k0 := s7.cell k0
    replace k1 := s7.cell k1
    replace k2 := s7.cell k2
    replace k3 := s7.cell k3
    clear s7 d7
    go_wp2_with fail
    refine (sameGroup_same O.out.i O.out.j Q.out.i Q.out.j (by omega) (by omega)).mono ?_
    rintro e w7 ⟨rfl, s7⟩
    replace X := hid (X.out.st s7)
    replace Y := hid (Y.out.st s7)
    replace O := hid (O.out.st s7)
    replace Q := hid (Q.out.st s7)
    replace OL := hid (OL.out.st s7)
    replace QL := hid (QL.out.st s7)
    replace q0 := s7.cell q0
    replace q1 := s7.cell q1
    replace q2 := s7.cell q2
    replace q3 := s7.cell q3
    replace y0 := s7.cell y0
    replace y1 := s7.cell y1
    replace o0 := s7.cell o0
    replace o1 := s7.cell o1
    replace o2 := s7.cell o2
    replace o3 := s7.cell o3
    replace k0 := s7.cell k0
    replace k1 := s7.cell k1
    replace k2 := s7.cell k2
    replace k3 := s7.cell k3
    clear s7
    go_wp2_with fail
    refine (specGroupValid_any _ _ _ _ _ _ _ _ _ _ _ X.out.i X.out.j).mono ?_
    rintro e w8 ⟨rfl, s8⟩
    rw [hv]
    replace X := hid (X.out.st s8)
    replace Y := hid (Y.out.st s8)
    replace O := hid (O.out.st s8)
    replace Q := hid (Q.out.st s8)
    replace OL := hid (OL.out.st s8)
    replace QL := hid (QL.out.st s8)
    replace q0 := s8.cell q0
    replace q1 := s8.cell q1
    replace q2 := s8.cell q2
    replace q3 := s8.cell q3
    replace y0 := s8.cell y0
    replace y1 := s8.cell y1
    replace o0 := s8.cell o0
    replace o1 := s8.cell o1
    replace o2 := s8.cell o2
    replace o3 := s8.cell o3
    replace k0 := s8.cell k0
    replace k1 := s8.cell k1
    replace k2 := s8.cell k2
    replace k3 := s8.cell k3
    clear s8
    go_wp2_with fail
    refine (sameInts_same OL.out QL.out (by omega)).mono ?_
    rintro e w9a ⟨rfl, d7⟩
    have s7 := d7.st
    replace X := hid (X.out.st s7)
    replace Y := hid (Y.out.st s7)
    replace O := hid (O.out.st s7)
    replace Q := hid (Q.out.st s7)
    replace OL := hid (OL.out.st s7)
    replace QL := hid (QL.out.st s7)
    replace q0 := s7.cell q0
    replace q1 := s7.cell q1
    replace q2 := s7.cell q2
    replace q3 := s7.cell q3
    replace y0 := s7.cell y0
    replace y1 := s7.cell y1
    replace o0 := s7.cell o0
    replace o1 := s7.cell o1
    replace o2 := s7.cell o2
    replace o3 := s7.cell o3
    replace k0 := s7.cell k0
    replace k1 := s7.cell k1
    replace k2 := s7.cell k2
    replace k3 := s7.cell k3
    clear s7 d7
    go_wp2_with fail
    refine (sameGroup_same O.out.i O.out.j Q.out.i Q.out.j (by omega) (by omega)).mono ?_
    rintro e w9 ⟨rfl, s7⟩
    replace X := hid (X.out.st s7)
    replace Y := hid (Y.out.st s7)
    replace O := hid (O.out.st s7)
    replace Q := hid (Q.out.st s7)
    replace OL := hid (OL.out.st s7)
    replace QL := hid (QL.out.st s7)
    replace q0 := s7.cell q0
    replace q1 := s7.cell q1
    replace q2 := s7.cell q2
    replace q3 := s7.cell q3
    replace y0 := s7.cell y0
    replace y1 := s7.cell y1
    replace o0 := s7.cell o0
    replace o1 := s7.cell o1
    replace o2 := s7.cell o2
    replace o3 := s7.cell o3
    replace k0 := s7.cell k0
    replace k1 := s7.cell k1
    replace k2 := s7.cell k2
    replace k3 := s7.cell k3
    clear s7
    go_wp2_with fail
    go_ret
    exact ⟨rfl, X.out.s⟩
  by_cases hx1 : x < 0
  · go_wp2_with fail
    refine (sameInts_same OL.out QL.out (by omega)).mono ?_
    rintro e w7a ⟨rfl, d7⟩
    have s7 := d7.st
    replace X := hid (X.out.st s7)
    replace Y := hid (Y.out.st s7)
    replace O := hid (O.out.st s7)
    replace Q := hid (Q.out.st s7)
    replace OL := hid (OL.out.st s7)
    replace QL := hid (QL.out.st s7)
    replace q0 := s7.cell q0
    replace q1 := s7.cell q1
    replace q2 := s7.cell q2
    replace q3 := s7.cell q3
    replace y0 := s7.cell y0
    replace y1 := s7.cell y1
    replace o0 := s7.cell o0
    replace o1 := s7.cell o1
    replace o2 := s7.cell o2
    replace o3 := s7.cell o3
    replace k0 := s7.cell k0
    replace k1 := s7.cell k1
    replace k2 := s7.cell k2
    replace k3 := s7.cell k3
    clear s7 d7
    go_wp2_with fail
    refine (sameGroup_same O.out.i O.out.j Q.out.i Q.out.j (by omega) (by omega)).mono ?_
    rintro e w7 ⟨rfl, s7⟩
    replace X := hid (X.out.st s7)
    replace Y := hid (Y.out.st s7)
    replace O := hid (O.out.st s7)
    replace Q := hid (Q.out.st s7)
    replace OL := hid (OL.out.st s7)
    replace QL := hid (QL.out.st s7)
    replace q0 := s7.cell q0
    replace q1 := s7.cell q1
    replace q2 := s7.cell q2
    replace q3 := s7.cell q3
    replace y0 := s7.cell y0
    replace y1 := s7.cell y1
    replace o0 := s7.cell o0
    replace o1 := s7.cell o1
    replace o2 := s7.cell o2
    replace o3 := s7.cell o3
    replace k0 := s7.cell k0
    replace k1 := s7.cell k1
    replace k2 := s7.cell k2
    replace k3 := s7.cell k3
    clear s7
    go_wp2_with fail
    refine (specGroupValid_any _ _ _ _ _ _ _ _ _ _ _ X.out.i X.out.j).mono ?_
    rintro e w8 ⟨rfl, s8⟩
    rw [hv]
    replace X := hid (X.out.st s8)
    replace Y := hid (Y.out.st s8)
    replace O := hid (O.out.st s8)
    replace Q := hid (Q.out.st s8)
    replace OL := hid (OL.out.st s8)
    replace QL := hid (QL.out.st s8)
    replace q0 := s8.cell q0
    replace q1 := s8.cell q1
    replace q2 := s8.cell q2
    replace q3 := s8.cell q3
    replace y0 := s8.cell y0
    replace y1 := s8.cell y1
    replace o0 := s8.cell o0
    replace o1 := s8.cell o1
    replace o2 := s8.cell o2
    replace o3 := s8.cell o3
    replace k0 := s8.cell k0
    replace k1 := s8.cell k1
    replace k2 := s8.cell k2
    replace k3 := s8.cell k3
    clear s8
    go_wp2_with fail
    refine (sameInts_same OL.out QL.out (by omega)).mono ?_
    rintro e w9a ⟨rfl, d7⟩
    have s7 := d7.st
    replace X := hid (X.out.st s7)
    replace Y := hid (Y.out.st s7)
    replace O := hid (O.out.st s7)
    replace Q := hid (Q.out.st s7)
    replace OL := hid (OL.out.st s7)
    replace QL := hid (QL.out.st s7)
    replace q0 := s7.cell q0
    replace q1 := s7.cell q1
    replace q2 := s7.cell q2
    replace q3 := s7.cell q3
    replace y0 := s7.cell y0
    replace y1 := s7.cell y1
    replace o0 := s7.cell o0
    replace o1 := s7.cell o1
    replace o2 := s7.cell o2
    replace o3 := s7.cell o3
    replace k0 := s7.cell k0
    replace k1 := s7.cell k1
    replace k2 := s7.cell k2
    replace k3 := s7.cell k3
    clear s7 d7
    go_wp2_with fail
    refine (sameGroup_same O.out.i O.out.j Q.out.i Q.out.j (by omega) (by omega)).mono ?_
    rintro e w9 ⟨rfl, s7⟩
    replace X := hid (X.out.st s7)
    replace Y := hid (Y.out.st s7)
    replace O := hid (O.out.st s7)
    replace Q := hid (Q.out.st s7)
    replace OL := hid (OL.out.st s7)
    replace QL := hid (QL.out.st s7)
    replace q0 := s7.cell q0
    replace q1 := s7.cell q1
    replace q2 := s7.cell q2
    replace q3 := s7.cell q3
    replace y0 := s7.cell y0
    replace y1 := s7.cell y1
    replace o0 := s7.cell o0
    replace o1 := s7.cell o1
    replace o2 := s7.cell o2
    replace o3 := s7.cell o3
    replace k0 := s7.cell k0
    replace k1 := s7.cell k1
    replace k2 := s7.cell k2
    replace k3 := s7.cell k3
    clear s7
    go_wp2_with fail
    go_ret
    exact ⟨rfl, X.out.s⟩
  by_cases hx2 : 12 ≤ x
  · go_wp2_with fail
    refine (sameInts_same OL.out QL.out (by omega)).mono ?_
    rintro e w7a ⟨rfl, d7⟩
    have s7 := d7.st
    replace X := hid (X.out.st s7)
    replace Y := hid (Y.out.st s7)
    replace O := hid (O.out.st s7)
    replace Q := hid (Q.out.st s7)
    replace OL := hid (OL.out.st s7)
    replace QL := hid (QL.out.st s7)
    replace q0 := s7.cell q0
    replace q1 := s7.cell q1
    replace q2 := s7.cell q2
    replace q3 := s7.cell q3
    replace y0 := s7.cell y0
    replace y1 := s7.cell y1
    replace o0 := s7.cell o0
    replace o1 := s7.cell o1
    replace o2 := s7.cell o2
    replace o3 := s7.cell o3
    replace k0 := s7.cell k0
    replace k1 := s7.cell k1
    replace k2 := s7.cell k2
    replace k3 := s7.cell k3
    clear s7 d7
    go_wp2_with fail
    refine (sameGroup_same O.out.i O.out.j Q.out.i Q.out.j (by omega) (by omega)).mono ?_
    rintro e w7 ⟨rfl, s7⟩
    replace X := hid (X.out.st s7)
    replace Y := hid (Y.out.st s7)
    replace O := hid (O.out.st s7)
    replace Q := hid (Q.out.st s7)
    replace OL := hid (OL.out.st s7)
    replace QL := hid (QL.out.st s7)
    replace q0 := s7.cell q0
    replace q1 := s7.cell q1
    replace q2 := s7.cell q2
    replace q3 := s7.cell q3
    replace y0 := s7.cell y0
    replace y1 := s7.cell y1
    replace o0 := s7.cell o0
    replace o1 := s7.cell o1
    replace o2 := s7.cell o2
    replace o3 := s7.cell o3
    replace k0 := s7.cell k0
    replace k1 := s7.cell k1
    replace k2 := s7.cell k2
    replace k3 := s7.cell k3
    clear s7
    go_wp2_with fail
    refine (specGroupValid_any _ _ _ _ _ _ _ _ _ _ _ X.out.i X.out.j).mono ?_
    rintro e w8 ⟨rfl, s8⟩
    rw [hv]
    replace X := hid (X.out.st s8)
    replace Y := hid (Y.out.st s8)
    replace O := hid (O.out.st s8)
    replace Q := hid (Q.out.st s8)
    replace OL := hid (OL.out.st s8)
    replace QL := hid (QL.out.st s8)
    replace q0 := s8.cell q0
    replace q1 := s8.cell q1
    replace q2 := s8.cell q2
    replace q3 := s8.cell q3
    replace y0 := s8.cell y0
    replace y1 := s8.cell y1
    replace o0 := s8.cell o0
    replace o1 := s8.cell o1
    replace o2 := s8.cell o2
    replace o3 := s8.cell o3
    replace k0 := s8.cell k0
    replace k1 := s8.cell k1
    replace k2 := s8.cell k2
    replace k3 := s8.cell k3
    clear s8
    go_wp2_with fail
    refine (sameInts_same OL.out QL.out (by omega)).mono ?_
    rintro e w9a ⟨rfl, d7⟩
    have s7 := d7.st
    replace X := hid (X.out.st s7)
    replace Y := hid (Y.out.st s7)
    replace O := hid (O.out.st s7)
    replace Q := hid (Q.out.st s7)
    replace OL := hid (OL.out.st s7)
    replace QL := hid (QL.out.st s7)
    replace q0 := s7.cell q0
    replace q1 := s7.cell q1
    replace q2 := s7.cell q2
    replace q3 := s7.cell q3
    replace y0 := s7.cell y0
    replace y1 := s7.cell y1
    replace o0 := s7.cell o0
    replace o1 := s7.cell o1
    replace o2 := s7.cell o2
    replace o3 := s7.cell o3
    replace k0 := s7.cell k0
    replace k1 := s7.cell k1
    replace k2 := s7.cell k2
    replace k3 := s7.cell k3
    clear s7 d7
    go_wp2_with fail
    refine (sameGroup_same O.out.i O.out.j Q.out.i Q.out.j (by omega) (by omega)).mono ?_
    rintro e w9 ⟨rfl, s7⟩
    replace X := hid (X.out.st s7)
    replace Y := hid (Y.out.st s7)
    replace O := hid (O.out.st s7)
    replace Q := hid (Q.out.st s7)
    replace OL := hid (OL.out.st s7)
    replace QL := hid (QL.out.st s7)
    replace q0 := s7.cell q0
    replace q1 := s7.cell q1
    replace q2 := s7.cell q2
    replace q3 := s7.cell q3
    replace y0 := s7.cell y0
    replace y1 := s7.cell y1
    replace o0 := s7.cell o0
    replace o1 := s7.cell o1
    replace o2 := s7.cell o2
    replace o3 := s7.cell o3
    replace k0 := s7.cell k0
    replace k1 := s7.cell k1
    replace k2 := s7.cell k2
    replace k3 := s7.cell k3
    clear s7
    go_wp2_with fail
    go_ret
    exact ⟨rfl, X.out.s⟩
  cases hs : stOk (st, sg)
  · go_wp2_with fail
    refine (sameInts_same OL.out QL.out (by omega)).mono ?_
    rintro e w7a ⟨rfl, d7⟩
    have s7 := d7.st
    replace X := hid (X.out.st s7)
    replace Y := hid (Y.out.st s7)
    replace O := hid (O.out.st s7)
    replace Q := hid (Q.out.st s7)
    replace OL := hid (OL.out.st s7)
    replace QL := hid (QL.out.st s7)
    replace q0 := s7.cell q0
    replace q1 := s7.cell q1
    replace q2 := s7.cell q2
    replace q3 := s7.cell q3
    replace y0 := s7.cell y0
    replace y1 := s7.cell y1
    replace o0 := s7.cell o0
    replace o1 := s7.cell o1
    replace o2 := s7.cell o2
    replace o3 := s7.cell o3
    replace k0 := s7.cell k0
    replace k1 := s7.cell k1
    replace k2 := s7.cell k2
    replace k3 := s7.cell k3
    clear s7 d7
    go_wp2_with fail
    refine (sameGroup_same O.out.i O.out.j Q.out.i Q.out.j (by omega) (by omega)).mono ?_
    rintro e w7 ⟨rfl, s7⟩
    replace X := hid (X.out.st s7)
    replace Y := hid (Y.out.st s7)
    replace O := hid (O.out.st s7)
    replace Q := hid (Q.out.st s7)
    replace OL := hid (OL.out.st s7)
    replace QL := hid (QL.out.st s7)
    replace q0 := s7.cell q0
    replace q1 := s7.cell q1
    replace q2 := s7.cell q2
    replace q3 := s7.cell q3
    replace y0 := s7.cell y0
    replace y1 := s7.cell y1
    replace o0 := s7.cell o0
    replace o1 := s7.cell o1
    replace o2 := s7.cell o2
    replace o3 := s7.cell o3
    replace k0 := s7.cell k0
    replace k1 := s7.cell k1
    replace k2 := s7.cell k2
    replace k3 := s7.cell k3
    clear s7
    go_wp2_with fail
    refine (specGroupValid_any _ _ _ _ _ _ _ _ _ _ _ X.out.i X.out.j).mono ?_
    rintro e w8 ⟨rfl, s8⟩
    rw [hv]
    replace X := hid (X.out.st s8)
    replace Y := hid (Y.out.st s8)
    replace O := hid (O.out.st s8)
    replace Q := hid (Q.out.st s8)
    replace OL := hid (OL.out.st s8)
    replace QL := hid (QL.out.st s8)
    replace q0 := s8.cell q0
    replace q1 := s8.cell q1
    replace q2 := s8.cell q2
    replace q3 := s8.cell q3
    replace y0 := s8.cell y0
    replace y1 := s8.cell y1
    replace o0 := s8.cell o0
    replace o1 := s8.cell o1
    replace o2 := s8.cell o2
    replace o3 := s8.cell o3
    replace k0 := s8.cell k0
    replace k1 := s8.cell k1
    replace k2 := s8.cell k2
    replace k3 := s8.cell k3
    clear s8
    go_wp2_with fail
    refine (specStampValid_any _ _ _).mono ?_
    rintro e w8s ⟨rfl, s8⟩
    rw [hs]
    replace X := hid (X.out.st s8)
    replace Y := hid (Y.out.st s8)
    replace O := hid (O.out.st s8)
    replace Q := hid (Q.out.st s8)
    replace OL := hid (OL.out.st s8)
    replace QL := hid (QL.out.st s8)
    replace q0 := s8.cell q0
    replace q1 := s8.cell q1
    replace q2 := s8.cell q2
    replace q3 := s8.cell q3
    replace y0 := s8.cell y0
    replace y1 := s8.cell y1
    replace o0 := s8.cell o0
    replace o1 := s8.cell o1
    replace o2 := s8.cell o2
    replace o3 := s8.cell o3
    replace k0 := s8.cell k0
    replace k1 := s8.cell k1
    replace k2 := s8.cell k2
    replace k3 := s8.cell k3
    clear s8
    go_wp2_with fail
    refine (sameInts_same OL.out QL.out (by omega)).mono ?_
    rintro e w9a ⟨rfl, d7⟩
    have s7 := d7.st
    replace X := hid (X.out.st s7)
    replace Y := hid (Y.out.st s7)
    replace O := hid (O.out.st s7)
    replace Q := hid (Q.out.st s7)
    replace OL := hid (OL.out.st s7)
    replace QL := hid (QL.out.st s7)
    replace q0 := s7.cell q0
    replace q1 := s7.cell q1
    replace q2 := s7.cell q2
    replace q3 := s7.cell q3
    replace y0 := s7.cell y0
    replace y1 := s7.cell y1
    replace o0 := s7.cell o0
    replace o1 := s7.cell o1
    replace o2 := s7.cell o2
    replace o3 := s7.cell o3
    replace k0 := s7.cell k0
    replace k1 := s7.cell k1
    replace k2 := s7.cell k2
    replace k3 := s7.cell k3
    clear s7 d7
    go_wp2_with fail
    refine (sameGroup_same O.out.i O.out.j Q.out.i Q.out.j (by omega) (by omega)).mono ?_
    rintro e w9 ⟨rfl, s7⟩
    replace X := hid (X.out.st s7)
    replace Y := hid (Y.out.st s7)
    replace O := hid (O.out.st s7)
    replace Q := hid (Q.out.st s7)
    replace OL := hid (OL.out.st s7)
    replace QL := hid (QL.out.st s7)
    replace q0 := s7.cell q0
    replace q1 := s7.cell q1
    replace q2 := s7.cell q2
    replace q3 := s7.cell q3
    replace y0 := s7.cell y0
    replace y1 := s7.cell y1
    replace o0 := s7.cell o0
    replace o1 := s7.cell o1
    replace o2 := s7.cell o2
    replace o3 := s7.cell o3
    replace k0 := s7.cell k0
    replace k1 := s7.cell k1
    replace k2 := s7.cell k2
    replace k3 := s7.cell k3
    clear s7
    go_wp2_with fail
    go_ret
    exact ⟨rfl, X.out.s⟩
  have V := hid (grOk_iff.1 hv)
  have hm : isMsg x = true := inB_iff.2 ⟨by omega, by omega⟩
  have hrf := fin_refused V.out hm hs
  rw [HR.out] at hrf
  have HRF := hid hrf
  have HSO := hid hs
  clear hm hrf
  go_wp2_with fail
  refine (sameInts_same OL.out QL.out (by omega)).mono ?_
  rintro e w7a ⟨rfl, d7⟩
  have s7 := d7.st
  replace X := hid (X.out.st s7)
  replace Y := hid (Y.out.st s7)
  replace O := hid (O.out.st s7)
  replace Q := hid (Q.out.st s7)
  replace OL := hid (OL.out.st s7)
  replace QL := hid (QL.out.st s7)
  replace q0 := s7.cell q0
  replace q1 := s7.cell q1
  replace q2 := s7.cell q2
  replace q3 := s7.cell q3
  replace y0 := s7.cell y0
  replace y1 := s7.cell y1
  replace o0 := s7.cell o0
  replace o1 := s7.cell o1
  replace o2 := s7.cell o2
  replace o3 := s7.cell o3
  replace k0 := s7.cell k0
  replace k1 := s7.cell k1
  replace k2 := s7.cell k2
  replace k3 := s7.cell k3
  clear s7 d7
  go_wp2_with fail
  refine (sameGroup_same O.out.i O.out.j Q.out.i Q.out.j (by omega) (by omega)).mono ?_
  rintro e w7 ⟨rfl, s7⟩
  replace X := hid (X.out.st s7)
  replace Y := hid (Y.out.st s7)
  replace O := hid (O.out.st s7)
  replace Q := hid (Q.out.st s7)
  replace OL := hid (OL.out.st s7)
  replace QL := hid (QL.out.st s7)
  replace q0 := s7.cell q0
  replace q1 := s7.cell q1
  replace q2 := s7.cell q2
  replace q3 := s7.cell q3
  replace y0 := s7.cell y0
  replace y1 := s7.cell y1
  replace o0 := s7.cell o0
  replace o1 := s7.cell o1
  replace o2 := s7.cell o2
  replace o3 := s7.cell o3
  replace k0 := s7.cell k0
  replace k1 := s7.cell k1
  replace k2 := s7.cell k2
  replace k3 := s7.cell k3
  clear s7
  go_wp2_with fail
  refine (specGroupValid_any _ _ _ _ _ _ _ _ _ _ _ X.out.i X.out.j).mono ?_
  rintro e w8 ⟨rfl, s8⟩
  rw [hv]
  replace X := hid (X.out.st s8)
  replace Y := hid (Y.out.st s8)
  replace O := hid (O.out.st s8)
  replace Q := hid (Q.out.st s8)
  replace OL := hid (OL.out.st s8)
  replace QL := hid (QL.out.st s8)
  replace q0 := s8.cell q0
  replace q1 := s8.cell q1
  replace q2 := s8.cell q2
  replace q3 := s8.cell q3
  replace y0 := s8.cell y0
  replace y1 := s8.cell y1
  replace o0 := s8.cell o0
  replace o1 := s8.cell o1
  replace o2 := s8.cell o2
  replace o3 := s8.cell o3
  replace k0 := s8.cell k0
  replace k1 := s8.cell k1
  replace k2 := s8.cell k2
  replace k3 := s8.cell k3
  clear s8
  go_wp2_with fail
  refine (specStampValid_any _ _ _).mono ?_
  rintro e w8s ⟨rfl, s8⟩
  rw [hs]
  replace X := hid (X.out.st s8)
  replace Y := hid (Y.out.st s8)
  replace O := hid (O.out.st s8)
  replace q0 := s8.cell q0
  replace q1 := s8.cell q1
  replace q2 := s8.cell q2
  replace q3 := s8.cell q3
  replace y0 := s8.cell y0
  replace y1 := s8.cell y1
  replace o0 := s8.cell o0
  replace o1 := s8.cell o1
  replace o2 := s8.cell o2
  replace o3 := s8.cell o3
  clear s8 hs hv k0 k1 k2 k3 Q QL OL
  go_wp2_with fail
  refine (GroupStamp_any _ _ _ _ _ _ _ _ _ _ x _ X.out.i X.out.j (by omega) (by omega)).mono ?_
  rintro e w9 ⟨rfl, s9⟩
  obtain ⟨⟨em, ⟨et, eg⟩, ef⟩, he⟩ : ∃ e, (stampG ⟨I, K, ps, ds⟩ x).getD e0 = e := ⟨_, rfl⟩
  obtain ⟨b, hb⟩ : ∃ b, (stampG ⟨I, K, ps, ds⟩ x).isSome = b := ⟨_, rfl⟩
  have HST : stRes (stampG ⟨I, K, ps, ds⟩ x) = .tuple #[enV em et eg ef, .bool b] := by unfold stRes; rw [he, hb]
  have HE := hid he
  have HB := hid hb
  rw [HST]
  have sa := (St.refl w9).alloc (.cells #[.int .i64 em, .int .i64 et, .int .i64 eg, .bool ef] 34)
  have E1 := hid (Blk.new w9 34 #[.int .i64 em, .int .i64 et, .int .i64 eg, .bool ef])
  have ss := s9.trans sa
  replace X := hid (X.out.st ss)
  replace Y := hid (Y.out.st ss)
  replace O := hid (O.out.st ss)
  replace q0 := ss.cell q0
  replace q1 := ss.cell q1
  replace q2 := ss.cell q2
  replace q3 := ss.cell q3
  replace y0 := ss.cell y0
  replace y1 := ss.cell y1
  replace o0 := ss.cell o0
  replace o1 := ss.cell o1
  replace o2 := ss.cell o2
  replace o3 := ss.cell o3
  clear s9 sa ss HST he hb
  go_upto_region 9 with (fail)
  generalize w9.alloc (.cells _ 34) = w10 at *
  generalize w9.heap.size = b3 at *
  have e0 := E1.out.cell_ (i := 0) (v := .int .i64 em) rfl
  have e1 := E1.out.cell_ (i := 1) (v := .int .i64 et) rfl
  have e2 := E1.out.cell_ (i := 2) (v := .int .i64 eg) rfl
  have e3 := E1.out.cell_ (i := 3) (v := .bool ef) rfl
  obtain ⟨bad0, hb0⟩ : ∃ z, z = (!b || (ef || (stOk (st, sg) && stOk (et, eg)) && ltS (st, sg) (et, eg))) := ⟨_, rfl⟩
  have HB0 := hid hb0
  clear hb0
  go_cut [14] (fun s14 wx => s14 = .bool bad0 ∧ Hid (St w10 wx))
  case first =>
    cases b
    · go_wp2_with fail
      go_meet
      exact ⟨by rw [HB0.out]; rfl, hid (St.refl _)⟩
    · cases ef
      · go_wp2_with fail
        refine (StampLess_any _ _ _ _ _).mono ?_
        rintro e w11 ⟨rfl, s11⟩
        go_wp2_with fail
        go_meet
        exact ⟨by rw [HB0.out]; rfl, hid s11⟩
      · go_wp2_with fail
        go_meet
        exact ⟨by rw [HB0.out]; rfl, hid (St.refl _)⟩
  case rest =>
  obtain ⟨rfl, hsw⟩ := hcut
  obtain ⟨w11, rfl⟩ : ∃ z : World, z = wc := ⟨_, rfl⟩
  have s11 := hsw.out
  replace X := hid (X.out.st s11)
  replace Y := hid (Y.out.st s11)
  replace O := hid (O.out.st s11)
  replace q0 := s11.cell q0
  replace q1 := s11.cell q1
  replace q2 := s11.cell q2
  replace q3 := s11.cell q3
  replace y0 := s11.cell y0
  replace y1 := s11.cell y1
  replace o0 := s11.cell o0
  replace o1 := s11.cell o1
  replace o2 := s11.cell o2
  replace o3 := s11.cell o3
  clear s11 hsw e0 e1 e2 e3 E1
  obtain ⟨mt, hmt⟩ : ∃ mt : Ent → Bool, mt = fun y => y.1 != x && y.2.1 == (st, sg) := ⟨_, rfl⟩
  have HMT := hid hmt
  have HBF := hid (show badF ⟨I, K, ps, ds⟩ x (st, sg) = (bad0 || ps.any mt) by unfold badF; rw [HE.out, HB.out, hmt, HB0.out])
  have hli := hid X.out.i.len
  have hnl : n1 ≤ 1048576 := by omega
  clear hmt HE HB HB0 o0 o1 o2 o3 q0 q1 q2 q3 y0 y1 hoo hon
  go_upto_region 11 with (fail)
  go_loopw [14, 15] (fun f i wr => ∃ j : Nat, j ≤ n1 ∧ i = .int .i64 (j : Int) ∧ f = .bool (bad0 || (ps.take j).any mt) ∧ Hid (St w11 wr)) (fun _ i _ => n1 - (intOf i).toNat)
  case atStart => exact ⟨0, Nat.zero_le _, rfl, by simp, St.refl _⟩
  case round =>
    obtain ⟨wa, rfl⟩ : ∃ wo : World, wo = wr := ⟨_, rfl⟩
    obtain ⟨j, hj, rfl, rfl, hd⟩ := hrel
    have X2 := hid (X.out.st hd.out)
    have O2 := hid (O.out.st hd.out)
    have Y2 := hid (Y.out.st hd.out)
    have q2 := X2.out.k.cell_ (i := 2) (v := .slice A1 n1 c1) rfl
    have y0 := Y2.out.cell_ (i := 0) (v := .int .i64 st) rfl
    have y1 := Y2.out.cell_ (i := 1) (v := .int .i64 sg) rfl
    have hj0 : (0 : Int) ≤ (j : Int) := by omega
    by_cases hlt : j < n1
    · have hji : (j : Int) < (n1 : Int) := by omega
      obtain ⟨ad, m', t', g', f', rfl, _, hy, c0, c1', c2', c3⟩ := X2.out.i.at_ hlt
      have HS := hid (any_succ' (p := mt) hy.out)
      have HMV := hid (show mt (m', (t', g'), f') = (m' != x && (t', g') == (st, sg)) by rw [HMT.out])
      obtain ⟨f0, hf0⟩ : ∃ z, (bad0 || (ps.take j).any mt) = z := ⟨_, rfl⟩
      have HF0 := hid hf0
      rw [hf0]
      clear hf0 hy
      cases f0
      · by_cases h0 : m' = x
        · go_wp2_with fail
          go_quiet (fail)
          have hd2 := hid (hd.out.trans (Dr.st ⟨nq, rfl⟩ : St wa (wa.drewN nq)))
          go_wp2_with fail
          go_roundw
          case rel => exact ⟨j + 1, by omega, by go_num, by rw [HS.out, HMV.out, ← Bool.or_assoc, HF0.out]; simp [h0], hd2⟩
          case measure => simp [intOf]; omega
        · have h0n : (m' != x) = true := by simpa using h0
          by_cases h1 : t' = st
          · by_cases h2 : g' = sg
            · go_wp2_with fail
              go_quiet (fail)
              have hd2 := hid (hd.out.trans (Dr.st ⟨nq, rfl⟩ : St wa (wa.drewN nq)))
              go_wp2_with fail
              go_roundw
              case rel => exact ⟨j + 1, by omega, by go_num, by rw [HS.out, HMV.out, ← Bool.or_assoc, HF0.out]; simp [h0, h1, h2], hd2⟩
              case measure => simp [intOf]; omega
            · go_wp2_with fail
              go_quiet (fail)
              have hd2 := hid (hd.out.trans (Dr.st ⟨nq, rfl⟩ : St wa (wa.drewN nq)))
              go_wp2_with fail
              go_roundw
              case rel => exact ⟨j + 1, by omega, by go_num, by rw [HS.out, HMV.out, ← Bool.or_assoc, HF0.out]; simp [h0, h1, h2], hd2⟩
              case measure => simp [intOf]; omega
          · go_wp2_with fail
            go_quiet (fail)
            have hd2 := hid (hd.out.trans (Dr.st ⟨nq, rfl⟩ : St wa (wa.drewN nq)))
            go_wp2_with fail
            go_roundw
            case rel => exact ⟨j + 1, by omega, by go_num, by rw [HS.out, HMV.out, ← Bool.or_assoc, HF0.out]; simp [h0, h1], hd2⟩
            case measure => simp [intOf]; omega
      · go_wp2_with fail
        go_quiet (fail)
        have hd2 := hid (hd.out.trans (Dr.st ⟨nq, rfl⟩ : St wa (wa.drewN nq)))
        go_wp2_with fail
        go_roundw
        case rel => exact ⟨j + 1, by omega, by go_num, by rw [HS.out, HMV.out, ← Bool.or_assoc, HF0.out]; simp, hd2⟩
        case measure => simp [intOf]; omega
    · obtain rfl : j = n1 := by omega
      have hji : ¬ ((j : Int) < (j : Int)) := by omega
      obtain ⟨bt, hbt⟩ : ∃ z, (bad0 || (ps.take j).any mt) = z := ⟨_, rfl⟩
      have HBT := hid (show badF ⟨I, K, ps, ds⟩ x (st, sg) = bt by rw [HBF.out, ← hbt, List.take_of_length_le (Nat.le_of_eq hli.out)])
      rw [hbt]
      clear hbt
      have o0 := O2.out.k.cell_ (i := 0) (v := .int .i64 I') rfl
      have o1 := O2.out.k.cell_ (i := 1) (v := .int .i64 K') rfl
      have o2 := O2.out.k.cell_ (i := 2) (v := .slice A2 n2 c2) rfl
      have o3 := O2.out.k.cell_ (i := 3) (v := .slice B2 m2 d2) rfl
      have q0 := X2.out.k.cell_ (i := 0) (v := .int .i64 I) rfl
      have q1 := X2.out.k.cell_ (i := 1) (v := .int .i64 K) rfl
      have q2 := X2.out.k.cell_ (i := 2) (v := .slice A1 j c1) rfl
      have q3 := X2.out.k.cell_ (i := 3) (v := .slice B1 m1 d1) rfl
      have hk := HRF.out.1
      rw [HBT.out] at hk
      (try simp only at hk)
      cases ok
      · have hbt : bt = true := by cases bt; · cases hk
                                   · rfl
        subst hbt
        have hsame := HRF.out.2 rfl
        injection hsame with h1 h2 h3 h4
        subst h1 h2 h3 h4
        clear hk
        go_wp2_with fail
        refine (sameGroup_same O2.out.i O2.out.j X2.out.i X2.out.j (by omega) (by omega)).mono ?_
        rintro e w12 ⟨rfl, s12⟩
        go_wp2_with fail
        go_ret
        exact ⟨rfl, X2.out.s.trans s12⟩
      · have hbt : bt = false := by cases bt; · rfl
                                    · cases hk
        subst hbt
        clear hk
        go_wp2_with fail
        go_ret
        exact ⟨rfl, X2.out.s⟩
end Go.Proofs.Ytkhgemgmnchodaa
