/- FnProposeTwice returns true. -/
import Derived.Test.YtfepegellpegdaaLawPr
namespace Go.Proofs.Ytfepegellpegdaa
open Go.RowKit Go.Sort
set_option maxRecDepth 100000 in
set_option maxHeartbeats 2000000 in
theorem walkTwice (A : Option Addr) (n c : Nat) (bs : List Nat) {w : World} (h : RB w w.heap.size A n bs) (hnc : n ≤ c ∧ c ≤ maxLen) :
    Calls Try.prog 11 #[.slice A n c] w fun e w' => e = .returned (.bool true) ∧ Below w.heap.size w w' := by
  obtain ⟨hnc, hcm⟩ := hnc
  have HCM := hid hcm
  clear hcm
  by_cases hn : 1048576 < n
  · have hn : (1048576 : Int) < (n : Int) := by omega
    go_enter Try.func11, Try.ntmps11
    go_wp2_with fail
    go_ret
    exact ⟨rfl, Below.refl _ _⟩
  have hni : ¬ (1048576 : Int) < (n : Int) := by omega
  go_enter Try.func11, Try.ntmps11
  go_wp2_with fail
  refine (DrawGroupPropose_any _ _ _ _ _ h (by omega) hnc HCM.out).mono ?_
  rintro e w1 ⟨I, K, A1, n1, c1, B1, m1, d1, ps, ds, x, rfl, D⟩
  have hn1 := D.n
  have hm1 := D.m
  have X := hid (LG.new (I := I) (K := K) D.i D.j D.s)
  clear D h hn hni hnc HCM
  go_upto_region 4 with (fail)
  generalize w1.alloc (.cells (grC I K A1 n1 c1 B1 m1 d1) 25) = w2 at *
  generalize w1.heap.size = bx at *
  have q0 := X.out.k.cell_ (i := 0) (v := .int .i64 I) rfl
  have q1 := X.out.k.cell_ (i := 1) (v := .int .i64 K) rfl
  have q2 := X.out.k.cell_ (i := 2) (v := .slice A1 n1 c1) rfl
  have q3 := X.out.k.cell_ (i := 3) (v := .slice B1 m1 d1) rfl
  go_wp2_with fail
  refine (GroupPropose_any _ _ _ _ _ _ _ _ _ _ x _ X.out.i X.out.j (by omega) (by omega)).mono ?_
  rintro e w3 ⟨A2, n2, c2, B2, m2, d2, rfl, C2, s3⟩
  obtain ⟨⟨⟨I', K', ps', ds'⟩, ⟨t', g'⟩, ok⟩, hr⟩ : ∃ r, propM ⟨I, K, ps, ds⟩ x = r := ⟨_, rfl⟩
  have hpl := prop_len ⟨I, K, ps, ds⟩ x
  rw [hr] at C2 hpl ⊢
  simp only at C2 hpl ⊢
  rw [X.out.i.len, X.out.j.len, C2.oi.se.len, C2.oh.se.len] at hpl
  obtain ⟨hn2, hm2⟩ := hpl
  have HR := hid hr
  clear hr
  have O := hid (PO.new (t := t') (g := g') C2)
  have sa := ((St.refl w3).alloc (.cells (grC I' K' A2 n2 c2 B2 m2 d2) 25)).alloc (.cells #[.int .i64 t', .int .i64 g'] 29)
  have ss := s3.trans sa
  replace X := hid (X.out.st ss)
  replace q0 := ss.cell q0
  replace q1 := ss.cell q1
  replace q2 := ss.cell q2
  replace q3 := ss.cell q3
  clear s3 sa ss C2
  go_upto_region 5 with (fail)
  generalize (w3.alloc (.cells _ 25)).alloc (.cells _ 29) = w4 at *
  generalize w3.heap.size = b1 at *
  go_wp2_with fail
  refine (specGroupPropose_any _ _ _ _ _ _ _ _ _ _ x _ X.out.i X.out.j (by omega) (by omega)).mono ?_
  rintro e w5 ⟨A3, n3, c3, B3, m3, d3, rfl, C3, s5⟩
  rw [HR.out] at C3 ⊢
  simp only at C3 ⊢
  have Q := hid (PO.new (t := t') (g := g') C3)
  have sa := ((St.refl w5).alloc (.cells (grC I' K' A3 n3 c3 B3 m3 d3) 25)).alloc (.cells #[.int .i64 t', .int .i64 g'] 29)
  have ss := s5.trans sa
  replace X := hid (X.out.st ss)
  replace O := hid (O.out.st ss)
  replace q0 := ss.cell q0
  replace q1 := ss.cell q1
  replace q2 := ss.cell q2
  replace q3 := ss.cell q3
  clear s5 sa ss C3
  go_upto_region 6 with (fail)
  generalize (w5.alloc (.cells _ 25)).alloc (.cells _ 29) = w6 at *
  generalize w5.heap.size = b2 at *
  have o0 := O.out.k.cell_ (i := 0) (v := .int .i64 I') rfl
  have o1 := O.out.k.cell_ (i := 1) (v := .int .i64 K') rfl
  have o2 := O.out.k.cell_ (i := 2) (v := .slice A2 n2 c2) rfl
  have o3 := O.out.k.cell_ (i := 3) (v := .slice B2 m2 d2) rfl
  have t0 := O.out.s.cell_ (i := 0) (v := .int .i64 t') rfl
  have t1 := O.out.s.cell_ (i := 1) (v := .int .i64 g') rfl
  have k0 := Q.out.k.cell_ (i := 0) (v := .int .i64 I') rfl
  have k1 := Q.out.k.cell_ (i := 1) (v := .int .i64 K') rfl
  have k2 := Q.out.k.cell_ (i := 2) (v := .slice A3 n3 c3) rfl
  have k3 := Q.out.k.cell_ (i := 3) (v := .slice B3 m3 d3) rfl
  have r0 := Q.out.s.cell_ (i := 0) (v := .int .i64 t') rfl
  have r1 := Q.out.s.cell_ (i := 1) (v := .int .i64 g') rfl
  cases ok
  · go_wp2_with fail
    refine (sameGroup_same O.out.i O.out.j Q.out.i Q.out.j (by omega) (by omega)).mono ?_
    rintro e w7 ⟨rfl, s7⟩
    replace X := hid (X.out.st s7)
    replace O := hid (O.out.st s7)
    replace Q := hid (Q.out.st s7)
    replace q0 := s7.cell q0
    replace q1 := s7.cell q1
    replace q2 := s7.cell q2
    replace q3 := s7.cell q3
    replace o0 := s7.cell o0
    replace o1 := s7.cell o1
    replace o2 := s7.cell o2
    replace o3 := s7.cell o3
    replace t0 := s7.cell t0
    replace t1 := s7.cell t1
    replace k0 := s7.cell k0
    replace k1 := s7.cell k1
    replace k2 := s7.cell k2
    replace k3 := s7.cell k3
    replace r0 := s7.cell r0
    replace r1 := s7.cell r1
    clear s7
    go_wp2_with fail
    refine (sameGroup_same O.out.i O.out.j Q.out.i Q.out.j (by omega) (by omega)).mono ?_
    rintro e w8 ⟨rfl, s8⟩
    replace X := hid (X.out.st s8)
    replace O := hid (O.out.st s8)
    replace Q := hid (Q.out.st s8)
    replace q0 := s8.cell q0
    replace q1 := s8.cell q1
    replace q2 := s8.cell q2
    replace q3 := s8.cell q3
    replace o0 := s8.cell o0
    replace o1 := s8.cell o1
    replace o2 := s8.cell o2
    replace o3 := s8.cell o3
    replace t0 := s8.cell t0
    replace t1 := s8.cell t1
    replace k0 := s8.cell k0
    replace k1 := s8.cell k1
    replace k2 := s8.cell k2
    replace k3 := s8.cell k3
    replace r0 := s8.cell r0
    replace r1 := s8.cell r1
    clear s8
    go_wp2_with fail
    go_ret
    exact ⟨rfl, X.out.s⟩
  have V := hid (propM_valid HR.out).1
  go_wp2_with fail
  refine (sameGroup_same O.out.i O.out.j Q.out.i Q.out.j (by omega) (by omega)).mono ?_
  rintro e w7 ⟨rfl, s7⟩
  replace X := hid (X.out.st s7)
  replace O := hid (O.out.st s7)
  replace Q := hid (Q.out.st s7)
  replace q0 := s7.cell q0
  replace q1 := s7.cell q1
  replace q2 := s7.cell q2
  replace q3 := s7.cell q3
  replace o0 := s7.cell o0
  replace o1 := s7.cell o1
  replace o2 := s7.cell o2
  replace o3 := s7.cell o3
  replace t0 := s7.cell t0
  replace t1 := s7.cell t1
  replace k0 := s7.cell k0
  replace k1 := s7.cell k1
  replace k2 := s7.cell k2
  replace k3 := s7.cell k3
  replace r0 := s7.cell r0
  replace r1 := s7.cell r1
  clear s7
  have hT := prop_twice HR.out
  go_wp2_with fail
  refine (GroupPropose_any _ _ _ _ _ _ _ _ _ _ x _ O.out.i O.out.j (by omega) (by omega)).mono ?_
  rintro e w9 ⟨A4, n4, c4, B4, m4, d4, rfl, C4, s9⟩
  rw [hT] at C4 ⊢
  simp only at C4 ⊢
  have Z := hid (PO.new (t := t') (g := g') C4)
  have hn4 : n4 ≤ n2 := Nat.le_of_eq (by rw [← C4.oi.se.len, O.out.i.len])
  have hm4 : m4 ≤ m2 := Nat.le_of_eq (by rw [← C4.oh.se.len, O.out.j.len])
  have sa := ((St.refl w9).alloc (.cells (grC I' K' A4 n4 c4 B4 m4 d4) 25)).alloc (.cells #[.int .i64 t', .int .i64 g'] 29)
  have ss := s9.trans sa
  replace X := hid (X.out.st ss)
  replace O := hid (O.out.st ss)
  replace q0 := ss.cell q0
  replace q1 := ss.cell q1
  replace q2 := ss.cell q2
  replace q3 := ss.cell q3
  replace o0 := ss.cell o0
  replace o1 := ss.cell o1
  replace o2 := ss.cell o2
  replace o3 := ss.cell o3
  replace t0 := ss.cell t0
  replace t1 := ss.cell t1
  clear s9 sa ss C4 k0 k1 k2 k3 r0 r1 Q
  go_upto_region 9 with (fail)
  generalize (w9.alloc (.cells _ 25)).alloc (.cells _ 29) = w10 at *
  generalize w9.heap.size = b4 at *
  have k0 := Z.out.k.cell_ (i := 0) (v := .int .i64 I') rfl
  have k1 := Z.out.k.cell_ (i := 1) (v := .int .i64 K') rfl
  have k2 := Z.out.k.cell_ (i := 2) (v := .slice A4 n4 c4) rfl
  have k3 := Z.out.k.cell_ (i := 3) (v := .slice B4 m4 d4) rfl
  have r0 := Z.out.s.cell_ (i := 0) (v := .int .i64 t') rfl
  have r1 := Z.out.s.cell_ (i := 1) (v := .int .i64 g') rfl
  go_wp2_with fail
  refine (sameGroup_same Z.out.i Z.out.j O.out.i O.out.j (by omega) (by omega)).mono ?_
  rintro e w11 ⟨rfl, s11⟩
  go_wp2_with fail
  go_ret
  exact ⟨rfl, X.out.s.trans s11⟩
end Go.Proofs.Ytfepegellpegdaa
