/- FnFinalTwice returns true. -/
import Derived.Test.YtkhgemgmnchodaaLawFn
namespace Go.Proofs.Ytkhgemgmnchodaa
open Go.RowKit Go.Sort
set_option maxHeartbeats 1000000 in
theorem DrawStampLess_any (A : Option Addr) (n c : Nat) (bs : List Nat) (w : World) (h : RB w w.heap.size A n bs) (hn : n ≤ 1048576) (hnc : n ≤ c) (hc : c ≤ maxLen) :
    Calls Try.prog 19 #[.slice A n c] w fun e w' => ∃ t g t' g' : Int, e = .returned (.tuple #[.agg #[.int .i64 t, .int .i64 g], .agg #[.int .i64 t', .int .i64 g']]) ∧ St w w' := by
  have S0 := hid (((St.refl w).alloc (.cells #[.int .i64 0, .int .i64 0] 32)).alloc (.cells #[.int .i64 0, .int .i64 0] 32))
  have K0 := hid ((Blk.new w 32 #[.int .i64 0, .int .i64 0]).alloc (.cells #[.int .i64 0, .int .i64 0] 32))
  have Y0 := hid (blk_second w (.cells #[.int .i64 0, .int .i64 0] 32) 32 #[.int .i64 0, .int .i64 0])
  have h0 := (h.below S0.out).more S0.out.size
  have z0 := Y0.out.lt
  go_enter Try.func19, Try.ntmps19
  go_upto_region 1 with (fail)
  generalize (w.alloc (.cells #[.int .i64 0, .int .i64 0] 32)).alloc (.cells #[.int .i64 0, .int .i64 0] 32) = w0 at S0 K0 Y0 h0 z0 ⊢
  go_wp2_with fail
  refine (l6Open_any _ _ _ _ _ h0 hn hnc hc).mono ?_
  rintro e w1 ⟨rfl, hr1, b1⟩
  have z1 : w0.heap.size < w1.heap.size := hr1.lt
  have b1 : St w0 w1 := b1
  have S1 := hid (S0.out.trans b1)
  have K1 := hid (K0.out.below b1 K0.out.lt)
  have Y1 := hid (Y0.out.below b1 Y0.out.lt)
  clear b1 S0 K0 Y0 h0
  go_wp2_with fail
  refine (l91Stamp_any _ _ _ hr1 (by omega)).mono ?_
  rintro e w2 ⟨t, g, rfl, hr2, hg2⟩
  have sa := (St.refl w2).alloc (.cells #[.int .i64 t, .int .i64 g] 32)
  have K2 := hid ((K1.out.grown hg2 (by intro e; injection e with e; omega)).st sa)
  have Y2 := hid ((Y1.out.grown hg2 (by intro e; injection e with e; omega)).st sa)
  have S2 := hid ((S1.out.grown hg2 (fun k hk => by injection hk with hk; omega)).trans sa)
  have R2 := hid (hr2.below sa hr2.lt)
  have V2 := hid (Blk.new w2 32 #[.int .i64 t, .int .i64 g])
  have hRV : w0.heap.size < w2.heap.size := hr2.lt
  clear hr1 hr2 hg2 sa K1 Y1 S1 z1
  go_upto_region 3 with (fail)
  generalize w2.alloc (.cells _ 32) = w3 at *
  generalize w2.heap.size = V at *
  generalize w0.heap.size = R at *
  have v0 := V2.out.cell_ (i := 0) (v := .int .i64 t) rfl
  have v1 := V2.out.cell_ (i := 1) (v := .int .i64 g) rfl
  have hV1 : V ≠ w.heap.size := by omega
  have hV2 : V ≠ w.heap.size + 1 := by omega
  refine wp_region_held_drew (S := (fun w' => w'.cell? ⟨V, 0, none⟩ = some (.int .i64 t) ∧ w'.cell? ⟨V, 1, none⟩ = some (.int .i64 g))) (by kernel_rfl) ?_ (fun hH0 => ?_)
  · exact ⟨v0, v1⟩
  refine wpAnyH_take (i := 0) (oi := ⟨some 10, _, _, _, _, _⟩) (v := ?_) rfl (by kernel_rfl) (by kernel_rfl) (by kernel_rfl) (fun _ _ _ h => h) (Or.inl ⟨by rfl, ?_⟩) (by assumption) ?_
  rotate_left
  · (intro w hSw; (try dsimp only at hSw); go_simp; (try with_reducible rfl))
  (try simp only [Act.put, List.setIfInBounds_toArray, List.set_cons_zero, List.set_cons_succ])
  refine wpAnyH_take (i := 1) (oi := ⟨some 11, _, _, _, _, _⟩) (v := ?_) rfl (by kernel_rfl) (by kernel_rfl) (by kernel_rfl) (fun _ _ _ h => h) (Or.inl ⟨by rfl, ?_⟩) (by assumption) ?_
  rotate_left
  · (intro w hSw; (try dsimp only at hSw); go_simp; (try with_reducible rfl))
  (try simp only [Act.put, List.setIfInBounds_toArray, List.set_cons_zero, List.set_cons_succ])
  refine wpAnyH_ready (rs := [2]) (by kernel_rfl) (by simp) ?_
  refine AllReadyH.cons (o := ⟨some 12, _, _, _, _, _⟩) rfl (fun K hK => ?_) AllReadyH.nil
  go_simp
  (go_at_call 45; refine (l91Stamp_any _ _ _ (R2.out.below (Dr.st ⟨1, rfl⟩ : St w3 w3.drew) R2.out.lt) (by omega)).mono ?_; rintro e w4 ⟨t', g', rfl, hr4, hg4⟩; have d3 : St w3 w3.drew := Dr.st ⟨1, rfl⟩; have K4 := hid ((K2.out.st d3).grown hg4 (by intro e; injection e with e; omega)); have Y4 := hid ((Y2.out.st d3).grown hg4 (by intro e; injection e with e; omega)); have V4 := hid ((V2.out.st d3).grown hg4 (by intro e; injection e with e; omega)); have S4 := hid ((S2.out.trans d3).grown hg4 (fun k hk => by injection hk with hk; omega)); have v0 := V4.out.cell_ (i := 0) (v := .int .i64 t) rfl; have v1 := V4.out.cell_ (i := 1) (v := .int .i64 g) rfl; have k0 := K4.out.cell_ (i := 0) (v := .int .i64 0) rfl; have k1 := K4.out.cell_ (i := 1) (v := .int .i64 0) rfl; have kf0 := K4.out.frozen 0; have kf1 := K4.out.frozen 1; have y0 := Y4.out.cell_ (i := 0) (v := .int .i64 0) rfl; have y1 := Y4.out.cell_ (i := 1) (v := .int .i64 0) rfl; have yf0 := Y4.out.frozen 0; have yf1 := Y4.out.frozen 1; clear d3 hr4 hg4)
  (first | (refine hK.out _ _ ?_ (fun hH1 => ?_)) | (go_wp2_with fail; refine hK.out _ _ ?_ (fun hH1 => ?_)))
  · exact ⟨v0, v1⟩
  clear hK K hH0
  (try simp only [Act.put, List.setIfInBounds_toArray, List.set_cons_zero, List.set_cons_succ])
  refine wpAnyH_ready (rs := [3]) (by kernel_rfl) (by simp) ?_
  refine AllReadyH.cons (o := ⟨none, _, _, _, _, _⟩) rfl (fun K hK => ?_) AllReadyH.nil
  go_simp
  (first | (refine hK.out _ _ ?_ (fun hH2 => ?_)) | (go_wp2_with fail; refine hK.out _ _ ?_ (fun hH2 => ?_)))
  · exact ⟨cell_setSt v0 hV1, cell_setSt v1 hV1⟩
  clear hK K hH1
  (try simp only [Act.put, List.setIfInBounds_toArray, List.set_cons_zero, List.set_cons_succ])
  refine wpAnyH_ready (rs := [4]) (by kernel_rfl) (by simp) ?_
  refine AllReadyH.cons (o := ⟨none, _, _, _, _, _⟩) rfl (fun K hK => ?_) AllReadyH.nil
  go_simp
  (first | (refine hK.out _ _ ?_ (fun hH3 => ?_)) | (go_wp2_with fail; refine hK.out _ _ ?_ (fun hH3 => ?_)))
  · exact ⟨cell_setSt (cell_setSt v0 hV1) hV2, cell_setSt (cell_setSt v1 hV1) hV2⟩
  clear hK K hH2
  (try simp only [Act.put, List.setIfInBounds_toArray, List.set_cons_zero, List.set_cons_succ])
  refine wpAnyH_done (by kernel_rfl) ?_ _
  clear hH3
  have F1 := ((K4.out.set_ 0 (.int .i64 t)).set_ 1 (.int .i64 g)).putSt (H := w.heap.size + 1) (t := t') (g := g') (by omega)
  have F2 := ((Y4.out.putSt (H := w.heap.size) (t := t) (g := g) (by omega)).set_ 0 (.int .i64 t')).set_ 1 (.int .i64 g')
  have FS := (S4.out.putSt (t := t) (g := g) (Nat.le_refl _)).putSt (t := t') (g := g') (Nat.le_succ _)
  have r0 := F1.cell_ (i := 0) (v := .int .i64 t) rfl
  have r1 := F1.cell_ (i := 1) (v := .int .i64 g) rfl
  have u0 := F2.cell_ (i := 0) (v := .int .i64 t') rfl
  have u1 := F2.cell_ (i := 1) (v := .int .i64 g') rfl
  go_wp2_with fail
  refine bodyPost_ret (v := .tuple #[.agg #[.int .i64 t, .int .i64 g], .agg #[.int .i64 t', .int .i64 g']]) (by simp [results, Try.results19, go_sem, r0, r1, u0, u1]) rfl ⟨_, _, _, _, rfl, FS⟩
set_option maxRecDepth 100000 in
set_option maxHeartbeats 4000000 in
theorem walkFTwice (A : Option Addr) (n c : Nat) (bs : List Nat) {w : World} (h : RB w w.heap.size A n bs) (hnc : n ≤ c ∧ c ≤ maxLen) (A' : Option Addr) (n' c' : Nat) (bs' : List Nat) (h' : RB w w.heap.size A' n' bs') (hnc' : n' ≤ c' ∧ c' ≤ maxLen) :
    Calls Try.prog 6 #[.slice A n c, .slice A' n' c'] w fun e w' => e = .returned (.bool true) ∧ Below w.heap.size w w' := by
  obtain ⟨hnc, hcm⟩ := hnc
  have HCM := hid hcm
  have HNC' := hid hnc'
  have HB' := hid h'
  clear hcm hnc' h'
  by_cases hn : 1048576 < n
  · have hn : (1048576 : Int) < (n : Int) := by omega
    go_enter Try.func6, Try.ntmps6
    go_wp2_with fail
    go_ret
    exact ⟨rfl, Below.refl _ _⟩
  by_cases hn' : 1048576 < n'
  · have hn : ¬ (1048576 : Int) < (n : Int) := by omega
    have hn' : (1048576 : Int) < (n' : Int) := by omega
    go_enter Try.func6, Try.ntmps6
    go_wp2_with fail
    go_ret
    exact ⟨rfl, Below.refl _ _⟩
  have hni : ¬ (1048576 : Int) < (n : Int) := by omega
  have hni' : ¬ (1048576 : Int) < (n' : Int) := by omega
  have HN' := hid (show n' ≤ 1048576 by omega)
  go_enter Try.func6, Try.ntmps6
  go_wp2_with fail
  refine (DrawGroupFinal_any _ _ _ _ _ h (by omega) hnc HCM.out).mono ?_
  rintro e w1 ⟨I, K, A1, n1, c1, B1, m1, d1, ps, ds, x, st, sg, rfl, D⟩
  have hn1 := D.n
  have hm1 := D.m
  have sa := ((St.refl w1).alloc (.cells (grC I K A1 n1 c1 B1 m1 d1) 25)).alloc (.cells #[.int .i64 st, .int .i64 sg] 32)
  have X := hid (show LG w ((w1.alloc (.cells (grC I K A1 n1 c1 B1 m1 d1) 25)).alloc (.cells #[.int .i64 st, .int .i64 sg] 32)) w1.heap.size I K A1 n1 c1 B1 m1 d1 ps ds from ⟨(Blk.new w1 25 (grC I K A1 n1 c1 B1 m1 d1)).alloc _, D.i.st sa, D.j.st sa, D.s.trans sa⟩)
  have Y := hid (blk_second w1 (.cells (grC I K A1 n1 c1 B1 m1 d1) 25) 32 #[.int .i64 st, .int .i64 sg])
  clear sa
  clear D h hn hni hnc HCM hn' hni'
  go_upto_region 4 with (fail)
  generalize (w1.alloc (.cells _ 25)).alloc (.cells _ 32) = w2 at *
  generalize w1.heap.size = bx at *
  have q0 := X.out.k.cell_ (i := 0) (v := .int .i64 I) rfl
  have q1 := X.out.k.cell_ (i := 1) (v := .int .i64 K) rfl
  have q2 := X.out.k.cell_ (i := 2) (v := .slice A1 n1 c1) rfl
  have q3 := X.out.k.cell_ (i := 3) (v := .slice B1 m1 d1) rfl
  have y0 := Y.out.cell_ (i := 0) (v := .int .i64 st) rfl
  have y1 := Y.out.cell_ (i := 1) (v := .int .i64 sg) rfl
  go_wp2_with fail
  refine (GroupFinal_any _ _ _ _ _ _ _ _ _ _ x st sg _ X.out.i X.out.j (by omega) (by omega)).mono ?_
  rintro e w3 ⟨A2, n2, c2, B2, m2, d2, T2, u2, rfl, C2, O2, s3⟩
  obtain ⟨⟨⟨I', K', ps', ds'⟩, xs, ok⟩, hr⟩ : ∃ r, finM ⟨I, K, ps, ds⟩ x (st, sg) = r := ⟨_, rfl⟩
  have hpl := fin_len ⟨I, K, ps, ds⟩ x (st, sg)
  rw [hr] at C2 O2 hpl ⊢
  simp only at C2 O2 hpl ⊢
  rw [X.out.i.len, X.out.j.len, C2.oi.se.len, C2.oh.se.len] at hpl
  obtain ⟨hn2, hm2, hx2⟩ := hpl
  have HR := hid hr
  clear hr
  have O := hid (LG.new (I := I') (K := K') C2.oi.se C2.oh.se (X.out.s.trans s3))
  have sa := (St.refl w3).alloc (.cells (grC I' K' A2 n2 c2 B2 m2 d2) 25)
  have OL := hid (O2.sl.st sa)
  have ss := s3.trans sa
  replace X := hid (X.out.st ss)
  replace Y := hid (Y.out.st ss)
  replace q0 := ss.cell q0
  replace q1 := ss.cell q1
  replace q2 := ss.cell q2
  replace q3 := ss.cell q3
  replace y0 := ss.cell y0
  replace y1 := ss.cell y1
  clear s3 sa ss C2 O2
  go_upto_region 5 with (fail)
  generalize w3.alloc (.cells _ 25) = w4 at *
  generalize w3.heap.size = b1 at *
  go_wp2_with fail
  refine (specGroupFinal_any _ _ _ _ _ _ _ _ _ _ x st sg _ X.out.i X.out.j (by omega) (by omega)).mono ?_
  rintro e w5 ⟨A3, n3, c3, B3, m3, d3, T3, u3, rfl, C3, O3, s5⟩
  rw [HR.out] at C3 O3 ⊢
  simp only at C3 O3 ⊢
  have Q := hid (LG.new (I := I') (K := K') C3.oi.se C3.oh.se (X.out.s.trans s5))
  have sa := (St.refl w5).alloc (.cells (grC I' K' A3 n3 c3 B3 m3 d3) 25)
  have QL := hid (O3.sl.st sa)
  have ss := s5.trans sa
  replace X := hid (X.out.st ss)
  replace Y := hid (Y.out.st ss)
  replace O := hid (O.out.st ss)
  replace OL := hid (OL.out.st ss)
  replace q0 := ss.cell q0
  replace q1 := ss.cell q1
  replace q2 := ss.cell q2
  replace q3 := ss.cell q3
  replace y0 := ss.cell y0
  replace y1 := ss.cell y1
  clear s5 sa ss C3 O3
  go_upto_region 6 with (fail)
  generalize w5.alloc (.cells _ 25) = w6 at *
  generalize w5.heap.size = b2 at *
  have o0 := O.out.k.cell_ (i := 0) (v := .int .i64 I') rfl
  have o1 := O.out.k.cell_ (i := 1) (v := .int .i64 K') rfl
  have o2 := O.out.k.cell_ (i := 2) (v := .slice A2 n2 c2) rfl
  have o3 := O.out.k.cell_ (i := 3) (v := .slice B2 m2 d2) rfl
  have k0 := Q.out.k.cell_ (i := 0) (v := .int .i64 I') rfl
  have k1 := Q.out.k.cell_ (i := 1) (v := .int .i64 K') rfl
  have k2 := Q.out.k.cell_ (i := 2) (v := .slice A3 n3 c3) rfl
  have k3 := Q.out.k.cell_ (i := 3) (v := .slice B3 m3 d3) rfl
  cases ok
  · go_wp2_with fail
    refine (sameInts_same OL.out QL.out (by omega)).mono ?_
    rintro e w7a ⟨rfl, d7⟩
    have s7 := d7.st
    replace X := hid (X.out.st s7)
    replace Y := hid (Y.out.st s7)
    replace O := hid (O.out.st s7)
    replace Q := hid (Q.out.st s7)
    replace OL := hid (OL.out.st s7)
    replace QL := hid (QL.out.st s7)
    replace q0 := s7.cell q0
    replace q1 := s7.cell q1
    replace q2 := s7.cell q2
    replace q3 := s7.cell q3
    replace y0 := s7.cell y0
    replace y1 := s7.cell y1
    replace o0 := s7.cell o0
    replace o1 := s7.cell o1
    replace o2 := s7.cell o2
    replace o3 := s7.cell o3
    replace k0 := s7.cell k0
    replace k1 := s7.cell k1
    replace k2 := s7.cell k2
    replace k3 := s7.cell k3
    clear s7 d7
    go_wp2_with fail
    refine (sameGroup_same O.out.i O.out.j Q.out.i Q.out.j (by omega) (by omega)).mono ?_
    rintro e w7 ⟨rfl, s7⟩
    replace X := hid (X.out.st s7)
    replace Y := hid (Y.out.st s7)
    replace O := hid (O.out.st s7)
    replace Q := hid (Q.out.st s7)
    replace OL := hid (OL.out.st s7)
    replace QL := hid (QL.out.st s7)
    replace q0 := s7.cell q0
    replace q1 := s7.cell q1
    replace q2 := s7.cell q2
    replace q3 := s7.cell q3
    replace y0 := s7.cell y0
    replace y1 := s7.cell y1
    replace o0 := s7.cell o0
    replace o1 := s7.cell o1
    replace o2 := s7.cell o2
    replace o3 := s7.cell o3
    replace k0 := s7.cell k0
    replace k1 := s7.cell k1
    replace k2 := s7.cell k2
    replace k3 := s7.cell k3
    clear s7
    go_wp2_with fail
    refine (sameInts_same OL.out QL.out (by omega)).mono ?_
    rintro e w8a ⟨rfl, d7⟩
    have s7 := d7.st
    replace X := hid (X.out.st s7)
    replace Y := hid (Y.out.st s7)
    replace O := hid (O.out.st s7)
    replace Q := hid (Q.out.st s7)
    replace OL := hid (OL.out.st s7)
    replace QL := hid (QL.out.st s7)
    replace q0 := s7.cell q0
    replace q1 := s7.cell q1
    replace q2 := s7.cell q2
    replace q3 := s7.cell q3
    replace y0 := s7.cell y0
    replace y1 := s7.cell y1
    replace o0 := s7.cell o0
    replace o1 := s7.cell o1
    replace o2 := s7.cell o2
    replace o3 := s7.cell o3
    replace k0 := s7.cell k0
    replace k1 := s7.cell k1
    replace k2 := s7.cell k2
    replace k3 := s7.cell k3
    clear s7 d7
    go_wp2_with fail
    refine (sameGroup_same O.out.i O.out.j Q.out.i Q.out.j (by omega) (by omega)).mono ?_
    rintro e w8 ⟨rfl, s7⟩
    replace X := hid (X.out.st s7)
    replace Y := hid (Y.out.st s7)
    replace O := hid (O.out.st s7)
    replace Q := hid (Q.out.st s7)
    replace OL := hid (OL.out.st s7)
    replace QL := hid (QL.out.st s7)
    replace q0 := s7.cell q0
    replace q1 := s7.cell q1
    replace q2 := s7.cell q2
    replace q3 := s7.cell q3
    replace y0 := s7.cell y0
    replace y1 := s7.cell y1
    replace o0 := s7.cell o0
    replace o1 := s7.cell o1
    replace o2 := s7.cell o2
    replace o3 := s7.cell o3
    replace k0 := s7.cell k0
    replace k1 := s7.cell k1
    replace k2 := s7.cell k2
    replace k3 := s7.cell k3
    clear s7
    go_wp2_with fail
    go_ret
    exact ⟨rfl, X.out.s⟩
  have HY := hid (finM_yes HR.out)
  have V := hid HY.out.1
  go_wp2_with fail
  refine (sameInts_same OL.out QL.out (by omega)).mono ?_
  rintro e w7a ⟨rfl, d7⟩
  have s7 := d7.st
  replace X := hid (X.out.st s7)
  replace Y := hid (Y.out.st s7)
  replace O := hid (O.out.st s7)
  replace Q := hid (Q.out.st s7)
  replace OL := hid (OL.out.st s7)
  replace QL := hid (QL.out.st s7)
  replace q0 := s7.cell q0
  replace q1 := s7.cell q1
  replace q2 := s7.cell q2
  replace q3 := s7.cell q3
  replace y0 := s7.cell y0
  replace y1 := s7.cell y1
  replace o0 := s7.cell o0
  replace o1 := s7.cell o1
  replace o2 := s7.cell o2
  replace o3 := s7.cell o3
  replace k0 := s7.cell k0
  replace k1 := s7.cell k1
  replace k2 := s7.cell k2
  replace k3 := s7.cell k3
  clear s7 d7
  go_wp2_with fail
  refine (sameGroup_same O.out.i O.out.j Q.out.i Q.out.j (by omega) (by omega)).mono ?_
  rintro e w7 ⟨rfl, s7⟩
  replace X := hid (X.out.st s7)
  replace Y := hid (Y.out.st s7)
  replace O := hid (O.out.st s7)
  replace Q := hid (Q.out.st s7)
  replace OL := hid (OL.out.st s7)
  replace QL := hid (QL.out.st s7)
  replace q0 := s7.cell q0
  replace q1 := s7.cell q1
  replace q2 := s7.cell q2
  replace q3 := s7.cell q3
  replace y0 := s7.cell y0
  replace y1 := s7.cell y1
  replace o0 := s7.cell o0
  replace o1 := s7.cell o1
  replace o2 := s7.cell o2
  replace o3 := s7.cell o3
  replace k0 := s7.cell k0
  replace k1 := s7.cell k1
  replace k2 := s7.cell k2
  replace k3 := s7.cell k3
  clear s7
  clear k0 k1 k2 k3 Q QL
  have hb7 := (HB'.out.below X.out.s).more X.out.s.le
  go_wp2_with fail
  refine (DrawStampLess_any _ _ _ _ _ hb7 HN'.out HNC'.out.1 HNC'.out.2).mono ?_
  rintro e w8 ⟨zt, zg, vt, vg, rfl, s8⟩
  have hag := fin_again HR.out (zt, zg)
  have HAG := hid hag
  have sa := ((St.refl w8).alloc (.cells #[.int .i64 zt, .int .i64 zg] 32)).alloc (.cells #[.int .i64 vt, .int .i64 vg] 32)
  have Z := hid ((Blk.new w8 32 #[.int .i64 zt, .int .i64 zg]).alloc (.cells #[.int .i64 vt, .int .i64 vg] 32))
  have ss := s8.trans sa
  replace X := hid (X.out.st ss)
  replace Y := hid (Y.out.st ss)
  replace O := hid (O.out.st ss)
  replace q0 := ss.cell q0
  replace q1 := ss.cell q1
  replace q2 := ss.cell q2
  replace q3 := ss.cell q3
  replace y0 := ss.cell y0
  replace y1 := ss.cell y1
  replace o0 := ss.cell o0
  replace o1 := ss.cell o1
  replace o2 := ss.cell o2
  replace o3 := ss.cell o3
  clear s8 sa ss hb7 hag
  go_upto_region 9 with (fail)
  generalize (w8.alloc (.cells _ 32)).alloc (.cells _ 32) = w9 at *
  generalize w8.heap.size = b8 at *
  have z0 := Z.out.cell_ (i := 0) (v := .int .i64 zt) rfl
  have z1 := Z.out.cell_ (i := 1) (v := .int .i64 zg) rfl
  go_wp2_with fail
  refine (GroupFinal_any _ _ _ _ _ _ _ _ _ _ x zt zg _ O.out.i O.out.j (by omega) (by omega)).mono ?_
  rintro e w10 ⟨A4, n4, c4, B4, m4, d4, T4, u4, rfl, C4, O4, s10⟩
  rw [HAG.out] at C4 O4 ⊢
  simp only at C4 O4 ⊢
  clear O4
  cases hz : stOk (zt, zg)
  · rw [hz] at C4
    simp only [Bool.false_eq_true, if_false, g0] at C4 ⊢
    have P := hid (LG.new (I := 0) (K := 0) C4.oi.se C4.oh.se (X.out.s.trans s10))
    have sa := (St.refl w10).alloc (.cells (grC 0 0 A4 n4 c4 B4 m4 d4) 25)
    have ss := s10.trans sa
    replace X := hid (X.out.st ss)
    replace Z := hid (Z.out.st ss)
    replace z0 := ss.cell z0
    replace z1 := ss.cell z1
    clear s10 sa ss C4 o0 o1 o2 o3 q0 q1 q2 q3 y0 y1 O Y
    go_upto_region 10 with (fail)
    generalize w10.alloc (.cells _ 25) = w11 at *
    generalize w10.heap.size = b10 at *
    go_wp2_with fail
    refine (specStampValid_any _ _ _).mono ?_
    rintro e w12 ⟨rfl, s12⟩
    rw [hz]
    go_wp2_with fail
    go_ret
    exact ⟨rfl, X.out.s.trans s12⟩
  · rw [hz] at C4
    simp only [if_true] at C4 ⊢
    have P := hid (LG.new (I := I') (K := K') C4.oi.se C4.oh.se (X.out.s.trans s10))
    have hn4 : n4 ≤ n2 := Nat.le_of_eq (by rw [← C4.oi.se.len, O.out.i.len])
    have hm4 : m4 ≤ m2 := Nat.le_of_eq (by rw [← C4.oh.se.len, O.out.j.len])
    have sa := (St.refl w10).alloc (.cells (grC I' K' A4 n4 c4 B4 m4 d4) 25)
    have ss := s10.trans sa
    replace X := hid (X.out.st ss)
    replace O := hid (O.out.st ss)
    replace Z := hid (Z.out.st ss)
    replace o0 := ss.cell o0
    replace o1 := ss.cell o1
    replace o2 := ss.cell o2
    replace o3 := ss.cell o3
    replace z0 := ss.cell z0
    replace z1 := ss.cell z1
    clear s10 sa ss C4 q0 q1 q2 q3 y0 y1 Y
    go_upto_region 10 with (fail)
    generalize w10.alloc (.cells _ 25) = w11 at *
    generalize w10.heap.size = b10 at *
    have p0 := P.out.k.cell_ (i := 0) (v := .int .i64 I') rfl
    have p1 := P.out.k.cell_ (i := 1) (v := .int .i64 K') rfl
    have p2 := P.out.k.cell_ (i := 2) (v := .slice A4 n4 c4) rfl
    have p3 := P.out.k.cell_ (i := 3) (v := .slice B4 m4 d4) rfl
    go_wp2_with fail
    refine (specStampValid_any _ _ _).mono ?_
    rintro e w12 ⟨rfl, s12⟩
    rw [hz]
    replace X := hid (X.out.st s12)
    replace O := hid (O.out.st s12)
    replace P := hid (P.out.st s12)
    replace o0 := s12.cell o0
    replace o1 := s12.cell o1
    replace o2 := s12.cell o2
    replace o3 := s12.cell o3
    replace p0 := s12.cell p0
    replace p1 := s12.cell p1
    replace p2 := s12.cell p2
    replace p3 := s12.cell p3
    clear s12
    go_wp2_with fail
    refine (sameGroup_same P.out.i P.out.j O.out.i O.out.j (by omega) (by omega)).mono ?_
    rintro e w13 ⟨rfl, s13⟩
    go_wp2_with fail
    go_ret
    exact ⟨rfl, X.out.s.trans s13⟩
end Go.Proofs.Ytkhgemgmnchodaa
