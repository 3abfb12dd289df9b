/- FnFinalTold returns true. -/
import Derived.Test.YtkhgemgmnchodaaLawFn
import Derived.Test.YtkhgemgmnchodaaAppAt
namespace Go.Proofs.Ytkhgemgmnchodaa
open Go.RowKit Go.Sort
theorem oneI {xs : List Int} : ∀ u ∈ xs.map (Value.int .i64), u.oneCell' = true := fun u hu => by obtain ⟨x, _, rfl⟩ := List.mem_map.1 hu; rfl
theorem GroupTrace_v {I K : Int} {A B : Option Addr} {n c m d : Nat} {ps ds : List Ent} {w : World} (hv : grOk ⟨I, K, ps, ds⟩ = true) (h : SE w A n c ps) (h' : SE w B m d ds) (hn : n ≤ 1048576) (hm : m ≤ 1048576) :
    Calls Try.prog 21 #[grV I K A n c B m d] w (MadeI w (msgs ds)) := by
  have := GroupTrace_any I K A B n c m d ps ds w h h' hn hm
  unfold traceG at this
  rw [hv, if_pos rfl] at this
  exact this
set_option maxRecDepth 100000 in
set_option maxHeartbeats 4000000 in
theorem walkTold (A : Option Addr) (n c : Nat) (bs : List Nat) {w : World} (h : RB w w.heap.size A n bs) (hnc : n ≤ c ∧ c ≤ maxLen) :
    Calls Try.prog 7 #[.slice A n c] w fun e w' => e = .returned (.bool true) ∧ Below w.heap.size w w' := by
  obtain ⟨hnc, hcm⟩ := hnc
  have HCM := hid hcm
  clear hcm
  by_cases hn : 1048576 < n
  · have hn : (1048576 : Int) < (n : Int) := by omega
    go_enter Try.func7, Try.ntmps7
    go_wp2_with fail
    go_ret
    exact ⟨rfl, Below.refl _ _⟩
  have hni : ¬ (1048576 : Int) < (n : Int) := by omega
  go_enter Try.func7, Try.ntmps7
  go_wp2_with fail
  refine (DrawGroupFinal_any _ _ _ _ _ h (by omega) hnc HCM.out).mono ?_
  rintro e w1 ⟨I, K, A1, n1, c1, B1, m1, d1, ps, ds, x, st, sg, rfl, D⟩
  have hn1 := D.n
  have hm1 := D.m
  have sa := ((St.refl w1).alloc (.cells (grC I K A1 n1 c1 B1 m1 d1) 25)).alloc (.cells #[.int .i64 st, .int .i64 sg] 32)
  have X := hid (show LG w ((w1.alloc (.cells (grC I K A1 n1 c1 B1 m1 d1) 25)).alloc (.cells #[.int .i64 st, .int .i64 sg] 32)) w1.heap.size I K A1 n1 c1 B1 m1 d1 ps ds from ⟨(Blk.new w1 25 (grC I K A1 n1 c1 B1 m1 d1)).alloc _, D.i.st sa, D.j.st sa, D.s.trans sa⟩)
  have Y := hid (blk_second w1 (.cells (grC I K A1 n1 c1 B1 m1 d1) 25) 32 #[.int .i64 st, .int .i64 sg])
  clear sa
  clear D h hn hni hnc HCM
  go_upto_region 4 with (fail)
  generalize (w1.alloc (.cells _ 25)).alloc (.cells _ 32) = w2 at *
  generalize w1.heap.size = bx at *
  have q0 := X.out.k.cell_ (i := 0) (v := .int .i64 I) rfl
  have q1 := X.out.k.cell_ (i := 1) (v := .int .i64 K) rfl
  have q2 := X.out.k.cell_ (i := 2) (v := .slice A1 n1 c1) rfl
  have q3 := X.out.k.cell_ (i := 3) (v := .slice B1 m1 d1) rfl
  have y0 := Y.out.cell_ (i := 0) (v := .int .i64 st) rfl
  have y1 := Y.out.cell_ (i := 1) (v := .int .i64 sg) rfl
  go_wp2_with fail
  refine (GroupFinal_any _ _ _ _ _ _ _ _ _ _ x st sg _ X.out.i X.out.j (by omega) (by omega)).mono ?_
  rintro e w3 ⟨A2, n2, c2, B2, m2, d2, T2, u2, rfl, C2, O2, s3⟩
  obtain ⟨⟨⟨I', K', ps', ds'⟩, xs, ok⟩, hr⟩ : ∃ r, finM ⟨I, K, ps, ds⟩ x (st, sg) = r := ⟨_, rfl⟩
  have hpl := fin_len ⟨I, K, ps, ds⟩ x (st, sg)
  rw [hr] at C2 O2 hpl ⊢
  simp only at C2 O2 hpl ⊢
  rw [X.out.i.len, X.out.j.len, C2.oi.se.len, C2.oh.se.len] at hpl
  obtain ⟨hn2, hm2, hx2⟩ := hpl
  have HR := hid hr
  clear hr
  have O := hid (LG.new (I := I') (K := K') C2.oi.se C2.oh.se (X.out.s.trans s3))
  have sa := (St.refl w3).alloc (.cells (grC I' K' A2 n2 c2 B2 m2 d2) 25)
  have OL := hid (O2.sl.st sa)
  have ss := s3.trans sa
  replace X := hid (X.out.st ss)
  replace Y := hid (Y.out.st ss)
  replace q0 := ss.cell q0
  replace q1 := ss.cell q1
  replace q2 := ss.cell q2
  replace q3 := ss.cell q3
  replace y0 := ss.cell y0
  replace y1 := ss.cell y1
  clear s3 sa ss C2 O2
  go_upto_region 5 with (fail)
  generalize w3.alloc (.cells _ 25) = w4 at *
  generalize w3.heap.size = b1 at *
  go_wp2_with fail
  refine (specGroupFinal_any _ _ _ _ _ _ _ _ _ _ x st sg _ X.out.i X.out.j (by omega) (by omega)).mono ?_
  rintro e w5 ⟨A3, n3, c3, B3, m3, d3, T3, u3, rfl, C3, O3, s5⟩
  rw [HR.out] at C3 O3 ⊢
  simp only at C3 O3 ⊢
  have Q := hid (LG.new (I := I') (K := K') C3.oi.se C3.oh.se (X.out.s.trans s5))
  have sa := (St.refl w5).alloc (.cells (grC I' K' A3 n3 c3 B3 m3 d3) 25)
  have QL := hid (O3.sl.st sa)
  have ss := s5.trans sa
  replace X := hid (X.out.st ss)
  replace Y := hid (Y.out.st ss)
  replace O := hid (O.out.st ss)
  replace OL := hid (OL.out.st ss)
  replace q0 := ss.cell q0
  replace q1 := ss.cell q1
  replace q2 := ss.cell q2
  replace q3 := ss.cell q3
  replace y0 := ss.cell y0
  replace y1 := ss.cell y1
  clear s5 sa ss C3 O3
  go_upto_region 6 with (fail)
  generalize w5.alloc (.cells _ 25) = w6 at *
  generalize w5.heap.size = b2 at *
  have o0 := O.out.k.cell_ (i := 0) (v := .int .i64 I') rfl
  have o1 := O.out.k.cell_ (i := 1) (v := .int .i64 K') rfl
  have o2 := O.out.k.cell_ (i := 2) (v := .slice A2 n2 c2) rfl
  have o3 := O.out.k.cell_ (i := 3) (v := .slice B2 m2 d2) rfl
  have k0 := Q.out.k.cell_ (i := 0) (v := .int .i64 I') rfl
  have k1 := Q.out.k.cell_ (i := 1) (v := .int .i64 K') rfl
  have k2 := Q.out.k.cell_ (i := 2) (v := .slice A3 n3 c3) rfl
  have k3 := Q.out.k.cell_ (i := 3) (v := .slice B3 m3 d3) rfl
  cases ok
  · go_wp2_with fail
    refine (sameInts_same OL.out QL.out (by omega)).mono ?_
    rintro e w7a ⟨rfl, d7⟩
    have s7 := d7.st
    replace X := hid (X.out.st s7)
    replace Y := hid (Y.out.st s7)
    replace O := hid (O.out.st s7)
    replace Q := hid (Q.out.st s7)
    replace OL := hid (OL.out.st s7)
    replace QL := hid (QL.out.st s7)
    replace q0 := s7.cell q0
    replace q1 := s7.cell q1
    replace q2 := s7.cell q2
    replace q3 := s7.cell q3
    replace y0 := s7.cell y0
    replace y1 := s7.cell y1
    replace o0 := s7.cell o0
    replace o1 := s7.cell o1
    replace o2 := s7.cell o2
    replace o3 := s7.cell o3
    replace k0 := s7.cell k0
    replace k1 := s7.cell k1
    replace k2 := s7.cell k2
    replace k3 := s7.cell k3
    clear s7 d7
    go_wp2_with fail
    refine (sameGroup_same O.out.i O.out.j Q.out.i Q.out.j (by omega) (by omega)).mono ?_
    rintro e w7 ⟨rfl, s7⟩
    replace X := hid (X.out.st s7)
    replace Y := hid (Y.out.st s7)
    replace O := hid (O.out.st s7)
    replace Q := hid (Q.out.st s7)
    replace OL := hid (OL.out.st s7)
    replace QL := hid (QL.out.st s7)
    replace q0 := s7.cell q0
    replace q1 := s7.cell q1
    replace q2 := s7.cell q2
    replace q3 := s7.cell q3
    replace y0 := s7.cell y0
    replace y1 := s7.cell y1
    replace o0 := s7.cell o0
    replace o1 := s7.cell o1
    replace o2 := s7.cell o2
    replace o3 := s7.cell o3
    replace k0 := s7.cell k0
    replace k1 := s7.cell k1
    replace k2 := s7.cell k2
    replace k3 := s7.cell k3
    clear s7
    go_wp2_with fail
    refine (sameInts_same OL.out QL.out (by omega)).mono ?_
    rintro e w8a ⟨rfl, d7⟩
    have s7 := d7.st
    replace X := hid (X.out.st s7)
    replace Y := hid (Y.out.st s7)
    replace O := hid (O.out.st s7)
    replace Q := hid (Q.out.st s7)
    replace OL := hid (OL.out.st s7)
    replace QL := hid (QL.out.st s7)
    replace q0 := s7.cell q0
    replace q1 := s7.cell q1
    replace q2 := s7.cell q2
    replace q3 := s7.cell q3
    replace y0 := s7.cell y0
    replace y1 := s7.cell y1
    replace o0 := s7.cell o0
    replace o1 := s7.cell o1
    replace o2 := s7.cell o2
    replace o3 := s7.cell o3
    replace k0 := s7.cell k0
    replace k1 := s7.cell k1
    replace k2 := s7.cell k2
    replace k3 := s7.cell k3
    clear s7 d7
    go_wp2_with fail
    refine (sameGroup_same O.out.i O.out.j Q.out.i Q.out.j (by omega) (by omega)).mono ?_
    rintro e w8 ⟨rfl, s7⟩
    replace X := hid (X.out.st s7)
    replace Y := hid (Y.out.st s7)
    replace O := hid (O.out.st s7)
    replace Q := hid (Q.out.st s7)
    replace OL := hid (OL.out.st s7)
    replace QL := hid (QL.out.st s7)
    replace q0 := s7.cell q0
    replace q1 := s7.cell q1
    replace q2 := s7.cell q2
    replace q3 := s7.cell q3
    replace y0 := s7.cell y0
    replace y1 := s7.cell y1
    replace o0 := s7.cell o0
    replace o1 := s7.cell o1
    replace o2 := s7.cell o2
    replace o3 := s7.cell o3
    replace k0 := s7.cell k0
    replace k1 := s7.cell k1
    replace k2 := s7.cell k2
    replace k3 := s7.cell k3
    clear s7
    go_wp2_with fail
    go_ret
    exact ⟨rfl, X.out.s⟩
  have HY := hid (finM_yes HR.out)
  have V := hid HY.out.1
  go_wp2_with fail
  refine (sameInts_same OL.out QL.out (by omega)).mono ?_
  rintro e w7a ⟨rfl, d7⟩
  have s7 := d7.st
  replace X := hid (X.out.st s7)
  replace Y := hid (Y.out.st s7)
  replace O := hid (O.out.st s7)
  replace Q := hid (Q.out.st s7)
  replace OL := hid (OL.out.st s7)
  replace QL := hid (QL.out.st s7)
  replace q0 := s7.cell q0
  replace q1 := s7.cell q1
  replace q2 := s7.cell q2
  replace q3 := s7.cell q3
  replace y0 := s7.cell y0
  replace y1 := s7.cell y1
  replace o0 := s7.cell o0
  replace o1 := s7.cell o1
  replace o2 := s7.cell o2
  replace o3 := s7.cell o3
  replace k0 := s7.cell k0
  replace k1 := s7.cell k1
  replace k2 := s7.cell k2
  replace k3 := s7.cell k3
  clear s7 d7
  go_wp2_with fail
  refine (sameGroup_same O.out.i O.out.j Q.out.i Q.out.j (by omega) (by omega)).mono ?_
  rintro e w7 ⟨rfl, s7⟩
  replace X := hid (X.out.st s7)
  replace Y := hid (Y.out.st s7)
  replace O := hid (O.out.st s7)
  replace Q := hid (Q.out.st s7)
  replace OL := hid (OL.out.st s7)
  replace QL := hid (QL.out.st s7)
  replace q0 := s7.cell q0
  replace q1 := s7.cell q1
  replace q2 := s7.cell q2
  replace q3 := s7.cell q3
  replace y0 := s7.cell y0
  replace y1 := s7.cell y1
  replace o0 := s7.cell o0
  replace o1 := s7.cell o1
  replace o2 := s7.cell o2
  replace o3 := s7.cell o3
  replace k0 := s7.cell k0
  replace k1 := s7.cell k1
  replace k2 := s7.cell k2
  replace k3 := s7.cell k3
  clear s7
  have htl := fin_told HR.out
  simp only at htl
  have HT := hid htl
  have HVO := hid (grOk_iff.2 (fin_kept HR.out).2.2.2)
  have HVG := hid (grOk_iff.2 V.out)
  have HLO := hid (show (msgs ds').length ≤ 1048576 by have := O.out.j.len; simp [msgs]; omega)
  have HLG := hid (show (msgs ds).length ≤ 1048576 by have := X.out.j.len; simp [msgs]; omega)
  have hlo := HLO.out
  have hlg := HLG.out
  clear htl k0 k1 k2 k3 Q QL y0 y1 HY
  go_upto_region 8 with (fail)
  have S0 := hid (Dr.st ⟨1, rfl⟩ : St w7 w7.drew)
  have sB0 := hid (((St.refl w7).alloc (.cells #[] 3)).drew)
  have HO0 := hid ((OI.lit (w := w7) (e := 3)).dr (w' := (w7.alloc (.cells #[] 3)).drew) ⟨1, rfl⟩)
  refine wp_region_held_drew (S := (fun w' => w'.cell? ⟨b1, 0, none⟩ = some (.int .i64 I') ∧ w'.cell? ⟨b1, 1, none⟩ = some (.int .i64 K') ∧ w'.cell? ⟨b1, 2, none⟩ = some (.slice A2 n2 c2) ∧ w'.cell? ⟨b1, 3, none⟩ = some (.slice B2 m2 d2) ∧ w'.cell? ⟨bx, 0, none⟩ = some (.int .i64 I) ∧ w'.cell? ⟨bx, 1, none⟩ = some (.int .i64 K) ∧ w'.cell? ⟨bx, 2, none⟩ = some (.slice A1 n1 c1) ∧ w'.cell? ⟨bx, 3, none⟩ = some (.slice B1 m1 d1))) (by kernel_rfl) ?_ (fun hH0 => ?_)
  · exact ⟨o0, o1, o2, o3, q0, q1, q2, q3⟩
  refine wpAnyH_take (i := 0) (oi := ⟨some 69, _, _, _, _, _⟩) (v := ?_) rfl (by kernel_rfl) (by kernel_rfl) (by kernel_rfl) (fun _ _ _ h => h) (Or.inl ⟨by rfl, ?_⟩) (by assumption) ?_
  rotate_left
  · (intro w hSw; (try dsimp only at hSw); go_simp; (try with_reducible rfl))
  (try simp only [Act.put, List.setIfInBounds_toArray, List.set_cons_zero, List.set_cons_succ])
  refine wpAnyH_take (i := 3) (oi := ⟨some 72, _, _, _, _, _⟩) (v := ?_) rfl (by kernel_rfl) (by kernel_rfl) (by kernel_rfl) (fun _ _ _ h => h) (Or.inl ⟨by rfl, ?_⟩) (by assumption) ?_
  rotate_left
  · (intro w hSw; (try dsimp only at hSw); go_simp; (try with_reducible rfl))
  (try simp only [Act.put, List.setIfInBounds_toArray, List.set_cons_zero, List.set_cons_succ])
  refine wpAnyH_take (i := 6) (oi := ⟨some 75, _, _, _, _, _⟩) (v := ?_) rfl (by kernel_rfl) (by kernel_rfl) (by kernel_rfl) (fun _ _ _ h => h) (Or.inl ⟨by rfl, ?_⟩) (by assumption) ?_
  rotate_left
  · (intro w hSw; (try dsimp only at hSw); go_simp; (try with_reducible rfl))
  (try simp only [Act.put, List.setIfInBounds_toArray, List.set_cons_zero, List.set_cons_succ])
  refine wpAnyH_ready (rs := [1, 2]) (by kernel_rfl) (by simp) ?_
  refine AllReadyH.cons (o := ⟨some 70, _, _, _, _, _⟩) rfl (fun K hK => ?_) ?_
  · skip
    go_simp
    (go_at_call 21; (with_reducible refine (GroupTrace_v HVO.out (O.out.i.st S0.out) (O.out.j.st S0.out) (by omega) (by omega)).mono ?_); rintro e wa ⟨Ta, ua, rfl, oa, sa⟩; have Sa := hid (S0.out.trans sa); have OA := hid oa; (try have NE := hid (fun k (hk : blockOf Ta = some k) (hX : blockOf (some _) = some k) => Nat.lt_irrefl _ (Nat.lt_of_lt_of_le (HO.out.lt k hX).2 (oa.lt k hk).1))); (try have HO := hid (OI.st HO.out sa)); clear oa sa)
    (first | (refine hK.out _ _ ?_ (fun hH1 => ?_)) | (go_wp2_with fail; refine hK.out _ _ ?_ (fun hH1 => ?_)))
    · exact ⟨Sa.out.cell o0, Sa.out.cell o1, Sa.out.cell o2, Sa.out.cell o3, Sa.out.cell q0, Sa.out.cell q1, Sa.out.cell q2, Sa.out.cell q3⟩
    clear hK K hH0
    (try simp only [Act.put, List.setIfInBounds_toArray, List.set_cons_zero, List.set_cons_succ])
    refine wpAnyH_ready (rs := [2, 4]) (by kernel_rfl) (by simp) ?_
    refine AllReadyH.cons (o := ⟨some 71, _, _, _, _, _⟩) rfl (fun K hK => ?_) ?_
    · skip
      (go_simp; have sl := (St.refl wa).alloc (.cells #[] 3); have HO := hid (OI.less (OI.lit (w := wa) (e := 3)) Sa.out.le); have NE := hid (fun k (hk : blockOf Ta = some k) (hX : blockOf (some _) = some k) => Nat.lt_irrefl _ (Nat.lt_of_lt_of_le (OA.out.lt k hk).2 ((OI.lit (w := wa) (e := 3)).lt k hX).1)); have Sa := hid (Sa.out.trans sl); have OA := hid (OI.st OA.out sl); clear sl)
      (first | (refine hK.out _ _ ?_ (fun hH2 => ?_)) | (go_wp2_with fail; refine hK.out _ _ ?_ (fun hH2 => ?_)))
      · exact ⟨Sa.out.cell o0, Sa.out.cell o1, Sa.out.cell o2, Sa.out.cell o3, Sa.out.cell q0, Sa.out.cell q1, Sa.out.cell q2, Sa.out.cell q3⟩
      clear hK K hH1
      (try simp only [Act.put, List.setIfInBounds_toArray, List.set_cons_zero, List.set_cons_succ])
      refine wpAnyH_ready (rs := [4]) (by kernel_rfl) (by simp) ?_
      refine AllReadyH.cons (o := ⟨some 73, _, _, _, _, _⟩) rfl (fun K hK => ?_) AllReadyH.nil
      go_simp
      (go_at_call 21; (with_reducible refine (GroupTrace_v HVG.out (X.out.i.st Sa.out) (X.out.j.st Sa.out) (by omega) (by omega)).mono ?_); rintro e wb ⟨Tb, ub, rfl, ob, sb⟩; have Sb := hid (Sa.out.trans sb); have OA := hid (OI.st OA.out sb); have OB := hid ob.sl; (try have HO := hid (OI.st HO.out sb)); clear ob sb)
      (first | (refine hK.out _ _ ?_ (fun hH3 => ?_)) | (go_wp2_with fail; refine hK.out _ _ ?_ (fun hH3 => ?_)))
      · exact ⟨Sb.out.cell o0, Sb.out.cell o1, Sb.out.cell o2, Sb.out.cell o3, Sb.out.cell q0, Sb.out.cell q1, Sb.out.cell q2, Sb.out.cell q3⟩
      clear hK K hH2
      (try simp only [Act.put, List.setIfInBounds_toArray, List.set_cons_zero, List.set_cons_succ])
      refine wpAnyH_ready (rs := [5]) (by kernel_rfl) (by simp) ?_
      refine AllReadyH.cons (o := ⟨some 74, _, _, _, _, _⟩) rfl (fun K hK => ?_) AllReadyH.nil
      (refine step_append_rows_at _ (by rfl) (.tmp 71) (.tmp 73) 28 (by rfl) w7.heap.size 3 1 8 (.int .i64 0) Try.underlying28 intInfo rfl (by omega) _ 0 0 [] (by rfl) (show World.ownsRow _ w7.heap.size 3 1 (.slice _ 0 0) 0 [] from HO.out) _ Tb (msgs ds).length ub ((msgs ds).map (Value.int .i64)) (by rfl) OB.out.ri oneI (by omega) (by omega) Sb.out.le ?_; intro X1 a1 wc ho1 hg1 hat; simp only [Nat.zero_add, List.nil_append] at ho1 ⊢; have Sc := hid (Sb.out.grown hg1 (fun k hk => (HO.out.lt k hk).1)); have OA2 := hid (OI.grown OA.out hg1 (fun k hk hA => NE.out k hA hk)); have NE2 := hid (show ∀ k, blockOf X1 = some k → blockOf Ta ≠ some k from fun k hk hA => hat.elim (fun h => NE.out k hA (h.symm.trans hk)) (fun h => (by have h5 := Option.some.inj (h.symm.trans hk); have h6 := (OA.out.lt k hA).2; omega))); have OX := hid (show OI wc w7.heap.size 3 X1 (msgs ds).length a1 (msgs ds) from ho1); clear ho1 hg1 hat)
      (first | (refine hK.out _ _ ?_ (fun hH4 => ?_)) | (go_wp2_with fail; refine hK.out _ _ ?_ (fun hH4 => ?_)))
      · exact ⟨Sc.out.cell o0, Sc.out.cell o1, Sc.out.cell o2, Sc.out.cell o3, Sc.out.cell q0, Sc.out.cell q1, Sc.out.cell q2, Sc.out.cell q3⟩
      clear hK K hH3
      (try simp only [Act.put, List.setIfInBounds_toArray, List.set_cons_zero, List.set_cons_succ])
      refine wpAnyH_ready (rs := [7]) (by kernel_rfl) (by simp) ?_
      refine AllReadyH.cons (o := ⟨some 76, _, _, _, _, _⟩) rfl (fun K hK => ?_) AllReadyH.nil
      (refine step_append_src _ rfl (.tmp 74) (.tmp 75) 28 rfl w7.heap.size 3 Try.underlying28 intInfo X1 (msgs ds).length a1 (msgs ds) (by rfl) OX.out _ T2 xs.length u2 xs (by rfl) (OL.out.st Sc.out).ri (by omega) Sc.out.le ?_; intro X2 a2 wd ho2 hg2; have Sd := hid (Sc.out.grown hg2 (fun k hk => (OX.out.lt k hk).1)); have OA3 := hid (OI.grown OA2.out hg2 (fun k hk hA => NE2.out k hk hA)); have OY := hid ho2; clear ho2 hg2)
      (first | (refine hK.out _ _ ?_ (fun hH5 => ?_)) | (go_wp2_with fail; refine hK.out _ _ ?_ (fun hH5 => ?_)))
      · exact ⟨Sd.out.cell o0, Sd.out.cell o1, Sd.out.cell o2, Sd.out.cell o3, Sd.out.cell q0, Sd.out.cell q1, Sd.out.cell q2, Sd.out.cell q3⟩
      clear hK K hH4
      (try simp only [Act.put, List.setIfInBounds_toArray, List.set_cons_zero, List.set_cons_succ])
      refine wpAnyH_ready (rs := [8]) (by kernel_rfl) (by simp) ?_
      refine AllReadyH.cons (o := ⟨some 77, _, _, _, _, _⟩) rfl (fun K hK => ?_) AllReadyH.nil
      go_simp
      (go_at_call 17; refine (sameInts_same OA3.out.sl (show SL wd X2 _ a2 (msgs ds') by rw [HT.out]; exact OY.out.sl) HLO.out).mono ?_; rintro e we ⟨rfl, de⟩; have Se := hid (Sd.out.trans de.st))
      (first | (refine hK.out _ _ ?_ (fun hH6 => ?_)) | (go_wp2_with fail; refine hK.out _ _ ?_ (fun hH6 => ?_)))
      · exact ⟨Se.out.cell o0, Se.out.cell o1, Se.out.cell o2, Se.out.cell o3, Se.out.cell q0, Se.out.cell q1, Se.out.cell q2, Se.out.cell q3⟩
      clear hK K hH5
      (try simp only [Act.put, List.setIfInBounds_toArray, List.set_cons_zero, List.set_cons_succ])
      refine wpAnyH_take (i := 9) (oi := ⟨some 2, _, _, _, _, _⟩) (v := ?_) rfl (by kernel_rfl) (by kernel_rfl) (by kernel_rfl) (fun _ _ _ h => h) (Or.inl ⟨by rfl, ?_⟩) (by assumption) ?_
      rotate_left
      · (intro w hSw; (try dsimp only at hSw); go_simp; (try with_reducible rfl))
      (try simp only [Act.put, List.setIfInBounds_toArray, List.set_cons_zero, List.set_cons_succ])
      refine wpAnyH_done (by kernel_rfl) ?_ _
      clear hH6
      go_wp2_with fail
      go_ret
      exact ⟨rfl, X.out.s.trans Se.out⟩
    refine AllReadyH.cons (o := ⟨some 73, _, _, _, _, _⟩) rfl (fun K hK => ?_) ?_
    · skip
      go_simp
      (go_at_call 21; (with_reducible refine (GroupTrace_v HVG.out (X.out.i.st Sa.out) (X.out.j.st Sa.out) (by omega) (by omega)).mono ?_); rintro e wb ⟨Tb, ub, rfl, ob, sb⟩; have Sb := hid (Sa.out.trans sb); have OA := hid (OI.st OA.out sb); have OB := hid ob.sl; (try have HO := hid (OI.st HO.out sb)); clear ob sb)
      (first | (refine hK.out _ _ ?_ (fun hH2 => ?_)) | (go_wp2_with fail; refine hK.out _ _ ?_ (fun hH2 => ?_)))
      · exact ⟨Sb.out.cell o0, Sb.out.cell o1, Sb.out.cell o2, Sb.out.cell o3, Sb.out.cell q0, Sb.out.cell q1, Sb.out.cell q2, Sb.out.cell q3⟩
      clear hK K hH1
      (try simp only [Act.put, List.setIfInBounds_toArray, List.set_cons_zero, List.set_cons_succ])
      refine wpAnyH_ready (rs := [2]) (by kernel_rfl) (by simp) ?_
      refine AllReadyH.cons (o := ⟨some 71, _, _, _, _, _⟩) rfl (fun K hK => ?_) AllReadyH.nil
      (go_simp; have sl := (St.refl wb).alloc (.cells #[] 3); have HO := hid (OI.less (OI.lit (w := wb) (e := 3)) Sb.out.le); have NE := hid (fun k (hk : blockOf Ta = some k) (hX : blockOf (some _) = some k) => Nat.lt_irrefl _ (Nat.lt_of_lt_of_le (OA.out.lt k hk).2 ((OI.lit (w := wb) (e := 3)).lt k hX).1)); have Sb := hid (Sb.out.trans sl); have OA := hid (OI.st OA.out sl); have OB := hid (OB.out.st sl); clear sl)
      (first | (refine hK.out _ _ ?_ (fun hH3 => ?_)) | (go_wp2_with fail; refine hK.out _ _ ?_ (fun hH3 => ?_)))
      · exact ⟨Sb.out.cell o0, Sb.out.cell o1, Sb.out.cell o2, Sb.out.cell o3, Sb.out.cell q0, Sb.out.cell q1, Sb.out.cell q2, Sb.out.cell q3⟩
      clear hK K hH2
      (try simp only [Act.put, List.setIfInBounds_toArray, List.set_cons_zero, List.set_cons_succ])
      refine wpAnyH_ready (rs := [5]) (by kernel_rfl) (by simp) ?_
      refine AllReadyH.cons (o := ⟨some 74, _, _, _, _, _⟩) rfl (fun K hK => ?_) AllReadyH.nil
      (refine step_append_rows_at _ (by rfl) (.tmp 71) (.tmp 73) 28 (by rfl) w7.heap.size 3 1 8 (.int .i64 0) Try.underlying28 intInfo rfl (by omega) _ 0 0 [] (by rfl) (show World.ownsRow _ w7.heap.size 3 1 (.slice _ 0 0) 0 [] from HO.out) _ Tb (msgs ds).length ub ((msgs ds).map (Value.int .i64)) (by rfl) OB.out.ri oneI (by omega) (by omega) Sb.out.le ?_; intro X1 a1 wc ho1 hg1 hat; simp only [Nat.zero_add, List.nil_append] at ho1 ⊢; have Sc := hid (Sb.out.grown hg1 (fun k hk => (HO.out.lt k hk).1)); have OA2 := hid (OI.grown OA.out hg1 (fun k hk hA => NE.out k hA hk)); have NE2 := hid (show ∀ k, blockOf X1 = some k → blockOf Ta ≠ some k from fun k hk hA => hat.elim (fun h => NE.out k hA (h.symm.trans hk)) (fun h => (by have h5 := Option.some.inj (h.symm.trans hk); have h6 := (OA.out.lt k hA).2; omega))); have OX := hid (show OI wc w7.heap.size 3 X1 (msgs ds).length a1 (msgs ds) from ho1); clear ho1 hg1 hat)
      (first | (refine hK.out _ _ ?_ (fun hH4 => ?_)) | (go_wp2_with fail; refine hK.out _ _ ?_ (fun hH4 => ?_)))
      · exact ⟨Sc.out.cell o0, Sc.out.cell o1, Sc.out.cell o2, Sc.out.cell o3, Sc.out.cell q0, Sc.out.cell q1, Sc.out.cell q2, Sc.out.cell q3⟩
      clear hK K hH3
      (try simp only [Act.put, List.setIfInBounds_toArray, List.set_cons_zero, List.set_cons_succ])
      refine wpAnyH_ready (rs := [7]) (by kernel_rfl) (by simp) ?_
      refine AllReadyH.cons (o := ⟨some 76, _, _, _, _, _⟩) rfl (fun K hK => ?_) AllReadyH.nil
      (refine step_append_src _ rfl (.tmp 74) (.tmp 75) 28 rfl w7.heap.size 3 Try.underlying28 intInfo X1 (msgs ds).length a1 (msgs ds) (by rfl) OX.out _ T2 xs.length u2 xs (by rfl) (OL.out.st Sc.out).ri (by omega) Sc.out.le ?_; intro X2 a2 wd ho2 hg2; have Sd := hid (Sc.out.grown hg2 (fun k hk => (OX.out.lt k hk).1)); have OA3 := hid (OI.grown OA2.out hg2 (fun k hk hA => NE2.out k hk hA)); have OY := hid ho2; clear ho2 hg2)
      (first | (refine hK.out _ _ ?_ (fun hH5 => ?_)) | (go_wp2_with fail; refine hK.out _ _ ?_ (fun hH5 => ?_)))
      · exact ⟨Sd.out.cell o0, Sd.out.cell o1, Sd.out.cell o2, Sd.out.cell o3, Sd.out.cell q0, Sd.out.cell q1, Sd.out.cell q2, Sd.out.cell q3⟩
      clear hK K hH4
      (try simp only [Act.put, List.setIfInBounds_toArray, List.set_cons_zero, List.set_cons_succ])
      refine wpAnyH_ready (rs := [8]) (by kernel_rfl) (by simp) ?_
      refine AllReadyH.cons (o := ⟨some 77, _, _, _, _, _⟩) rfl (fun K hK => ?_) AllReadyH.nil
      go_simp
      (go_at_call 17; refine (sameInts_same OA3.out.sl (show SL wd X2 _ a2 (msgs ds') by rw [HT.out]; exact OY.out.sl) HLO.out).mono ?_; rintro e we ⟨rfl, de⟩; have Se := hid (Sd.out.trans de.st))
      (first | (refine hK.out _ _ ?_ (fun hH6 => ?_)) | (go_wp2_with fail; refine hK.out _ _ ?_ (fun hH6 => ?_)))
      · exact ⟨Se.out.cell o0, Se.out.cell o1, Se.out.cell o2, Se.out.cell o3, Se.out.cell q0, Se.out.cell q1, Se.out.cell q2, Se.out.cell q3⟩
      clear hK K hH5
      (try simp only [Act.put, List.setIfInBounds_toArray, List.set_cons_zero, List.set_cons_succ])
      refine wpAnyH_take (i := 9) (oi := ⟨some 2, _, _, _, _, _⟩) (v := ?_) rfl (by kernel_rfl) (by kernel_rfl) (by kernel_rfl) (fun _ _ _ h => h) (Or.inl ⟨by rfl, ?_⟩) (by assumption) ?_
      rotate_left
      · (intro w hSw; (try dsimp only at hSw); go_simp; (try with_reducible rfl))
      (try simp only [Act.put, List.setIfInBounds_toArray, List.set_cons_zero, List.set_cons_succ])
      refine wpAnyH_done (by kernel_rfl) ?_ _
      clear hH6
      go_wp2_with fail
      go_ret
      exact ⟨rfl, X.out.s.trans Se.out⟩
    exact AllReadyH.nil
  refine AllReadyH.cons (o := ⟨some 71, _, _, _, _, _⟩) rfl (fun K hK => ?_) ?_
  · skip
    (go_simp; have S0 := sB0; have HO := HO0)
    (first | (refine hK.out _ _ ?_ (fun hH1 => ?_)) | (go_wp2_with fail; refine hK.out _ _ ?_ (fun hH1 => ?_)))
    · exact ⟨S0.out.cell o0, S0.out.cell o1, S0.out.cell o2, S0.out.cell o3, S0.out.cell q0, S0.out.cell q1, S0.out.cell q2, S0.out.cell q3⟩
    clear hK K hH0
    (try simp only [Act.put, List.setIfInBounds_toArray, List.set_cons_zero, List.set_cons_succ])
    refine wpAnyH_ready (rs := [1]) (by kernel_rfl) (by simp) ?_
    refine AllReadyH.cons (o := ⟨some 70, _, _, _, _, _⟩) rfl (fun K hK => ?_) AllReadyH.nil
    go_simp
    (go_at_call 21; (with_reducible refine (GroupTrace_v HVO.out (O.out.i.st S0.out) (O.out.j.st S0.out) (by omega) (by omega)).mono ?_); rintro e wa ⟨Ta, ua, rfl, oa, sa⟩; have Sa := hid (S0.out.trans sa); have OA := hid oa; (try have NE := hid (fun k (hk : blockOf Ta = some k) (hX : blockOf (some _) = some k) => Nat.lt_irrefl _ (Nat.lt_of_lt_of_le (HO.out.lt k hX).2 (oa.lt k hk).1))); (try have HO := hid (OI.st HO.out sa)); clear oa sa)
    (first | (refine hK.out _ _ ?_ (fun hH2 => ?_)) | (go_wp2_with fail; refine hK.out _ _ ?_ (fun hH2 => ?_)))
    · exact ⟨Sa.out.cell o0, Sa.out.cell o1, Sa.out.cell o2, Sa.out.cell o3, Sa.out.cell q0, Sa.out.cell q1, Sa.out.cell q2, Sa.out.cell q3⟩
    clear hK K hH1
    (try simp only [Act.put, List.setIfInBounds_toArray, List.set_cons_zero, List.set_cons_succ])
    refine wpAnyH_ready (rs := [4]) (by kernel_rfl) (by simp) ?_
    refine AllReadyH.cons (o := ⟨some 73, _, _, _, _, _⟩) rfl (fun K hK => ?_) AllReadyH.nil
    go_simp
    (go_at_call 21; (with_reducible refine (GroupTrace_v HVG.out (X.out.i.st Sa.out) (X.out.j.st Sa.out) (by omega) (by omega)).mono ?_); rintro e wb ⟨Tb, ub, rfl, ob, sb⟩; have Sb := hid (Sa.out.trans sb); have OA := hid (OI.st OA.out sb); have OB := hid ob.sl; (try have HO := hid (OI.st HO.out sb)); clear ob sb)
    (first | (refine hK.out _ _ ?_ (fun hH3 => ?_)) | (go_wp2_with fail; refine hK.out _ _ ?_ (fun hH3 => ?_)))
    · exact ⟨Sb.out.cell o0, Sb.out.cell o1, Sb.out.cell o2, Sb.out.cell o3, Sb.out.cell q0, Sb.out.cell q1, Sb.out.cell q2, Sb.out.cell q3⟩
    clear hK K hH2
    (try simp only [Act.put, List.setIfInBounds_toArray, List.set_cons_zero, List.set_cons_succ])
    refine wpAnyH_ready (rs := [5]) (by kernel_rfl) (by simp) ?_
    refine AllReadyH.cons (o := ⟨some 74, _, _, _, _, _⟩) rfl (fun K hK => ?_) AllReadyH.nil
    (refine step_append_rows_at _ (by rfl) (.tmp 71) (.tmp 73) 28 (by rfl) w7.heap.size 3 1 8 (.int .i64 0) Try.underlying28 intInfo rfl (by omega) _ 0 0 [] (by rfl) (show World.ownsRow _ w7.heap.size 3 1 (.slice _ 0 0) 0 [] from HO.out) _ Tb (msgs ds).length ub ((msgs ds).map (Value.int .i64)) (by rfl) OB.out.ri oneI (by omega) (by omega) Sb.out.le ?_; intro X1 a1 wc ho1 hg1 hat; simp only [Nat.zero_add, List.nil_append] at ho1 ⊢; have Sc := hid (Sb.out.grown hg1 (fun k hk => (HO.out.lt k hk).1)); have OA2 := hid (OI.grown OA.out hg1 (fun k hk hA => NE.out k hA hk)); have NE2 := hid (show ∀ k, blockOf X1 = some k → blockOf Ta ≠ some k from fun k hk hA => hat.elim (fun h => NE.out k hA (h.symm.trans hk)) (fun h => (by have h5 := Option.some.inj (h.symm.trans hk); have h6 := (OA.out.lt k hA).2; omega))); have OX := hid (show OI wc w7.heap.size 3 X1 (msgs ds).length a1 (msgs ds) from ho1); clear ho1 hg1 hat)
    (first | (refine hK.out _ _ ?_ (fun hH4 => ?_)) | (go_wp2_with fail; refine hK.out _ _ ?_ (fun hH4 => ?_)))
    · exact ⟨Sc.out.cell o0, Sc.out.cell o1, Sc.out.cell o2, Sc.out.cell o3, Sc.out.cell q0, Sc.out.cell q1, Sc.out.cell q2, Sc.out.cell q3⟩
    clear hK K hH3
    (try simp only [Act.put, List.setIfInBounds_toArray, List.set_cons_zero, List.set_cons_succ])
    refine wpAnyH_ready (rs := [7]) (by kernel_rfl) (by simp) ?_
    refine AllReadyH.cons (o := ⟨some 76, _, _, _, _, _⟩) rfl (fun K hK => ?_) AllReadyH.nil
    (refine step_append_src _ rfl (.tmp 74) (.tmp 75) 28 rfl w7.heap.size 3 Try.underlying28 intInfo X1 (msgs ds).length a1 (msgs ds) (by rfl) OX.out _ T2 xs.length u2 xs (by rfl) (OL.out.st Sc.out).ri (by omega) Sc.out.le ?_; intro X2 a2 wd ho2 hg2; have Sd := hid (Sc.out.grown hg2 (fun k hk => (OX.out.lt k hk).1)); have OA3 := hid (OI.grown OA2.out hg2 (fun k hk hA => NE2.out k hk hA)); have OY := hid ho2; clear ho2 hg2)
    (first | (refine hK.out _ _ ?_ (fun hH5 => ?_)) | (go_wp2_with fail; refine hK.out _ _ ?_ (fun hH5 => ?_)))
    · exact ⟨Sd.out.cell o0, Sd.out.cell o1, Sd.out.cell o2, Sd.out.cell o3, Sd.out.cell q0, Sd.out.cell q1, Sd.out.cell q2, Sd.out.cell q3⟩
    clear hK K hH4
    (try simp only [Act.put, List.setIfInBounds_toArray, List.set_cons_zero, List.set_cons_succ])
    refine wpAnyH_ready (rs := [8]) (by kernel_rfl) (by simp) ?_
    refine AllReadyH.cons (o := ⟨some 77, _, _, _, _, _⟩) rfl (fun K hK => ?_) AllReadyH.nil
    go_simp
    (go_at_call 17; refine (sameInts_same OA3.out.sl (show SL wd X2 _ a2 (msgs ds') by rw [HT.out]; exact OY.out.sl) HLO.out).mono ?_; rintro e we ⟨rfl, de⟩; have Se := hid (Sd.out.trans de.st))
    (first | (refine hK.out _ _ ?_ (fun hH6 => ?_)) | (go_wp2_with fail; refine hK.out _ _ ?_ (fun hH6 => ?_)))
    · exact ⟨Se.out.cell o0, Se.out.cell o1, Se.out.cell o2, Se.out.cell o3, Se.out.cell q0, Se.out.cell q1, Se.out.cell q2, Se.out.cell q3⟩
    clear hK K hH5
    (try simp only [Act.put, List.setIfInBounds_toArray, List.set_cons_zero, List.set_cons_succ])
    refine wpAnyH_take (i := 9) (oi := ⟨some 2, _, _, _, _, _⟩) (v := ?_) rfl (by kernel_rfl) (by kernel_rfl) (by kernel_rfl) (fun _ _ _ h => h) (Or.inl ⟨by rfl, ?_⟩) (by assumption) ?_
    rotate_left
    · (intro w hSw; (try dsimp only at hSw); go_simp; (try with_reducible rfl))
    (try simp only [Act.put, List.setIfInBounds_toArray, List.set_cons_zero, List.set_cons_succ])
    refine wpAnyH_done (by kernel_rfl) ?_ _
    clear hH6
    go_wp2_with fail
    go_ret
    exact ⟨rfl, X.out.s.trans Se.out⟩
  exact AllReadyH.nil
end Go.Proofs.Ytkhgemgmnchodaa
