/- FnFinalOwn returns true. -/
import Derived.Test.YtkhgemgmnchodaaLawFn
import Derived.Deep.DeepCutAuto
namespace Go.Proofs.Ytkhgemgmnchodaa
open Go.RowKit Go.Sort
theorem blocked_bad {g : Grp} (h : grOk g = false ∨ g.pend = []) : blockedG g = -1 := by
  unfold blockedG
  rcases h with h | h
  · rw [h]; rfl
  · rw [h]; split <;> rfl
theorem sl_first {w : World} {T : Option Addr} {N u : Nat} {x : Int} {l : List Int} (h : SL w T N u (x :: l)) : ∃ g, T = some g ∧ w.cell? g = some (.int .i64 x) := by
  have hn : 0 < N := by have := h.len; simp at this; omega
  obtain ⟨ad, y, h1, _, h3, h4⟩ := h.ri.at0 hn
  have h3 := h3.out
  simp only [List.getElem?_cons_zero, Option.some.injEq] at h3
  subst h3
  exact ⟨ad, h1, h4⟩
theorem GroupFinal_f {w : World} {I K I' K' : Int} {A B : Option Addr} {n c m d : Nat} {ps ds ps' ds' : List Ent} {xs : List Int} {ok : Bool} {x st sg : Int} (hr : finM ⟨I, K, ps, ds⟩ x (st, sg) = (⟨I', K', ps', ds'⟩, xs, ok)) (h : SE w A n c ps) (h' : SE w B m d ds) (hn : n ≤ 1048576) (hm : m ≤ 1048576) :
    Calls Try.prog 14 #[grV I K A n c B m d, .int .i64 x, .agg #[.int .i64 st, .int .i64 sg]] w fun e w' => ∃ A n c B m d T u, e = .returned (.tuple #[grV I' K' A n c B m d, .slice T xs.length u, .bool ok]) ∧ OwGr w' w.heap.size I' K' A n c B m d ps' ds' ∧ OI w' w.heap.size 3 T xs.length u xs ∧ St w w' := by
  have := GroupFinal_any I K A B n c m d ps ds x st sg w h h' hn hm
  unfold FnEnd at this
  rw [hr] at this
  exact this
set_option maxRecDepth 100000 in
set_option maxHeartbeats 4000000 in
theorem walkOwn (A : Option Addr) (n c : Nat) (bs : List Nat) {w : World} (h : RB w w.heap.size A n bs) (hnc : n ≤ c ∧ c ≤ maxLen) :
    Calls Try.prog 3 #[.slice A n c] w fun e w' => e = .returned (.bool true) ∧ Below w.heap.size w w' := by
  obtain ⟨hnc, hcm⟩ := hnc
  have HCM := hid hcm
  clear hcm
  by_cases hn : 1048576 < n
  · have hn : (1048576 : Int) < (n : Int) := by omega
    go_enter Try.func3, Try.ntmps3
    go_wp2_with fail
    go_ret
    exact ⟨rfl, Below.refl _ _⟩
  have hni : ¬ (1048576 : Int) < (n : Int) := by omega
  go_enter Try.func3, Try.ntmps3
  go_wp2_with fail
  refine (DrawGroupBlocked_any _ _ _ _ _ h (by omega) hnc HCM.out).mono ?_
  rintro e w1 ⟨I, K, A1, n1, c1, B1, m1, d1, ps, ds, rfl, D⟩
  have hn1 := D.n
  have hm1 := D.m
  have X := hid (LG.new (I := I) (K := K) D.i D.j D.s)
  clear D
  go_upto_region 4 with (fail)
  generalize w1.alloc (.cells (grC I K A1 n1 c1 B1 m1 d1) 25) = w2 at *
  generalize w1.heap.size = bx at *
  have q0 := X.out.k.cell_ (i := 0) (v := .int .i64 I) rfl
  have q1 := X.out.k.cell_ (i := 1) (v := .int .i64 K) rfl
  have q2 := X.out.k.cell_ (i := 2) (v := .slice A1 n1 c1) rfl
  have q3 := X.out.k.cell_ (i := 3) (v := .slice B1 m1 d1) rfl
  go_wp2_with fail
  refine (GroupBlocked_any _ _ _ _ _ _ _ _ _ _ _ X.out.i X.out.j (by omega) (by omega)).mono ?_
  rintro e w3 ⟨rfl, s3⟩
  replace X := hid (X.out.st s3)
  replace q0 := s3.cell q0
  replace q1 := s3.cell q1
  replace q2 := s3.cell q2
  replace q3 := s3.cell q3
  clear s3
  go_wp2_with fail
  refine (specGroupBlocked_any _ _ _ _ _ _ _ _ _ _ _ X.out.i X.out.j).mono ?_
  rintro e w4 ⟨rfl, s4⟩
  replace X := hid (X.out.st s4)
  replace q0 := s4.cell q0
  replace q1 := s4.cell q1
  replace q2 := s4.cell q2
  replace q3 := s4.cell q3
  clear s4
  by_cases hbad : grOk ⟨I, K, ps, ds⟩ = false ∨ ps = []
  · rw [blocked_bad hbad]
    go_wp2_with fail
    go_ret
    exact ⟨rfl, X.out.s⟩
  rw [not_or, Bool.not_eq_false] at hbad
  obtain ⟨hok, hps⟩ := hbad
  obtain ⟨p, t, rfl⟩ : ∃ p t, ps = p :: t := by cases ps with | nil => exact absurd rfl hps | cons p t => exact ⟨p, t, rfl⟩
  have V := hid (grOk_iff.1 hok)
  have HB : blockedG ⟨I, K, p :: t, ds⟩ = p.1 := blocked_at hok rfl
  have hf : p.2.2 = false := (V.out.hd p t rfl).1
  have hp0 : 0 ≤ p.1 := (inB_iff.1 (entOk_iff.1 (V.out.pe p (by simp))).1).1
  have hln := X.out.i.len
  rw [HB]
  obtain ⟨m, ⟨st, sg⟩, f⟩ := p
  simp only at hf hp0 ⊢
  subst hf
  have hn0 : 0 < n1 := by rw [← hln]; simp
  have hn0i : (0 : Int) < (n1 : Int) := by omega
  clear hok hps HB hln
  have hm0 : ¬ m < 0 := by omega
  obtain ⟨⟨I5, K5, ps5, ds5⟩, l, hfin⟩ := fin_first V.out (p := (m, (st, sg), false)) (t := t) rfl
  have HFN := hid hfin
  clear hfin
  obtain ⟨ad, m', t', g', f', rfl, hbl, hx, c0, c1', c2, c3⟩ := X.out.i.at_ hn0
  have hx := hx.out
  simp only [List.getElem?_cons_zero, Option.some.injEq, Prod.mk.injEq] at hx
  obtain ⟨rfl, ⟨rfl, rfl⟩, rfl⟩ := hx
  have had : ad.add (0 * 4) = ad := by cases ad; simp [Addr.add]
  rw [had] at c0 c1' c2 c3
  have hE1 : bx < w4.heap.size := X.out.k.lt
  have S0 := hid (Dr.st ⟨1, rfl⟩ : St w4 w4.drew)
  have sB0 := hid (((St.refl w4).alloc (.cells (grC 0 0 none 0 0 none 0 0) 25)).drew)
  have KZ0 := hid ((Blk.new w4 25 (grC 0 0 none 0 0 none 0 0)).dr (w' := (w4.alloc (.cells (grC 0 0 none 0 0 none 0 0) 25)).drew) ⟨1, rfl⟩)
  go_upto_region 8 with (fail)
  go_cut [7, 8] (fun s7 s8 wx => ∃ (T : Option Addr) (u : Nat), s7 = .slice T (m :: l).length u ∧ s8 = .bool true ∧ Hid (SL wx T (m :: l).length u (m :: l)) ∧ Hid (St w4 wx))
  case first =>
    have hE2 : bx ≠ w4.heap.size := by omega
    have hE3 : ad.block ≠ w4.heap.size := by omega
    refine wp_region_held_drew (S := (fun w' => w'.cell? ⟨bx, 0, none⟩ = some (.int .i64 I) ∧ w'.cell? ⟨bx, 1, none⟩ = some (.int .i64 K) ∧ w'.cell? ⟨bx, 2, none⟩ = some (.slice (some ad) n1 c1) ∧ w'.cell? ⟨bx, 3, none⟩ = some (.slice B1 m1 d1) ∧ w'.cell? ⟨ad.block, ad.off + 1, none⟩ = some (.int .i64 st) ∧ w'.cell? ⟨ad.block, ad.off + 1 + 1, none⟩ = some (.int .i64 sg))) (by kernel_rfl) ?_ (fun hH0 => ?_)
    · exact ⟨q0, q1, q2, q3, c1', c2⟩
    refine wpAnyH_take (i := 0) (oi := ⟨some 29, _, _, _, _, _⟩) (v := ?_) rfl (by kernel_rfl) (by kernel_rfl) (by kernel_rfl) (fun _ _ _ h => h) (Or.inl ⟨by rfl, ?_⟩) (by assumption) ?_
    rotate_left
    · (intro w hSw; (try dsimp only at hSw); go_simp; (try with_reducible rfl))
    (try simp only [Act.put, List.setIfInBounds_toArray, List.set_cons_zero, List.set_cons_succ])
    refine wpAnyH_take (i := 1) (oi := ⟨some 30, _, _, _, _, _⟩) (v := ?_) rfl (by kernel_rfl) (by kernel_rfl) (by kernel_rfl) (fun _ _ _ h => h) (Or.inl ⟨by rfl, ?_⟩) (by assumption) ?_
    rotate_left
    · (intro w hSw; (try dsimp only at hSw); go_simp; (try with_reducible rfl))
    (try simp only [Act.put, List.setIfInBounds_toArray, List.set_cons_zero, List.set_cons_succ])
    refine wpAnyH_take (i := 2) (oi := ⟨some 31, _, _, _, _, _⟩) (v := ?_) rfl (by kernel_rfl) (by kernel_rfl) (by kernel_rfl) (fun _ _ _ h => h) (Or.inl ⟨by rfl, ?_⟩) (by assumption) ?_
    rotate_left
    · (intro w hSw; (try dsimp only at hSw); go_simp; (try with_reducible rfl))
    (try simp only [Act.put, List.setIfInBounds_toArray, List.set_cons_zero, List.set_cons_succ])
    refine wpAnyH_take (i := 3) (oi := ⟨some 32, _, _, _, _, _⟩) (v := ?_) rfl (by kernel_rfl) (by kernel_rfl) (by kernel_rfl) (fun _ _ _ h => h) (Or.inl ⟨by rfl, ?_⟩) (by assumption) ?_
    rotate_left
    · (intro w hSw; (try dsimp only at hSw); go_simp; (try with_reducible rfl))
    (try simp only [Act.put, List.setIfInBounds_toArray, List.set_cons_zero, List.set_cons_succ])
    refine wpAnyH_take (i := 4) (oi := ⟨some 33, _, _, _, _, _⟩) (v := ?_) rfl (by kernel_rfl) (by kernel_rfl) (by kernel_rfl) (fun _ _ _ h => h) (Or.inl ⟨by rfl, ?_⟩) (by assumption) ?_
    rotate_left
    · (intro w hSw; (try dsimp only at hSw); go_simp; (try with_reducible rfl))
    (try simp only [Act.put, List.setIfInBounds_toArray, List.set_cons_zero, List.set_cons_succ])
    refine wpAnyH_take (i := 5) (oi := ⟨some 34, _, _, _, _, _⟩) (v := ?_) rfl (by kernel_rfl) (by kernel_rfl) (by kernel_rfl) (fun _ _ _ h => h) (Or.inl ⟨by rfl, ?_⟩) (by assumption) ?_
    rotate_left
    · (intro w hSw; (try dsimp only at hSw); go_simp; (try with_reducible rfl))
    (try simp only [Act.put, List.setIfInBounds_toArray, List.set_cons_zero, List.set_cons_succ])
    refine wpAnyH_take (i := 6) (oi := ⟨some 35, _, _, _, _, _⟩) (v := ?_) rfl (by kernel_rfl) (by kernel_rfl) (by kernel_rfl) (fun _ _ _ h => h) (Or.inl ⟨by rfl, ?_⟩) (by assumption) ?_
    rotate_left
    · (intro w hSw; (try dsimp only at hSw); go_simp; (try with_reducible rfl))
    (try simp only [Act.put, List.setIfInBounds_toArray, List.set_cons_zero, List.set_cons_succ])
    refine wpAnyH_ready (rs := [7, 12]) (by kernel_rfl) (by simp) ?_
    refine AllReadyH.cons (o := ⟨some 36, _, _, _, _, _⟩) rfl (fun K hK => ?_) ?_
    · skip
      go_simp
      (go_at_call 14; (with_reducible refine (GroupFinal_f HFN.out (X.out.i.st S0.out) (X.out.j.st S0.out) (by omega) (by omega)).mono ?_); rintro e wb ⟨A5, n5, c5, B5, m5, d5, T5, u5, rfl, C5, O5, s5⟩; have Sb := hid (S0.out.trans s5); have C5 := hid C5; have O5 := hid O5; (try have hzl := KZ.out.lt); (try have KZ := hid (KZ.out.st s5)); (try (have zz0 := KZ.out.cell_ (i := 0) (v := .int .i64 0) rfl; have zz1 := KZ.out.cell_ (i := 1) (v := .int .i64 0) rfl; have zz2 := KZ.out.cell_ (i := 2) (v := .slice none 0 0) rfl; have zz3 := KZ.out.cell_ (i := 3) (v := .slice none 0 0) rfl; have zf0 := KZ.out.frozen 0; have zf1 := KZ.out.frozen 1; have zf2 := KZ.out.frozen 2; have zf3 := KZ.out.frozen 3)); clear s5)
      (first | (refine hK.out _ _ ?_ (fun hH1 => ?_)) | (go_wp2_with fail; refine hK.out _ _ ?_ (fun hH1 => ?_)))
      · exact ⟨Sb.out.cell q0, Sb.out.cell q1, Sb.out.cell q2, Sb.out.cell q3, Sb.out.cell c1', Sb.out.cell c2⟩
      clear hK K hH0
      (try simp only [Act.put, List.setIfInBounds_toArray, List.set_cons_zero, List.set_cons_succ])
      refine wpAnyH_take (i := 8) (oi := ⟨some 28, _, _, _, _, _⟩) (v := ?_) rfl (by kernel_rfl) (by kernel_rfl) (by kernel_rfl) (fun _ _ _ h => h) (Or.inl ⟨by rfl, ?_⟩) (by assumption) ?_
      rotate_left
      · (intro w hSw; (try dsimp only at hSw); go_simp; (try with_reducible rfl))
      (try simp only [Act.put, List.setIfInBounds_toArray, List.set_cons_zero, List.set_cons_succ])
      refine wpAnyH_take (i := 9) (oi := ⟨some 37, _, _, _, _, _⟩) (v := ?_) rfl (by kernel_rfl) (by kernel_rfl) (by kernel_rfl) (fun _ _ _ h => h) (Or.inl ⟨by rfl, ?_⟩) (by assumption) ?_
      rotate_left
      · (intro w hSw; (try dsimp only at hSw); go_simp; (try with_reducible rfl))
      (try simp only [Act.put, List.setIfInBounds_toArray, List.set_cons_zero, List.set_cons_succ])
      refine wpAnyH_take (i := 10) (oi := ⟨some 38, _, _, _, _, _⟩) (v := ?_) rfl (by kernel_rfl) (by kernel_rfl) (by kernel_rfl) (fun _ _ _ h => h) (Or.inl ⟨by rfl, ?_⟩) (by assumption) ?_
      rotate_left
      · (intro w hSw; (try dsimp only at hSw); go_simp; (try with_reducible rfl))
      (try simp only [Act.put, List.setIfInBounds_toArray, List.set_cons_zero, List.set_cons_succ])
      refine wpAnyH_take (i := 11) (oi := ⟨some 39, _, _, _, _, _⟩) (v := ?_) rfl (by kernel_rfl) (by kernel_rfl) (by kernel_rfl) (fun _ _ _ h => h) (Or.inl ⟨by rfl, ?_⟩) (by assumption) ?_
      rotate_left
      · (intro w hSw; (try dsimp only at hSw); go_simp; (try with_reducible rfl))
      (try simp only [Act.put, List.setIfInBounds_toArray, List.set_cons_zero, List.set_cons_succ])
      refine wpAnyH_ready (rs := [12]) (by kernel_rfl) (by simp) ?_
      refine AllReadyH.cons (o := ⟨some 6, _, _, _, _, _⟩) rfl (fun K hK => ?_) AllReadyH.nil
      (go_simp; have KZ := hid (Blk.new wb 25 (grC 0 0 none 0 0 none 0 0)); (have zz0 := KZ.out.cell_ (i := 0) (v := .int .i64 0) rfl; have zz1 := KZ.out.cell_ (i := 1) (v := .int .i64 0) rfl; have zz2 := KZ.out.cell_ (i := 2) (v := .slice none 0 0) rfl; have zz3 := KZ.out.cell_ (i := 3) (v := .slice none 0 0) rfl; have zf0 := KZ.out.frozen 0; have zf1 := KZ.out.frozen 1; have zf2 := KZ.out.frozen 2; have zf3 := KZ.out.frozen 3); have sl := (St.refl wb).alloc (.cells (grC 0 0 none 0 0 none 0 0) 25); have sl2 := (St.refl wb).alloc (.cells (grC I5 K5 A5 n5 c5 B5 m5 d5) 25); have O6 := hid (OI.st O5.out sl2).sl; have Sc := hid (Sb.out.trans sl2); have Sb := hid (Sb.out.trans sl); clear sl sl2)
      (first | (refine hK.out _ _ ?_ (fun hH2 => ?_)) | (go_wp2_with fail; refine hK.out _ _ ?_ (fun hH2 => ?_)))
      · exact ⟨Sb.out.cell q0, Sb.out.cell q1, Sb.out.cell q2, Sb.out.cell q3, Sb.out.cell c1', Sb.out.cell c2⟩
      clear hK K hH1
      (try simp only [Act.put, List.setIfInBounds_toArray, List.set_cons_zero, List.set_cons_succ])
      refine wpAnyH_ready (rs := [13]) (by kernel_rfl) (by simp) ?_
      refine AllReadyH.cons (o := ⟨none, _, _, _, _, _⟩) rfl (fun K hK => ?_) AllReadyH.nil
      go_simp
      (first | (refine hK.out _ _ ?_ (fun hH3 => ?_)) | (go_wp2_with fail; refine hK.out _ _ ?_ (fun hH3 => ?_)))
      · exact ⟨Sc.out.cell q0, Sc.out.cell q1, Sc.out.cell q2, Sc.out.cell q3, Sc.out.cell c1', Sc.out.cell c2⟩
      clear hK K hH2
      (try simp only [Act.put, List.setIfInBounds_toArray, List.set_cons_zero, List.set_cons_succ])
      refine wpAnyH_take (i := 14) (oi := ⟨some 7, _, _, _, _, _⟩) (v := ?_) rfl (by kernel_rfl) (by kernel_rfl) (by kernel_rfl) (fun _ _ _ h => h) (Or.inl ⟨by rfl, ?_⟩) (by assumption) ?_
      rotate_left
      · (intro w hSw; (try dsimp only at hSw); go_simp; (try with_reducible rfl))
      (try simp only [Act.put, List.setIfInBounds_toArray, List.set_cons_zero, List.set_cons_succ])
      refine wpAnyH_take (i := 15) (oi := ⟨some 8, _, _, _, _, _⟩) (v := ?_) rfl (by kernel_rfl) (by kernel_rfl) (by kernel_rfl) (fun _ _ _ h => h) (Or.inl ⟨by rfl, ?_⟩) (by assumption) ?_
      rotate_left
      · (intro w hSw; (try dsimp only at hSw); go_simp; (try with_reducible rfl))
      (try simp only [Act.put, List.setIfInBounds_toArray, List.set_cons_zero, List.set_cons_succ])
      refine wpAnyH_done (by kernel_rfl) ?_ _
      clear hH3
      go_wp2_with fail
      go_meet
      exact ⟨_, _, rfl, rfl, O6, Sc⟩
    refine AllReadyH.cons (o := ⟨some 6, _, _, _, _, _⟩) rfl (fun K hK => ?_) ?_
    · skip
      (go_simp; have S0 := sB0; have KZ := KZ0)
      (first | (refine hK.out _ _ ?_ (fun hH1 => ?_)) | (go_wp2_with fail; refine hK.out _ _ ?_ (fun hH1 => ?_)))
      · exact ⟨S0.out.cell q0, S0.out.cell q1, S0.out.cell q2, S0.out.cell q3, S0.out.cell c1', S0.out.cell c2⟩
      clear hK K hH0
      (try simp only [Act.put, List.setIfInBounds_toArray, List.set_cons_zero, List.set_cons_succ])
      refine wpAnyH_ready (rs := [7]) (by kernel_rfl) (by simp) ?_
      refine AllReadyH.cons (o := ⟨some 36, _, _, _, _, _⟩) rfl (fun K hK => ?_) AllReadyH.nil
      go_simp
      (go_at_call 14; (with_reducible refine (GroupFinal_f HFN.out (X.out.i.st S0.out) (X.out.j.st S0.out) (by omega) (by omega)).mono ?_); rintro e wb ⟨A5, n5, c5, B5, m5, d5, T5, u5, rfl, C5, O5, s5⟩; have Sb := hid (S0.out.trans s5); have C5 := hid C5; have O5 := hid O5; (try have hzl := KZ.out.lt); (try have KZ := hid (KZ.out.st s5)); (try (have zz0 := KZ.out.cell_ (i := 0) (v := .int .i64 0) rfl; have zz1 := KZ.out.cell_ (i := 1) (v := .int .i64 0) rfl; have zz2 := KZ.out.cell_ (i := 2) (v := .slice none 0 0) rfl; have zz3 := KZ.out.cell_ (i := 3) (v := .slice none 0 0) rfl; have zf0 := KZ.out.frozen 0; have zf1 := KZ.out.frozen 1; have zf2 := KZ.out.frozen 2; have zf3 := KZ.out.frozen 3)); clear s5)
      (first | (refine hK.out _ _ ?_ (fun hH2 => ?_)) | (go_wp2_with fail; refine hK.out _ _ ?_ (fun hH2 => ?_)))
      · exact ⟨Sb.out.cell q0, Sb.out.cell q1, Sb.out.cell q2, Sb.out.cell q3, Sb.out.cell c1', Sb.out.cell c2⟩
      clear hK K hH1
      (try simp only [Act.put, List.setIfInBounds_toArray, List.set_cons_zero, List.set_cons_succ])
      refine wpAnyH_take (i := 8) (oi := ⟨some 28, _, _, _, _, _⟩) (v := ?_) rfl (by kernel_rfl) (by kernel_rfl) (by kernel_rfl) (fun _ _ _ h => h) (Or.inl ⟨by rfl, ?_⟩) (by assumption) ?_
      rotate_left
      · (intro w hSw; (try dsimp only at hSw); go_simp; (try with_reducible rfl))
      (try simp only [Act.put, List.setIfInBounds_toArray, List.set_cons_zero, List.set_cons_succ])
      refine wpAnyH_take (i := 9) (oi := ⟨some 37, _, _, _, _, _⟩) (v := ?_) rfl (by kernel_rfl) (by kernel_rfl) (by kernel_rfl) (fun _ _ _ h => h) (Or.inl ⟨by rfl, ?_⟩) (by assumption) ?_
      rotate_left
      · (intro w hSw; (try dsimp only at hSw); go_simp; (try with_reducible rfl))
      (try simp only [Act.put, List.setIfInBounds_toArray, List.set_cons_zero, List.set_cons_succ])
      refine wpAnyH_take (i := 10) (oi := ⟨some 38, _, _, _, _, _⟩) (v := ?_) rfl (by kernel_rfl) (by kernel_rfl) (by kernel_rfl) (fun _ _ _ h => h) (Or.inl ⟨by rfl, ?_⟩) (by assumption) ?_
      rotate_left
      · (intro w hSw; (try dsimp only at hSw); go_simp; (try with_reducible rfl))
      (try simp only [Act.put, List.setIfInBounds_toArray, List.set_cons_zero, List.set_cons_succ])
      refine wpAnyH_take (i := 11) (oi := ⟨some 39, _, _, _, _, _⟩) (v := ?_) rfl (by kernel_rfl) (by kernel_rfl) (by kernel_rfl) (fun _ _ _ h => h) (Or.inl ⟨by rfl, ?_⟩) (by assumption) ?_
      rotate_left
      · (intro w hSw; (try dsimp only at hSw); go_simp; (try with_reducible rfl))
      (try simp only [Act.put, List.setIfInBounds_toArray, List.set_cons_zero, List.set_cons_succ])
      refine wpAnyH_ready (rs := [13]) (by kernel_rfl) (by simp) ?_
      refine AllReadyH.cons (o := ⟨none, _, _, _, _, _⟩) rfl (fun K hK => ?_) AllReadyH.nil
      go_simp
      (first | (refine hK.out _ _ ?_ (fun hH3 => ?_)) | (go_wp2_with fail; refine hK.out _ _ ?_ (fun hH3 => ?_)))
      · exact ⟨cell_setGr (Sb.out.cell q0) hE2, cell_setGr (Sb.out.cell q1) hE2, cell_setGr (Sb.out.cell q2) hE2, cell_setGr (Sb.out.cell q3) hE2, cell_setGr (Sb.out.cell c1') hE3, cell_setGr (Sb.out.cell c2) hE3⟩
      clear hK K hH2
      (try simp only [Act.put, List.setIfInBounds_toArray, List.set_cons_zero, List.set_cons_succ])
      refine wpAnyH_take (i := 14) (oi := ⟨some 7, _, _, _, _, _⟩) (v := ?_) rfl (by kernel_rfl) (by kernel_rfl) (by kernel_rfl) (fun _ _ _ h => h) (Or.inl ⟨by rfl, ?_⟩) (by assumption) ?_
      rotate_left
      · (intro w hSw; (try dsimp only at hSw); go_simp; (try with_reducible rfl))
      (try simp only [Act.put, List.setIfInBounds_toArray, List.set_cons_zero, List.set_cons_succ])
      refine wpAnyH_take (i := 15) (oi := ⟨some 8, _, _, _, _, _⟩) (v := ?_) rfl (by kernel_rfl) (by kernel_rfl) (by kernel_rfl) (fun _ _ _ h => h) (Or.inl ⟨by rfl, ?_⟩) (by assumption) ?_
      rotate_left
      · (intro w hSw; (try dsimp only at hSw); go_simp; (try with_reducible rfl))
      (try simp only [Act.put, List.setIfInBounds_toArray, List.set_cons_zero, List.set_cons_succ])
      refine wpAnyH_done (by kernel_rfl) ?_ _
      clear hH3
      obtain ⟨f1, f2, f3⟩ := gr_put (I := I5) (K := K5) KZ.out C5.out Sb.out (Nat.le_refl _)
      have O6 := hid (OI.putGr (I := I5) (K := K5) (A := A5) (n := n5) (c := c5) (B := B5) (m := m5) (d := d5) O5.out hzl).sl
      go_wp2_with fail
      go_meet
      exact ⟨_, _, rfl, rfl, O6, f3⟩
    exact AllReadyH.nil
  case rest =>
  obtain ⟨T, u, rfl, rfl, hsl, hst⟩ := hcut
  obtain ⟨g, hg0, hg1⟩ := sl_first hsl.out
  subst hg0
  have hlen : (0 : Int) < (((m :: l).length : Nat) : Int) := by simp only [List.length_cons]; omega
  have hlen2 : 0 < (m :: l).length := by simp
  have S9 := hid (X.out.s.trans hst.out)
  obtain ⟨N, hN⟩ : ∃ N, (m :: l).length = N := ⟨_, rfl⟩
  rw [hN] at hlen hlen2
  rw [hN]
  clear hN hsl hst S0 sB0 KZ0 q0 q1 q2 q3 c0 c1' c2 c3
  go_wp2_with fail
  go_ret
  exact ⟨rfl, S9.out⟩
end Go.Proofs.Ytkhgemgmnchodaa
