/- FnRoundAdd returns true. -/
import Derived.Test.YtldclkjknhjbfaaRd15
import Derived.Test.YtldclkjknhjbfaaDrawRd5
import Derived.Test.YtldclkjknhjbfaaSameRd
namespace Go.Proofs.Ytldclkjknhjbfaa
open Go.RowKit Go.Sort
set_option maxRecDepth 100000 in
set_option maxHeartbeats 4000000 in
theorem walkRoundAdd (A : Option Addr) (n c : Nat) (bs : List Nat) {w : World} (h : RB w w.heap.size A n bs) (hnc : n ≤ c ∧ c ≤ maxLen) (A' : Option Addr) (n' c' : Nat) (bs' : List Nat) (_ : RB w w.heap.size A' n' bs') (_ : n' ≤ c' ∧ c' ≤ maxLen) :
    Calls Try.prog 12 #[.slice A n c, .slice A' n' c'] w fun e w' => e = .returned (.bool true) ∧ Below w.heap.size w w' := by
  obtain ⟨hnc, hcm⟩ := hnc
  have HCM := hid hcm
  clear hcm
  by_cases hn : 1048576 < n
  · have hn : (1048576 : Int) < (n : Int) := by omega
    go_enter Try.func12, Try.ntmps12
    go_wp2_with fail
    go_ret
    exact ⟨rfl, Below.refl _ _⟩
  by_cases hn' : 1048576 < n'
  · have hn : ¬ (1048576 : Int) < (n : Int) := by omega
    have hn' : (1048576 : Int) < (n' : Int) := by omega
    go_enter Try.func12, Try.ntmps12
    go_wp2_with fail
    go_ret
    exact ⟨rfl, Below.refl _ _⟩
  have hni : ¬ (1048576 : Int) < (n : Int) := by omega
  have hni' : ¬ (1048576 : Int) < (n' : Int) := by omega
  go_enter Try.func12, Try.ntmps12
  go_wp2_with fail
  refine (DrawRoundAdd_any _ _ _ _ _ h (by omega) hnc HCM.out).mono ?_
  rintro e w1 ⟨M, A1, n1, c1, B1, q1, d1, xs, ss, t, g, rfl, i1, f1, hn1, hq1, s1⟩
  have a1 := ((St.refl w1).alloc (.cells #[.int .i64 M, .slice A1 n1 c1, .slice B1 q1 d1] 25)).alloc (.cells #[.int .i64 t, .int .i64 g] 45)
  have K2 := (Blk.new w1 25 #[.int .i64 M, .slice A1 n1 c1, .slice B1 q1 d1]).alloc (.cells #[.int .i64 t, .int .i64 g] 45)
  have P2 := blk_second w1 (.cells #[.int .i64 M, .slice A1 n1 c1, .slice B1 q1 d1] 25) 45 #[.int .i64 t, .int .i64 g]
  have x0 := K2.cell_ (i := 0) (v := .int .i64 M) rfl
  have x1 := K2.cell_ (i := 1) (v := .slice A1 n1 c1) rfl
  have x2 := K2.cell_ (i := 2) (v := .slice B1 q1 d1) rfl
  have p0 := P2.cell_ (i := 0) (v := .int .i64 t) rfl
  have p1 := P2.cell_ (i := 1) (v := .int .i64 g) rfl
  have I := hid (i1.st a1)
  have S := hid (s1.trans a1)
  have F := hid f1
  have FT := hid (ra_fit (M := M) (xs := xs) (ss := ss) (t, g) (by have := f1.n; have := f1.m; have := i1.sl.len; have := i1.sh.len; omega))
  obtain ⟨m3, hm3⟩ : ∃ v, raM M xs ss (t, g) = v := ⟨_, rfl⟩
  obtain ⟨ys, hys⟩ : ∃ v, raXs M xs ss (t, g) = v := ⟨_, rfl⟩
  obtain ⟨ps, hps⟩ : ∃ v, raSs M xs ss (t, g) = v := ⟨_, rfl⟩
  obtain ⟨ok, hok⟩ : ∃ v, raOk M xs ss (t, g) = v := ⟨_, rfl⟩
  obtain ⟨va, hva⟩ : ∃ v, rdValid M xs ss = v := ⟨_, rfl⟩
  obtain ⟨vs, hvs⟩ : ∃ v, stOk (t, g) = v := ⟨_, rfl⟩
  rw [hys, hps] at FT
  have HE := hid (And.intro hm3 (And.intro hys (And.intro hps (And.intro hok (And.intro hva hvs)))))
  clear a1 K2 P2 i1 s1 f1 hm3 hys hps hok hva hvs
  go_wp2_with fail
  generalize (w1.alloc (.cells #[.int .i64 M, .slice A1 n1 c1, .slice B1 q1 d1] 25)).alloc (.cells #[.int .i64 t, .int .i64 g] 45) = w2 at x0 x1 x2 p0 p1 I S ⊢
  refine (RoundAdd_r t g I.out F.out).mono ?_
  rintro e w3 ⟨A3, n3, c3, B3, q3, d3, rfl, o3, s3⟩
  rw [HE.out.1, HE.out.2.1, HE.out.2.2.1] at o3
  rw [HE.out.1, HE.out.2.2.2.1]
  have O3 := hid o3.rd
  have t3 := s3.alloc (.cells #[.int .i64 m3, .slice A3 n3 c3, .slice B3 q3 d3] 25)
  have u3 := (St.refl w3).alloc (.cells #[.int .i64 m3, .slice A3 n3 c3, .slice B3 q3 d3] 25)
  have Y3 := Blk.new w3 25 #[.int .i64 m3, .slice A3 n3 c3, .slice B3 q3 d3]
  replace I := hid (I.out.st t3)
  replace S := hid (S.out.st t3)
  replace x0 := t3.cell x0
  replace x1 := t3.cell x1
  replace x2 := t3.cell x2
  replace p0 := t3.cell p0
  replace p1 := t3.cell p1
  replace O3 := hid (O3.out.st u3)
  have y0 := Y3.cell_ (i := 0) (v := .int .i64 m3) rfl
  have y1 := Y3.cell_ (i := 1) (v := .slice A3 n3 c3) rfl
  have y2 := Y3.cell_ (i := 2) (v := .slice B3 q3 d3) rfl
  clear o3 s3 t3 u3 Y3
  go_wp2_with fail
  generalize w3.alloc (.cells #[.int .i64 m3, .slice A3 n3 c3, .slice B3 q3 d3] 25) = w4 at x0 x1 x2 p0 p1 y0 y1 y2 I S O3 ⊢
  refine (specRoundAdd_r t g I.out F.out).mono ?_
  rintro e w5 ⟨A5, n5, c5, B5, q5, d5, rfl, o5, s5⟩
  rw [HE.out.1, HE.out.2.1, HE.out.2.2.1] at o5
  rw [HE.out.1, HE.out.2.2.2.1]
  have O5 := hid o5.rd
  have t5 := s5.alloc (.cells #[.int .i64 m3, .slice A5 n5 c5, .slice B5 q5 d5] 25)
  have u5 := (St.refl w5).alloc (.cells #[.int .i64 m3, .slice A5 n5 c5, .slice B5 q5 d5] 25)
  have Z5 := Blk.new w5 25 #[.int .i64 m3, .slice A5 n5 c5, .slice B5 q5 d5]
  replace I := hid (I.out.st t5)
  replace S := hid (S.out.st t5)
  replace O3 := hid (O3.out.st t5)
  replace x0 := t5.cell x0
  replace x1 := t5.cell x1
  replace x2 := t5.cell x2
  replace p0 := t5.cell p0
  replace p1 := t5.cell p1
  replace y0 := t5.cell y0
  replace y1 := t5.cell y1
  replace y2 := t5.cell y2
  replace O5 := hid (O5.out.st u5)
  have z0 := Z5.cell_ (i := 0) (v := .int .i64 m3) rfl
  have z1 := Z5.cell_ (i := 1) (v := .slice A5 n5 c5) rfl
  have z2 := Z5.cell_ (i := 2) (v := .slice B5 q5 d5) rfl
  have hoo : (ok == ok) = true := by simp
  have hon : (ok != ok) = false := by simp
  clear o5 s5 t5 u5 Z5
  go_wp2_with fail
  generalize w5.alloc (.cells #[.int .i64 m3, .slice A5 n5 c5, .slice B5 q5 d5] 25) = w6 at x0 x1 x2 p0 p1 y0 y1 y2 z0 z1 z2 I S O3 O5 ⊢
  refine (sameRound_same O3.out O5.out FT.out).mono ?_
  rintro e w7 ⟨rfl, s7⟩
  replace I := hid (I.out.st s7)
  replace S := hid (S.out.st s7)
  replace O3 := hid (O3.out.st s7)
  replace O5 := hid (O5.out.st s7)
  replace x0 := s7.cell x0
  replace x1 := s7.cell x1
  replace x2 := s7.cell x2
  replace p0 := s7.cell p0
  replace p1 := s7.cell p1
  replace y0 := s7.cell y0
  replace y1 := s7.cell y1
  replace y2 := s7.cell y2
  replace z0 := s7.cell z0
  replace z1 := s7.cell z1
  replace z2 := s7.cell z2
  clear s7
  cases ok
  · go_wp2_with fail
    refine (sameRound_same O3.out O5.out FT.out).mono ?_
    rintro e w9 ⟨rfl, s9⟩
    replace S := hid (S.out.st s9)
    go_wp2_with fail
    go_ret
    exact ⟨rfl, S.out⟩
  have hl := added_law (M := M) (xs := xs) (ss := ss) (s := (t, g)) HE.out.2.2.2.1
  have ho := ra_ok HE.out.2.2.2.1
  rw [HE.out.1, HE.out.2.1, HE.out.2.2.1] at ho
  obtain ⟨hv, hst, hao, hm, hx, hp⟩ := ho
  rw [← hp] at hl
  have hmiss : has (rdMiss M xs ss) g = true := by rw [miss_has hv]; exact hao
  replace hm := hm.symm
  replace hx := hx.symm
  subst hm hx
  have hnn : (1 : Int) ≤ 1 + (n' : Int) % 9 ∧ 1 + (n' : Int) % 9 ≤ 9 := by omega
  have hl := hl (1 + (n' : Int) % 9) hnn
  have HM := hid hmiss
  have HLW := hid hl
  have FP := hid (show FitRd xs ps from FT.out)
  have r1 := p1
  have u7 := (St.refl w7).alloc (.cells #[.int .i64 (1 + (n' : Int) % 9), .int .i64 g] 45)
  have T7 := Blk.new w7 45 #[.int .i64 (1 + (n' : Int) % 9), .int .i64 g]
  replace I := hid (I.out.st u7)
  replace S := hid (S.out.st u7)
  replace O3 := hid (O3.out.st u7)
  replace O5 := hid (O5.out.st u7)
  replace x0 := u7.cell x0
  replace x1 := u7.cell x1
  replace x2 := u7.cell x2
  replace p0 := u7.cell p0
  replace p1 := u7.cell p1
  replace y0 := u7.cell y0
  replace y1 := u7.cell y1
  replace y2 := u7.cell y2
  have q0 := T7.cell_ (i := 0) (v := .int .i64 (1 + (n' : Int) % 9)) rfl
  have q1 := T7.cell_ (i := 1) (v := .int .i64 g) rfl
  clear u7 T7 z0 z1 z2 hl hv hst hao hp hnn hmiss hoo hon
  go_wp2_with fail
  generalize w7.alloc (.cells #[.int .i64 (1 + (n' : Int) % 9), .int .i64 g] 45) = w8 at I S O3 O5 x0 x1 x2 p0 p1 y0 y1 y2 q0 q1 ⊢
  generalize (1 + (n' : Int) % 9) = τ at HLW q0 q1 ⊢
  clear r1
  refine (RoundAdd_r τ g O3.out FP.out).mono ?_
  rintro e w9 ⟨A9, n9, c9, B9, q9, d9, rfl, o9, s9⟩
  rw [HLW.out.2.2.2.2.1, HLW.out.2.2.2.2.2.1, HLW.out.2.2.2.2.2.2] at o9
  rw [HLW.out.2.2.2.2.1, HLW.out.2.2.2.1]
  have O9 := hid o9.rd
  have t9 := s9.alloc (.cells #[.int .i64 M, .slice A9 n9 c9, .slice B9 q9 d9] 25)
  have u9 := (St.refl w9).alloc (.cells #[.int .i64 M, .slice A9 n9 c9, .slice B9 q9 d9] 25)
  have Z9 := Blk.new w9 25 #[.int .i64 M, .slice A9 n9 c9, .slice B9 q9 d9]
  replace I := hid (I.out.st t9)
  replace S := hid (S.out.st t9)
  replace O3 := hid (O3.out.st t9)
  replace x0 := t9.cell x0
  replace x1 := t9.cell x1
  replace x2 := t9.cell x2
  replace p0 := t9.cell p0
  replace p1 := t9.cell p1
  replace y0 := t9.cell y0
  replace y1 := t9.cell y1
  replace y2 := t9.cell y2
  replace O9 := hid (O9.out.st u9)
  have z0 := Z9.cell_ (i := 0) (v := .int .i64 M) rfl
  have z1 := Z9.cell_ (i := 1) (v := .slice A9 n9 c9) rfl
  have z2 := Z9.cell_ (i := 2) (v := .slice B9 q9 d9) rfl
  clear o9 s9 t9 u9 Z9 q0 q1
  go_wp2_with fail
  generalize w9.alloc (.cells #[.int .i64 M, .slice A9 n9 c9, .slice B9 q9 d9] 25) = wa at x0 x1 x2 p0 p1 y0 y1 y2 z0 z1 z2 I S O3 O9 ⊢
  refine wp_region_held_drew (S := (fun w' => w'.cell? ⟨w1.heap.size, 0, none⟩ = some (.int .i64 M) ∧ w'.cell? ⟨w1.heap.size, 1, none⟩ = some (.slice A1 n1 c1) ∧ w'.cell? ⟨w1.heap.size, 2, none⟩ = some (.slice B1 q1 d1) ∧ w'.cell? ⟨w1.heap.size + 1, 1, none⟩ = some (.int .i64 g) ∧ w'.cell? ⟨w3.heap.size, 0, none⟩ = some (.int .i64 M) ∧ w'.cell? ⟨w3.heap.size, 1, none⟩ = some (.slice A3 n3 c3) ∧ w'.cell? ⟨w3.heap.size, 2, none⟩ = some (.slice B3 q3 d3) ∧ w'.cell? ⟨w9.heap.size, 0, none⟩ = some (.int .i64 M) ∧ w'.cell? ⟨w9.heap.size, 1, none⟩ = some (.slice A9 n9 c9) ∧ w'.cell? ⟨w9.heap.size, 2, none⟩ = some (.slice B9 q9 d9))) (by kernel_rfl) ?_ (fun hH0 => ?_)
  · exact ⟨x0, x1, x2, p1, y0, y1, y2, z0, z1, z2⟩
  refine wpAnyH_take (i := 0) (oi := ⟨some 73, _, _, _, _, _⟩) (v := ?_) rfl (by kernel_rfl) (by kernel_rfl) (by kernel_rfl) (fun _ _ _ h => h) (Or.inl ⟨by rfl, ?_⟩) (by assumption) ?_
  rotate_left
  · (intro w hSw; (try dsimp only at hSw); go_simp; (try with_reducible rfl))
  (try simp only [Act.put, List.setIfInBounds_toArray, List.set_cons_zero, List.set_cons_succ])
  refine wpAnyH_take (i := 2) (oi := ⟨some 75, _, _, _, _, _⟩) (v := ?_) rfl (by kernel_rfl) (by kernel_rfl) (by kernel_rfl) (fun _ _ _ h => h) (Or.inl ⟨by rfl, ?_⟩) (by assumption) ?_
  rotate_left
  · (intro w hSw; (try dsimp only at hSw); go_simp; (try with_reducible rfl))
  (try simp only [Act.put, List.setIfInBounds_toArray, List.set_cons_zero, List.set_cons_succ])
  refine wpAnyH_take (i := 3) (oi := ⟨some 76, _, _, _, _, _⟩) (v := ?_) rfl (by kernel_rfl) (by kernel_rfl) (by kernel_rfl) (fun _ _ _ h => h) (Or.inl ⟨by rfl, ?_⟩) (by assumption) ?_
  rotate_left
  · (intro w hSw; (try dsimp only at hSw); go_simp; (try with_reducible rfl))
  (try simp only [Act.put, List.setIfInBounds_toArray, List.set_cons_zero, List.set_cons_succ])
  refine wpAnyH_ready (rs := [1]) (by kernel_rfl) (by simp) ?_
  refine AllReadyH.cons (o := ⟨some 74, _, _, _, _, _⟩) rfl (fun K hK => ?_) AllReadyH.nil
  go_simp
  (go_at_call 32; refine (RoundMissing_r (O3.out.st (Dr.st ⟨1, rfl⟩)) FP.out).mono ?_; rintro e wb ⟨A10, n10, c10, rfl, o10, s10⟩; have S10 := St.trans (Dr.st ⟨1, rfl⟩) s10)
  (first | (refine hK.out _ _ ?_ (fun hH1 => ?_)) | (go_wp2_with fail; refine hK.out _ _ ?_ (fun hH1 => ?_)))
  · exact ⟨S10.cell x0, S10.cell x1, S10.cell x2, S10.cell p1, S10.cell y0, S10.cell y1, S10.cell y2, S10.cell z0, S10.cell z1, S10.cell z2⟩
  clear hK K hH0
  (try simp only [Act.put, List.setIfInBounds_toArray, List.set_cons_zero, List.set_cons_succ])
  refine wpAnyH_ready (rs := [4]) (by kernel_rfl) (by simp) ?_
  refine AllReadyH.cons (o := ⟨some 77, _, _, _, _, _⟩) rfl (fun K hK => ?_) AllReadyH.nil
  go_simp
  (go_at_call 35; refine (hasInt_any _ _ _ _ _ _ _ o10.ri (by have := o10.len; have := rdMiss_le M xs ps; omega)).mono ?_; rintro e w11 ⟨rfl, rfl⟩; rw [HLW.out.2.1])
  (first | (refine hK.out _ _ ?_ (fun hH2 => ?_)) | (go_wp2_with fail; refine hK.out _ _ ?_ (fun hH2 => ?_)))
  · exact ⟨S10.cell x0, S10.cell x1, S10.cell x2, S10.cell p1, S10.cell y0, S10.cell y1, S10.cell y2, S10.cell z0, S10.cell z1, S10.cell z2⟩
  clear hK K hH1
  (try simp only [Act.put, List.setIfInBounds_toArray, List.set_cons_zero, List.set_cons_succ])
  refine wpAnyH_take (i := 5) (oi := ⟨some 78, _, _, _, _, _⟩) (v := ?_) rfl (by kernel_rfl) (by kernel_rfl) (by kernel_rfl) (fun _ _ _ h => h) (Or.inl ⟨by rfl, ?_⟩) (by assumption) ?_
  rotate_left
  · (intro w hSw; (try dsimp only at hSw); go_simp; (try with_reducible rfl))
  (try simp only [Act.put, List.setIfInBounds_toArray, List.set_cons_zero, List.set_cons_succ])
  refine wpAnyH_take (i := 6) (oi := ⟨some 79, _, _, _, _, _⟩) (v := ?_) rfl (by kernel_rfl) (by kernel_rfl) (by kernel_rfl) (fun _ _ _ h => h) (Or.inl ⟨by rfl, ?_⟩) (by assumption) ?_
  rotate_left
  · (intro w hSw; (try dsimp only at hSw); go_simp; (try with_reducible rfl))
  (try simp only [Act.put, List.setIfInBounds_toArray, List.set_cons_zero, List.set_cons_succ])
  refine wpAnyH_take (i := 7) (oi := ⟨some 80, _, _, _, _, _⟩) (v := ?_) rfl (by kernel_rfl) (by kernel_rfl) (by kernel_rfl) (fun _ _ _ h => h) (Or.inl ⟨by rfl, ?_⟩) (by assumption) ?_
  rotate_left
  · (intro w hSw; (try dsimp only at hSw); go_simp; (try with_reducible rfl))
  (try simp only [Act.put, List.setIfInBounds_toArray, List.set_cons_zero, List.set_cons_succ])
  refine wpAnyH_take (i := 9) (oi := ⟨some 82, _, _, _, _, _⟩) (v := ?_) rfl (by kernel_rfl) (by kernel_rfl) (by kernel_rfl) (fun _ _ _ h => h) (Or.inl ⟨by rfl, ?_⟩) (by assumption) ?_
  rotate_left
  · (intro w hSw; (try dsimp only at hSw); go_simp; (try with_reducible rfl))
  (try simp only [Act.put, List.setIfInBounds_toArray, List.set_cons_zero, List.set_cons_succ])
  refine wpAnyH_take (i := 10) (oi := ⟨some 83, _, _, _, _, _⟩) (v := ?_) rfl (by kernel_rfl) (by kernel_rfl) (by kernel_rfl) (fun _ _ _ h => h) (Or.inl ⟨by rfl, ?_⟩) (by assumption) ?_
  rotate_left
  · (intro w hSw; (try dsimp only at hSw); go_simp; (try with_reducible rfl))
  (try simp only [Act.put, List.setIfInBounds_toArray, List.set_cons_zero, List.set_cons_succ])
  refine wpAnyH_ready (rs := [8]) (by kernel_rfl) (by simp) ?_
  refine AllReadyH.cons (o := ⟨some 81, _, _, _, _, _⟩) rfl (fun K hK => ?_) AllReadyH.nil
  go_simp
  (go_at_call 32; refine (RoundMissing_r (I.out.st S10) F.out).mono ?_; rintro e wc ⟨A12, n12, c12, rfl, o12, s12⟩; have S12 := St.trans S10 s12)
  (first | (refine hK.out _ _ ?_ (fun hH3 => ?_)) | (go_wp2_with fail; refine hK.out _ _ ?_ (fun hH3 => ?_)))
  · exact ⟨S12.cell x0, S12.cell x1, S12.cell x2, S12.cell p1, S12.cell y0, S12.cell y1, S12.cell y2, S12.cell z0, S12.cell z1, S12.cell z2⟩
  clear hK K hH2
  (try simp only [Act.put, List.setIfInBounds_toArray, List.set_cons_zero, List.set_cons_succ])
  refine wpAnyH_ready (rs := [11]) (by kernel_rfl) (by simp) ?_
  refine AllReadyH.cons (o := ⟨some 84, _, _, _, _, _⟩) rfl (fun K hK => ?_) AllReadyH.nil
  go_simp
  (go_at_call 35; refine (hasInt_any _ _ _ _ _ _ _ o12.ri (by have := o12.len; have := rdMiss_le M xs ss; omega)).mono ?_; rintro e w13 ⟨rfl, rfl⟩; rw [HM.out])
  (first | (refine hK.out _ _ ?_ (fun hH4 => ?_)) | (go_wp2_with fail; refine hK.out _ _ ?_ (fun hH4 => ?_)))
  · exact ⟨S12.cell x0, S12.cell x1, S12.cell x2, S12.cell p1, S12.cell y0, S12.cell y1, S12.cell y2, S12.cell z0, S12.cell z1, S12.cell z2⟩
  clear hK K hH3
  (try simp only [Act.put, List.setIfInBounds_toArray, List.set_cons_zero, List.set_cons_succ])
  refine wpAnyH_take (i := 12) (oi := ⟨some 85, _, _, _, _, _⟩) (v := ?_) rfl (by kernel_rfl) (by kernel_rfl) (by kernel_rfl) (fun _ _ _ h => h) (Or.inl ⟨by rfl, ?_⟩) (by assumption) ?_
  rotate_left
  · (intro w hSw; (try dsimp only at hSw); go_simp; (try with_reducible rfl))
  (try simp only [Act.put, List.setIfInBounds_toArray, List.set_cons_zero, List.set_cons_succ])
  refine wpAnyH_take (i := 13) (oi := ⟨some 86, _, _, _, _, _⟩) (v := ?_) rfl (by kernel_rfl) (by kernel_rfl) (by kernel_rfl) (fun _ _ _ h => h) (Or.inl ⟨by rfl, ?_⟩) (by assumption) ?_
  rotate_left
  · (intro w hSw; (try dsimp only at hSw); go_simp; (try with_reducible rfl))
  (try simp only [Act.put, List.setIfInBounds_toArray, List.set_cons_zero, List.set_cons_succ])
  refine wpAnyH_take (i := 14) (oi := ⟨some 87, _, _, _, _, _⟩) (v := ?_) rfl (by kernel_rfl) (by kernel_rfl) (by kernel_rfl) (fun _ _ _ h => h) (Or.inl ⟨by rfl, ?_⟩) (by assumption) ?_
  rotate_left
  · (intro w hSw; (try dsimp only at hSw); go_simp; (try with_reducible rfl))
  (try simp only [Act.put, List.setIfInBounds_toArray, List.set_cons_zero, List.set_cons_succ])
  refine wpAnyH_take (i := 15) (oi := ⟨some 88, _, _, _, _, _⟩) (v := ?_) rfl (by kernel_rfl) (by kernel_rfl) (by kernel_rfl) (fun _ _ _ h => h) (Or.inl ⟨by rfl, ?_⟩) (by assumption) ?_
  rotate_left
  · (intro w hSw; (try dsimp only at hSw); go_simp; (try with_reducible rfl))
  (try simp only [Act.put, List.setIfInBounds_toArray, List.set_cons_zero, List.set_cons_succ])
  refine wpAnyH_take (i := 16) (oi := ⟨some 89, _, _, _, _, _⟩) (v := ?_) rfl (by kernel_rfl) (by kernel_rfl) (by kernel_rfl) (fun _ _ _ h => h) (Or.inl ⟨by rfl, ?_⟩) (by assumption) ?_
  rotate_left
  · (intro w hSw; (try dsimp only at hSw); go_simp; (try with_reducible rfl))
  (try simp only [Act.put, List.setIfInBounds_toArray, List.set_cons_zero, List.set_cons_succ])
  refine wpAnyH_take (i := 17) (oi := ⟨some 90, _, _, _, _, _⟩) (v := ?_) rfl (by kernel_rfl) (by kernel_rfl) (by kernel_rfl) (fun _ _ _ h => h) (Or.inl ⟨by rfl, ?_⟩) (by assumption) ?_
  rotate_left
  · (intro w hSw; (try dsimp only at hSw); go_simp; (try with_reducible rfl))
  (try simp only [Act.put, List.setIfInBounds_toArray, List.set_cons_zero, List.set_cons_succ])
  refine wpAnyH_take (i := 18) (oi := ⟨some 91, _, _, _, _, _⟩) (v := ?_) rfl (by kernel_rfl) (by kernel_rfl) (by kernel_rfl) (fun _ _ _ h => h) (Or.inl ⟨by rfl, ?_⟩) (by assumption) ?_
  rotate_left
  · (intro w hSw; (try dsimp only at hSw); go_simp; (try with_reducible rfl))
  (try simp only [Act.put, List.setIfInBounds_toArray, List.set_cons_zero, List.set_cons_succ])
  refine wpAnyH_take (i := 19) (oi := ⟨some 92, _, _, _, _, _⟩) (v := ?_) rfl (by kernel_rfl) (by kernel_rfl) (by kernel_rfl) (fun _ _ _ h => h) (Or.inl ⟨by rfl, ?_⟩) (by assumption) ?_
  rotate_left
  · (intro w hSw; (try dsimp only at hSw); go_simp; (try with_reducible rfl))
  (try simp only [Act.put, List.setIfInBounds_toArray, List.set_cons_zero, List.set_cons_succ])
  refine wpAnyH_ready (rs := [20]) (by kernel_rfl) (by simp) ?_
  refine AllReadyH.cons (o := ⟨some 93, _, _, _, _, _⟩) rfl (fun K hK => ?_) AllReadyH.nil
  go_simp
  (go_at_call 29; refine (sameRound_same (O9.out.st S12) (O3.out.st S12) FP.out).mono ?_; rintro e wd ⟨rfl, s14⟩; have S14 := St.trans S12 s14)
  (first | (refine hK.out _ _ ?_ (fun hH5 => ?_)) | (go_wp2_with fail; refine hK.out _ _ ?_ (fun hH5 => ?_)))
  · exact ⟨S14.cell x0, S14.cell x1, S14.cell x2, S14.cell p1, S14.cell y0, S14.cell y1, S14.cell y2, S14.cell z0, S14.cell z1, S14.cell z2⟩
  clear hK K hH4
  (try simp only [Act.put, List.setIfInBounds_toArray, List.set_cons_zero, List.set_cons_succ])
  refine wpAnyH_take (i := 21) (oi := ⟨some 94, _, _, _, _, _⟩) (v := ?_) rfl (by kernel_rfl) (by kernel_rfl) (by kernel_rfl) (fun _ _ _ h => h) (Or.inl ⟨by rfl, ?_⟩) (by assumption) ?_
  rotate_left
  · (intro w hSw; (try dsimp only at hSw); go_simp; (try with_reducible rfl))
  (try simp only [Act.put, List.setIfInBounds_toArray, List.set_cons_zero, List.set_cons_succ])
  refine wpAnyH_take (i := 22) (oi := ⟨some 95, _, _, _, _, _⟩) (v := ?_) rfl (by kernel_rfl) (by kernel_rfl) (by kernel_rfl) (fun _ _ _ h => h) (Or.inl ⟨by rfl, ?_⟩) (by assumption) ?_
  rotate_left
  · (intro w hSw; (try dsimp only at hSw); go_simp; (try with_reducible rfl))
  (try simp only [Act.put, List.setIfInBounds_toArray, List.set_cons_zero, List.set_cons_succ])
  refine wpAnyH_take (i := 23) (oi := ⟨some 96, _, _, _, _, _⟩) (v := ?_) rfl (by kernel_rfl) (by kernel_rfl) (by kernel_rfl) (fun _ _ _ h => h) (Or.inl ⟨by rfl, ?_⟩) (by assumption) ?_
  rotate_left
  · (intro w hSw; (try dsimp only at hSw); go_simp; (try with_reducible rfl))
  (try simp only [Act.put, List.setIfInBounds_toArray, List.set_cons_zero, List.set_cons_succ])
  refine wpAnyH_ready (rs := [24]) (by kernel_rfl) (by simp) ?_
  refine AllReadyH.cons (o := ⟨some 97, _, _, _, _, _⟩) rfl (fun K hK => ?_) AllReadyH.nil
  go_simp
  (go_at_call 27; refine (RoundValid_r (O3.out.st S14) FP.out).mono ?_; rintro e we ⟨rfl, s16⟩; rw [HLW.out.1])
  (first | (refine hK.out _ _ ?_ (fun hH6 => ?_)) | (go_wp2_with fail; refine hK.out _ _ ?_ (fun hH6 => ?_)))
  · exact ⟨s16.cell (S14.cell x0), s16.cell (S14.cell x1), s16.cell (S14.cell x2), s16.cell (S14.cell p1), s16.cell (S14.cell y0), s16.cell (S14.cell y1), s16.cell (S14.cell y2), s16.cell (S14.cell z0), s16.cell (S14.cell z1), s16.cell (S14.cell z2)⟩
  clear hK K hH5
  (try simp only [Act.put, List.setIfInBounds_toArray, List.set_cons_zero, List.set_cons_succ])
  refine wpAnyH_take (i := 25) (oi := ⟨some 98, _, _, _, _, _⟩) (v := ?_) rfl (by kernel_rfl) (by kernel_rfl) (by kernel_rfl) (fun _ _ _ h => h) (Or.inl ⟨by rfl, ?_⟩) (by assumption) ?_
  rotate_left
  · (intro w hSw; (try dsimp only at hSw); go_simp; (try with_reducible rfl))
  (try simp only [Act.put, List.setIfInBounds_toArray, List.set_cons_zero, List.set_cons_succ])
  refine wpAnyH_take (i := 26) (oi := ⟨some 4, _, _, _, _, _⟩) (v := ?_) rfl (by kernel_rfl) (by kernel_rfl) (by kernel_rfl) (fun _ _ _ h => h) (Or.inl ⟨by rfl, ?_⟩) (by assumption) ?_
  rotate_left
  · (intro w hSw; (try dsimp only at hSw); go_simp; (try with_reducible rfl))
  (try simp only [Act.put, List.setIfInBounds_toArray, List.set_cons_zero, List.set_cons_succ])
  refine wpAnyH_done (by kernel_rfl) ?_ _
  clear hH6
  go_wp2_with fail
  go_ret
  exact ⟨rfl, (S.out.trans S14).trans s16⟩
end Go.Proofs.Ytldclkjknhjbfaa
