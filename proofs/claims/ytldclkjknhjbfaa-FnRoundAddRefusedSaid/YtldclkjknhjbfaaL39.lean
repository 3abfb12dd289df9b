/- FnRoundAddRefused returns true. -/
import Derived.Test.YtldclkjknhjbfaaRd15
import Derived.Test.YtldclkjknhjbfaaDrawRd5
import Derived.Test.YtldclkjknhjbfaaSameRd
namespace Go.Proofs.Ytldclkjknhjbfaa
open Go.RowKit Go.Sort
set_option maxRecDepth 100000 in
set_option maxHeartbeats 4000000 in
theorem walkRoundAddRefused (A : Option Addr) (n c : Nat) (bs : List Nat) {w : World} (h : RB w w.heap.size A n bs) (hnc : n ≤ c ∧ c ≤ maxLen) :
    Calls Try.prog 13 #[.slice A n c] w fun e w' => e = .returned (.bool true) ∧ Below w.heap.size w w' := by
  obtain ⟨hnc, hcm⟩ := hnc
  have HCM := hid hcm
  clear hcm
  by_cases hn : 1048576 < n
  · have hn : (1048576 : Int) < (n : Int) := by omega
    go_enter Try.func13, Try.ntmps13
    go_wp2_with fail
    go_ret
    exact ⟨rfl, Below.refl _ _⟩
  have hni : ¬ (1048576 : Int) < (n : Int) := by omega
  go_enter Try.func13, Try.ntmps13
  go_wp2_with fail
  refine (DrawRoundAdd_any _ _ _ _ _ h (by omega) hnc HCM.out).mono ?_
  rintro e w1 ⟨M, A1, n1, c1, B1, q1, d1, xs, ss, t, g, rfl, i1, f1, hn1, hq1, s1⟩
  have a1 := ((St.refl w1).alloc (.cells #[.int .i64 M, .slice A1 n1 c1, .slice B1 q1 d1] 25)).alloc (.cells #[.int .i64 t, .int .i64 g] 45)
  have K2 := (Blk.new w1 25 #[.int .i64 M, .slice A1 n1 c1, .slice B1 q1 d1]).alloc (.cells #[.int .i64 t, .int .i64 g] 45)
  have P2 := blk_second w1 (.cells #[.int .i64 M, .slice A1 n1 c1, .slice B1 q1 d1] 25) 45 #[.int .i64 t, .int .i64 g]
  have x0 := K2.cell_ (i := 0) (v := .int .i64 M) rfl
  have x1 := K2.cell_ (i := 1) (v := .slice A1 n1 c1) rfl
  have x2 := K2.cell_ (i := 2) (v := .slice B1 q1 d1) rfl
  have p0 := P2.cell_ (i := 0) (v := .int .i64 t) rfl
  have p1 := P2.cell_ (i := 1) (v := .int .i64 g) rfl
  have I := hid (i1.st a1)
  have S := hid (s1.trans a1)
  have F := hid f1
  have FT := hid (ra_fit (M := M) (xs := xs) (ss := ss) (t, g) (by have := f1.n; have := f1.m; have := i1.sl.len; have := i1.sh.len; omega))
  obtain ⟨m3, hm3⟩ : ∃ v, raM M xs ss (t, g) = v := ⟨_, rfl⟩
  obtain ⟨ys, hys⟩ : ∃ v, raXs M xs ss (t, g) = v := ⟨_, rfl⟩
  obtain ⟨ps, hps⟩ : ∃ v, raSs M xs ss (t, g) = v := ⟨_, rfl⟩
  obtain ⟨ok, hok⟩ : ∃ v, raOk M xs ss (t, g) = v := ⟨_, rfl⟩
  obtain ⟨va, hva⟩ : ∃ v, rdValid M xs ss = v := ⟨_, rfl⟩
  obtain ⟨vs, hvs⟩ : ∃ v, stOk (t, g) = v := ⟨_, rfl⟩
  rw [hys, hps] at FT
  have HE := hid (And.intro hm3 (And.intro hys (And.intro hps (And.intro hok (And.intro hva hvs)))))
  clear a1 K2 P2 i1 s1 f1 hm3 hys hps hok hva hvs
  go_wp2_with fail
  generalize (w1.alloc (.cells #[.int .i64 M, .slice A1 n1 c1, .slice B1 q1 d1] 25)).alloc (.cells #[.int .i64 t, .int .i64 g] 45) = w2 at x0 x1 x2 p0 p1 I S ⊢
  refine (RoundAdd_r t g I.out F.out).mono ?_
  rintro e w3 ⟨A3, n3, c3, B3, q3, d3, rfl, o3, s3⟩
  rw [HE.out.1, HE.out.2.1, HE.out.2.2.1] at o3
  rw [HE.out.1, HE.out.2.2.2.1]
  have O3 := hid o3.rd
  have t3 := s3.alloc (.cells #[.int .i64 m3, .slice A3 n3 c3, .slice B3 q3 d3] 25)
  have u3 := (St.refl w3).alloc (.cells #[.int .i64 m3, .slice A3 n3 c3, .slice B3 q3 d3] 25)
  have Y3 := Blk.new w3 25 #[.int .i64 m3, .slice A3 n3 c3, .slice B3 q3 d3]
  replace I := hid (I.out.st t3)
  replace S := hid (S.out.st t3)
  replace x0 := t3.cell x0
  replace x1 := t3.cell x1
  replace x2 := t3.cell x2
  replace p0 := t3.cell p0
  replace p1 := t3.cell p1
  replace O3 := hid (O3.out.st u3)
  have y0 := Y3.cell_ (i := 0) (v := .int .i64 m3) rfl
  have y1 := Y3.cell_ (i := 1) (v := .slice A3 n3 c3) rfl
  have y2 := Y3.cell_ (i := 2) (v := .slice B3 q3 d3) rfl
  clear o3 s3 t3 u3 Y3
  go_wp2_with fail
  generalize w3.alloc (.cells #[.int .i64 m3, .slice A3 n3 c3, .slice B3 q3 d3] 25) = w4 at x0 x1 x2 p0 p1 y0 y1 y2 I S O3 ⊢
  refine (specRoundAdd_r t g I.out F.out).mono ?_
  rintro e w5 ⟨A5, n5, c5, B5, q5, d5, rfl, o5, s5⟩
  rw [HE.out.1, HE.out.2.1, HE.out.2.2.1] at o5
  rw [HE.out.1, HE.out.2.2.2.1]
  have O5 := hid o5.rd
  have t5 := s5.alloc (.cells #[.int .i64 m3, .slice A5 n5 c5, .slice B5 q5 d5] 25)
  have u5 := (St.refl w5).alloc (.cells #[.int .i64 m3, .slice A5 n5 c5, .slice B5 q5 d5] 25)
  have Z5 := Blk.new w5 25 #[.int .i64 m3, .slice A5 n5 c5, .slice B5 q5 d5]
  replace I := hid (I.out.st t5)
  replace S := hid (S.out.st t5)
  replace O3 := hid (O3.out.st t5)
  replace x0 := t5.cell x0
  replace x1 := t5.cell x1
  replace x2 := t5.cell x2
  replace p0 := t5.cell p0
  replace p1 := t5.cell p1
  replace y0 := t5.cell y0
  replace y1 := t5.cell y1
  replace y2 := t5.cell y2
  replace O5 := hid (O5.out.st u5)
  have z0 := Z5.cell_ (i := 0) (v := .int .i64 m3) rfl
  have z1 := Z5.cell_ (i := 1) (v := .slice A5 n5 c5) rfl
  have z2 := Z5.cell_ (i := 2) (v := .slice B5 q5 d5) rfl
  have hoo : (ok == ok) = true := by simp
  have hon : (ok != ok) = false := by simp
  clear o5 s5 t5 u5 Z5
  go_wp2_with fail
  generalize w5.alloc (.cells #[.int .i64 m3, .slice A5 n5 c5, .slice B5 q5 d5] 25) = w6 at x0 x1 x2 p0 p1 y0 y1 y2 z0 z1 z2 I S O3 O5 ⊢
  refine (sameRound_same O3.out O5.out FT.out).mono ?_
  rintro e w7 ⟨rfl, s7⟩
  replace I := hid (I.out.st s7)
  replace S := hid (S.out.st s7)
  replace O3 := hid (O3.out.st s7)
  replace O5 := hid (O5.out.st s7)
  replace x0 := s7.cell x0
  replace x1 := s7.cell x1
  replace x2 := s7.cell x2
  replace p0 := s7.cell p0
  replace p1 := s7.cell p1
  replace y0 := s7.cell y0
  replace y1 := s7.cell y1
  replace y2 := s7.cell y2
  replace z0 := s7.cell z0
  replace z1 := s7.cell z1
  replace z2 := s7.cell z2
  clear s7
  go_wp2_with fail
  refine (specRoundValid_r I.out F.out).mono ?_
  rintro e w8 ⟨rfl, s8⟩
  replace I := hid (I.out.st s8)
  replace S := hid (S.out.st s8)
  replace O3 := hid (O3.out.st s8)
  replace O5 := hid (O5.out.st s8)
  replace x0 := s8.cell x0
  replace x1 := s8.cell x1
  replace x2 := s8.cell x2
  replace p0 := s8.cell p0
  replace p1 := s8.cell p1
  replace y0 := s8.cell y0
  replace y1 := s8.cell y1
  replace y2 := s8.cell y2
  replace z0 := s8.cell z0
  replace z1 := s8.cell z1
  replace z2 := s8.cell z2
  clear s8
  rw [HE.out.2.2.2.2.1]
  cases va
  · go_wp2_with fail
    refine (sameRound_same O3.out O5.out FT.out).mono ?_
    rintro e w9 ⟨rfl, s9⟩
    replace S := hid (S.out.st s9)
    go_wp2_with fail
    go_ret
    exact ⟨rfl, S.out⟩
  go_wp2_with fail
  refine (specStampValid_any t g _).mono ?_
  rintro e w9 ⟨rfl, s9⟩
  replace I := hid (I.out.st s9)
  replace S := hid (S.out.st s9)
  replace O3 := hid (O3.out.st s9)
  replace O5 := hid (O5.out.st s9)
  replace x0 := s9.cell x0
  replace x1 := s9.cell x1
  replace x2 := s9.cell x2
  replace p0 := s9.cell p0
  replace p1 := s9.cell p1
  replace y0 := s9.cell y0
  replace y1 := s9.cell y1
  replace y2 := s9.cell y2
  replace z0 := s9.cell z0
  replace z1 := s9.cell z1
  replace z2 := s9.cell z2
  clear s9
  rw [HE.out.2.2.2.2.2]
  cases vs
  · go_wp2_with fail
    refine (sameRound_same O3.out O5.out FT.out).mono ?_
    rintro e w10 ⟨rfl, s10⟩
    replace S := hid (S.out.st s10)
    go_wp2_with fail
    go_ret
    exact ⟨rfl, S.out⟩
  have hl := refused_law (M := M) (s := (t, g)) HE.out.2.2.2.2.1 HE.out.2.2.2.2.2
  rw [HE.out.1, HE.out.2.1, HE.out.2.2.1, HE.out.2.2.2.1] at hl
  obtain ⟨hl1, hm, hx, hl4⟩ := hl
  replace hm := hm.symm
  replace hx := hx.symm
  subst hm hx
  have hb : Hid (has (rdMiss M xs ss) g = ok) := by
    have := hl1
    simp only [beq_iff_eq] at this
    exact this.symm
  cases ok
  · have hp := (hl4 rfl).symm
    subst hp
    clear hl1 hl4 hoo hon z0 z1 z2
    go_wp2_with fail
    refine wp_region_held_drew (S := (fun w' => w'.cell? ⟨w1.heap.size, 0, none⟩ = some (.int .i64 M) ∧ w'.cell? ⟨w1.heap.size, 1, none⟩ = some (.slice A1 n1 c1) ∧ w'.cell? ⟨w1.heap.size, 2, none⟩ = some (.slice B1 q1 d1) ∧ w'.cell? ⟨w1.heap.size + 1, 1, none⟩ = some (.int .i64 g) ∧ w'.cell? ⟨w3.heap.size, 0, none⟩ = some (.int .i64 M) ∧ w'.cell? ⟨w3.heap.size, 1, none⟩ = some (.slice A3 n3 c3) ∧ w'.cell? ⟨w3.heap.size, 2, none⟩ = some (.slice B3 q3 d3))) (by kernel_rfl) ?_ (fun hH0 => ?_)
    · exact ⟨x0, x1, x2, p1, y0, y1, y2⟩
    refine wpAnyH_take (i := 0) (oi := ⟨some 56, _, _, _, _, _⟩) (v := ?_) rfl (by kernel_rfl) (by kernel_rfl) (by kernel_rfl) (fun _ _ _ h => h) (Or.inl ⟨by rfl, ?_⟩) (by assumption) ?_
    rotate_left
    · (intro w hSw; (try dsimp only at hSw); go_simp; (try with_reducible rfl))
    (try simp only [Act.put, List.setIfInBounds_toArray, List.set_cons_zero, List.set_cons_succ])
    refine wpAnyH_take (i := 1) (oi := ⟨some 57, _, _, _, _, _⟩) (v := ?_) rfl (by kernel_rfl) (by kernel_rfl) (by kernel_rfl) (fun _ _ _ h => h) (Or.inl ⟨by rfl, ?_⟩) (by assumption) ?_
    rotate_left
    · (intro w hSw; (try dsimp only at hSw); go_simp; (try with_reducible rfl))
    (try simp only [Act.put, List.setIfInBounds_toArray, List.set_cons_zero, List.set_cons_succ])
    refine wpAnyH_take (i := 3) (oi := ⟨some 59, _, _, _, _, _⟩) (v := ?_) rfl (by kernel_rfl) (by kernel_rfl) (by kernel_rfl) (fun _ _ _ h => h) (Or.inl ⟨by rfl, ?_⟩) (by assumption) ?_
    rotate_left
    · (intro w hSw; (try dsimp only at hSw); go_simp; (try with_reducible rfl))
    (try simp only [Act.put, List.setIfInBounds_toArray, List.set_cons_zero, List.set_cons_succ])
    refine wpAnyH_take (i := 4) (oi := ⟨some 60, _, _, _, _, _⟩) (v := ?_) rfl (by kernel_rfl) (by kernel_rfl) (by kernel_rfl) (fun _ _ _ h => h) (Or.inl ⟨by rfl, ?_⟩) (by assumption) ?_
    rotate_left
    · (intro w hSw; (try dsimp only at hSw); go_simp; (try with_reducible rfl))
    (try simp only [Act.put, List.setIfInBounds_toArray, List.set_cons_zero, List.set_cons_succ])
    refine wpAnyH_ready (rs := [2]) (by kernel_rfl) (by simp) ?_
    refine AllReadyH.cons (o := ⟨some 58, _, _, _, _, _⟩) rfl (fun K hK => ?_) AllReadyH.nil
    go_simp
    go_at_call 32; refine (RoundMissing_r (I.out.st (Dr.st ⟨1, rfl⟩)) F.out).mono ?_; rintro e w10 ⟨A10, n10, c10, rfl, o10, s10⟩; have S10 := St.trans (Dr.st ⟨1, rfl⟩) s10
    (first | (refine hK.out _ _ ?_ (fun hH1 => ?_)) | (go_wp2_with fail; refine hK.out _ _ ?_ (fun hH1 => ?_)))
    · exact ⟨s10.cell x0, s10.cell x1, s10.cell x2, s10.cell p1, s10.cell y0, s10.cell y1, s10.cell y2⟩
    clear hK K hH0
    (try simp only [Act.put, List.setIfInBounds_toArray, List.set_cons_zero, List.set_cons_succ])
    refine wpAnyH_ready (rs := [5]) (by kernel_rfl) (by simp) ?_
    refine AllReadyH.cons (o := ⟨some 61, _, _, _, _, _⟩) rfl (fun K hK => ?_) AllReadyH.nil
    go_simp
    go_at_call 35; refine (hasInt_any _ _ _ _ _ _ _ o10.ri (by have := o10.len; have := rdMiss_le M xs ss; omega)).mono ?_; rintro e w11 ⟨rfl, rfl⟩; rw [hb.out]
    (first | (refine hK.out _ _ ?_ (fun hH2 => ?_)) | (go_wp2_with fail; refine hK.out _ _ ?_ (fun hH2 => ?_)))
    · exact ⟨s10.cell x0, s10.cell x1, s10.cell x2, s10.cell p1, s10.cell y0, s10.cell y1, s10.cell y2⟩
    clear hK K hH1
    (try simp only [Act.put, List.setIfInBounds_toArray, List.set_cons_zero, List.set_cons_succ])
    refine wpAnyH_take (i := 6) (oi := ⟨some 62, _, _, _, _, _⟩) (v := ?_) rfl (by kernel_rfl) (by kernel_rfl) (by kernel_rfl) (fun _ _ _ h => h) (Or.inl ⟨by rfl, ?_⟩) (by assumption) ?_
    rotate_left
    · (intro w hSw; (try dsimp only at hSw); go_simp; (try with_reducible rfl))
    (try simp only [Act.put, List.setIfInBounds_toArray, List.set_cons_zero, List.set_cons_succ])
    refine wpAnyH_take (i := 7) (oi := ⟨some 63, _, _, _, _, _⟩) (v := ?_) rfl (by kernel_rfl) (by kernel_rfl) (by kernel_rfl) (fun _ _ _ h => h) (Or.inl ⟨by rfl, ?_⟩) (by assumption) ?_
    rotate_left
    · (intro w hSw; (try dsimp only at hSw); go_simp; (try with_reducible rfl))
    (try simp only [Act.put, List.setIfInBounds_toArray, List.set_cons_zero, List.set_cons_succ])
    refine wpAnyH_take (i := 8) (oi := ⟨some 64, _, _, _, _, _⟩) (v := ?_) rfl (by kernel_rfl) (by kernel_rfl) (by kernel_rfl) (fun _ _ _ h => h) (Or.inl ⟨by rfl, ?_⟩) (by assumption) ?_
    rotate_left
    · (intro w hSw; (try dsimp only at hSw); go_simp; (try with_reducible rfl))
    (try simp only [Act.put, List.setIfInBounds_toArray, List.set_cons_zero, List.set_cons_succ])
    refine wpAnyH_take (i := 9) (oi := ⟨some 65, _, _, _, _, _⟩) (v := ?_) rfl (by kernel_rfl) (by kernel_rfl) (by kernel_rfl) (fun _ _ _ h => h) (Or.inl ⟨by rfl, ?_⟩) (by assumption) ?_
    rotate_left
    · (intro w hSw; (try dsimp only at hSw); go_simp; (try with_reducible rfl))
    (try simp only [Act.put, List.setIfInBounds_toArray, List.set_cons_zero, List.set_cons_succ])
    refine wpAnyH_take (i := 10) (oi := ⟨some 66, _, _, _, _, _⟩) (v := ?_) rfl (by kernel_rfl) (by kernel_rfl) (by kernel_rfl) (fun _ _ _ h => h) (Or.inl ⟨by rfl, ?_⟩) (by assumption) ?_
    rotate_left
    · (intro w hSw; (try dsimp only at hSw); go_simp; (try with_reducible rfl))
    (try simp only [Act.put, List.setIfInBounds_toArray, List.set_cons_zero, List.set_cons_succ])
    refine wpAnyH_take (i := 11) (oi := ⟨some 67, _, _, _, _, _⟩) (v := ?_) rfl (by kernel_rfl) (by kernel_rfl) (by kernel_rfl) (fun _ _ _ h => h) (Or.inl ⟨by rfl, ?_⟩) (by assumption) ?_
    rotate_left
    · (intro w hSw; (try dsimp only at hSw); go_simp; (try with_reducible rfl))
    (try simp only [Act.put, List.setIfInBounds_toArray, List.set_cons_zero, List.set_cons_succ])
    refine wpAnyH_ready (rs := [12]) (by kernel_rfl) (by simp) ?_
    refine AllReadyH.cons (o := ⟨some 68, _, _, _, _, _⟩) rfl (fun K hK => ?_) AllReadyH.nil
    go_simp
    go_at_call 29; refine (sameRound_same (O3.out.st S10) (I.out.st S10) F.out).mono ?_; rintro e w12 ⟨rfl, s12⟩
    (first | (refine hK.out _ _ ?_ (fun hH3 => ?_)) | (go_wp2_with fail; refine hK.out _ _ ?_ (fun hH3 => ?_)))
    · exact ⟨s12.cell (s10.cell x0), s12.cell (s10.cell x1), s12.cell (s10.cell x2), s12.cell (s10.cell p1), s12.cell (s10.cell y0), s12.cell (s10.cell y1), s12.cell (s10.cell y2)⟩
    clear hK K hH2
    (try simp only [Act.put, List.setIfInBounds_toArray, List.set_cons_zero, List.set_cons_succ])
    refine wpAnyH_take (i := 13) (oi := ⟨some 69, _, _, _, _, _⟩) (v := ?_) rfl (by kernel_rfl) (by kernel_rfl) (by kernel_rfl) (fun _ _ _ h => h) (Or.inl ⟨by rfl, ?_⟩) (by assumption) ?_
    rotate_left
    · (intro w hSw; (try dsimp only at hSw); go_simp; (try with_reducible rfl))
    (try simp only [Act.put, List.setIfInBounds_toArray, List.set_cons_zero, List.set_cons_succ])
    refine wpAnyH_take (i := 14) (oi := ⟨some 70, _, _, _, _, _⟩) (v := ?_) rfl (by kernel_rfl) (by kernel_rfl) (by kernel_rfl) (fun _ _ _ h => h) (Or.inl ⟨by rfl, ?_⟩) (by assumption) ?_
    rotate_left
    · (intro w hSw; (try dsimp only at hSw); go_simp; (try with_reducible rfl))
    (try simp only [Act.put, List.setIfInBounds_toArray, List.set_cons_zero, List.set_cons_succ])
    refine wpAnyH_take (i := 15) (oi := ⟨some 2, _, _, _, _, _⟩) (v := ?_) rfl (by kernel_rfl) (by kernel_rfl) (by kernel_rfl) (fun _ _ _ h => h) (Or.inl ⟨by rfl, ?_⟩) (by assumption) ?_
    rotate_left
    · (intro w hSw; (try dsimp only at hSw); go_simp; (try with_reducible rfl))
    (try simp only [Act.put, List.setIfInBounds_toArray, List.set_cons_zero, List.set_cons_succ])
    refine wpAnyH_done (by kernel_rfl) ?_ _
    clear hH3
    go_wp2_with fail
    go_ret
    exact ⟨rfl, (S.out.trans S10).trans s12⟩
  · clear hl1 hl4 hoo hon z0 z1 z2
    go_wp2_with fail
    refine wp_region_held_drew (S := (fun w' => w'.cell? ⟨w1.heap.size, 0, none⟩ = some (.int .i64 M) ∧ w'.cell? ⟨w1.heap.size, 1, none⟩ = some (.slice A1 n1 c1) ∧ w'.cell? ⟨w1.heap.size, 2, none⟩ = some (.slice B1 q1 d1) ∧ w'.cell? ⟨w1.heap.size + 1, 1, none⟩ = some (.int .i64 g) ∧ w'.cell? ⟨w3.heap.size, 0, none⟩ = some (.int .i64 M) ∧ w'.cell? ⟨w3.heap.size, 1, none⟩ = some (.slice A3 n3 c3) ∧ w'.cell? ⟨w3.heap.size, 2, none⟩ = some (.slice B3 q3 d3))) (by kernel_rfl) ?_ (fun hH0 => ?_)
    · exact ⟨x0, x1, x2, p1, y0, y1, y2⟩
    refine wpAnyH_take (i := 0) (oi := ⟨some 56, _, _, _, _, _⟩) (v := ?_) rfl (by kernel_rfl) (by kernel_rfl) (by kernel_rfl) (fun _ _ _ h => h) (Or.inl ⟨by rfl, ?_⟩) (by assumption) ?_
    rotate_left
    · (intro w hSw; (try dsimp only at hSw); go_simp; (try with_reducible rfl))
    (try simp only [Act.put, List.setIfInBounds_toArray, List.set_cons_zero, List.set_cons_succ])
    refine wpAnyH_take (i := 1) (oi := ⟨some 57, _, _, _, _, _⟩) (v := ?_) rfl (by kernel_rfl) (by kernel_rfl) (by kernel_rfl) (fun _ _ _ h => h) (Or.inl ⟨by rfl, ?_⟩) (by assumption) ?_
    rotate_left
    · (intro w hSw; (try dsimp only at hSw); go_simp; (try with_reducible rfl))
    (try simp only [Act.put, List.setIfInBounds_toArray, List.set_cons_zero, List.set_cons_succ])
    refine wpAnyH_take (i := 3) (oi := ⟨some 59, _, _, _, _, _⟩) (v := ?_) rfl (by kernel_rfl) (by kernel_rfl) (by kernel_rfl) (fun _ _ _ h => h) (Or.inl ⟨by rfl, ?_⟩) (by assumption) ?_
    rotate_left
    · (intro w hSw; (try dsimp only at hSw); go_simp; (try with_reducible rfl))
    (try simp only [Act.put, List.setIfInBounds_toArray, List.set_cons_zero, List.set_cons_succ])
    refine wpAnyH_take (i := 4) (oi := ⟨some 60, _, _, _, _, _⟩) (v := ?_) rfl (by kernel_rfl) (by kernel_rfl) (by kernel_rfl) (fun _ _ _ h => h) (Or.inl ⟨by rfl, ?_⟩) (by assumption) ?_
    rotate_left
    · (intro w hSw; (try dsimp only at hSw); go_simp; (try with_reducible rfl))
    (try simp only [Act.put, List.setIfInBounds_toArray, List.set_cons_zero, List.set_cons_succ])
    refine wpAnyH_ready (rs := [2]) (by kernel_rfl) (by simp) ?_
    refine AllReadyH.cons (o := ⟨some 58, _, _, _, _, _⟩) rfl (fun K hK => ?_) AllReadyH.nil
    go_simp
    go_at_call 32; refine (RoundMissing_r (I.out.st (Dr.st ⟨1, rfl⟩)) F.out).mono ?_; rintro e w10 ⟨A10, n10, c10, rfl, o10, s10⟩; have S10 := St.trans (Dr.st ⟨1, rfl⟩) s10
    (first | (refine hK.out _ _ ?_ (fun hH1 => ?_)) | (go_wp2_with fail; refine hK.out _ _ ?_ (fun hH1 => ?_)))
    · exact ⟨s10.cell x0, s10.cell x1, s10.cell x2, s10.cell p1, s10.cell y0, s10.cell y1, s10.cell y2⟩
    clear hK K hH0
    (try simp only [Act.put, List.setIfInBounds_toArray, List.set_cons_zero, List.set_cons_succ])
    refine wpAnyH_ready (rs := [5]) (by kernel_rfl) (by simp) ?_
    refine AllReadyH.cons (o := ⟨some 61, _, _, _, _, _⟩) rfl (fun K hK => ?_) AllReadyH.nil
    go_simp
    go_at_call 35; refine (hasInt_any _ _ _ _ _ _ _ o10.ri (by have := o10.len; have := rdMiss_le M xs ss; omega)).mono ?_; rintro e w11 ⟨rfl, rfl⟩; rw [hb.out]
    (first | (refine hK.out _ _ ?_ (fun hH2 => ?_)) | (go_wp2_with fail; refine hK.out _ _ ?_ (fun hH2 => ?_)))
    · exact ⟨s10.cell x0, s10.cell x1, s10.cell x2, s10.cell p1, s10.cell y0, s10.cell y1, s10.cell y2⟩
    clear hK K hH1
    (try simp only [Act.put, List.setIfInBounds_toArray, List.set_cons_zero, List.set_cons_succ])
    refine wpAnyH_take (i := 6) (oi := ⟨some 62, _, _, _, _, _⟩) (v := ?_) rfl (by kernel_rfl) (by kernel_rfl) (by kernel_rfl) (fun _ _ _ h => h) (Or.inl ⟨by rfl, ?_⟩) (by assumption) ?_
    rotate_left
    · (intro w hSw; (try dsimp only at hSw); go_simp; (try with_reducible rfl))
    (try simp only [Act.put, List.setIfInBounds_toArray, List.set_cons_zero, List.set_cons_succ])
    refine wpAnyH_take (i := 7) (oi := ⟨some 63, _, _, _, _, _⟩) (v := ?_) rfl (by kernel_rfl) (by kernel_rfl) (by kernel_rfl) (fun _ _ _ h => h) (Or.inl ⟨by rfl, ?_⟩) (by assumption) ?_
    rotate_left
    · (intro w hSw; (try dsimp only at hSw); go_simp; (try with_reducible rfl))
    (try simp only [Act.put, List.setIfInBounds_toArray, List.set_cons_zero, List.set_cons_succ])
    refine wpAnyH_take (i := 8) (oi := ⟨some 64, _, _, _, _, _⟩) (v := ?_) rfl (by kernel_rfl) (by kernel_rfl) (by kernel_rfl) (fun _ _ _ h => h) (Or.inl ⟨by rfl, ?_⟩) (by assumption) ?_
    rotate_left
    · (intro w hSw; (try dsimp only at hSw); go_simp; (try with_reducible rfl))
    (try simp only [Act.put, List.setIfInBounds_toArray, List.set_cons_zero, List.set_cons_succ])
    refine wpAnyH_take (i := 9) (oi := ⟨some 65, _, _, _, _, _⟩) (v := ?_) rfl (by kernel_rfl) (by kernel_rfl) (by kernel_rfl) (fun _ _ _ h => h) (Or.inl ⟨by rfl, ?_⟩) (by assumption) ?_
    rotate_left
    · (intro w hSw; (try dsimp only at hSw); go_simp; (try with_reducible rfl))
    (try simp only [Act.put, List.setIfInBounds_toArray, List.set_cons_zero, List.set_cons_succ])
    refine wpAnyH_take (i := 10) (oi := ⟨some 66, _, _, _, _, _⟩) (v := undef) rfl (by kernel_rfl) (by kernel_rfl) (by kernel_rfl) (fun _ _ _ h => h) (Or.inr ⟨by rfl, rfl⟩) (by assumption) ?_
    (try simp only [Act.put, List.setIfInBounds_toArray, List.set_cons_zero, List.set_cons_succ])
    refine wpAnyH_take (i := 11) (oi := ⟨some 67, _, _, _, _, _⟩) (v := undef) rfl (by kernel_rfl) (by kernel_rfl) (by kernel_rfl) (fun _ _ _ h => h) (Or.inr ⟨by rfl, rfl⟩) (by assumption) ?_
    (try simp only [Act.put, List.setIfInBounds_toArray, List.set_cons_zero, List.set_cons_succ])
    refine wpAnyH_take (i := 12) (oi := ⟨some 68, _, _, _, _, _⟩) (v := undef) rfl (by kernel_rfl) (by kernel_rfl) (by kernel_rfl) (fun _ _ _ h => h) (Or.inr ⟨by rfl, rfl⟩) (by assumption) ?_
    (try simp only [Act.put, List.setIfInBounds_toArray, List.set_cons_zero, List.set_cons_succ])
    refine wpAnyH_take (i := 13) (oi := ⟨some 69, _, _, _, _, _⟩) (v := ?_) rfl (by kernel_rfl) (by kernel_rfl) (by kernel_rfl) (fun _ _ _ h => h) (Or.inl ⟨by rfl, ?_⟩) (by assumption) ?_
    rotate_left
    · (intro w hSw; (try dsimp only at hSw); go_simp; (try with_reducible rfl))
    (try simp only [Act.put, List.setIfInBounds_toArray, List.set_cons_zero, List.set_cons_succ])
    refine wpAnyH_take (i := 14) (oi := ⟨some 70, _, _, _, _, _⟩) (v := ?_) rfl (by kernel_rfl) (by kernel_rfl) (by kernel_rfl) (fun _ _ _ h => h) (Or.inl ⟨by rfl, ?_⟩) (by assumption) ?_
    rotate_left
    · (intro w hSw; (try dsimp only at hSw); go_simp; (try with_reducible rfl))
    (try simp only [Act.put, List.setIfInBounds_toArray, List.set_cons_zero, List.set_cons_succ])
    refine wpAnyH_take (i := 15) (oi := ⟨some 2, _, _, _, _, _⟩) (v := ?_) rfl (by kernel_rfl) (by kernel_rfl) (by kernel_rfl) (fun _ _ _ h => h) (Or.inl ⟨by rfl, ?_⟩) (by assumption) ?_
    rotate_left
    · (intro w hSw; (try dsimp only at hSw); go_simp; (try with_reducible rfl))
    (try simp only [Act.put, List.setIfInBounds_toArray, List.set_cons_zero, List.set_cons_succ])
    refine wpAnyH_done (by kernel_rfl) ?_ _
    clear hH2
    go_wp2_with fail
    go_ret
    exact ⟨rfl, S.out.trans S10⟩
end Go.Proofs.Ytldclkjknhjbfaa
