/- FnExactRoundAdd returns true. -/
import Derived.Test.YtldclkjknhjbfaaRd16
import Derived.Deep.Cut
namespace Go.Proofs.Ytldclkjknhjbfaa
open Go.RowKit Go.Sort
set_option maxRecDepth 100000 in
set_option maxHeartbeats 8000000 in
theorem walkExactRoundAdd (M : Int) (A : Option Addr) (n c : Nat) (B : Option Addr) (m d : Nat) (xs : List Int) (ss : List (Int × Int)) (t g : Int) {w : World} (hf0 : SL w A n c xs) (hf1 : SS w B m d ss) :
    Calls Try.prog 14 #[rdV M A n c B m d, .agg #[.int .i64 t, .int .i64 g]] w fun e w' => e = .returned (.bool true) ∧ Below w.heap.size w w' := by
  have s0 := ((St.refl w).alloc (.cells #[.int .i64 M, .slice A n c, .slice B m d] 36)).alloc (.cells #[.int .i64 t, .int .i64 g] 59)
  have K0 := (Blk.new w 36 #[.int .i64 M, .slice A n c, .slice B m d]).alloc (.cells #[.int .i64 t, .int .i64 g] 59)
  have P0 := blk_second w (.cells #[.int .i64 M, .slice A n c, .slice B m d] 36) 59 #[.int .i64 t, .int .i64 g]
  have x0 := K0.cell_ (i := 0) (v := .int .i64 M) rfl
  have x1 := K0.cell_ (i := 1) (v := .slice A n c) rfl
  have x2 := K0.cell_ (i := 2) (v := .slice B m d) rfl
  have p0 := P0.cell_ (i := 0) (v := .int .i64 t) rfl
  have p1 := P0.cell_ (i := 1) (v := .int .i64 g) rfl
  have hR0 : RdRd w M A n c B m d xs ss := ⟨hf0, hf1⟩
  have R := hid (hR0.st s0)
  have S := hid s0
  have HSZ := hid (show w.heap.size + 2 = ((w.alloc (.cells #[.int .i64 M, .slice A n c, .slice B m d] 36)).alloc (.cells #[.int .i64 t, .int .i64 g] 59)).heap.size by rw [World.heap_alloc_size', World.heap_alloc_size'])
  clear K0 P0 s0 hf0 hf1
  obtain ⟨mr, hmr⟩ : ∃ v, raM M xs ss (t, g) = v := ⟨_, rfl⟩
  obtain ⟨ys, hys⟩ : ∃ v, raXs M xs ss (t, g) = v := ⟨_, rfl⟩
  obtain ⟨ps, hps⟩ : ∃ v, raSs M xs ss (t, g) = v := ⟨_, rfl⟩
  obtain ⟨ok, hok⟩ : ∃ v, raOk M xs ss (t, g) = v := ⟨_, rfl⟩
  have HE := hid (And.intro hmr (And.intro hys (And.intro hps hok)))
  clear hmr hys hps hok
  go_enter Try.func14, Try.ntmps14
  go_wp2_with fail
  generalize (w.alloc (.cells #[.int .i64 M, .slice A n c, .slice B m d] 36)).alloc (.cells #[.int .i64 t, .int .i64 g] 59) = w1 at x0 x1 x2 p0 p1 R S HSZ ⊢
  refine (rd_sz R.out).mono ?_
  rintro e w2 ⟨⟨r, rfl, hr⟩, s2⟩
  have HSZ2 := hid (show w.heap.size + 2 ≤ w2.heap.size by have h1 := HSZ.out; have h2 := s2.le; omega)
  replace R := hid (R.out.st s2)
  replace S := hid (S.out.st s2)
  replace x0 := s2.cell x0
  replace x1 := s2.cell x1
  replace x2 := s2.cell x2
  replace p0 := s2.cell p0
  replace p1 := s2.cell p1
  clear s2
  by_cases hz : r < 0
  · go_wp2_with fail
    go_ret
    exact ⟨rfl, S.out⟩
  have hF := hr.resolve_left hz
  have HF := hid hF
  have FT := hid (show FitRd ys ps by have h1 := ra_fit2 M xs ss (t, g); rw [HE.out.2.1, HE.out.2.2.1] at h1; exact h1)
  clear hr hF
  go_upto_region 5 with (fail)
  have sA := (Dr.st ⟨1, rfl⟩ : St w2 (w2.drewN 1))
  have sB := sA.alloc (.cells #[.int .i64 0, .slice none 0 0, .slice none 0 0] 25)
  go_cut [6, 7] from 16 (fun s6 s7 wx => ∃ (bb : Nat) (Ab : Option Addr) (nb cb : Nat) (Bb : Option Addr) (qb db : Nat), s6 = .pointer (some ⟨bb, 0, none⟩) ∧ s7 = .bool ok ∧ Hid (RBk w2 wx bb mr Ab nb cb Bb qb db ys ps))
  case first =>
    refine wp_region_held_drew (S := (fun w' => w'.cell? ⟨w.heap.size, 0, none⟩ = some (.int .i64 M) ∧ w'.cell? ⟨w.heap.size, 1, none⟩ = some (.slice A n c) ∧ w'.cell? ⟨w.heap.size, 2, none⟩ = some (.slice B m d) ∧ w'.cell? ⟨w.heap.size + 1, 0, none⟩ = some (.int .i64 t) ∧ w'.cell? ⟨w.heap.size + 1, 1, none⟩ = some (.int .i64 g))) (by kernel_rfl) ?_ (fun hH0 => ?_)
    · exact ⟨x0, x1, x2, p0, p1⟩
    refine wpAnyH_take (i := 0) (oi := ⟨some 22, _, _, _, _, _⟩) (v := ?_) rfl (by kernel_rfl) (by kernel_rfl) (by kernel_rfl) (fun _ _ _ h => h) (Or.inl ⟨by rfl, ?_⟩) (by assumption) ?_
    rotate_left
    · (intro w hSw; (try dsimp only at hSw); go_simp; (try with_reducible rfl))
    (try simp only [Act.put, List.setIfInBounds_toArray, List.set_cons_zero, List.set_cons_succ])
    refine wpAnyH_take (i := 2) (oi := ⟨some 24, _, _, _, _, _⟩) (v := ?_) rfl (by kernel_rfl) (by kernel_rfl) (by kernel_rfl) (fun _ _ _ h => h) (Or.inl ⟨by rfl, ?_⟩) (by assumption) ?_
    rotate_left
    · (intro w hSw; (try dsimp only at hSw); go_simp; (try with_reducible rfl))
    (try simp only [Act.put, List.setIfInBounds_toArray, List.set_cons_zero, List.set_cons_succ])
    refine wpAnyH_ready (rs := [1, 8]) (by kernel_rfl) (by simp) ?_
    refine AllReadyH.cons (o := ⟨some 23, _, _, _, _, _⟩) rfl (fun K hK => ?_) ?_
    · skip
      go_simp
      (go_at_call 26; refine (rd_to (R.out.st (by first | exact sA | exact sB)) HF.out).mono ?_; rintro e wa ⟨Aa, na, ca, Ba, ma, da, rfl, oa, twa⟩; have Twa : St w2 wa := (by first | exact St.trans sA twa | exact St.trans (St.alloc sA (.cells #[.int .i64 0, .slice none 0 0, .slice none 0 0] 25)) twa); have RA := hid oa.rd)
      (first | (refine hK.out _ _ ?_ (fun hH1 => ?_)) | (go_wp2_with fail; refine hK.out _ _ ?_ (fun hH1 => ?_)))
      · exact ⟨(Twa).cell x0, (Twa).cell x1, (Twa).cell x2, (Twa).cell p0, (Twa).cell p1⟩
      clear hK K hH0
      (try simp only [Act.put, List.setIfInBounds_toArray, List.set_cons_zero, List.set_cons_succ])
      refine wpAnyH_ready (rs := [3, 8]) (by kernel_rfl) (by simp) ?_
      refine AllReadyH.cons (o := ⟨some 25, _, _, _, _, _⟩) rfl (fun K hK => ?_) ?_
      · skip
        go_simp
        (go_at_call 46; refine (toStamp_any t g _).mono ?_; rintro e wb ⟨rfl, twb⟩; have Twb : St w2 wb := (by first | exact St.trans Twa twb | exact St.trans (St.alloc Twa (.cells #[.int .i64 0, .slice none 0 0, .slice none 0 0] 25)) twb); have RB1 := hid (show RdRd wb M Aa na ca Ba ma da xs ss by first | exact RA.out.st twb | exact (RA.out.st ((St.refl wa).alloc (.cells #[.int .i64 0, .slice none 0 0, .slice none 0 0] 25))).st twb))
        (first | (refine hK.out _ _ ?_ (fun hH2 => ?_)) | (go_wp2_with fail; refine hK.out _ _ ?_ (fun hH2 => ?_)))
        · exact ⟨(Twb).cell x0, (Twb).cell x1, (Twb).cell x2, (Twb).cell p0, (Twb).cell p1⟩
        clear hK K hH1
        (try simp only [Act.put, List.setIfInBounds_toArray, List.set_cons_zero, List.set_cons_succ])
        refine wpAnyH_ready (rs := [4, 8]) (by kernel_rfl) (by simp) ?_
        refine AllReadyH.cons (o := ⟨some 26, _, _, _, _, _⟩) rfl (fun K hK => ?_) ?_
        · skip
          go_simp
          (go_at_call 38; refine (specRoundAdd_r t g (show RdRd _ M Aa na ca Ba ma da xs ss by first | exact RB1.out | exact RB1.out.st ((St.refl wb).alloc (.cells #[.int .i64 0, .slice none 0 0, .slice none 0 0] 25))) HF.out).mono ?_; rintro e wc ⟨Ac, nc, cc, Bc, qc, dc, rfl, oc, twc⟩; rw [HE.out.1, HE.out.2.1, HE.out.2.2.1] at oc; rw [HE.out.1, HE.out.2.2.2]; have Twc : St w2 wc := (by first | exact St.trans Twb twc | exact St.trans (St.alloc Twb (.cells #[.int .i64 0, .slice none 0 0, .slice none 0 0] 25)) twc))
          (first | (refine hK.out _ _ ?_ (fun hH3 => ?_)) | (go_wp2_with fail; refine hK.out _ _ ?_ (fun hH3 => ?_)))
          · exact ⟨(Twc).cell x0, (Twc).cell x1, (Twc).cell x2, (Twc).cell p0, (Twc).cell p1⟩
          clear hK K hH2
          (try simp only [Act.put, List.setIfInBounds_toArray, List.set_cons_zero, List.set_cons_succ])
          refine wpAnyH_take (i := 5) (oi := ⟨some 21, _, _, _, _, _⟩) (v := ?_) rfl (by kernel_rfl) (by kernel_rfl) (by kernel_rfl) (fun _ _ _ h => h) (Or.inl ⟨by rfl, ?_⟩) (by assumption) ?_
          rotate_left
          · (intro w hSw; (try dsimp only at hSw); go_simp; (try with_reducible rfl))
          (try simp only [Act.put, List.setIfInBounds_toArray, List.set_cons_zero, List.set_cons_succ])
          refine wpAnyH_take (i := 6) (oi := ⟨some 27, _, _, _, _, _⟩) (v := ?_) rfl (by kernel_rfl) (by kernel_rfl) (by kernel_rfl) (fun _ _ _ h => h) (Or.inl ⟨by rfl, ?_⟩) (by assumption) ?_
          rotate_left
          · (intro w hSw; (try dsimp only at hSw); go_simp; (try with_reducible rfl))
          (try simp only [Act.put, List.setIfInBounds_toArray, List.set_cons_zero, List.set_cons_succ])
          refine wpAnyH_take (i := 7) (oi := ⟨some 28, _, _, _, _, _⟩) (v := ?_) rfl (by kernel_rfl) (by kernel_rfl) (by kernel_rfl) (fun _ _ _ h => h) (Or.inl ⟨by rfl, ?_⟩) (by assumption) ?_
          rotate_left
          · (intro w hSw; (try dsimp only at hSw); go_simp; (try with_reducible rfl))
          (try simp only [Act.put, List.setIfInBounds_toArray, List.set_cons_zero, List.set_cons_succ])
          refine wpAnyH_ready (rs := [8]) (by kernel_rfl) (by simp) ?_
          refine AllReadyH.cons (o := ⟨some 6, _, _, _, _, _⟩) rfl (fun K hK => ?_) AllReadyH.nil
          go_simp; have KZ := hid (Blk.new wc 25 #[.int .i64 0, .slice none 0 0, .slice none 0 0]); have z0 := KZ.out.cell_ (i := 0) (v := .int .i64 0) rfl; have z1 := KZ.out.cell_ (i := 1) (v := .slice none 0 0) rfl; have z2 := KZ.out.cell_ (i := 2) (v := .slice none 0 0) rfl; have f0 := KZ.out.frozen 0; have f1 := KZ.out.frozen 1; have f2 := KZ.out.frozen 2; have RX := hid (RBk.last (W1 := w2) Twc oc (by first | exact Nat.le_refl _ | exact Twa.le | exact Twb.le | (exact Nat.le_trans Twa.le (Nat.le_refl _))))
          (first | (refine hK.out _ _ ?_ (fun hH4 => ?_)) | (go_wp2_with fail; refine hK.out _ _ ?_ (fun hH4 => ?_)))
          · exact ⟨(Twc.alloc (.cells #[.int .i64 0, .slice none 0 0, .slice none 0 0] 25)).cell x0, (Twc.alloc (.cells #[.int .i64 0, .slice none 0 0, .slice none 0 0] 25)).cell x1, (Twc.alloc (.cells #[.int .i64 0, .slice none 0 0, .slice none 0 0] 25)).cell x2, (Twc.alloc (.cells #[.int .i64 0, .slice none 0 0, .slice none 0 0] 25)).cell p0, (Twc.alloc (.cells #[.int .i64 0, .slice none 0 0, .slice none 0 0] 25)).cell p1⟩
          clear hK K hH3
          (try simp only [Act.put, List.setIfInBounds_toArray, List.set_cons_zero, List.set_cons_succ])
          refine wpAnyH_ready (rs := [9]) (by kernel_rfl) (by simp) ?_
          refine AllReadyH.cons (o := ⟨none, _, _, _, _, _⟩) rfl (fun K hK => ?_) AllReadyH.nil
          go_simp
          (first | (refine hK.out _ _ ?_ (fun hH5 => ?_)) | (go_wp2_with fail; refine hK.out _ _ ?_ (fun hH5 => ?_)))
          · exact ⟨RX.out.cell x0, RX.out.cell x1, RX.out.cell x2, RX.out.cell p0, RX.out.cell p1⟩
          clear hK K hH4
          (try simp only [Act.put, List.setIfInBounds_toArray, List.set_cons_zero, List.set_cons_succ])
          refine wpAnyH_take (i := 10) (oi := ⟨some 7, _, _, _, _, _⟩) (v := ?_) rfl (by kernel_rfl) (by kernel_rfl) (by kernel_rfl) (fun _ _ _ h => h) (Or.inl ⟨by rfl, ?_⟩) (by assumption) ?_
          rotate_left
          · (intro w hSw; (try dsimp only at hSw); go_simp; (try with_reducible rfl))
          (try simp only [Act.put, List.setIfInBounds_toArray, List.set_cons_zero, List.set_cons_succ])
          refine wpAnyH_done (by kernel_rfl) ?_ _
          clear hH5
          go_wp2_with fail
          go_meet
          exact ⟨_, _, _, _, _, _, _, rfl, rfl, hid RX.out⟩
        refine AllReadyH.cons (o := ⟨some 6, _, _, _, _, _⟩) rfl (fun K hK => ?_) ?_
        · skip
          go_simp; have KZ := hid (Blk.new wb 25 #[.int .i64 0, .slice none 0 0, .slice none 0 0]); have z0 := KZ.out.cell_ (i := 0) (v := .int .i64 0) rfl; have z1 := KZ.out.cell_ (i := 1) (v := .slice none 0 0) rfl; have z2 := KZ.out.cell_ (i := 2) (v := .slice none 0 0) rfl; have f0 := KZ.out.frozen 0; have f1 := KZ.out.frozen 1; have f2 := KZ.out.frozen 2
          (first | (refine hK.out _ _ ?_ (fun hH3 => ?_)) | (go_wp2_with fail; refine hK.out _ _ ?_ (fun hH3 => ?_)))
          · exact ⟨(Twb.alloc (.cells #[.int .i64 0, .slice none 0 0, .slice none 0 0] 25)).cell x0, (Twb.alloc (.cells #[.int .i64 0, .slice none 0 0, .slice none 0 0] 25)).cell x1, (Twb.alloc (.cells #[.int .i64 0, .slice none 0 0, .slice none 0 0] 25)).cell x2, (Twb.alloc (.cells #[.int .i64 0, .slice none 0 0, .slice none 0 0] 25)).cell p0, (Twb.alloc (.cells #[.int .i64 0, .slice none 0 0, .slice none 0 0] 25)).cell p1⟩
          clear hK K hH2
          (try simp only [Act.put, List.setIfInBounds_toArray, List.set_cons_zero, List.set_cons_succ])
          refine wpAnyH_ready (rs := [4]) (by kernel_rfl) (by simp) ?_
          refine AllReadyH.cons (o := ⟨some 26, _, _, _, _, _⟩) rfl (fun K hK => ?_) AllReadyH.nil
          go_simp
          (have hzl := KZ.out.lt; go_at_call 38; refine (specRoundAdd_r t g (show RdRd _ M Aa na ca Ba ma da xs ss by first | exact RB1.out | exact RB1.out.st ((St.refl wb).alloc (.cells #[.int .i64 0, .slice none 0 0, .slice none 0 0] 25))) HF.out).mono ?_; rintro e wc ⟨Ac, nc, cc, Bc, qc, dc, rfl, oc, twc⟩; rw [HE.out.1, HE.out.2.1, HE.out.2.2.1] at oc; rw [HE.out.1, HE.out.2.2.2]; have Twc : St w2 wc := (by first | exact St.trans Twb twc | exact St.trans (St.alloc Twb (.cells #[.int .i64 0, .slice none 0 0, .slice none 0 0] 25)) twc); have KZ := hid (KZ.out.st twc); clear z0 z1 z2 f0 f1 f2; have z0 := KZ.out.cell_ (i := 0) (v := .int .i64 0) rfl; have z1 := KZ.out.cell_ (i := 1) (v := .slice none 0 0) rfl; have z2 := KZ.out.cell_ (i := 2) (v := .slice none 0 0) rfl; have f0 := KZ.out.frozen 0; have f1 := KZ.out.frozen 1; have f2 := KZ.out.frozen 2; have RX := hid (RBk.sets (W1 := w2) Twc oc KZ.out (by first | exact Nat.le_refl _ | exact Twa.le | exact Twb.le) hzl rfl))
          (first | (refine hK.out _ _ ?_ (fun hH4 => ?_)) | (go_wp2_with fail; refine hK.out _ _ ?_ (fun hH4 => ?_)))
          · exact ⟨(Twc).cell x0, (Twc).cell x1, (Twc).cell x2, (Twc).cell p0, (Twc).cell p1⟩
          clear hK K hH3
          (try simp only [Act.put, List.setIfInBounds_toArray, List.set_cons_zero, List.set_cons_succ])
          refine wpAnyH_take (i := 5) (oi := ⟨some 21, _, _, _, _, _⟩) (v := ?_) rfl (by kernel_rfl) (by kernel_rfl) (by kernel_rfl) (fun _ _ _ h => h) (Or.inl ⟨by rfl, ?_⟩) (by assumption) ?_
          rotate_left
          · (intro w hSw; (try dsimp only at hSw); go_simp; (try with_reducible rfl))
          (try simp only [Act.put, List.setIfInBounds_toArray, List.set_cons_zero, List.set_cons_succ])
          refine wpAnyH_take (i := 6) (oi := ⟨some 27, _, _, _, _, _⟩) (v := ?_) rfl (by kernel_rfl) (by kernel_rfl) (by kernel_rfl) (fun _ _ _ h => h) (Or.inl ⟨by rfl, ?_⟩) (by assumption) ?_
          rotate_left
          · (intro w hSw; (try dsimp only at hSw); go_simp; (try with_reducible rfl))
          (try simp only [Act.put, List.setIfInBounds_toArray, List.set_cons_zero, List.set_cons_succ])
          refine wpAnyH_take (i := 7) (oi := ⟨some 28, _, _, _, _, _⟩) (v := ?_) rfl (by kernel_rfl) (by kernel_rfl) (by kernel_rfl) (fun _ _ _ h => h) (Or.inl ⟨by rfl, ?_⟩) (by assumption) ?_
          rotate_left
          · (intro w hSw; (try dsimp only at hSw); go_simp; (try with_reducible rfl))
          (try simp only [Act.put, List.setIfInBounds_toArray, List.set_cons_zero, List.set_cons_succ])
          refine wpAnyH_ready (rs := [9]) (by kernel_rfl) (by simp) ?_
          refine AllReadyH.cons (o := ⟨none, _, _, _, _, _⟩) rfl (fun K hK => ?_) AllReadyH.nil
          go_simp
          (first | (refine hK.out _ _ ?_ (fun hH5 => ?_)) | (go_wp2_with fail; refine hK.out _ _ ?_ (fun hH5 => ?_)))
          · exact ⟨RX.out.cell x0, RX.out.cell x1, RX.out.cell x2, RX.out.cell p0, RX.out.cell p1⟩
          clear hK K hH4
          (try simp only [Act.put, List.setIfInBounds_toArray, List.set_cons_zero, List.set_cons_succ])
          refine wpAnyH_take (i := 10) (oi := ⟨some 7, _, _, _, _, _⟩) (v := ?_) rfl (by kernel_rfl) (by kernel_rfl) (by kernel_rfl) (fun _ _ _ h => h) (Or.inl ⟨by rfl, ?_⟩) (by assumption) ?_
          rotate_left
          · (intro w hSw; (try dsimp only at hSw); go_simp; (try with_reducible rfl))
          (try simp only [Act.put, List.setIfInBounds_toArray, List.set_cons_zero, List.set_cons_succ])
          refine wpAnyH_done (by kernel_rfl) ?_ _
          clear hH5
          go_wp2_with fail
          go_meet
          exact ⟨_, _, _, _, _, _, _, rfl, rfl, hid RX.out⟩
        exact AllReadyH.nil
      refine AllReadyH.cons (o := ⟨some 6, _, _, _, _, _⟩) rfl (fun K hK => ?_) ?_
      · skip
        go_simp; have KZ := hid (Blk.new wa 25 #[.int .i64 0, .slice none 0 0, .slice none 0 0]); have z0 := KZ.out.cell_ (i := 0) (v := .int .i64 0) rfl; have z1 := KZ.out.cell_ (i := 1) (v := .slice none 0 0) rfl; have z2 := KZ.out.cell_ (i := 2) (v := .slice none 0 0) rfl; have f0 := KZ.out.frozen 0; have f1 := KZ.out.frozen 1; have f2 := KZ.out.frozen 2
        (first | (refine hK.out _ _ ?_ (fun hH2 => ?_)) | (go_wp2_with fail; refine hK.out _ _ ?_ (fun hH2 => ?_)))
        · exact ⟨(Twa.alloc (.cells #[.int .i64 0, .slice none 0 0, .slice none 0 0] 25)).cell x0, (Twa.alloc (.cells #[.int .i64 0, .slice none 0 0, .slice none 0 0] 25)).cell x1, (Twa.alloc (.cells #[.int .i64 0, .slice none 0 0, .slice none 0 0] 25)).cell x2, (Twa.alloc (.cells #[.int .i64 0, .slice none 0 0, .slice none 0 0] 25)).cell p0, (Twa.alloc (.cells #[.int .i64 0, .slice none 0 0, .slice none 0 0] 25)).cell p1⟩
        clear hK K hH1
        (try simp only [Act.put, List.setIfInBounds_toArray, List.set_cons_zero, List.set_cons_succ])
        refine wpAnyH_ready (rs := [3]) (by kernel_rfl) (by simp) ?_
        refine AllReadyH.cons (o := ⟨some 25, _, _, _, _, _⟩) rfl (fun K hK => ?_) AllReadyH.nil
        go_simp
        (have hzl := KZ.out.lt; go_at_call 46; refine (toStamp_any t g _).mono ?_; rintro e wb ⟨rfl, twb⟩; have Twb : St w2 wb := (by first | exact St.trans Twa twb | exact St.trans (St.alloc Twa (.cells #[.int .i64 0, .slice none 0 0, .slice none 0 0] 25)) twb); have RB1 := hid (show RdRd wb M Aa na ca Ba ma da xs ss by first | exact RA.out.st twb | exact (RA.out.st ((St.refl wa).alloc (.cells #[.int .i64 0, .slice none 0 0, .slice none 0 0] 25))).st twb); have KZ := hid (KZ.out.st twb); clear z0 z1 z2 f0 f1 f2; have z0 := KZ.out.cell_ (i := 0) (v := .int .i64 0) rfl; have z1 := KZ.out.cell_ (i := 1) (v := .slice none 0 0) rfl; have z2 := KZ.out.cell_ (i := 2) (v := .slice none 0 0) rfl; have f0 := KZ.out.frozen 0; have f1 := KZ.out.frozen 1; have f2 := KZ.out.frozen 2)
        (first | (refine hK.out _ _ ?_ (fun hH3 => ?_)) | (go_wp2_with fail; refine hK.out _ _ ?_ (fun hH3 => ?_)))
        · exact ⟨(Twb).cell x0, (Twb).cell x1, (Twb).cell x2, (Twb).cell p0, (Twb).cell p1⟩
        clear hK K hH2
        (try simp only [Act.put, List.setIfInBounds_toArray, List.set_cons_zero, List.set_cons_succ])
        refine wpAnyH_ready (rs := [4]) (by kernel_rfl) (by simp) ?_
        refine AllReadyH.cons (o := ⟨some 26, _, _, _, _, _⟩) rfl (fun K hK => ?_) AllReadyH.nil
        go_simp
        (have hzl := KZ.out.lt; go_at_call 38; refine (specRoundAdd_r t g (show RdRd _ M Aa na ca Ba ma da xs ss by first | exact RB1.out | exact RB1.out.st ((St.refl wb).alloc (.cells #[.int .i64 0, .slice none 0 0, .slice none 0 0] 25))) HF.out).mono ?_; rintro e wc ⟨Ac, nc, cc, Bc, qc, dc, rfl, oc, twc⟩; rw [HE.out.1, HE.out.2.1, HE.out.2.2.1] at oc; rw [HE.out.1, HE.out.2.2.2]; have Twc : St w2 wc := (by first | exact St.trans Twb twc | exact St.trans (St.alloc Twb (.cells #[.int .i64 0, .slice none 0 0, .slice none 0 0] 25)) twc); have KZ := hid (KZ.out.st twc); clear z0 z1 z2 f0 f1 f2; have z0 := KZ.out.cell_ (i := 0) (v := .int .i64 0) rfl; have z1 := KZ.out.cell_ (i := 1) (v := .slice none 0 0) rfl; have z2 := KZ.out.cell_ (i := 2) (v := .slice none 0 0) rfl; have f0 := KZ.out.frozen 0; have f1 := KZ.out.frozen 1; have f2 := KZ.out.frozen 2; have RX := hid (RBk.sets (W1 := w2) Twc oc KZ.out (by first | exact Nat.le_refl _ | exact Twa.le | exact Twb.le) hzl rfl))
        (first | (refine hK.out _ _ ?_ (fun hH4 => ?_)) | (go_wp2_with fail; refine hK.out _ _ ?_ (fun hH4 => ?_)))
        · exact ⟨(Twc).cell x0, (Twc).cell x1, (Twc).cell x2, (Twc).cell p0, (Twc).cell p1⟩
        clear hK K hH3
        (try simp only [Act.put, List.setIfInBounds_toArray, List.set_cons_zero, List.set_cons_succ])
        refine wpAnyH_take (i := 5) (oi := ⟨some 21, _, _, _, _, _⟩) (v := ?_) rfl (by kernel_rfl) (by kernel_rfl) (by kernel_rfl) (fun _ _ _ h => h) (Or.inl ⟨by rfl, ?_⟩) (by assumption) ?_
        rotate_left
        · (intro w hSw; (try dsimp only at hSw); go_simp; (try with_reducible rfl))
        (try simp only [Act.put, List.setIfInBounds_toArray, List.set_cons_zero, List.set_cons_succ])
        refine wpAnyH_take (i := 6) (oi := ⟨some 27, _, _, _, _, _⟩) (v := ?_) rfl (by kernel_rfl) (by kernel_rfl) (by kernel_rfl) (fun _ _ _ h => h) (Or.inl ⟨by rfl, ?_⟩) (by assumption) ?_
        rotate_left
        · (intro w hSw; (try dsimp only at hSw); go_simp; (try with_reducible rfl))
        (try simp only [Act.put, List.setIfInBounds_toArray, List.set_cons_zero, List.set_cons_succ])
        refine wpAnyH_take (i := 7) (oi := ⟨some 28, _, _, _, _, _⟩) (v := ?_) rfl (by kernel_rfl) (by kernel_rfl) (by kernel_rfl) (fun _ _ _ h => h) (Or.inl ⟨by rfl, ?_⟩) (by assumption) ?_
        rotate_left
        · (intro w hSw; (try dsimp only at hSw); go_simp; (try with_reducible rfl))
        (try simp only [Act.put, List.setIfInBounds_toArray, List.set_cons_zero, List.set_cons_succ])
        refine wpAnyH_ready (rs := [9]) (by kernel_rfl) (by simp) ?_
        refine AllReadyH.cons (o := ⟨none, _, _, _, _, _⟩) rfl (fun K hK => ?_) AllReadyH.nil
        go_simp
        (first | (refine hK.out _ _ ?_ (fun hH5 => ?_)) | (go_wp2_with fail; refine hK.out _ _ ?_ (fun hH5 => ?_)))
        · exact ⟨RX.out.cell x0, RX.out.cell x1, RX.out.cell x2, RX.out.cell p0, RX.out.cell p1⟩
        clear hK K hH4
        (try simp only [Act.put, List.setIfInBounds_toArray, List.set_cons_zero, List.set_cons_succ])
        refine wpAnyH_take (i := 10) (oi := ⟨some 7, _, _, _, _, _⟩) (v := ?_) rfl (by kernel_rfl) (by kernel_rfl) (by kernel_rfl) (fun _ _ _ h => h) (Or.inl ⟨by rfl, ?_⟩) (by assumption) ?_
        rotate_left
        · (intro w hSw; (try dsimp only at hSw); go_simp; (try with_reducible rfl))
        (try simp only [Act.put, List.setIfInBounds_toArray, List.set_cons_zero, List.set_cons_succ])
        refine wpAnyH_done (by kernel_rfl) ?_ _
        clear hH5
        go_wp2_with fail
        go_meet
        exact ⟨_, _, _, _, _, _, _, rfl, rfl, hid RX.out⟩
      exact AllReadyH.nil
    refine AllReadyH.cons (o := ⟨some 6, _, _, _, _, _⟩) rfl (fun K hK => ?_) ?_
    · skip
      go_simp; have KZ := hid (show Blk ((w2.drewN 1).alloc (.cells #[.int .i64 0, .slice none 0 0, .slice none 0 0] 25)) w2.heap.size 25 #[.int .i64 0, .slice none 0 0, .slice none 0 0] from Blk.new (w2.drewN 1) _ _); have z0 := KZ.out.cell_ (i := 0) (v := .int .i64 0) rfl; have z1 := KZ.out.cell_ (i := 1) (v := .slice none 0 0) rfl; have z2 := KZ.out.cell_ (i := 2) (v := .slice none 0 0) rfl; have f0 := KZ.out.frozen 0; have f1 := KZ.out.frozen 1; have f2 := KZ.out.frozen 2
      (first | (refine hK.out _ _ ?_ (fun hH1 => ?_)) | (go_wp2_with fail; refine hK.out _ _ ?_ (fun hH1 => ?_)))
      · exact ⟨(sB).cell x0, (sB).cell x1, (sB).cell x2, (sB).cell p0, (sB).cell p1⟩
      clear hK K hH0
      (try simp only [Act.put, List.setIfInBounds_toArray, List.set_cons_zero, List.set_cons_succ])
      refine wpAnyH_ready (rs := [1]) (by kernel_rfl) (by simp) ?_
      refine AllReadyH.cons (o := ⟨some 23, _, _, _, _, _⟩) rfl (fun K hK => ?_) AllReadyH.nil
      go_simp
      (have hzl := KZ.out.lt; go_at_call 26; refine (rd_to (R.out.st (by first | exact sA | exact sB)) HF.out).mono ?_; rintro e wa ⟨Aa, na, ca, Ba, ma, da, rfl, oa, twa⟩; have Twa : St w2 wa := (by first | exact St.trans sA twa | exact St.trans (St.alloc sA (.cells #[.int .i64 0, .slice none 0 0, .slice none 0 0] 25)) twa); have RA := hid oa.rd; have KZ := hid (KZ.out.st twa); clear z0 z1 z2 f0 f1 f2; have z0 := KZ.out.cell_ (i := 0) (v := .int .i64 0) rfl; have z1 := KZ.out.cell_ (i := 1) (v := .slice none 0 0) rfl; have z2 := KZ.out.cell_ (i := 2) (v := .slice none 0 0) rfl; have f0 := KZ.out.frozen 0; have f1 := KZ.out.frozen 1; have f2 := KZ.out.frozen 2)
      (first | (refine hK.out _ _ ?_ (fun hH2 => ?_)) | (go_wp2_with fail; refine hK.out _ _ ?_ (fun hH2 => ?_)))
      · exact ⟨(Twa).cell x0, (Twa).cell x1, (Twa).cell x2, (Twa).cell p0, (Twa).cell p1⟩
      clear hK K hH1
      (try simp only [Act.put, List.setIfInBounds_toArray, List.set_cons_zero, List.set_cons_succ])
      refine wpAnyH_ready (rs := [3]) (by kernel_rfl) (by simp) ?_
      refine AllReadyH.cons (o := ⟨some 25, _, _, _, _, _⟩) rfl (fun K hK => ?_) AllReadyH.nil
      go_simp
      (have hzl := KZ.out.lt; go_at_call 46; refine (toStamp_any t g _).mono ?_; rintro e wb ⟨rfl, twb⟩; have Twb : St w2 wb := (by first | exact St.trans Twa twb | exact St.trans (St.alloc Twa (.cells #[.int .i64 0, .slice none 0 0, .slice none 0 0] 25)) twb); have RB1 := hid (show RdRd wb M Aa na ca Ba ma da xs ss by first | exact RA.out.st twb | exact (RA.out.st ((St.refl wa).alloc (.cells #[.int .i64 0, .slice none 0 0, .slice none 0 0] 25))).st twb); have KZ := hid (KZ.out.st twb); clear z0 z1 z2 f0 f1 f2; have z0 := KZ.out.cell_ (i := 0) (v := .int .i64 0) rfl; have z1 := KZ.out.cell_ (i := 1) (v := .slice none 0 0) rfl; have z2 := KZ.out.cell_ (i := 2) (v := .slice none 0 0) rfl; have f0 := KZ.out.frozen 0; have f1 := KZ.out.frozen 1; have f2 := KZ.out.frozen 2)
      (first | (refine hK.out _ _ ?_ (fun hH3 => ?_)) | (go_wp2_with fail; refine hK.out _ _ ?_ (fun hH3 => ?_)))
      · exact ⟨(Twb).cell x0, (Twb).cell x1, (Twb).cell x2, (Twb).cell p0, (Twb).cell p1⟩
      clear hK K hH2
      (try simp only [Act.put, List.setIfInBounds_toArray, List.set_cons_zero, List.set_cons_succ])
      refine wpAnyH_ready (rs := [4]) (by kernel_rfl) (by simp) ?_
      refine AllReadyH.cons (o := ⟨some 26, _, _, _, _, _⟩) rfl (fun K hK => ?_) AllReadyH.nil
      go_simp
      (have hzl := KZ.out.lt; go_at_call 38; refine (specRoundAdd_r t g (show RdRd _ M Aa na ca Ba ma da xs ss by first | exact RB1.out | exact RB1.out.st ((St.refl wb).alloc (.cells #[.int .i64 0, .slice none 0 0, .slice none 0 0] 25))) HF.out).mono ?_; rintro e wc ⟨Ac, nc, cc, Bc, qc, dc, rfl, oc, twc⟩; rw [HE.out.1, HE.out.2.1, HE.out.2.2.1] at oc; rw [HE.out.1, HE.out.2.2.2]; have Twc : St w2 wc := (by first | exact St.trans Twb twc | exact St.trans (St.alloc Twb (.cells #[.int .i64 0, .slice none 0 0, .slice none 0 0] 25)) twc); have KZ := hid (KZ.out.st twc); clear z0 z1 z2 f0 f1 f2; have z0 := KZ.out.cell_ (i := 0) (v := .int .i64 0) rfl; have z1 := KZ.out.cell_ (i := 1) (v := .slice none 0 0) rfl; have z2 := KZ.out.cell_ (i := 2) (v := .slice none 0 0) rfl; have f0 := KZ.out.frozen 0; have f1 := KZ.out.frozen 1; have f2 := KZ.out.frozen 2; have RX := hid (RBk.sets (W1 := w2) Twc oc KZ.out (by first | exact Nat.le_refl _ | exact Twa.le | exact Twb.le) hzl rfl))
      (first | (refine hK.out _ _ ?_ (fun hH4 => ?_)) | (go_wp2_with fail; refine hK.out _ _ ?_ (fun hH4 => ?_)))
      · exact ⟨(Twc).cell x0, (Twc).cell x1, (Twc).cell x2, (Twc).cell p0, (Twc).cell p1⟩
      clear hK K hH3
      (try simp only [Act.put, List.setIfInBounds_toArray, List.set_cons_zero, List.set_cons_succ])
      refine wpAnyH_take (i := 5) (oi := ⟨some 21, _, _, _, _, _⟩) (v := ?_) rfl (by kernel_rfl) (by kernel_rfl) (by kernel_rfl) (fun _ _ _ h => h) (Or.inl ⟨by rfl, ?_⟩) (by assumption) ?_
      rotate_left
      · (intro w hSw; (try dsimp only at hSw); go_simp; (try with_reducible rfl))
      (try simp only [Act.put, List.setIfInBounds_toArray, List.set_cons_zero, List.set_cons_succ])
      refine wpAnyH_take (i := 6) (oi := ⟨some 27, _, _, _, _, _⟩) (v := ?_) rfl (by kernel_rfl) (by kernel_rfl) (by kernel_rfl) (fun _ _ _ h => h) (Or.inl ⟨by rfl, ?_⟩) (by assumption) ?_
      rotate_left
      · (intro w hSw; (try dsimp only at hSw); go_simp; (try with_reducible rfl))
      (try simp only [Act.put, List.setIfInBounds_toArray, List.set_cons_zero, List.set_cons_succ])
      refine wpAnyH_take (i := 7) (oi := ⟨some 28, _, _, _, _, _⟩) (v := ?_) rfl (by kernel_rfl) (by kernel_rfl) (by kernel_rfl) (fun _ _ _ h => h) (Or.inl ⟨by rfl, ?_⟩) (by assumption) ?_
      rotate_left
      · (intro w hSw; (try dsimp only at hSw); go_simp; (try with_reducible rfl))
      (try simp only [Act.put, List.setIfInBounds_toArray, List.set_cons_zero, List.set_cons_succ])
      refine wpAnyH_ready (rs := [9]) (by kernel_rfl) (by simp) ?_
      refine AllReadyH.cons (o := ⟨none, _, _, _, _, _⟩) rfl (fun K hK => ?_) AllReadyH.nil
      go_simp
      (first | (refine hK.out _ _ ?_ (fun hH5 => ?_)) | (go_wp2_with fail; refine hK.out _ _ ?_ (fun hH5 => ?_)))
      · exact ⟨RX.out.cell x0, RX.out.cell x1, RX.out.cell x2, RX.out.cell p0, RX.out.cell p1⟩
      clear hK K hH4
      (try simp only [Act.put, List.setIfInBounds_toArray, List.set_cons_zero, List.set_cons_succ])
      refine wpAnyH_take (i := 10) (oi := ⟨some 7, _, _, _, _, _⟩) (v := ?_) rfl (by kernel_rfl) (by kernel_rfl) (by kernel_rfl) (fun _ _ _ h => h) (Or.inl ⟨by rfl, ?_⟩) (by assumption) ?_
      rotate_left
      · (intro w hSw; (try dsimp only at hSw); go_simp; (try with_reducible rfl))
      (try simp only [Act.put, List.setIfInBounds_toArray, List.set_cons_zero, List.set_cons_succ])
      refine wpAnyH_done (by kernel_rfl) ?_ _
      clear hH5
      go_wp2_with fail
      go_meet
      exact ⟨_, _, _, _, _, _, _, rfl, rfl, hid RX.out⟩
    exact AllReadyH.nil
  case rest =>
  obtain ⟨v5, rfl⟩ : ∃ x : World, x = wc := ⟨_, rfl⟩
  obtain ⟨b5, A5, n5, c5, B5, q5, d5, rfl, rfl, H5⟩ := hcut
  have s5 := H5.out.s
  have HSZ5 := hid (show w.heap.size + 2 ≤ v5.heap.size from Nat.le_trans HSZ2.out s5.le)
  replace S := hid (S.out.st s5)
  replace x0 := s5.cell x0
  replace x1 := s5.cell x1
  replace x2 := s5.cell x2
  replace p0 := s5.cell p0
  replace p1 := s5.cell p1
  have K5 := hid H5.out.kb
  have I5 := hid H5.out.ow.rd
  have T5 := hid (St.refl v5)
  have HL5 := hid (show b5 < v5.heap.size from H5.out.kb.lt)
  clear s5 H5 sA sB R
  have r5 := hR0.st S.out
  go_wp2_with fail
  refine (rd_to r5 HF.out).mono ?_
  rintro e w3 ⟨A3, n3, c3, B3, m3, d3, rfl, o3, s3⟩
  have a3 := (St.refl w3).alloc (.cells #[.int .i64 M, .slice A3 n3 c3, .slice B3 m3 d3] 25)
  have t3 := s3.trans a3
  have W3 := hid ((rd_wr (P := fun g => v5.heap.size ≤ g ∧ g < w3.heap.size) o3 HF.out (fun g h1 h2 => ⟨h1, h2⟩)).kept (Kept.of_st a3))
  have R3 := hid (o3.rd.st a3)
  have Z3 := Blk.new w3 25 #[.int .i64 M, .slice A3 n3 c3, .slice B3 m3 d3]
  have HZ3 := hid (show v5.heap.size ≤ w3.heap.size from s3.le)
  replace S := hid (S.out.st t3)
  replace T5 := hid (T5.out.st t3)
  replace K5 := hid (K5.out.st t3)
  replace x0 := t3.cell x0
  replace x1 := t3.cell x1
  replace x2 := t3.cell x2
  replace p0 := t3.cell p0
  replace p1 := t3.cell p1
  have r0 := Z3.cell_ (i := 0) (v := .int .i64 M) rfl
  have r1 := Z3.cell_ (i := 1) (v := .slice A3 n3 c3) rfl
  have r2 := Z3.cell_ (i := 2) (v := .slice B3 m3 d3) rfl
  have HZ4 := hid (show w3.heap.size < (w3.alloc (.cells #[.int .i64 M, .slice A3 n3 c3, .slice B3 m3 d3] 25)).heap.size from Z3.lt)
  clear a3 t3 Z3 o3 s3 r5
  go_upto_region 7 with (fail)
  generalize w3.alloc (.cells #[.int .i64 M, .slice A3 n3 c3, .slice B3 m3 d3] 25) = w4 at S T5 K5 x0 x1 x2 p0 p1 r0 r1 r2 W3 R3 HZ4 ⊢
  have sA := (Dr.st ⟨1, rfl⟩ : St w4 (w4.drewN 1))
  have sB := sA.alloc (.cells #[.int .i64 0, .slice none 0 0, .slice none 0 0] 25)
  go_cut [9, 10] from 16 (fun s9 s10 wx => ∃ (bb : Nat) (Ab : Option Addr) (nb cb : Nat) (Bb : Option Addr) (qb db : Nat), s9 = .pointer (some ⟨bb, 0, none⟩) ∧ s10 = .bool ok ∧ Hid (RBk w4 wx bb mr Ab nb cb Bb qb db ys ps))
  case first =>
    refine wp_region_held_drew (S := (fun w' => w'.cell? ⟨w3.heap.size, 0, none⟩ = some (.int .i64 M) ∧ w'.cell? ⟨w3.heap.size, 1, none⟩ = some (.slice A3 n3 c3) ∧ w'.cell? ⟨w3.heap.size, 2, none⟩ = some (.slice B3 m3 d3) ∧ w'.cell? ⟨w.heap.size + 1, 0, none⟩ = some (.int .i64 t) ∧ w'.cell? ⟨w.heap.size + 1, 1, none⟩ = some (.int .i64 g))) (by kernel_rfl) ?_ (fun hH0 => ?_)
    · exact ⟨r0, r1, r2, p0, p1⟩
    refine wpAnyH_take (i := 0) (oi := ⟨some 32, _, _, _, _, _⟩) (v := ?_) rfl (by kernel_rfl) (by kernel_rfl) (by kernel_rfl) (fun _ _ _ h => h) (Or.inl ⟨by rfl, ?_⟩) (by assumption) ?_
    rotate_left
    · (intro w hSw; (try dsimp only at hSw); go_simp; (try with_reducible rfl))
    (try simp only [Act.put, List.setIfInBounds_toArray, List.set_cons_zero, List.set_cons_succ])
    refine wpAnyH_take (i := 1) (oi := ⟨some 33, _, _, _, _, _⟩) (v := ?_) rfl (by kernel_rfl) (by kernel_rfl) (by kernel_rfl) (fun _ _ _ h => h) (Or.inl ⟨by rfl, ?_⟩) (by assumption) ?_
    rotate_left
    · (intro w hSw; (try dsimp only at hSw); go_simp; (try with_reducible rfl))
    (try simp only [Act.put, List.setIfInBounds_toArray, List.set_cons_zero, List.set_cons_succ])
    refine wpAnyH_ready (rs := [2, 7]) (by kernel_rfl) (by simp) ?_
    refine AllReadyH.cons (o := ⟨some 34, _, _, _, _, _⟩) rfl (fun K hK => ?_) ?_
    · skip
      go_simp
      (go_at_call 46; refine (toStamp_any t g _).mono ?_; rintro e wb ⟨rfl, twb⟩; have Twb : St w4 wb := (by first | exact St.trans sA twb | exact St.trans (St.alloc sA (.cells #[.int .i64 0, .slice none 0 0, .slice none 0 0] 25)) twb); have RB1 := hid (show RdRd wb M A3 n3 c3 B3 m3 d3 xs ss by first | exact (R3.out.st sA).st twb | exact (R3.out.st sB).st twb))
      (first | (refine hK.out _ _ ?_ (fun hH1 => ?_)) | (go_wp2_with fail; refine hK.out _ _ ?_ (fun hH1 => ?_)))
      · exact ⟨(Twb).cell r0, (Twb).cell r1, (Twb).cell r2, (Twb).cell p0, (Twb).cell p1⟩
      clear hK K hH0
      (try simp only [Act.put, List.setIfInBounds_toArray, List.set_cons_zero, List.set_cons_succ])
      refine wpAnyH_ready (rs := [3, 7]) (by kernel_rfl) (by simp) ?_
      refine AllReadyH.cons (o := ⟨some 35, _, _, _, _, _⟩) rfl (fun K hK => ?_) ?_
      · skip
        go_simp
        (go_at_call 37; refine (RoundAdd_r t g (show RdRd _ M A3 n3 c3 B3 m3 d3 xs ss by first | exact RB1.out | exact RB1.out.st ((St.refl wb).alloc (.cells #[.int .i64 0, .slice none 0 0, .slice none 0 0] 25))) HF.out).mono ?_; rintro e wc ⟨Ac, nc, cc, Bc, qc, dc, rfl, oc, twc⟩; rw [HE.out.1, HE.out.2.1, HE.out.2.2.1] at oc; rw [HE.out.1, HE.out.2.2.2]; have Twc : St w4 wc := (by first | exact St.trans Twb twc | exact St.trans (St.alloc Twb (.cells #[.int .i64 0, .slice none 0 0, .slice none 0 0] 25)) twc))
        (first | (refine hK.out _ _ ?_ (fun hH2 => ?_)) | (go_wp2_with fail; refine hK.out _ _ ?_ (fun hH2 => ?_)))
        · exact ⟨(Twc).cell r0, (Twc).cell r1, (Twc).cell r2, (Twc).cell p0, (Twc).cell p1⟩
        clear hK K hH1
        (try simp only [Act.put, List.setIfInBounds_toArray, List.set_cons_zero, List.set_cons_succ])
        refine wpAnyH_take (i := 4) (oi := ⟨some 31, _, _, _, _, _⟩) (v := ?_) rfl (by kernel_rfl) (by kernel_rfl) (by kernel_rfl) (fun _ _ _ h => h) (Or.inl ⟨by rfl, ?_⟩) (by assumption) ?_
        rotate_left
        · (intro w hSw; (try dsimp only at hSw); go_simp; (try with_reducible rfl))
        (try simp only [Act.put, List.setIfInBounds_toArray, List.set_cons_zero, List.set_cons_succ])
        refine wpAnyH_take (i := 5) (oi := ⟨some 36, _, _, _, _, _⟩) (v := ?_) rfl (by kernel_rfl) (by kernel_rfl) (by kernel_rfl) (fun _ _ _ h => h) (Or.inl ⟨by rfl, ?_⟩) (by assumption) ?_
        rotate_left
        · (intro w hSw; (try dsimp only at hSw); go_simp; (try with_reducible rfl))
        (try simp only [Act.put, List.setIfInBounds_toArray, List.set_cons_zero, List.set_cons_succ])
        refine wpAnyH_take (i := 6) (oi := ⟨some 37, _, _, _, _, _⟩) (v := ?_) rfl (by kernel_rfl) (by kernel_rfl) (by kernel_rfl) (fun _ _ _ h => h) (Or.inl ⟨by rfl, ?_⟩) (by assumption) ?_
        rotate_left
        · (intro w hSw; (try dsimp only at hSw); go_simp; (try with_reducible rfl))
        (try simp only [Act.put, List.setIfInBounds_toArray, List.set_cons_zero, List.set_cons_succ])
        refine wpAnyH_ready (rs := [7]) (by kernel_rfl) (by simp) ?_
        refine AllReadyH.cons (o := ⟨some 9, _, _, _, _, _⟩) rfl (fun K hK => ?_) AllReadyH.nil
        go_simp; have KZ := hid (Blk.new wc 25 #[.int .i64 0, .slice none 0 0, .slice none 0 0]); have z0 := KZ.out.cell_ (i := 0) (v := .int .i64 0) rfl; have z1 := KZ.out.cell_ (i := 1) (v := .slice none 0 0) rfl; have z2 := KZ.out.cell_ (i := 2) (v := .slice none 0 0) rfl; have f0 := KZ.out.frozen 0; have f1 := KZ.out.frozen 1; have f2 := KZ.out.frozen 2; have RX := hid (RBk.last (W1 := w4) Twc oc (by first | exact Nat.le_refl _ | exact Twb.le | (exact Nat.le_trans Twb.le (Nat.le_refl _))))
        (first | (refine hK.out _ _ ?_ (fun hH3 => ?_)) | (go_wp2_with fail; refine hK.out _ _ ?_ (fun hH3 => ?_)))
        · exact ⟨(Twc.alloc (.cells #[.int .i64 0, .slice none 0 0, .slice none 0 0] 25)).cell r0, (Twc.alloc (.cells #[.int .i64 0, .slice none 0 0, .slice none 0 0] 25)).cell r1, (Twc.alloc (.cells #[.int .i64 0, .slice none 0 0, .slice none 0 0] 25)).cell r2, (Twc.alloc (.cells #[.int .i64 0, .slice none 0 0, .slice none 0 0] 25)).cell p0, (Twc.alloc (.cells #[.int .i64 0, .slice none 0 0, .slice none 0 0] 25)).cell p1⟩
        clear hK K hH2
        (try simp only [Act.put, List.setIfInBounds_toArray, List.set_cons_zero, List.set_cons_succ])
        refine wpAnyH_ready (rs := [8]) (by kernel_rfl) (by simp) ?_
        refine AllReadyH.cons (o := ⟨none, _, _, _, _, _⟩) rfl (fun K hK => ?_) AllReadyH.nil
        go_simp
        (first | (refine hK.out _ _ ?_ (fun hH4 => ?_)) | (go_wp2_with fail; refine hK.out _ _ ?_ (fun hH4 => ?_)))
        · exact ⟨RX.out.cell r0, RX.out.cell r1, RX.out.cell r2, RX.out.cell p0, RX.out.cell p1⟩
        clear hK K hH3
        (try simp only [Act.put, List.setIfInBounds_toArray, List.set_cons_zero, List.set_cons_succ])
        refine wpAnyH_take (i := 9) (oi := ⟨some 10, _, _, _, _, _⟩) (v := ?_) rfl (by kernel_rfl) (by kernel_rfl) (by kernel_rfl) (fun _ _ _ h => h) (Or.inl ⟨by rfl, ?_⟩) (by assumption) ?_
        rotate_left
        · (intro w hSw; (try dsimp only at hSw); go_simp; (try with_reducible rfl))
        (try simp only [Act.put, List.setIfInBounds_toArray, List.set_cons_zero, List.set_cons_succ])
        refine wpAnyH_done (by kernel_rfl) ?_ _
        clear hH4
        go_wp2_with fail
        go_meet
        exact ⟨_, _, _, _, _, _, _, rfl, rfl, hid RX.out⟩
      refine AllReadyH.cons (o := ⟨some 9, _, _, _, _, _⟩) rfl (fun K hK => ?_) ?_
      · skip
        go_simp; have KZ := hid (Blk.new wb 25 #[.int .i64 0, .slice none 0 0, .slice none 0 0]); have z0 := KZ.out.cell_ (i := 0) (v := .int .i64 0) rfl; have z1 := KZ.out.cell_ (i := 1) (v := .slice none 0 0) rfl; have z2 := KZ.out.cell_ (i := 2) (v := .slice none 0 0) rfl; have f0 := KZ.out.frozen 0; have f1 := KZ.out.frozen 1; have f2 := KZ.out.frozen 2
        (first | (refine hK.out _ _ ?_ (fun hH2 => ?_)) | (go_wp2_with fail; refine hK.out _ _ ?_ (fun hH2 => ?_)))
        · exact ⟨(Twb.alloc (.cells #[.int .i64 0, .slice none 0 0, .slice none 0 0] 25)).cell r0, (Twb.alloc (.cells #[.int .i64 0, .slice none 0 0, .slice none 0 0] 25)).cell r1, (Twb.alloc (.cells #[.int .i64 0, .slice none 0 0, .slice none 0 0] 25)).cell r2, (Twb.alloc (.cells #[.int .i64 0, .slice none 0 0, .slice none 0 0] 25)).cell p0, (Twb.alloc (.cells #[.int .i64 0, .slice none 0 0, .slice none 0 0] 25)).cell p1⟩
        clear hK K hH1
        (try simp only [Act.put, List.setIfInBounds_toArray, List.set_cons_zero, List.set_cons_succ])
        refine wpAnyH_ready (rs := [3]) (by kernel_rfl) (by simp) ?_
        refine AllReadyH.cons (o := ⟨some 35, _, _, _, _, _⟩) rfl (fun K hK => ?_) AllReadyH.nil
        go_simp
        (have hzl := KZ.out.lt; go_at_call 37; refine (RoundAdd_r t g (show RdRd _ M A3 n3 c3 B3 m3 d3 xs ss by first | exact RB1.out | exact RB1.out.st ((St.refl wb).alloc (.cells #[.int .i64 0, .slice none 0 0, .slice none 0 0] 25))) HF.out).mono ?_; rintro e wc ⟨Ac, nc, cc, Bc, qc, dc, rfl, oc, twc⟩; rw [HE.out.1, HE.out.2.1, HE.out.2.2.1] at oc; rw [HE.out.1, HE.out.2.2.2]; have Twc : St w4 wc := (by first | exact St.trans Twb twc | exact St.trans (St.alloc Twb (.cells #[.int .i64 0, .slice none 0 0, .slice none 0 0] 25)) twc); have KZ := hid (KZ.out.st twc); clear z0 z1 z2 f0 f1 f2; have z0 := KZ.out.cell_ (i := 0) (v := .int .i64 0) rfl; have z1 := KZ.out.cell_ (i := 1) (v := .slice none 0 0) rfl; have z2 := KZ.out.cell_ (i := 2) (v := .slice none 0 0) rfl; have f0 := KZ.out.frozen 0; have f1 := KZ.out.frozen 1; have f2 := KZ.out.frozen 2; have RX := hid (RBk.sets (W1 := w4) Twc oc KZ.out (by first | exact Nat.le_refl _ | exact Twb.le) hzl rfl))
        (first | (refine hK.out _ _ ?_ (fun hH3 => ?_)) | (go_wp2_with fail; refine hK.out _ _ ?_ (fun hH3 => ?_)))
        · exact ⟨(Twc).cell r0, (Twc).cell r1, (Twc).cell r2, (Twc).cell p0, (Twc).cell p1⟩
        clear hK K hH2
        (try simp only [Act.put, List.setIfInBounds_toArray, List.set_cons_zero, List.set_cons_succ])
        refine wpAnyH_take (i := 4) (oi := ⟨some 31, _, _, _, _, _⟩) (v := ?_) rfl (by kernel_rfl) (by kernel_rfl) (by kernel_rfl) (fun _ _ _ h => h) (Or.inl ⟨by rfl, ?_⟩) (by assumption) ?_
        rotate_left
        · (intro w hSw; (try dsimp only at hSw); go_simp; (try with_reducible rfl))
        (try simp only [Act.put, List.setIfInBounds_toArray, List.set_cons_zero, List.set_cons_succ])
        refine wpAnyH_take (i := 5) (oi := ⟨some 36, _, _, _, _, _⟩) (v := ?_) rfl (by kernel_rfl) (by kernel_rfl) (by kernel_rfl) (fun _ _ _ h => h) (Or.inl ⟨by rfl, ?_⟩) (by assumption) ?_
        rotate_left
        · (intro w hSw; (try dsimp only at hSw); go_simp; (try with_reducible rfl))
        (try simp only [Act.put, List.setIfInBounds_toArray, List.set_cons_zero, List.set_cons_succ])
        refine wpAnyH_take (i := 6) (oi := ⟨some 37, _, _, _, _, _⟩) (v := ?_) rfl (by kernel_rfl) (by kernel_rfl) (by kernel_rfl) (fun _ _ _ h => h) (Or.inl ⟨by rfl, ?_⟩) (by assumption) ?_
        rotate_left
        · (intro w hSw; (try dsimp only at hSw); go_simp; (try with_reducible rfl))
        (try simp only [Act.put, List.setIfInBounds_toArray, List.set_cons_zero, List.set_cons_succ])
        refine wpAnyH_ready (rs := [8]) (by kernel_rfl) (by simp) ?_
        refine AllReadyH.cons (o := ⟨none, _, _, _, _, _⟩) rfl (fun K hK => ?_) AllReadyH.nil
        go_simp
        (first | (refine hK.out _ _ ?_ (fun hH4 => ?_)) | (go_wp2_with fail; refine hK.out _ _ ?_ (fun hH4 => ?_)))
        · exact ⟨RX.out.cell r0, RX.out.cell r1, RX.out.cell r2, RX.out.cell p0, RX.out.cell p1⟩
        clear hK K hH3
        (try simp only [Act.put, List.setIfInBounds_toArray, List.set_cons_zero, List.set_cons_succ])
        refine wpAnyH_take (i := 9) (oi := ⟨some 10, _, _, _, _, _⟩) (v := ?_) rfl (by kernel_rfl) (by kernel_rfl) (by kernel_rfl) (fun _ _ _ h => h) (Or.inl ⟨by rfl, ?_⟩) (by assumption) ?_
        rotate_left
        · (intro w hSw; (try dsimp only at hSw); go_simp; (try with_reducible rfl))
        (try simp only [Act.put, List.setIfInBounds_toArray, List.set_cons_zero, List.set_cons_succ])
        refine wpAnyH_done (by kernel_rfl) ?_ _
        clear hH4
        go_wp2_with fail
        go_meet
        exact ⟨_, _, _, _, _, _, _, rfl, rfl, hid RX.out⟩
      exact AllReadyH.nil
    refine AllReadyH.cons (o := ⟨some 9, _, _, _, _, _⟩) rfl (fun K hK => ?_) ?_
    · skip
      go_simp; have KZ := hid (show Blk ((w4.drewN 1).alloc (.cells #[.int .i64 0, .slice none 0 0, .slice none 0 0] 25)) w4.heap.size 25 #[.int .i64 0, .slice none 0 0, .slice none 0 0] from Blk.new (w4.drewN 1) _ _); have z0 := KZ.out.cell_ (i := 0) (v := .int .i64 0) rfl; have z1 := KZ.out.cell_ (i := 1) (v := .slice none 0 0) rfl; have z2 := KZ.out.cell_ (i := 2) (v := .slice none 0 0) rfl; have f0 := KZ.out.frozen 0; have f1 := KZ.out.frozen 1; have f2 := KZ.out.frozen 2
      (first | (refine hK.out _ _ ?_ (fun hH1 => ?_)) | (go_wp2_with fail; refine hK.out _ _ ?_ (fun hH1 => ?_)))
      · exact ⟨(sB).cell r0, (sB).cell r1, (sB).cell r2, (sB).cell p0, (sB).cell p1⟩
      clear hK K hH0
      (try simp only [Act.put, List.setIfInBounds_toArray, List.set_cons_zero, List.set_cons_succ])
      refine wpAnyH_ready (rs := [2]) (by kernel_rfl) (by simp) ?_
      refine AllReadyH.cons (o := ⟨some 34, _, _, _, _, _⟩) rfl (fun K hK => ?_) AllReadyH.nil
      go_simp
      (have hzl := KZ.out.lt; go_at_call 46; refine (toStamp_any t g _).mono ?_; rintro e wb ⟨rfl, twb⟩; have Twb : St w4 wb := (by first | exact St.trans sA twb | exact St.trans (St.alloc sA (.cells #[.int .i64 0, .slice none 0 0, .slice none 0 0] 25)) twb); have RB1 := hid (show RdRd wb M A3 n3 c3 B3 m3 d3 xs ss by first | exact (R3.out.st sA).st twb | exact (R3.out.st sB).st twb); have KZ := hid (KZ.out.st twb); clear z0 z1 z2 f0 f1 f2; have z0 := KZ.out.cell_ (i := 0) (v := .int .i64 0) rfl; have z1 := KZ.out.cell_ (i := 1) (v := .slice none 0 0) rfl; have z2 := KZ.out.cell_ (i := 2) (v := .slice none 0 0) rfl; have f0 := KZ.out.frozen 0; have f1 := KZ.out.frozen 1; have f2 := KZ.out.frozen 2)
      (first | (refine hK.out _ _ ?_ (fun hH2 => ?_)) | (go_wp2_with fail; refine hK.out _ _ ?_ (fun hH2 => ?_)))
      · exact ⟨(Twb).cell r0, (Twb).cell r1, (Twb).cell r2, (Twb).cell p0, (Twb).cell p1⟩
      clear hK K hH1
      (try simp only [Act.put, List.setIfInBounds_toArray, List.set_cons_zero, List.set_cons_succ])
      refine wpAnyH_ready (rs := [3]) (by kernel_rfl) (by simp) ?_
      refine AllReadyH.cons (o := ⟨some 35, _, _, _, _, _⟩) rfl (fun K hK => ?_) AllReadyH.nil
      go_simp
      (have hzl := KZ.out.lt; go_at_call 37; refine (RoundAdd_r t g (show RdRd _ M A3 n3 c3 B3 m3 d3 xs ss by first | exact RB1.out | exact RB1.out.st ((St.refl wb).alloc (.cells #[.int .i64 0, .slice none 0 0, .slice none 0 0] 25))) HF.out).mono ?_; rintro e wc ⟨Ac, nc, cc, Bc, qc, dc, rfl, oc, twc⟩; rw [HE.out.1, HE.out.2.1, HE.out.2.2.1] at oc; rw [HE.out.1, HE.out.2.2.2]; have Twc : St w4 wc := (by first | exact St.trans Twb twc | exact St.trans (St.alloc Twb (.cells #[.int .i64 0, .slice none 0 0, .slice none 0 0] 25)) twc); have KZ := hid (KZ.out.st twc); clear z0 z1 z2 f0 f1 f2; have z0 := KZ.out.cell_ (i := 0) (v := .int .i64 0) rfl; have z1 := KZ.out.cell_ (i := 1) (v := .slice none 0 0) rfl; have z2 := KZ.out.cell_ (i := 2) (v := .slice none 0 0) rfl; have f0 := KZ.out.frozen 0; have f1 := KZ.out.frozen 1; have f2 := KZ.out.frozen 2; have RX := hid (RBk.sets (W1 := w4) Twc oc KZ.out (by first | exact Nat.le_refl _ | exact Twb.le) hzl rfl))
      (first | (refine hK.out _ _ ?_ (fun hH3 => ?_)) | (go_wp2_with fail; refine hK.out _ _ ?_ (fun hH3 => ?_)))
      · exact ⟨(Twc).cell r0, (Twc).cell r1, (Twc).cell r2, (Twc).cell p0, (Twc).cell p1⟩
      clear hK K hH2
      (try simp only [Act.put, List.setIfInBounds_toArray, List.set_cons_zero, List.set_cons_succ])
      refine wpAnyH_take (i := 4) (oi := ⟨some 31, _, _, _, _, _⟩) (v := ?_) rfl (by kernel_rfl) (by kernel_rfl) (by kernel_rfl) (fun _ _ _ h => h) (Or.inl ⟨by rfl, ?_⟩) (by assumption) ?_
      rotate_left
      · (intro w hSw; (try dsimp only at hSw); go_simp; (try with_reducible rfl))
      (try simp only [Act.put, List.setIfInBounds_toArray, List.set_cons_zero, List.set_cons_succ])
      refine wpAnyH_take (i := 5) (oi := ⟨some 36, _, _, _, _, _⟩) (v := ?_) rfl (by kernel_rfl) (by kernel_rfl) (by kernel_rfl) (fun _ _ _ h => h) (Or.inl ⟨by rfl, ?_⟩) (by assumption) ?_
      rotate_left
      · (intro w hSw; (try dsimp only at hSw); go_simp; (try with_reducible rfl))
      (try simp only [Act.put, List.setIfInBounds_toArray, List.set_cons_zero, List.set_cons_succ])
      refine wpAnyH_take (i := 6) (oi := ⟨some 37, _, _, _, _, _⟩) (v := ?_) rfl (by kernel_rfl) (by kernel_rfl) (by kernel_rfl) (fun _ _ _ h => h) (Or.inl ⟨by rfl, ?_⟩) (by assumption) ?_
      rotate_left
      · (intro w hSw; (try dsimp only at hSw); go_simp; (try with_reducible rfl))
      (try simp only [Act.put, List.setIfInBounds_toArray, List.set_cons_zero, List.set_cons_succ])
      refine wpAnyH_ready (rs := [8]) (by kernel_rfl) (by simp) ?_
      refine AllReadyH.cons (o := ⟨none, _, _, _, _, _⟩) rfl (fun K hK => ?_) AllReadyH.nil
      go_simp
      (first | (refine hK.out _ _ ?_ (fun hH4 => ?_)) | (go_wp2_with fail; refine hK.out _ _ ?_ (fun hH4 => ?_)))
      · exact ⟨RX.out.cell r0, RX.out.cell r1, RX.out.cell r2, RX.out.cell p0, RX.out.cell p1⟩
      clear hK K hH3
      (try simp only [Act.put, List.setIfInBounds_toArray, List.set_cons_zero, List.set_cons_succ])
      refine wpAnyH_take (i := 9) (oi := ⟨some 10, _, _, _, _, _⟩) (v := ?_) rfl (by kernel_rfl) (by kernel_rfl) (by kernel_rfl) (fun _ _ _ h => h) (Or.inl ⟨by rfl, ?_⟩) (by assumption) ?_
      rotate_left
      · (intro w hSw; (try dsimp only at hSw); go_simp; (try with_reducible rfl))
      (try simp only [Act.put, List.setIfInBounds_toArray, List.set_cons_zero, List.set_cons_succ])
      refine wpAnyH_done (by kernel_rfl) ?_ _
      clear hH4
      go_wp2_with fail
      go_meet
      exact ⟨_, _, _, _, _, _, _, rfl, rfl, hid RX.out⟩
    exact AllReadyH.nil
  case rest =>
  obtain ⟨v7, rfl⟩ : ∃ x : World, x = wc := ⟨_, rfl⟩
  obtain ⟨b7, A7, n7, c7, B7, q7, d7, rfl, rfl, H7⟩ := hcut
  have s7 := H7.out.s
  have W3 := hid (W3.out.kept (Kept.of_st s7))
  replace S := hid (S.out.st s7)
  replace T5 := hid (T5.out.st s7)
  replace K5 := hid (K5.out.st s7)
  replace R3 := hid (R3.out.st s7)
  replace x0 := s7.cell x0
  replace x1 := s7.cell x1
  replace x2 := s7.cell x2
  replace p0 := s7.cell p0
  replace p1 := s7.cell p1
  replace r0 := s7.cell r0
  replace r1 := s7.cell r1
  replace r2 := s7.cell r2
  have K7 := hid H7.out.kb
  have G7 := hid H7.out.ow
  have HL7 := hid H7.out.le
  clear s7 H7 sA sB
  have k0 := K7.out.cell_ (i := 0) (v := .int .i64 mr) rfl
  have k1 := K7.out.cell_ (i := 1) (v := .slice A7 n7 c7) rfl
  have k2 := K7.out.cell_ (i := 2) (v := .slice B7 q7 d7) rfl
  have l0 := K5.out.cell_ (i := 0) (v := .int .i64 mr) rfl
  have l1 := K5.out.cell_ (i := 1) (v := .slice A5 n5 c5) rfl
  have l2 := K5.out.cell_ (i := 2) (v := .slice B5 q5 d5) rfl
  have hoo : (ok == ok) = true := by simp
  have hon : (ok != ok) = false := by simp
  go_wp2_with fail
  refine (rd_same G7.out.rd (I5.out.st T5.out) FT.out).mono ?_
  rintro e w8 ⟨rfl, s8⟩
  have W3 := hid (W3.out.kept (Kept.of_st s8))
  replace S := hid (S.out.st s8)
  replace T5 := hid (T5.out.st s8)
  replace K5 := hid (K5.out.st s8)
  replace R3 := hid (R3.out.st s8)
  replace K7 := hid (K7.out.st s8)
  replace G7 := hid (G7.out.st s8)
  replace x0 := s8.cell x0
  replace x1 := s8.cell x1
  replace x2 := s8.cell x2
  replace p0 := s8.cell p0
  replace p1 := s8.cell p1
  replace r0 := s8.cell r0
  replace r1 := s8.cell r1
  replace r2 := s8.cell r2
  replace k0 := s8.cell k0
  replace k1 := s8.cell k1
  replace k2 := s8.cell k2
  replace l0 := s8.cell l0
  replace l1 := s8.cell l1
  replace l2 := s8.cell l2
  clear s8
  go_wp2_with fail
  refine wp_region_held_drew (S := (fun w' => w'.cell? ⟨w3.heap.size, 0, none⟩ = some (.int .i64 M) ∧ w'.cell? ⟨w3.heap.size, 1, none⟩ = some (.slice A3 n3 c3) ∧ w'.cell? ⟨w3.heap.size, 2, none⟩ = some (.slice B3 m3 d3) ∧ w'.cell? ⟨w.heap.size, 0, none⟩ = some (.int .i64 M) ∧ w'.cell? ⟨w.heap.size, 1, none⟩ = some (.slice A n c) ∧ w'.cell? ⟨w.heap.size, 2, none⟩ = some (.slice B m d))) (by kernel_rfl) ?_ (fun hH0 => ?_)
  · exact ⟨r0, r1, r2, x0, x1, x2⟩
  refine wpAnyH_take (i := 0) (oi := ⟨some 47, _, _, _, _, _⟩) (v := ?_) rfl (by kernel_rfl) (by kernel_rfl) (by kernel_rfl) (fun _ _ _ h => h) (Or.inl ⟨by rfl, ?_⟩) (by assumption) ?_
  rotate_left
  · (intro w hSw; (try dsimp only at hSw); go_simp; (try with_reducible rfl))
  (try simp only [Act.put, List.setIfInBounds_toArray, List.set_cons_zero, List.set_cons_succ])
  refine wpAnyH_take (i := 1) (oi := ⟨some 48, _, _, _, _, _⟩) (v := ?_) rfl (by kernel_rfl) (by kernel_rfl) (by kernel_rfl) (fun _ _ _ h => h) (Or.inl ⟨by rfl, ?_⟩) (by assumption) ?_
  rotate_left
  · (intro w hSw; (try dsimp only at hSw); go_simp; (try with_reducible rfl))
  (try simp only [Act.put, List.setIfInBounds_toArray, List.set_cons_zero, List.set_cons_succ])
  refine wpAnyH_ready (rs := [2]) (by kernel_rfl) (by simp) ?_
  refine AllReadyH.cons (o := ⟨some 49, _, _, _, _, _⟩) rfl (fun K hK => ?_) AllReadyH.nil
  go_simp
  (go_at_call 26; refine (rd_to (hR0.st (S.out.trans (Dr.st ⟨1, rfl⟩))) HF.out).mono ?_; rintro e wa ⟨Aa, na, ca, Ba, ma, da, rfl, oa, ta⟩; have Ta := St.trans (Dr.st ⟨1, rfl⟩ : St w8 (w8.drewN 1)) ta)
  (first | (refine hK.out _ _ ?_ (fun hH1 => ?_)) | (go_wp2_with fail; refine hK.out _ _ ?_ (fun hH1 => ?_)))
  · exact ⟨Ta.cell r0, Ta.cell r1, Ta.cell r2, Ta.cell x0, Ta.cell x1, Ta.cell x2⟩
  clear hK K hH0
  (try simp only [Act.put, List.setIfInBounds_toArray, List.set_cons_zero, List.set_cons_succ])
  refine wpAnyH_ready (rs := [3]) (by kernel_rfl) (by simp) ?_
  refine AllReadyH.cons (o := ⟨some 50, _, _, _, _, _⟩) rfl (fun K hK => ?_) AllReadyH.nil
  go_simp
  (go_at_call 19; refine (rd_same (R3.out.st Ta) oa.rd HF.out).mono ?_; rintro e wb ⟨rfl, tb⟩; have Tb := Ta.trans tb)
  (first | (refine hK.out _ _ ?_ (fun hH2 => ?_)) | (go_wp2_with fail; refine hK.out _ _ ?_ (fun hH2 => ?_)))
  · exact ⟨Tb.cell r0, Tb.cell r1, Tb.cell r2, Tb.cell x0, Tb.cell x1, Tb.cell x2⟩
  clear hK K hH1
  (try simp only [Act.put, List.setIfInBounds_toArray, List.set_cons_zero, List.set_cons_succ])
  refine wpAnyH_take (i := 4) (oi := ⟨some 51, _, _, _, _, _⟩) (v := ?_) rfl (by kernel_rfl) (by kernel_rfl) (by kernel_rfl) (fun _ _ _ h => h) (Or.inl ⟨by rfl, ?_⟩) (by assumption) ?_
  rotate_left
  · (intro w hSw; (try dsimp only at hSw); go_simp; (try with_reducible rfl))
  (try simp only [Act.put, List.setIfInBounds_toArray, List.set_cons_zero, List.set_cons_succ])
  refine wpAnyH_done (by kernel_rfl) ?_ _
  clear hH2
  have W3 := hid (W3.out.kept (Kept.of_st Tb))
  replace S := hid (S.out.st Tb)
  replace T5 := hid (T5.out.st Tb)
  replace K5 := hid (K5.out.st Tb)
  replace K7 := hid (K7.out.st Tb)
  replace G7 := hid (G7.out.st Tb)
  replace x0 := Tb.cell x0
  replace x1 := Tb.cell x1
  replace x2 := Tb.cell x2
  replace p0 := Tb.cell p0
  replace p1 := Tb.cell p1
  replace r0 := Tb.cell r0
  replace r1 := Tb.cell r1
  replace r2 := Tb.cell r2
  replace k0 := Tb.cell k0
  replace k1 := Tb.cell k1
  replace k2 := Tb.cell k2
  replace l0 := Tb.cell l0
  replace l1 := Tb.cell l1
  replace l2 := Tb.cell l2
  clear Ta ta oa tb Tb R3
  go_wp2_with fail
  refine (rd_mark W3.out HF.out).mono ?_
  rintro e w10 ⟨⟨mk, rfl, hmk⟩, kk⟩
  have hmkn : ¬ mk < 0 := by omega
  have hz5 : w.heap.size + 2 ≤ v5.heap.size := HSZ5.out
  have S := hid (Turned.st S.out kk.tu (fun g hg => by have := hg.1; omega))
  have T5 := hid (Turned.st T5.out kk.tu (fun g hg => hg.1))
  have G7 := hid (G7.out.turned kk.tu (fun g hg => by have h1 := hg.2; have h2 := HZ4.out; omega))
  have K5 := hid (Blk.turned K5.out kk.tu (fun hg => by have h1 := hg.1; have h2 := HL5.out; omega))
  have K7 := hid (Blk.turned K7.out kk.tu (fun hg => by have h1 := hg.2; have h2 := HZ4.out; have h3 := HL7.out; omega))
  have x0 := kk.tu.cell x0 (fun hg => by have h1 : v5.heap.size ≤ w.heap.size := hg.1; omega)
  have x1 := kk.tu.cell x1 (fun hg => by have h1 : v5.heap.size ≤ w.heap.size := hg.1; omega)
  have x2 := kk.tu.cell x2 (fun hg => by have h1 : v5.heap.size ≤ w.heap.size := hg.1; omega)
  have p0 := kk.tu.cell p0 (fun hg => by have h1 : v5.heap.size ≤ w.heap.size + 1 := hg.1; omega)
  have p1 := kk.tu.cell p1 (fun hg => by have h1 : v5.heap.size ≤ w.heap.size + 1 := hg.1; omega)
  clear kk W3 r0 r1 r2 k0 k1 k2 l0 l1 l2
  have k0 := K7.out.cell_ (i := 0) (v := .int .i64 mr) rfl
  have k1 := K7.out.cell_ (i := 1) (v := .slice A7 n7 c7) rfl
  have k2 := K7.out.cell_ (i := 2) (v := .slice B7 q7 d7) rfl
  have l0 := K5.out.cell_ (i := 0) (v := .int .i64 mr) rfl
  have l1 := K5.out.cell_ (i := 1) (v := .slice A5 n5 c5) rfl
  have l2 := K5.out.cell_ (i := 2) (v := .slice B5 q5 d5) rfl
  go_wp2_with fail
  refine (rd_same G7.out.rd (I5.out.st T5.out) FT.out).mono ?_
  rintro e w11 ⟨rfl, s11⟩
  replace S := hid (S.out.st s11)
  replace T5 := hid (T5.out.st s11)
  replace K5 := hid (K5.out.st s11)
  replace K7 := hid (K7.out.st s11)
  replace G7 := hid (G7.out.st s11)
  replace x0 := s11.cell x0
  replace x1 := s11.cell x1
  replace x2 := s11.cell x2
  replace p0 := s11.cell p0
  replace p1 := s11.cell p1
  replace k0 := s11.cell k0
  replace k1 := s11.cell k1
  replace k2 := s11.cell k2
  replace l0 := s11.cell l0
  replace l1 := s11.cell l1
  replace l2 := s11.cell l2
  clear s11
  go_wp2_with fail
  have hn7 : n7 ≤ 1048576 := G7.out.rd.n_ FT.out
  have hq7 : q7 ≤ 1048576 := G7.out.rd.m_ FT.out
  refine (markRound_any mr A7 B7 n7 c7 q7 d7 _ 1 ys ps _ G7.out.oi G7.out.oh (OI_OS_ne G7.out.oi G7.out.oh) hn7 hq7 (by omega) (by omega)).mono ?_
  rintro e w12 ⟨rfl, om, pm, tu⟩
  have hla := fun g hg => (G7.out.oi.lt g hg).1
  have hlb := fun g hg => (G7.out.oh.lt g hg).1
  have hP : ∀ g, (blockOf A7 = some g ∨ blockOf B7 = some g) → w4.heap.size ≤ g := fun g hg => by exact hg.elim (hla g) (hlb g)
  have S := hid (Turned.st S.out tu (fun g hg => by have h1 := hP g hg; have h2 := HZ4.out; have h3 := HZ3.out; omega))
  have T5 := hid (Turned.st T5.out tu (fun g hg => by have h1 := hP g hg; have h2 := HZ4.out; have h3 := HZ3.out; omega))
  have hA7 : blockOf A7 ≠ some b7 := by rw [← ownBlock_slice A7 n7 c7]; exact own_blk_ne G7.out.oi K7.out (by decide)
  have hB7 : blockOf B7 ≠ some b7 := by rw [← ownBlock_slice B7 q7 d7]; exact own_blk_ne G7.out.oh.2 K7.out (by decide)
  have K7 := hid (Blk.turned K7.out tu (fun hg => hg.elim hA7 hB7))
  have K5 := hid (Blk.turned K5.out tu (fun hg => by have h1 := hP _ hg; have h2 := HZ4.out; have h3 := HZ3.out; have h4 := HL5.out; omega))
  have x0 := tu.cell x0 (fun hg => by have h1 : w4.heap.size ≤ w.heap.size := hP _ hg; have h2 := HZ4.out; have h3 := HZ3.out; omega)
  have x1 := tu.cell x1 (fun hg => by have h1 : w4.heap.size ≤ w.heap.size := hP _ hg; have h2 := HZ4.out; have h3 := HZ3.out; omega)
  have x2 := tu.cell x2 (fun hg => by have h1 : w4.heap.size ≤ w.heap.size := hP _ hg; have h2 := HZ4.out; have h3 := HZ3.out; omega)
  have p0 := tu.cell p0 (fun hg => by have h1 : w4.heap.size ≤ w.heap.size + 1 := hP _ hg; have h2 := HZ4.out; have h3 := HZ3.out; omega)
  have p1 := tu.cell p1 (fun hg => by have h1 : w4.heap.size ≤ w.heap.size + 1 := hP _ hg; have h2 := HZ4.out; have h3 := HZ3.out; omega)
  have OM := hid om.sl
  have PM := hid pm.ss
  clear om pm tu hP hla hlb hA7 hB7 k0 k1 k2 l0 l1 l2 G7 hz5
  have k0 := K7.out.cell_ (i := 0) (v := .int .i64 mr) rfl
  have k1 := K7.out.cell_ (i := 1) (v := .slice A7 n7 c7) rfl
  have k2 := K7.out.cell_ (i := 2) (v := .slice B7 q7 d7) rfl
  go_wp2_with fail
  refine (heldRound_any mr A7 B7 n7 c7 q7 d7 1 _ OM.out PM.out hn7 hq7 (by omega) (by omega)).mono ?_
  rintro e w13 ⟨rfl, s13⟩
  replace S := hid (S.out.st s13)
  replace T5 := hid (T5.out.st s13)
  replace K5 := hid (K5.out.st s13)
  replace K7 := hid (K7.out.st s13)
  replace OM := hid (OM.out.st s13)
  replace PM := hid (PM.out.st s13)
  replace x0 := s13.cell x0
  replace x1 := s13.cell x1
  replace x2 := s13.cell x2
  replace p0 := s13.cell p0
  replace p1 := s13.cell p1
  replace k0 := s13.cell k0
  replace k1 := s13.cell k1
  replace k2 := s13.cell k2
  clear s13
  have hqn : ¬ (1 : Int) + (n7 : Int) + 2 * (q7 : Int) < 0 := by omega
  go_upto_region 24 with (fail)
  have R := hid (hR0.st S.out)
  have sA := (Dr.st ⟨1, rfl⟩ : St w13 (w13.drewN 1))
  have sB := sA.alloc (.cells #[.int .i64 0, .slice none 0 0, .slice none 0 0] 25)
  go_cut [14, 15] from 16 (fun s14 s15 wx => ∃ (bb : Nat) (Ab : Option Addr) (nb cb : Nat) (Bb : Option Addr) (qb db : Nat), s14 = .pointer (some ⟨bb, 0, none⟩) ∧ s15 = .bool ok ∧ Hid (RBk w13 wx bb mr Ab nb cb Bb qb db ys ps))
  case first =>
    refine wp_region_held_drew (S := (fun w' => w'.cell? ⟨w.heap.size, 0, none⟩ = some (.int .i64 M) ∧ w'.cell? ⟨w.heap.size, 1, none⟩ = some (.slice A n c) ∧ w'.cell? ⟨w.heap.size, 2, none⟩ = some (.slice B m d) ∧ w'.cell? ⟨w.heap.size + 1, 0, none⟩ = some (.int .i64 t) ∧ w'.cell? ⟨w.heap.size + 1, 1, none⟩ = some (.int .i64 g))) (by kernel_rfl) ?_ (fun hH0 => ?_)
    · exact ⟨x0, x1, x2, p0, p1⟩
    refine wpAnyH_take (i := 0) (oi := ⟨some 80, _, _, _, _, _⟩) (v := ?_) rfl (by kernel_rfl) (by kernel_rfl) (by kernel_rfl) (fun _ _ _ h => h) (Or.inl ⟨by rfl, ?_⟩) (by assumption) ?_
    rotate_left
    · (intro w hSw; (try dsimp only at hSw); go_simp; (try with_reducible rfl))
    (try simp only [Act.put, List.setIfInBounds_toArray, List.set_cons_zero, List.set_cons_succ])
    refine wpAnyH_take (i := 2) (oi := ⟨some 82, _, _, _, _, _⟩) (v := ?_) rfl (by kernel_rfl) (by kernel_rfl) (by kernel_rfl) (fun _ _ _ h => h) (Or.inl ⟨by rfl, ?_⟩) (by assumption) ?_
    rotate_left
    · (intro w hSw; (try dsimp only at hSw); go_simp; (try with_reducible rfl))
    (try simp only [Act.put, List.setIfInBounds_toArray, List.set_cons_zero, List.set_cons_succ])
    refine wpAnyH_ready (rs := [1, 8]) (by kernel_rfl) (by simp) ?_
    refine AllReadyH.cons (o := ⟨some 81, _, _, _, _, _⟩) rfl (fun K hK => ?_) ?_
    · skip
      go_simp
      (go_at_call 26; refine (rd_to (R.out.st (by first | exact sA | exact sB)) HF.out).mono ?_; rintro e wa ⟨Aa, na, ca, Ba, ma, da, rfl, oa, twa⟩; have Twa : St w13 wa := (by first | exact St.trans sA twa | exact St.trans (St.alloc sA (.cells #[.int .i64 0, .slice none 0 0, .slice none 0 0] 25)) twa); have RA := hid oa.rd)
      (first | (refine hK.out _ _ ?_ (fun hH1 => ?_)) | (go_wp2_with fail; refine hK.out _ _ ?_ (fun hH1 => ?_)))
      · exact ⟨(Twa).cell x0, (Twa).cell x1, (Twa).cell x2, (Twa).cell p0, (Twa).cell p1⟩
      clear hK K hH0
      (try simp only [Act.put, List.setIfInBounds_toArray, List.set_cons_zero, List.set_cons_succ])
      refine wpAnyH_ready (rs := [3, 8]) (by kernel_rfl) (by simp) ?_
      refine AllReadyH.cons (o := ⟨some 83, _, _, _, _, _⟩) rfl (fun K hK => ?_) ?_
      · skip
        go_simp
        (go_at_call 46; refine (toStamp_any t g _).mono ?_; rintro e wb ⟨rfl, twb⟩; have Twb : St w13 wb := (by first | exact St.trans Twa twb | exact St.trans (St.alloc Twa (.cells #[.int .i64 0, .slice none 0 0, .slice none 0 0] 25)) twb); have RB1 := hid (show RdRd wb M Aa na ca Ba ma da xs ss by first | exact RA.out.st twb | exact (RA.out.st ((St.refl wa).alloc (.cells #[.int .i64 0, .slice none 0 0, .slice none 0 0] 25))).st twb))
        (first | (refine hK.out _ _ ?_ (fun hH2 => ?_)) | (go_wp2_with fail; refine hK.out _ _ ?_ (fun hH2 => ?_)))
        · exact ⟨(Twb).cell x0, (Twb).cell x1, (Twb).cell x2, (Twb).cell p0, (Twb).cell p1⟩
        clear hK K hH1
        (try simp only [Act.put, List.setIfInBounds_toArray, List.set_cons_zero, List.set_cons_succ])
        refine wpAnyH_ready (rs := [4, 8]) (by kernel_rfl) (by simp) ?_
        refine AllReadyH.cons (o := ⟨some 84, _, _, _, _, _⟩) rfl (fun K hK => ?_) ?_
        · skip
          go_simp
          (go_at_call 37; refine (RoundAdd_r t g (show RdRd _ M Aa na ca Ba ma da xs ss by first | exact RB1.out | exact RB1.out.st ((St.refl wb).alloc (.cells #[.int .i64 0, .slice none 0 0, .slice none 0 0] 25))) HF.out).mono ?_; rintro e wc ⟨Ac, nc, cc, Bc, qc, dc, rfl, oc, twc⟩; rw [HE.out.1, HE.out.2.1, HE.out.2.2.1] at oc; rw [HE.out.1, HE.out.2.2.2]; have Twc : St w13 wc := (by first | exact St.trans Twb twc | exact St.trans (St.alloc Twb (.cells #[.int .i64 0, .slice none 0 0, .slice none 0 0] 25)) twc))
          (first | (refine hK.out _ _ ?_ (fun hH3 => ?_)) | (go_wp2_with fail; refine hK.out _ _ ?_ (fun hH3 => ?_)))
          · exact ⟨(Twc).cell x0, (Twc).cell x1, (Twc).cell x2, (Twc).cell p0, (Twc).cell p1⟩
          clear hK K hH2
          (try simp only [Act.put, List.setIfInBounds_toArray, List.set_cons_zero, List.set_cons_succ])
          refine wpAnyH_take (i := 5) (oi := ⟨some 79, _, _, _, _, _⟩) (v := ?_) rfl (by kernel_rfl) (by kernel_rfl) (by kernel_rfl) (fun _ _ _ h => h) (Or.inl ⟨by rfl, ?_⟩) (by assumption) ?_
          rotate_left
          · (intro w hSw; (try dsimp only at hSw); go_simp; (try with_reducible rfl))
          (try simp only [Act.put, List.setIfInBounds_toArray, List.set_cons_zero, List.set_cons_succ])
          refine wpAnyH_take (i := 6) (oi := ⟨some 85, _, _, _, _, _⟩) (v := ?_) rfl (by kernel_rfl) (by kernel_rfl) (by kernel_rfl) (fun _ _ _ h => h) (Or.inl ⟨by rfl, ?_⟩) (by assumption) ?_
          rotate_left
          · (intro w hSw; (try dsimp only at hSw); go_simp; (try with_reducible rfl))
          (try simp only [Act.put, List.setIfInBounds_toArray, List.set_cons_zero, List.set_cons_succ])
          refine wpAnyH_take (i := 7) (oi := ⟨some 86, _, _, _, _, _⟩) (v := ?_) rfl (by kernel_rfl) (by kernel_rfl) (by kernel_rfl) (fun _ _ _ h => h) (Or.inl ⟨by rfl, ?_⟩) (by assumption) ?_
          rotate_left
          · (intro w hSw; (try dsimp only at hSw); go_simp; (try with_reducible rfl))
          (try simp only [Act.put, List.setIfInBounds_toArray, List.set_cons_zero, List.set_cons_succ])
          refine wpAnyH_ready (rs := [8]) (by kernel_rfl) (by simp) ?_
          refine AllReadyH.cons (o := ⟨some 14, _, _, _, _, _⟩) rfl (fun K hK => ?_) AllReadyH.nil
          go_simp; have KZ := hid (Blk.new wc 25 #[.int .i64 0, .slice none 0 0, .slice none 0 0]); have z0 := KZ.out.cell_ (i := 0) (v := .int .i64 0) rfl; have z1 := KZ.out.cell_ (i := 1) (v := .slice none 0 0) rfl; have z2 := KZ.out.cell_ (i := 2) (v := .slice none 0 0) rfl; have f0 := KZ.out.frozen 0; have f1 := KZ.out.frozen 1; have f2 := KZ.out.frozen 2; have RX := hid (RBk.last (W1 := w13) Twc oc (by first | exact Nat.le_refl _ | exact Twa.le | exact Twb.le | (exact Nat.le_trans Twa.le (Nat.le_refl _))))
          (first | (refine hK.out _ _ ?_ (fun hH4 => ?_)) | (go_wp2_with fail; refine hK.out _ _ ?_ (fun hH4 => ?_)))
          · exact ⟨(Twc.alloc (.cells #[.int .i64 0, .slice none 0 0, .slice none 0 0] 25)).cell x0, (Twc.alloc (.cells #[.int .i64 0, .slice none 0 0, .slice none 0 0] 25)).cell x1, (Twc.alloc (.cells #[.int .i64 0, .slice none 0 0, .slice none 0 0] 25)).cell x2, (Twc.alloc (.cells #[.int .i64 0, .slice none 0 0, .slice none 0 0] 25)).cell p0, (Twc.alloc (.cells #[.int .i64 0, .slice none 0 0, .slice none 0 0] 25)).cell p1⟩
          clear hK K hH3
          (try simp only [Act.put, List.setIfInBounds_toArray, List.set_cons_zero, List.set_cons_succ])
          refine wpAnyH_ready (rs := [9]) (by kernel_rfl) (by simp) ?_
          refine AllReadyH.cons (o := ⟨none, _, _, _, _, _⟩) rfl (fun K hK => ?_) AllReadyH.nil
          go_simp
          (first | (refine hK.out _ _ ?_ (fun hH5 => ?_)) | (go_wp2_with fail; refine hK.out _ _ ?_ (fun hH5 => ?_)))
          · exact ⟨RX.out.cell x0, RX.out.cell x1, RX.out.cell x2, RX.out.cell p0, RX.out.cell p1⟩
          clear hK K hH4
          (try simp only [Act.put, List.setIfInBounds_toArray, List.set_cons_zero, List.set_cons_succ])
          refine wpAnyH_take (i := 10) (oi := ⟨some 15, _, _, _, _, _⟩) (v := ?_) rfl (by kernel_rfl) (by kernel_rfl) (by kernel_rfl) (fun _ _ _ h => h) (Or.inl ⟨by rfl, ?_⟩) (by assumption) ?_
          rotate_left
          · (intro w hSw; (try dsimp only at hSw); go_simp; (try with_reducible rfl))
          (try simp only [Act.put, List.setIfInBounds_toArray, List.set_cons_zero, List.set_cons_succ])
          refine wpAnyH_done (by kernel_rfl) ?_ _
          clear hH5
          go_wp2_with fail
          go_meet
          exact ⟨_, _, _, _, _, _, _, rfl, rfl, hid RX.out⟩
        refine AllReadyH.cons (o := ⟨some 14, _, _, _, _, _⟩) rfl (fun K hK => ?_) ?_
        · skip
          go_simp; have KZ := hid (Blk.new wb 25 #[.int .i64 0, .slice none 0 0, .slice none 0 0]); have z0 := KZ.out.cell_ (i := 0) (v := .int .i64 0) rfl; have z1 := KZ.out.cell_ (i := 1) (v := .slice none 0 0) rfl; have z2 := KZ.out.cell_ (i := 2) (v := .slice none 0 0) rfl; have f0 := KZ.out.frozen 0; have f1 := KZ.out.frozen 1; have f2 := KZ.out.frozen 2
          (first | (refine hK.out _ _ ?_ (fun hH3 => ?_)) | (go_wp2_with fail; refine hK.out _ _ ?_ (fun hH3 => ?_)))
          · exact ⟨(Twb.alloc (.cells #[.int .i64 0, .slice none 0 0, .slice none 0 0] 25)).cell x0, (Twb.alloc (.cells #[.int .i64 0, .slice none 0 0, .slice none 0 0] 25)).cell x1, (Twb.alloc (.cells #[.int .i64 0, .slice none 0 0, .slice none 0 0] 25)).cell x2, (Twb.alloc (.cells #[.int .i64 0, .slice none 0 0, .slice none 0 0] 25)).cell p0, (Twb.alloc (.cells #[.int .i64 0, .slice none 0 0, .slice none 0 0] 25)).cell p1⟩
          clear hK K hH2
          (try simp only [Act.put, List.setIfInBounds_toArray, List.set_cons_zero, List.set_cons_succ])
          refine wpAnyH_ready (rs := [4]) (by kernel_rfl) (by simp) ?_
          refine AllReadyH.cons (o := ⟨some 84, _, _, _, _, _⟩) rfl (fun K hK => ?_) AllReadyH.nil
          go_simp
          (have hzl := KZ.out.lt; go_at_call 37; refine (RoundAdd_r t g (show RdRd _ M Aa na ca Ba ma da xs ss by first | exact RB1.out | exact RB1.out.st ((St.refl wb).alloc (.cells #[.int .i64 0, .slice none 0 0, .slice none 0 0] 25))) HF.out).mono ?_; rintro e wc ⟨Ac, nc, cc, Bc, qc, dc, rfl, oc, twc⟩; rw [HE.out.1, HE.out.2.1, HE.out.2.2.1] at oc; rw [HE.out.1, HE.out.2.2.2]; have Twc : St w13 wc := (by first | exact St.trans Twb twc | exact St.trans (St.alloc Twb (.cells #[.int .i64 0, .slice none 0 0, .slice none 0 0] 25)) twc); have KZ := hid (KZ.out.st twc); clear z0 z1 z2 f0 f1 f2; have z0 := KZ.out.cell_ (i := 0) (v := .int .i64 0) rfl; have z1 := KZ.out.cell_ (i := 1) (v := .slice none 0 0) rfl; have z2 := KZ.out.cell_ (i := 2) (v := .slice none 0 0) rfl; have f0 := KZ.out.frozen 0; have f1 := KZ.out.frozen 1; have f2 := KZ.out.frozen 2; have RX := hid (RBk.sets (W1 := w13) Twc oc KZ.out (by first | exact Nat.le_refl _ | exact Twa.le | exact Twb.le) hzl rfl))
          (first | (refine hK.out _ _ ?_ (fun hH4 => ?_)) | (go_wp2_with fail; refine hK.out _ _ ?_ (fun hH4 => ?_)))
          · exact ⟨(Twc).cell x0, (Twc).cell x1, (Twc).cell x2, (Twc).cell p0, (Twc).cell p1⟩
          clear hK K hH3
          (try simp only [Act.put, List.setIfInBounds_toArray, List.set_cons_zero, List.set_cons_succ])
          refine wpAnyH_take (i := 5) (oi := ⟨some 79, _, _, _, _, _⟩) (v := ?_) rfl (by kernel_rfl) (by kernel_rfl) (by kernel_rfl) (fun _ _ _ h => h) (Or.inl ⟨by rfl, ?_⟩) (by assumption) ?_
          rotate_left
          · (intro w hSw; (try dsimp only at hSw); go_simp; (try with_reducible rfl))
          (try simp only [Act.put, List.setIfInBounds_toArray, List.set_cons_zero, List.set_cons_succ])
          refine wpAnyH_take (i := 6) (oi := ⟨some 85, _, _, _, _, _⟩) (v := ?_) rfl (by kernel_rfl) (by kernel_rfl) (by kernel_rfl) (fun _ _ _ h => h) (Or.inl ⟨by rfl, ?_⟩) (by assumption) ?_
          rotate_left
          · (intro w hSw; (try dsimp only at hSw); go_simp; (try with_reducible rfl))
          (try simp only [Act.put, List.setIfInBounds_toArray, List.set_cons_zero, List.set_cons_succ])
          refine wpAnyH_take (i := 7) (oi := ⟨some 86, _, _, _, _, _⟩) (v := ?_) rfl (by kernel_rfl) (by kernel_rfl) (by kernel_rfl) (fun _ _ _ h => h) (Or.inl ⟨by rfl, ?_⟩) (by assumption) ?_
          rotate_left
          · (intro w hSw; (try dsimp only at hSw); go_simp; (try with_reducible rfl))
          (try simp only [Act.put, List.setIfInBounds_toArray, List.set_cons_zero, List.set_cons_succ])
          refine wpAnyH_ready (rs := [9]) (by kernel_rfl) (by simp) ?_
          refine AllReadyH.cons (o := ⟨none, _, _, _, _, _⟩) rfl (fun K hK => ?_) AllReadyH.nil
          go_simp
          (first | (refine hK.out _ _ ?_ (fun hH5 => ?_)) | (go_wp2_with fail; refine hK.out _ _ ?_ (fun hH5 => ?_)))
          · exact ⟨RX.out.cell x0, RX.out.cell x1, RX.out.cell x2, RX.out.cell p0, RX.out.cell p1⟩
          clear hK K hH4
          (try simp only [Act.put, List.setIfInBounds_toArray, List.set_cons_zero, List.set_cons_succ])
          refine wpAnyH_take (i := 10) (oi := ⟨some 15, _, _, _, _, _⟩) (v := ?_) rfl (by kernel_rfl) (by kernel_rfl) (by kernel_rfl) (fun _ _ _ h => h) (Or.inl ⟨by rfl, ?_⟩) (by assumption) ?_
          rotate_left
          · (intro w hSw; (try dsimp only at hSw); go_simp; (try with_reducible rfl))
          (try simp only [Act.put, List.setIfInBounds_toArray, List.set_cons_zero, List.set_cons_succ])
          refine wpAnyH_done (by kernel_rfl) ?_ _
          clear hH5
          go_wp2_with fail
          go_meet
          exact ⟨_, _, _, _, _, _, _, rfl, rfl, hid RX.out⟩
        exact AllReadyH.nil
      refine AllReadyH.cons (o := ⟨some 14, _, _, _, _, _⟩) rfl (fun K hK => ?_) ?_
      · skip
        go_simp; have KZ := hid (Blk.new wa 25 #[.int .i64 0, .slice none 0 0, .slice none 0 0]); have z0 := KZ.out.cell_ (i := 0) (v := .int .i64 0) rfl; have z1 := KZ.out.cell_ (i := 1) (v := .slice none 0 0) rfl; have z2 := KZ.out.cell_ (i := 2) (v := .slice none 0 0) rfl; have f0 := KZ.out.frozen 0; have f1 := KZ.out.frozen 1; have f2 := KZ.out.frozen 2
        (first | (refine hK.out _ _ ?_ (fun hH2 => ?_)) | (go_wp2_with fail; refine hK.out _ _ ?_ (fun hH2 => ?_)))
        · exact ⟨(Twa.alloc (.cells #[.int .i64 0, .slice none 0 0, .slice none 0 0] 25)).cell x0, (Twa.alloc (.cells #[.int .i64 0, .slice none 0 0, .slice none 0 0] 25)).cell x1, (Twa.alloc (.cells #[.int .i64 0, .slice none 0 0, .slice none 0 0] 25)).cell x2, (Twa.alloc (.cells #[.int .i64 0, .slice none 0 0, .slice none 0 0] 25)).cell p0, (Twa.alloc (.cells #[.int .i64 0, .slice none 0 0, .slice none 0 0] 25)).cell p1⟩
        clear hK K hH1
        (try simp only [Act.put, List.setIfInBounds_toArray, List.set_cons_zero, List.set_cons_succ])
        refine wpAnyH_ready (rs := [3]) (by kernel_rfl) (by simp) ?_
        refine AllReadyH.cons (o := ⟨some 83, _, _, _, _, _⟩) rfl (fun K hK => ?_) AllReadyH.nil
        go_simp
        (have hzl := KZ.out.lt; go_at_call 46; refine (toStamp_any t g _).mono ?_; rintro e wb ⟨rfl, twb⟩; have Twb : St w13 wb := (by first | exact St.trans Twa twb | exact St.trans (St.alloc Twa (.cells #[.int .i64 0, .slice none 0 0, .slice none 0 0] 25)) twb); have RB1 := hid (show RdRd wb M Aa na ca Ba ma da xs ss by first | exact RA.out.st twb | exact (RA.out.st ((St.refl wa).alloc (.cells #[.int .i64 0, .slice none 0 0, .slice none 0 0] 25))).st twb); have KZ := hid (KZ.out.st twb); clear z0 z1 z2 f0 f1 f2; have z0 := KZ.out.cell_ (i := 0) (v := .int .i64 0) rfl; have z1 := KZ.out.cell_ (i := 1) (v := .slice none 0 0) rfl; have z2 := KZ.out.cell_ (i := 2) (v := .slice none 0 0) rfl; have f0 := KZ.out.frozen 0; have f1 := KZ.out.frozen 1; have f2 := KZ.out.frozen 2)
        (first | (refine hK.out _ _ ?_ (fun hH3 => ?_)) | (go_wp2_with fail; refine hK.out _ _ ?_ (fun hH3 => ?_)))
        · exact ⟨(Twb).cell x0, (Twb).cell x1, (Twb).cell x2, (Twb).cell p0, (Twb).cell p1⟩
        clear hK K hH2
        (try simp only [Act.put, List.setIfInBounds_toArray, List.set_cons_zero, List.set_cons_succ])
        refine wpAnyH_ready (rs := [4]) (by kernel_rfl) (by simp) ?_
        refine AllReadyH.cons (o := ⟨some 84, _, _, _, _, _⟩) rfl (fun K hK => ?_) AllReadyH.nil
        go_simp
        (have hzl := KZ.out.lt; go_at_call 37; refine (RoundAdd_r t g (show RdRd _ M Aa na ca Ba ma da xs ss by first | exact RB1.out | exact RB1.out.st ((St.refl wb).alloc (.cells #[.int .i64 0, .slice none 0 0, .slice none 0 0] 25))) HF.out).mono ?_; rintro e wc ⟨Ac, nc, cc, Bc, qc, dc, rfl, oc, twc⟩; rw [HE.out.1, HE.out.2.1, HE.out.2.2.1] at oc; rw [HE.out.1, HE.out.2.2.2]; have Twc : St w13 wc := (by first | exact St.trans Twb twc | exact St.trans (St.alloc Twb (.cells #[.int .i64 0, .slice none 0 0, .slice none 0 0] 25)) twc); have KZ := hid (KZ.out.st twc); clear z0 z1 z2 f0 f1 f2; have z0 := KZ.out.cell_ (i := 0) (v := .int .i64 0) rfl; have z1 := KZ.out.cell_ (i := 1) (v := .slice none 0 0) rfl; have z2 := KZ.out.cell_ (i := 2) (v := .slice none 0 0) rfl; have f0 := KZ.out.frozen 0; have f1 := KZ.out.frozen 1; have f2 := KZ.out.frozen 2; have RX := hid (RBk.sets (W1 := w13) Twc oc KZ.out (by first | exact Nat.le_refl _ | exact Twa.le | exact Twb.le) hzl rfl))
        (first | (refine hK.out _ _ ?_ (fun hH4 => ?_)) | (go_wp2_with fail; refine hK.out _ _ ?_ (fun hH4 => ?_)))
        · exact ⟨(Twc).cell x0, (Twc).cell x1, (Twc).cell x2, (Twc).cell p0, (Twc).cell p1⟩
        clear hK K hH3
        (try simp only [Act.put, List.setIfInBounds_toArray, List.set_cons_zero, List.set_cons_succ])
        refine wpAnyH_take (i := 5) (oi := ⟨some 79, _, _, _, _, _⟩) (v := ?_) rfl (by kernel_rfl) (by kernel_rfl) (by kernel_rfl) (fun _ _ _ h => h) (Or.inl ⟨by rfl, ?_⟩) (by assumption) ?_
        rotate_left
        · (intro w hSw; (try dsimp only at hSw); go_simp; (try with_reducible rfl))
        (try simp only [Act.put, List.setIfInBounds_toArray, List.set_cons_zero, List.set_cons_succ])
        refine wpAnyH_take (i := 6) (oi := ⟨some 85, _, _, _, _, _⟩) (v := ?_) rfl (by kernel_rfl) (by kernel_rfl) (by kernel_rfl) (fun _ _ _ h => h) (Or.inl ⟨by rfl, ?_⟩) (by assumption) ?_
        rotate_left
        · (intro w hSw; (try dsimp only at hSw); go_simp; (try with_reducible rfl))
        (try simp only [Act.put, List.setIfInBounds_toArray, List.set_cons_zero, List.set_cons_succ])
        refine wpAnyH_take (i := 7) (oi := ⟨some 86, _, _, _, _, _⟩) (v := ?_) rfl (by kernel_rfl) (by kernel_rfl) (by kernel_rfl) (fun _ _ _ h => h) (Or.inl ⟨by rfl, ?_⟩) (by assumption) ?_
        rotate_left
        · (intro w hSw; (try dsimp only at hSw); go_simp; (try with_reducible rfl))
        (try simp only [Act.put, List.setIfInBounds_toArray, List.set_cons_zero, List.set_cons_succ])
        refine wpAnyH_ready (rs := [9]) (by kernel_rfl) (by simp) ?_
        refine AllReadyH.cons (o := ⟨none, _, _, _, _, _⟩) rfl (fun K hK => ?_) AllReadyH.nil
        go_simp
        (first | (refine hK.out _ _ ?_ (fun hH5 => ?_)) | (go_wp2_with fail; refine hK.out _ _ ?_ (fun hH5 => ?_)))
        · exact ⟨RX.out.cell x0, RX.out.cell x1, RX.out.cell x2, RX.out.cell p0, RX.out.cell p1⟩
        clear hK K hH4
        (try simp only [Act.put, List.setIfInBounds_toArray, List.set_cons_zero, List.set_cons_succ])
        refine wpAnyH_take (i := 10) (oi := ⟨some 15, _, _, _, _, _⟩) (v := ?_) rfl (by kernel_rfl) (by kernel_rfl) (by kernel_rfl) (fun _ _ _ h => h) (Or.inl ⟨by rfl, ?_⟩) (by assumption) ?_
        rotate_left
        · (intro w hSw; (try dsimp only at hSw); go_simp; (try with_reducible rfl))
        (try simp only [Act.put, List.setIfInBounds_toArray, List.set_cons_zero, List.set_cons_succ])
        refine wpAnyH_done (by kernel_rfl) ?_ _
        clear hH5
        go_wp2_with fail
        go_meet
        exact ⟨_, _, _, _, _, _, _, rfl, rfl, hid RX.out⟩
      exact AllReadyH.nil
    refine AllReadyH.cons (o := ⟨some 14, _, _, _, _, _⟩) rfl (fun K hK => ?_) ?_
    · skip
      go_simp; have KZ := hid (show Blk ((w13.drewN 1).alloc (.cells #[.int .i64 0, .slice none 0 0, .slice none 0 0] 25)) w13.heap.size 25 #[.int .i64 0, .slice none 0 0, .slice none 0 0] from Blk.new (w13.drewN 1) _ _); have z0 := KZ.out.cell_ (i := 0) (v := .int .i64 0) rfl; have z1 := KZ.out.cell_ (i := 1) (v := .slice none 0 0) rfl; have z2 := KZ.out.cell_ (i := 2) (v := .slice none 0 0) rfl; have f0 := KZ.out.frozen 0; have f1 := KZ.out.frozen 1; have f2 := KZ.out.frozen 2
      (first | (refine hK.out _ _ ?_ (fun hH1 => ?_)) | (go_wp2_with fail; refine hK.out _ _ ?_ (fun hH1 => ?_)))
      · exact ⟨(sB).cell x0, (sB).cell x1, (sB).cell x2, (sB).cell p0, (sB).cell p1⟩
      clear hK K hH0
      (try simp only [Act.put, List.setIfInBounds_toArray, List.set_cons_zero, List.set_cons_succ])
      refine wpAnyH_ready (rs := [1]) (by kernel_rfl) (by simp) ?_
      refine AllReadyH.cons (o := ⟨some 81, _, _, _, _, _⟩) rfl (fun K hK => ?_) AllReadyH.nil
      go_simp
      (have hzl := KZ.out.lt; go_at_call 26; refine (rd_to (R.out.st (by first | exact sA | exact sB)) HF.out).mono ?_; rintro e wa ⟨Aa, na, ca, Ba, ma, da, rfl, oa, twa⟩; have Twa : St w13 wa := (by first | exact St.trans sA twa | exact St.trans (St.alloc sA (.cells #[.int .i64 0, .slice none 0 0, .slice none 0 0] 25)) twa); have RA := hid oa.rd; have KZ := hid (KZ.out.st twa); clear z0 z1 z2 f0 f1 f2; have z0 := KZ.out.cell_ (i := 0) (v := .int .i64 0) rfl; have z1 := KZ.out.cell_ (i := 1) (v := .slice none 0 0) rfl; have z2 := KZ.out.cell_ (i := 2) (v := .slice none 0 0) rfl; have f0 := KZ.out.frozen 0; have f1 := KZ.out.frozen 1; have f2 := KZ.out.frozen 2)
      (first | (refine hK.out _ _ ?_ (fun hH2 => ?_)) | (go_wp2_with fail; refine hK.out _ _ ?_ (fun hH2 => ?_)))
      · exact ⟨(Twa).cell x0, (Twa).cell x1, (Twa).cell x2, (Twa).cell p0, (Twa).cell p1⟩
      clear hK K hH1
      (try simp only [Act.put, List.setIfInBounds_toArray, List.set_cons_zero, List.set_cons_succ])
      refine wpAnyH_ready (rs := [3]) (by kernel_rfl) (by simp) ?_
      refine AllReadyH.cons (o := ⟨some 83, _, _, _, _, _⟩) rfl (fun K hK => ?_) AllReadyH.nil
      go_simp
      (have hzl := KZ.out.lt; go_at_call 46; refine (toStamp_any t g _).mono ?_; rintro e wb ⟨rfl, twb⟩; have Twb : St w13 wb := (by first | exact St.trans Twa twb | exact St.trans (St.alloc Twa (.cells #[.int .i64 0, .slice none 0 0, .slice none 0 0] 25)) twb); have RB1 := hid (show RdRd wb M Aa na ca Ba ma da xs ss by first | exact RA.out.st twb | exact (RA.out.st ((St.refl wa).alloc (.cells #[.int .i64 0, .slice none 0 0, .slice none 0 0] 25))).st twb); have KZ := hid (KZ.out.st twb); clear z0 z1 z2 f0 f1 f2; have z0 := KZ.out.cell_ (i := 0) (v := .int .i64 0) rfl; have z1 := KZ.out.cell_ (i := 1) (v := .slice none 0 0) rfl; have z2 := KZ.out.cell_ (i := 2) (v := .slice none 0 0) rfl; have f0 := KZ.out.frozen 0; have f1 := KZ.out.frozen 1; have f2 := KZ.out.frozen 2)
      (first | (refine hK.out _ _ ?_ (fun hH3 => ?_)) | (go_wp2_with fail; refine hK.out _ _ ?_ (fun hH3 => ?_)))
      · exact ⟨(Twb).cell x0, (Twb).cell x1, (Twb).cell x2, (Twb).cell p0, (Twb).cell p1⟩
      clear hK K hH2
      (try simp only [Act.put, List.setIfInBounds_toArray, List.set_cons_zero, List.set_cons_succ])
      refine wpAnyH_ready (rs := [4]) (by kernel_rfl) (by simp) ?_
      refine AllReadyH.cons (o := ⟨some 84, _, _, _, _, _⟩) rfl (fun K hK => ?_) AllReadyH.nil
      go_simp
      (have hzl := KZ.out.lt; go_at_call 37; refine (RoundAdd_r t g (show RdRd _ M Aa na ca Ba ma da xs ss by first | exact RB1.out | exact RB1.out.st ((St.refl wb).alloc (.cells #[.int .i64 0, .slice none 0 0, .slice none 0 0] 25))) HF.out).mono ?_; rintro e wc ⟨Ac, nc, cc, Bc, qc, dc, rfl, oc, twc⟩; rw [HE.out.1, HE.out.2.1, HE.out.2.2.1] at oc; rw [HE.out.1, HE.out.2.2.2]; have Twc : St w13 wc := (by first | exact St.trans Twb twc | exact St.trans (St.alloc Twb (.cells #[.int .i64 0, .slice none 0 0, .slice none 0 0] 25)) twc); have KZ := hid (KZ.out.st twc); clear z0 z1 z2 f0 f1 f2; have z0 := KZ.out.cell_ (i := 0) (v := .int .i64 0) rfl; have z1 := KZ.out.cell_ (i := 1) (v := .slice none 0 0) rfl; have z2 := KZ.out.cell_ (i := 2) (v := .slice none 0 0) rfl; have f0 := KZ.out.frozen 0; have f1 := KZ.out.frozen 1; have f2 := KZ.out.frozen 2; have RX := hid (RBk.sets (W1 := w13) Twc oc KZ.out (by first | exact Nat.le_refl _ | exact Twa.le | exact Twb.le) hzl rfl))
      (first | (refine hK.out _ _ ?_ (fun hH4 => ?_)) | (go_wp2_with fail; refine hK.out _ _ ?_ (fun hH4 => ?_)))
      · exact ⟨(Twc).cell x0, (Twc).cell x1, (Twc).cell x2, (Twc).cell p0, (Twc).cell p1⟩
      clear hK K hH3
      (try simp only [Act.put, List.setIfInBounds_toArray, List.set_cons_zero, List.set_cons_succ])
      refine wpAnyH_take (i := 5) (oi := ⟨some 79, _, _, _, _, _⟩) (v := ?_) rfl (by kernel_rfl) (by kernel_rfl) (by kernel_rfl) (fun _ _ _ h => h) (Or.inl ⟨by rfl, ?_⟩) (by assumption) ?_
      rotate_left
      · (intro w hSw; (try dsimp only at hSw); go_simp; (try with_reducible rfl))
      (try simp only [Act.put, List.setIfInBounds_toArray, List.set_cons_zero, List.set_cons_succ])
      refine wpAnyH_take (i := 6) (oi := ⟨some 85, _, _, _, _, _⟩) (v := ?_) rfl (by kernel_rfl) (by kernel_rfl) (by kernel_rfl) (fun _ _ _ h => h) (Or.inl ⟨by rfl, ?_⟩) (by assumption) ?_
      rotate_left
      · (intro w hSw; (try dsimp only at hSw); go_simp; (try with_reducible rfl))
      (try simp only [Act.put, List.setIfInBounds_toArray, List.set_cons_zero, List.set_cons_succ])
      refine wpAnyH_take (i := 7) (oi := ⟨some 86, _, _, _, _, _⟩) (v := ?_) rfl (by kernel_rfl) (by kernel_rfl) (by kernel_rfl) (fun _ _ _ h => h) (Or.inl ⟨by rfl, ?_⟩) (by assumption) ?_
      rotate_left
      · (intro w hSw; (try dsimp only at hSw); go_simp; (try with_reducible rfl))
      (try simp only [Act.put, List.setIfInBounds_toArray, List.set_cons_zero, List.set_cons_succ])
      refine wpAnyH_ready (rs := [9]) (by kernel_rfl) (by simp) ?_
      refine AllReadyH.cons (o := ⟨none, _, _, _, _, _⟩) rfl (fun K hK => ?_) AllReadyH.nil
      go_simp
      (first | (refine hK.out _ _ ?_ (fun hH5 => ?_)) | (go_wp2_with fail; refine hK.out _ _ ?_ (fun hH5 => ?_)))
      · exact ⟨RX.out.cell x0, RX.out.cell x1, RX.out.cell x2, RX.out.cell p0, RX.out.cell p1⟩
      clear hK K hH4
      (try simp only [Act.put, List.setIfInBounds_toArray, List.set_cons_zero, List.set_cons_succ])
      refine wpAnyH_take (i := 10) (oi := ⟨some 15, _, _, _, _, _⟩) (v := ?_) rfl (by kernel_rfl) (by kernel_rfl) (by kernel_rfl) (fun _ _ _ h => h) (Or.inl ⟨by rfl, ?_⟩) (by assumption) ?_
      rotate_left
      · (intro w hSw; (try dsimp only at hSw); go_simp; (try with_reducible rfl))
      (try simp only [Act.put, List.setIfInBounds_toArray, List.set_cons_zero, List.set_cons_succ])
      refine wpAnyH_done (by kernel_rfl) ?_ _
      clear hH5
      go_wp2_with fail
      go_meet
      exact ⟨_, _, _, _, _, _, _, rfl, rfl, hid RX.out⟩
    exact AllReadyH.nil
  case rest =>
  obtain ⟨v24, rfl⟩ : ∃ x : World, x = wc := ⟨_, rfl⟩
  obtain ⟨b24, A24, n24, c24, B24, q24, d24, rfl, rfl, H24⟩ := hcut
  have s24 := H24.out.s
  replace S := hid (S.out.st s24)
  replace T5 := hid (T5.out.st s24)
  replace K5 := hid (K5.out.st s24)
  replace K7 := hid (K7.out.st s24)
  replace OM := hid (OM.out.st s24)
  replace PM := hid (PM.out.st s24)
  have I24 := hid H24.out.ow.rd
  have j0 := H24.out.kb.cell_ (i := 0) (v := .int .i64 mr) rfl
  have j1 := H24.out.kb.cell_ (i := 1) (v := .slice A24 n24 c24) rfl
  have j2 := H24.out.kb.cell_ (i := 2) (v := .slice B24 q24 d24) rfl
  clear s24 H24 sA sB R x0 x1 x2 p0 p1 k0 k1 k2
  have k0 := K7.out.cell_ (i := 0) (v := .int .i64 mr) rfl
  have k1 := K7.out.cell_ (i := 1) (v := .slice A7 n7 c7) rfl
  have k2 := K7.out.cell_ (i := 2) (v := .slice B7 q7 d7) rfl
  have l0 := K5.out.cell_ (i := 0) (v := .int .i64 mr) rfl
  have l1 := K5.out.cell_ (i := 1) (v := .slice A5 n5 c5) rfl
  have l2 := K5.out.cell_ (i := 2) (v := .slice B5 q5 d5) rfl
  go_wp2_with fail
  refine (rd_same I24.out (I5.out.st T5.out) FT.out).mono ?_
  rintro e w25 ⟨rfl, s25⟩
  replace S := hid (S.out.st s25)
  replace OM := hid (OM.out.st s25)
  replace PM := hid (PM.out.st s25)
  replace k0 := s25.cell k0
  replace k1 := s25.cell k1
  replace k2 := s25.cell k2
  clear s25 l0 l1 l2 j0 j1 j2
  go_wp2_with fail
  refine (heldRound_any mr A7 B7 n7 c7 q7 d7 1 _ OM.out PM.out hn7 hq7 (by omega) (by omega)).mono ?_
  rintro e w26 ⟨rfl, s26⟩
  go_wp2_with fail
  go_ret
  exact ⟨rfl, S.out.trans s26⟩
end Go.Proofs.Ytldclkjknhjbfaa
