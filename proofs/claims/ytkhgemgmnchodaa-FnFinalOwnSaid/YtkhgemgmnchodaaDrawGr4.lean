/- The drawing of groups: the walk. -/
import Derived.Test.YtkhgemgmnchodaaDrawGr3
import Derived.Deep.DeepCutAuto
namespace Go.Proofs.Ytkhgemgmnchodaa
open Go.RowKit Go.Sort
theorem stOk_of {p q : Int} (h1 : 0 ≤ p) (h2 : p < 998) (h3 : 0 ≤ q) (h4 : q < 5) : stOk (1 + p, q) = true := by
  unfold stOk
  rw [Bool.and_eq_true]
  exact ⟨inB_iff.2 ⟨by simp only; omega, by simp only; omega⟩, inB_iff.2 ⟨h3, by simp only; omega⟩⟩
set_option maxRecDepth 100000 in
set_option maxHeartbeats 2000000 in
theorem l91Group_any (R M : Nat) (w : World) (hr : Rd w R M) (hM : M ≤ 1099511626000) :
    Calls Try.prog 35 #[.pointer (some ⟨R, 0, none⟩)] w (DrawnGr w R (M + 120)) := by
  have hRlt := hr.lt
  have r0 := hid (hr.alloc (.cells (grC 0 0 none 0 0 none 0 0) 25))
  have Z0 := hid (Blk.new w 25 (grC 0 0 none 0 0 none 0 0))
  have g0 := hid (World.grownBy_alloc w (.cells (grC 0 0 none 0 0 none 0 0) 25) (some R))
  go_enter Try.func35, Try.ntmps35
  go_wp2_with fail
  refine (pick_any _ _ _ _ r0.out (by omega) (by omega) (by omega)).mono ?_
  rintro e w1 ⟨id, rfl, hp, hr1, hg1⟩
  have hp1 := hp.1
  have hp2 := hp.2.1 (by omega)
  have Z1 := hid (Z0.out.grown hg1 (by intro e; injection e with e; omega))
  have G1 := hid (grown_trans' g0.out hg1)
  have HI := hid (show 0 ≤ id ∧ id ≤ 4 by omega)
  clear hp r0 Z0 g0 hg1
  go_wp2_with fail
  refine (specGroupNew_own id _ (by omega)).mono ?_
  rintro e w2 ⟨A, c, B, d, rfl, C2, s2⟩
  have a2 := (St.refl w2).alloc (.cells (grC id 0 A 0 c B 0 d) 25)
  have D2 := hid (show DG w (w2.alloc (.cells (grC id 0 A 0 c B 0 d) 25)) R (M + 1) w2.heap.size id 0 A 0 c B 0 d [] [] from
    ⟨Z1.out.st (s2.trans a2), Blk.new w2 _ _, (C2.st a2).less G1.out.size, hr1.below (s2.trans a2) hr1.lt, grown_st G1.out (s2.trans a2), hRlt, Nat.lt_of_lt_of_le Z1.out.lt s2.le⟩)
  clear C2 s2 a2 Z1 G1 hr1 hp1 hp2
  go_wp2_with fail
  generalize w2.alloc (.cells _ 25) = w3 at *
  generalize w2.heap.size = G at *
  have hwG := D2.out.gz
  go_loopw [5] (fun v wr => ∃ (k n c m d : Nat) (I K : Int) (A B : Option Addr) (ps ds : List Ent), k ≤ 14 ∧ v = .int .i64 (k : Int) ∧ K ≤ 3 * k ∧ Hid (GrV ⟨I, K, ps, ds⟩) ∧ Hid (DG w wr R (M + 1 + 5 * k) G I K A n c B m d ps ds)) (fun v _ => 14 - (intOf v).toNat)
  case atStart => exact ⟨0, 0, c, 0, d, id, 0, A, B, [], [], by omega, rfl, by omega, hid (grv_nil HI.out), D2.out⟩
  case round =>
    obtain ⟨wa, rfl⟩ : ∃ wo : World, wo = wr := ⟨_, rfl⟩
    obtain ⟨k, n, c, m, d, I, J, A, B, ps, ds, hk, rfl, hK, V, D3⟩ := hrel
    have hK0 := V.out.ck.1
    simp only at hK0
    go_wp2_with fail
    refine (pick_any _ _ _ _ D3.out.r (by omega) (by omega) (by omega)).mono ?_
    rintro e w4 ⟨y, rfl, hp, hr4, hg4⟩
    have hp2 := hp.2.1 (by omega)
    have D4 := hid (D3.out.pick hr4 hg4)
    clear hp D3 hr4 hg4
    by_cases hlt : (k : Int) < y
    · have hk14 : k < 14 := by omega
      clear hp2
      go_wp2_with fail
      refine (pick_any _ _ _ _ D4.out.r (by omega) (by omega) (by omega)).mono ?_
      rintro e w5 ⟨x, rfl, hp, hr5, hg5⟩
      have hp1 := hp.1
      have hp2 := hp.2.1 (by omega)
      have HM := hid (show isMsg x = true from inB_iff.2 (by omega))
      have D5 := hid (D4.out.pick hr5 hg5)
      clear hp hp1 hp2 D4 hr5 hg5
      go_wp2_with fail
      refine (pick_any _ _ _ _ D5.out.r (by omega) (by omega) (by omega)).mono ?_
      rintro e w6 ⟨z, rfl, hp, hr6, hg6⟩
      have D6 := hid (D5.out.pick hr6 hg6)
      have HL := hid D6.out.c.oi.1
      have HL' := hid D6.out.c.oh.1
      have hlen := V.out.len
      simp only at hlen
      have hln := HL.out
      have hlm := HL'.out
      have hn12 : n ≤ 12 := by omega
      have hm12 : m ≤ 12 := by omega
      clear hp D5 hr6 hg6 hlen hln hlm
      have g0 := D6.out.g.cell_ (i := 0) (v := .int .i64 I) rfl
      have g1 := D6.out.g.cell_ (i := 1) (v := .int .i64 J) rfl
      have g2 := D6.out.g.cell_ (i := 2) (v := .slice A n c) rfl
      have g3 := D6.out.g.cell_ (i := 3) (v := .slice B m d) rfl
      have HW6 := hid (show w.heap.size ≤ w6.heap.size from D6.out.gr.size)
      cases hz : (z == 0)
      rotate_left
      · go_wp2_with fail
        clear hz
        refine (l11Propose_any I J A B n c m d ps ds x _ D6.out.c.oi.se D6.out.c.oh.se (by omega) (by omega) (by omega)).mono ?_
        rintro e w7 ⟨A', n', c', B', m', d', rfl, C7, s7⟩
        obtain ⟨V7, hk7⟩ := propS_valid V.out HM.out
        generalize propS ⟨I, J, ps, ds⟩ x = r at *
        obtain ⟨⟨I', J', ps', ds'⟩, ⟨t, g⟩, ok⟩ := r
        simp only at V7 hk7 C7 ⊢
        have V7 := hid V7
        have a7 := ((St.refl w7).alloc (.cells (grC I' J' A' n' c' B' m' d') 25)).alloc (.cells #[.int .i64 t, .int .i64 g] 32)
        have D7 := hid (D6.out.st (s7.trans a7))
        have C8 := hid ((C7.st a7).less HW6.out)
        have X7 := hid ((Blk.new w7 25 (grC I' J' A' n' c' B' m' d')).alloc (.cells #[.int .i64 t, .int .i64 g] 32))
        clear C7 s7 a7 D6 HW6 g0 g1 g2 g3
        go_upto_region 8 with (fail)
        generalize (w7.alloc (.cells _ 25)).alloc (.cells _ 32) = w8 at *
        cases ok
        · go_wp2_with fail
          go_roundw
          case rel => exact ⟨k + 1, n, c, m, d, I, J, A, B, ps, ds, by omega, by go_num, by omega, V, hid (D7.out.le (by omega))⟩
          case measure => simp [intOf]; omega
        · skip
          have x0 := X7.out.cell_ (i := 0) (v := .int .i64 I') rfl
          have x1 := X7.out.cell_ (i := 1) (v := .int .i64 J') rfl
          have x2 := X7.out.cell_ (i := 2) (v := .slice A' n' c') rfl
          have x3 := X7.out.cell_ (i := 3) (v := .slice B' m' d') rfl
          have g0 := D7.out.g.cell_ (i := 0) (v := .int .i64 I) rfl
          have g1 := D7.out.g.cell_ (i := 1) (v := .int .i64 J) rfl
          have g2 := D7.out.g.cell_ (i := 2) (v := .slice A n c) rfl
          have g3 := D7.out.g.cell_ (i := 3) (v := .slice B m d) rfl
          have gf0 := D7.out.g.frozen 0
          have gf1 := D7.out.g.frozen 1
          have gf2 := D7.out.g.frozen 2
          have gf3 := D7.out.g.frozen 3
          have D8 := hid (D7.out.over C8.out)
          go_wp2_with fail
          go_roundw
          case rel => exact ⟨k + 1, n', c', m', d', I', J', A', B', ps', ds', by omega, by go_num, by omega, V7, hid (D8.out.le (by omega))⟩
          case measure => simp [intOf]; omega
      · have hk3 : IntKind.i64.wrap (J + 3) = J + 3 := IntWalk.i64_in _ (by omega)
        have sA := ((St.refl w6).alloc (.cells (grC 0 0 none 0 0 none 0 0) 25)).drew
        have D6a := hid (D6.out.st sA)
        have XA := hid ((NB.new D6.out (grC 0 0 none 0 0 none 0 0)).st (Dr.st ⟨1, rfl⟩ : St _ (w6.alloc (.cells (grC 0 0 none 0 0 none 0 0) 25)).drew))
        have D6b := hid (D6.out.st (Dr.st ⟨1, rfl⟩ : St w6 w6.drew))
        have HND := hid V.out.ndp
        have HAS := hid V.out.pa
        clear sA HW6
        go_upto_region 10 with (fail)
        clear hz
        go_cut [10, 11, 12] (fun s10 s11 s12 wx => ∃ (X n' c' m' d' : Nat) (I' J' : Int) (A' B' : Option Addr) (ps' ds' : List Ent) (ok : Bool), s10 = .pointer (some ⟨X, 0, none⟩) ∧ s12 = .bool ok ∧ Hid (GrV ⟨I', J', ps', ds'⟩) ∧ J' ≤ J + 3 ∧ Hid (Blk wx X 25 (grC I' J' A' n' c' B' m' d')) ∧ Hid (DG w wx R (M + 1 + 5 * k + 5) G I J A n c B m d ps ds) ∧ Hid (OwGr wx w.heap.size I' J' A' n' c' B' m' d' ps' ds'))
        case first =>
          refine wp_region_held_drew (S := (fun w' => w'.cell? ⟨G, 0, none⟩ = some (.int .i64 I) ∧ w'.cell? ⟨G, 1, none⟩ = some (.int .i64 J) ∧ w'.cell? ⟨G, 2, none⟩ = some (.slice A n c) ∧ w'.cell? ⟨G, 3, none⟩ = some (.slice B m d))) (by kernel_rfl) ?_ (fun hH0 => ?_)
          · exact D6.out.cells
          refine wpAnyH_take (i := 0) (oi := ⟨some 40, _, _, _, _, _⟩) (v := ?_) rfl (by kernel_rfl) (by kernel_rfl) (by kernel_rfl) (fun _ _ _ h => h) (Or.inl ⟨by rfl, ?_⟩) (by assumption) ?_
          rotate_left
          · (intro w hSw; (try dsimp only at hSw); go_simp; (try with_reducible rfl))
          (try simp only [Act.put, List.setIfInBounds_toArray, List.set_cons_zero, List.set_cons_succ])
          refine wpAnyH_take (i := 1) (oi := ⟨some 41, _, _, _, _, _⟩) (v := ?_) rfl (by kernel_rfl) (by kernel_rfl) (by kernel_rfl) (fun _ _ _ h => h) (Or.inl ⟨by rfl, ?_⟩) (by assumption) ?_
          rotate_left
          · (intro w hSw; (try dsimp only at hSw); go_simp; (try with_reducible rfl))
          (try simp only [Act.put, List.setIfInBounds_toArray, List.set_cons_zero, List.set_cons_succ])
          refine wpAnyH_take (i := 2) (oi := ⟨some 42, _, _, _, _, _⟩) (v := ?_) rfl (by kernel_rfl) (by kernel_rfl) (by kernel_rfl) (fun _ _ _ h => h) (Or.inl ⟨by rfl, ?_⟩) (by assumption) ?_
          rotate_left
          · (intro w hSw; (try dsimp only at hSw); go_simp; (try with_reducible rfl))
          (try simp only [Act.put, List.setIfInBounds_toArray, List.set_cons_zero, List.set_cons_succ])
          refine wpAnyH_take (i := 3) (oi := ⟨some 43, _, _, _, _, _⟩) (v := ?_) rfl (by kernel_rfl) (by kernel_rfl) (by kernel_rfl) (fun _ _ _ h => h) (Or.inl ⟨by rfl, ?_⟩) (by assumption) ?_
          rotate_left
          · (intro w hSw; (try dsimp only at hSw); go_simp; (try with_reducible rfl))
          (try simp only [Act.put, List.setIfInBounds_toArray, List.set_cons_zero, List.set_cons_succ])
          refine wpAnyH_take (i := 4) (oi := ⟨some 44, _, _, _, _, _⟩) (v := ?_) rfl (by kernel_rfl) (by kernel_rfl) (by kernel_rfl) (fun _ _ _ h => h) (Or.inl ⟨by rfl, ?_⟩) (by assumption) ?_
          rotate_left
          · (intro w hSw; (try dsimp only at hSw); go_simp; (try with_reducible rfl))
          (try simp only [Act.put, List.setIfInBounds_toArray, List.set_cons_zero, List.set_cons_succ])
          refine wpAnyH_take (i := 5) (oi := ⟨some 45, _, _, _, _, _⟩) (v := ?_) rfl (by kernel_rfl) (by kernel_rfl) (by kernel_rfl) (fun _ _ _ h => h) (Or.inl ⟨by rfl, ?_⟩) (by assumption) ?_
          rotate_left
          · (intro w hSw; (try dsimp only at hSw); go_simp; (try with_reducible rfl))
          (try simp only [Act.put, List.setIfInBounds_toArray, List.set_cons_zero, List.set_cons_succ])
          refine wpAnyH_take (i := 8) (oi := ⟨some 48, _, _, _, _, _⟩) (v := ?_) rfl (by kernel_rfl) (by kernel_rfl) (by kernel_rfl) (fun _ _ _ h => h) (Or.inl ⟨by rfl, ?_⟩) (by assumption) ?_
          rotate_left
          · (intro w hSw; (try dsimp only at hSw); go_simp; (try with_reducible rfl))
          (try simp only [Act.put, List.setIfInBounds_toArray, List.set_cons_zero, List.set_cons_succ])
          refine wpAnyH_ready (rs := [6, 16]) (by kernel_rfl) (by simp) ?_
          refine AllReadyH.cons (o := ⟨some 46, _, _, _, _, _⟩) rfl (fun K hK => ?_) ?_
          · skip
            go_simp
            (go_at_call 46; (with_reducible refine (pick_any _ _ _ _ D6b.out.r (by omega) (by omega) (by omega)).mono ?_); rintro e w7 ⟨p, rfl, hp, hr7, hg7⟩; have hp1 := hp.1; have hp2 := hp.2.1 (by omega); have D7 := hid (D6b.out.pick hr7 hg7); (try have X7 := hid (X6.out.pick hg7)); have hw1 : IntKind.i64.wrap (1 + p) = 1 + p := IntWalk.i64_in _ (by omega); clear hp hr7 hg7)
            (first | (refine hK.out _ _ ?_ (fun hH1 => ?_)) | (go_wp2_with fail; refine hK.out _ _ ?_ (fun hH1 => ?_)))
            · exact D7.out.cells
            clear hK K hH0
            (try simp only [Act.put, List.setIfInBounds_toArray, List.set_cons_zero, List.set_cons_succ])
            refine wpAnyH_take (i := 7) (oi := ⟨some 47, _, _, _, _, _⟩) (v := ?_) rfl (by kernel_rfl) (by kernel_rfl) (by kernel_rfl) (fun _ _ _ h => h) (Or.inl ⟨by rfl, ?_⟩) (by assumption) ?_
            rotate_left
            · (intro w hSw; (try dsimp only at hSw); go_simp; (try with_reducible rfl))
            (try simp only [Act.put, List.setIfInBounds_toArray, List.set_cons_zero, List.set_cons_succ])
            refine wpAnyH_ready (rs := [9, 16]) (by kernel_rfl) (by simp) ?_
            refine AllReadyH.cons (o := ⟨some 49, _, _, _, _, _⟩) rfl (fun K hK => ?_) ?_
            · skip
              go_simp
              (go_at_call 46; (with_reducible refine (pick_any _ _ _ _ D7.out.r (by omega) (by omega) (by omega)).mono ?_); rintro e w8 ⟨q, rfl, hq, hr8, hg8⟩; have hq1 := hq.1; have hq2 := hq.2.1 (by omega); have D8 := hid (D7.out.pick hr8 hg8); (try have X8 := hid (X7.out.pick hg8)); clear hq hr8 hg8)
              (first | (refine hK.out _ _ ?_ (fun hH2 => ?_)) | (go_wp2_with fail; refine hK.out _ _ ?_ (fun hH2 => ?_)))
              · exact D8.out.cells
              clear hK K hH1
              (try simp only [Act.put, List.setIfInBounds_toArray, List.set_cons_zero, List.set_cons_succ])
              refine wpAnyH_take (i := 10) (oi := ⟨some 50, _, _, _, _, _⟩) (v := ?_) rfl (by kernel_rfl) (by kernel_rfl) (by kernel_rfl) (fun _ _ _ h => h) (Or.inl ⟨by rfl, ?_⟩) (by assumption) ?_
              rotate_left
              · (intro w hSw; (try dsimp only at hSw); go_simp; (try with_reducible rfl))
              (try simp only [Act.put, List.setIfInBounds_toArray, List.set_cons_zero, List.set_cons_succ])
              refine wpAnyH_ready (rs := [11, 16]) (by kernel_rfl) (by simp) ?_
              refine AllReadyH.cons (o := ⟨some 51, _, _, _, _, _⟩) rfl (fun K hK => ?_) ?_
              · skip
                go_simp
                (go_at_call 48; (with_reducible refine (l11Final_any _ _ _ _ _ _ _ _ ps ds _ _ _ _ D8.out.c.oi.se D8.out.c.oh.se (by omega) (by omega) HND.out HAS.out).mono ?_); rintro e w9 ⟨A', n', c', B', m', d', T', t', rfl, C9, O9, s9⟩; obtain ⟨V9, hk9⟩ := finS_valid V.out HM.out (stOk_of hp1 (show p < 998 by omega) hq1 hq2); generalize finS ⟨I, J, ps, ds⟩ x (1 + p, q) = r at *; obtain ⟨⟨I', J', ps', ds'⟩, told, ok⟩ := r; simp only at V9 hk9 C9 ⊢; have V9 := hid V9; have C9 := hid ((C9.st (St.refl _)).less D8.out.gr.size); have D9 := hid (D8.out.st s9); (try have X9 := hid (X8.out.st s9)); clear s9 O9; (try (have x0 := X9.out.b.cell_ (i := 0) (v := .int .i64 0) rfl; have x1 := X9.out.b.cell_ (i := 1) (v := .int .i64 0) rfl; have x2 := X9.out.b.cell_ (i := 2) (v := .slice none 0 0) rfl; have x3 := X9.out.b.cell_ (i := 3) (v := .slice none 0 0) rfl; have xf0 := X9.out.b.frozen 0; have xf1 := X9.out.b.frozen 1; have xf2 := X9.out.b.frozen 2; have xf3 := X9.out.b.frozen 3)))
                (first | (refine hK.out _ _ ?_ (fun hH3 => ?_)) | (go_wp2_with fail; refine hK.out _ _ ?_ (fun hH3 => ?_)))
                · exact D9.out.cells
                clear hK K hH2
                (try simp only [Act.put, List.setIfInBounds_toArray, List.set_cons_zero, List.set_cons_succ])
                refine wpAnyH_take (i := 12) (oi := ⟨some 39, _, _, _, _, _⟩) (v := ?_) rfl (by kernel_rfl) (by kernel_rfl) (by kernel_rfl) (fun _ _ _ h => h) (Or.inl ⟨by rfl, ?_⟩) (by assumption) ?_
                rotate_left
                · (intro w hSw; (try dsimp only at hSw); go_simp; (try with_reducible rfl))
                (try simp only [Act.put, List.setIfInBounds_toArray, List.set_cons_zero, List.set_cons_succ])
                refine wpAnyH_take (i := 13) (oi := ⟨some 52, _, _, _, _, _⟩) (v := ?_) rfl (by kernel_rfl) (by kernel_rfl) (by kernel_rfl) (fun _ _ _ h => h) (Or.inl ⟨by rfl, ?_⟩) (by assumption) ?_
                rotate_left
                · (intro w hSw; (try dsimp only at hSw); go_simp; (try with_reducible rfl))
                (try simp only [Act.put, List.setIfInBounds_toArray, List.set_cons_zero, List.set_cons_succ])
                refine wpAnyH_take (i := 14) (oi := ⟨some 53, _, _, _, _, _⟩) (v := ?_) rfl (by kernel_rfl) (by kernel_rfl) (by kernel_rfl) (fun _ _ _ h => h) (Or.inl ⟨by rfl, ?_⟩) (by assumption) ?_
                rotate_left
                · (intro w hSw; (try dsimp only at hSw); go_simp; (try with_reducible rfl))
                (try simp only [Act.put, List.setIfInBounds_toArray, List.set_cons_zero, List.set_cons_succ])
                refine wpAnyH_take (i := 15) (oi := ⟨some 54, _, _, _, _, _⟩) (v := ?_) rfl (by kernel_rfl) (by kernel_rfl) (by kernel_rfl) (fun _ _ _ h => h) (Or.inl ⟨by rfl, ?_⟩) (by assumption) ?_
                rotate_left
                · (intro w hSw; (try dsimp only at hSw); go_simp; (try with_reducible rfl))
                (try simp only [Act.put, List.setIfInBounds_toArray, List.set_cons_zero, List.set_cons_succ])
                refine wpAnyH_ready (rs := [16]) (by kernel_rfl) (by simp) ?_
                refine AllReadyH.cons (o := ⟨some 10, _, _, _, _, _⟩) rfl (fun K hK => ?_) AllReadyH.nil
                (go_simp; have X9 := hid (NB.new D9.out (grC 0 0 none 0 0 none 0 0)); have s11 := (St.refl w9).alloc (.cells (grC I' J' A' n' c' B' m' d') 25); have D11 := hid (D9.out.st s11); have C11 := hid (C9.out.st s11); have B11 := hid (Blk.new w9 25 (grC I' J' A' n' c' B' m' d')); have s10 := (St.refl w9).alloc (.cells (grC 0 0 none 0 0 none 0 0) 25); clear s11; have D9 := hid (D9.out.st s10); have C9 := hid (C9.out.st s10); clear s10 ; (have x0 := X9.out.b.cell_ (i := 0) (v := .int .i64 0) rfl; have x1 := X9.out.b.cell_ (i := 1) (v := .int .i64 0) rfl; have x2 := X9.out.b.cell_ (i := 2) (v := .slice none 0 0) rfl; have x3 := X9.out.b.cell_ (i := 3) (v := .slice none 0 0) rfl; have xf0 := X9.out.b.frozen 0; have xf1 := X9.out.b.frozen 1; have xf2 := X9.out.b.frozen 2; have xf3 := X9.out.b.frozen 3))
                (first | (refine hK.out _ _ ?_ (fun hH4 => ?_)) | (go_wp2_with fail; refine hK.out _ _ ?_ (fun hH4 => ?_)))
                · exact D9.out.cells
                clear hK K hH3
                (try simp only [Act.put, List.setIfInBounds_toArray, List.set_cons_zero, List.set_cons_succ])
                refine wpAnyH_ready (rs := [17]) (by kernel_rfl) (by simp) ?_
                refine AllReadyH.cons (o := ⟨none, _, _, _, _, _⟩) rfl (fun K hK => ?_) AllReadyH.nil
                go_simp
                (first | (refine hK.out _ _ ?_ (fun hH5 => ?_)) | (go_wp2_with fail; refine hK.out _ _ ?_ (fun hH5 => ?_)))
                · exact D11.out.cells
                clear hK K hH4
                (try simp only [Act.put, List.setIfInBounds_toArray, List.set_cons_zero, List.set_cons_succ])
                refine wpAnyH_take (i := 18) (oi := ⟨some 11, _, _, _, _, _⟩) (v := ?_) rfl (by kernel_rfl) (by kernel_rfl) (by kernel_rfl) (fun _ _ _ h => h) (Or.inl ⟨by rfl, ?_⟩) (by assumption) ?_
                rotate_left
                · (intro w hSw; (try dsimp only at hSw); go_simp; (try with_reducible rfl))
                (try simp only [Act.put, List.setIfInBounds_toArray, List.set_cons_zero, List.set_cons_succ])
                refine wpAnyH_take (i := 19) (oi := ⟨some 12, _, _, _, _, _⟩) (v := ?_) rfl (by kernel_rfl) (by kernel_rfl) (by kernel_rfl) (fun _ _ _ h => h) (Or.inl ⟨by rfl, ?_⟩) (by assumption) ?_
                rotate_left
                · (intro w hSw; (try dsimp only at hSw); go_simp; (try with_reducible rfl))
                (try simp only [Act.put, List.setIfInBounds_toArray, List.set_cons_zero, List.set_cons_succ])
                refine wpAnyH_done (by kernel_rfl) ?_ _
                clear hH5
                go_wp2_with fail
                go_meet
                exact ⟨_, _, _, _, _, _, _, _, _, _, _, ok, rfl, rfl, V9, by omega, B11, hid (D11.out.le (by omega)), C11⟩
              refine AllReadyH.cons (o := ⟨some 10, _, _, _, _, _⟩) rfl (fun K hK => ?_) ?_
              · skip
                (go_simp; have X8 := hid (NB.new D8.out (grC 0 0 none 0 0 none 0 0)); have D8 := hid (D8.out.st ((St.refl _).alloc (.cells (grC 0 0 none 0 0 none 0 0) 25))))
                (first | (refine hK.out _ _ ?_ (fun hH3 => ?_)) | (go_wp2_with fail; refine hK.out _ _ ?_ (fun hH3 => ?_)))
                · exact D8.out.cells
                clear hK K hH2
                (try simp only [Act.put, List.setIfInBounds_toArray, List.set_cons_zero, List.set_cons_succ])
                refine wpAnyH_ready (rs := [11]) (by kernel_rfl) (by simp) ?_
                refine AllReadyH.cons (o := ⟨some 51, _, _, _, _, _⟩) rfl (fun K hK => ?_) AllReadyH.nil
                go_simp
                (go_at_call 48; (with_reducible refine (l11Final_any _ _ _ _ _ _ _ _ ps ds _ _ _ _ D8.out.c.oi.se D8.out.c.oh.se (by omega) (by omega) HND.out HAS.out).mono ?_); rintro e w9 ⟨A', n', c', B', m', d', T', t', rfl, C9, O9, s9⟩; obtain ⟨V9, hk9⟩ := finS_valid V.out HM.out (stOk_of hp1 (show p < 998 by omega) hq1 hq2); generalize finS ⟨I, J, ps, ds⟩ x (1 + p, q) = r at *; obtain ⟨⟨I', J', ps', ds'⟩, told, ok⟩ := r; simp only at V9 hk9 C9 ⊢; have V9 := hid V9; have C9 := hid ((C9.st (St.refl _)).less D8.out.gr.size); have D9 := hid (D8.out.st s9); (try have X9 := hid (X8.out.st s9)); clear s9 O9; (try (have x0 := X9.out.b.cell_ (i := 0) (v := .int .i64 0) rfl; have x1 := X9.out.b.cell_ (i := 1) (v := .int .i64 0) rfl; have x2 := X9.out.b.cell_ (i := 2) (v := .slice none 0 0) rfl; have x3 := X9.out.b.cell_ (i := 3) (v := .slice none 0 0) rfl; have xf0 := X9.out.b.frozen 0; have xf1 := X9.out.b.frozen 1; have xf2 := X9.out.b.frozen 2; have xf3 := X9.out.b.frozen 3)))
                (first | (refine hK.out _ _ ?_ (fun hH4 => ?_)) | (go_wp2_with fail; refine hK.out _ _ ?_ (fun hH4 => ?_)))
                · exact D9.out.cells
                clear hK K hH3
                (try simp only [Act.put, List.setIfInBounds_toArray, List.set_cons_zero, List.set_cons_succ])
                refine wpAnyH_take (i := 12) (oi := ⟨some 39, _, _, _, _, _⟩) (v := ?_) rfl (by kernel_rfl) (by kernel_rfl) (by kernel_rfl) (fun _ _ _ h => h) (Or.inl ⟨by rfl, ?_⟩) (by assumption) ?_
                rotate_left
                · (intro w hSw; (try dsimp only at hSw); go_simp; (try with_reducible rfl))
                (try simp only [Act.put, List.setIfInBounds_toArray, List.set_cons_zero, List.set_cons_succ])
                refine wpAnyH_take (i := 13) (oi := ⟨some 52, _, _, _, _, _⟩) (v := ?_) rfl (by kernel_rfl) (by kernel_rfl) (by kernel_rfl) (fun _ _ _ h => h) (Or.inl ⟨by rfl, ?_⟩) (by assumption) ?_
                rotate_left
                · (intro w hSw; (try dsimp only at hSw); go_simp; (try with_reducible rfl))
                (try simp only [Act.put, List.setIfInBounds_toArray, List.set_cons_zero, List.set_cons_succ])
                refine wpAnyH_take (i := 14) (oi := ⟨some 53, _, _, _, _, _⟩) (v := ?_) rfl (by kernel_rfl) (by kernel_rfl) (by kernel_rfl) (fun _ _ _ h => h) (Or.inl ⟨by rfl, ?_⟩) (by assumption) ?_
                rotate_left
                · (intro w hSw; (try dsimp only at hSw); go_simp; (try with_reducible rfl))
                (try simp only [Act.put, List.setIfInBounds_toArray, List.set_cons_zero, List.set_cons_succ])
                refine wpAnyH_take (i := 15) (oi := ⟨some 54, _, _, _, _, _⟩) (v := ?_) rfl (by kernel_rfl) (by kernel_rfl) (by kernel_rfl) (fun _ _ _ h => h) (Or.inl ⟨by rfl, ?_⟩) (by assumption) ?_
                rotate_left
                · (intro w hSw; (try dsimp only at hSw); go_simp; (try with_reducible rfl))
                (try simp only [Act.put, List.setIfInBounds_toArray, List.set_cons_zero, List.set_cons_succ])
                refine wpAnyH_ready (rs := [17]) (by kernel_rfl) (by simp) ?_
                refine AllReadyH.cons (o := ⟨none, _, _, _, _, _⟩) rfl (fun K hK => ?_) AllReadyH.nil
                go_simp
                (first | (refine hK.out _ _ ?_ (fun hH5 => ?_)) | (go_wp2_with fail; refine hK.out _ _ ?_ (fun hH5 => ?_)))
                · exact (X9.out.over D9.out C9.out).2.1.out.cells
                clear hK K hH4
                (try simp only [Act.put, List.setIfInBounds_toArray, List.set_cons_zero, List.set_cons_succ])
                refine wpAnyH_take (i := 18) (oi := ⟨some 11, _, _, _, _, _⟩) (v := ?_) rfl (by kernel_rfl) (by kernel_rfl) (by kernel_rfl) (fun _ _ _ h => h) (Or.inl ⟨by rfl, ?_⟩) (by assumption) ?_
                rotate_left
                · (intro w hSw; (try dsimp only at hSw); go_simp; (try with_reducible rfl))
                (try simp only [Act.put, List.setIfInBounds_toArray, List.set_cons_zero, List.set_cons_succ])
                refine wpAnyH_take (i := 19) (oi := ⟨some 12, _, _, _, _, _⟩) (v := ?_) rfl (by kernel_rfl) (by kernel_rfl) (by kernel_rfl) (fun _ _ _ h => h) (Or.inl ⟨by rfl, ?_⟩) (by assumption) ?_
                rotate_left
                · (intro w hSw; (try dsimp only at hSw); go_simp; (try with_reducible rfl))
                (try simp only [Act.put, List.setIfInBounds_toArray, List.set_cons_zero, List.set_cons_succ])
                refine wpAnyH_done (by kernel_rfl) ?_ _
                clear hH5
                obtain ⟨f1, f2, f3⟩ := X9.out.over D9.out C9.out
                go_wp2_with fail
                go_meet
                exact ⟨_, _, _, _, _, _, _, _, _, _, _, ok, rfl, rfl, V9, by omega, f1, hid (f2.out.le (by omega)), f3⟩
              exact AllReadyH.nil
            refine AllReadyH.cons (o := ⟨some 10, _, _, _, _, _⟩) rfl (fun K hK => ?_) ?_
            · skip
              (go_simp; have X7 := hid (NB.new D7.out (grC 0 0 none 0 0 none 0 0)); have D7 := hid (D7.out.st ((St.refl _).alloc (.cells (grC 0 0 none 0 0 none 0 0) 25))))
              (first | (refine hK.out _ _ ?_ (fun hH2 => ?_)) | (go_wp2_with fail; refine hK.out _ _ ?_ (fun hH2 => ?_)))
              · exact D7.out.cells
              clear hK K hH1
              (try simp only [Act.put, List.setIfInBounds_toArray, List.set_cons_zero, List.set_cons_succ])
              refine wpAnyH_ready (rs := [9]) (by kernel_rfl) (by simp) ?_
              refine AllReadyH.cons (o := ⟨some 49, _, _, _, _, _⟩) rfl (fun K hK => ?_) AllReadyH.nil
              go_simp
              (go_at_call 46; (with_reducible refine (pick_any _ _ _ _ D7.out.r (by omega) (by omega) (by omega)).mono ?_); rintro e w8 ⟨q, rfl, hq, hr8, hg8⟩; have hq1 := hq.1; have hq2 := hq.2.1 (by omega); have D8 := hid (D7.out.pick hr8 hg8); (try have X8 := hid (X7.out.pick hg8)); clear hq hr8 hg8)
              (first | (refine hK.out _ _ ?_ (fun hH3 => ?_)) | (go_wp2_with fail; refine hK.out _ _ ?_ (fun hH3 => ?_)))
              · exact D8.out.cells
              clear hK K hH2
              (try simp only [Act.put, List.setIfInBounds_toArray, List.set_cons_zero, List.set_cons_succ])
              refine wpAnyH_take (i := 10) (oi := ⟨some 50, _, _, _, _, _⟩) (v := ?_) rfl (by kernel_rfl) (by kernel_rfl) (by kernel_rfl) (fun _ _ _ h => h) (Or.inl ⟨by rfl, ?_⟩) (by assumption) ?_
              rotate_left
              · (intro w hSw; (try dsimp only at hSw); go_simp; (try with_reducible rfl))
              (try simp only [Act.put, List.setIfInBounds_toArray, List.set_cons_zero, List.set_cons_succ])
              refine wpAnyH_ready (rs := [11]) (by kernel_rfl) (by simp) ?_
              refine AllReadyH.cons (o := ⟨some 51, _, _, _, _, _⟩) rfl (fun K hK => ?_) AllReadyH.nil
              go_simp
              (go_at_call 48; (with_reducible refine (l11Final_any _ _ _ _ _ _ _ _ ps ds _ _ _ _ D8.out.c.oi.se D8.out.c.oh.se (by omega) (by omega) HND.out HAS.out).mono ?_); rintro e w9 ⟨A', n', c', B', m', d', T', t', rfl, C9, O9, s9⟩; obtain ⟨V9, hk9⟩ := finS_valid V.out HM.out (stOk_of hp1 (show p < 998 by omega) hq1 hq2); generalize finS ⟨I, J, ps, ds⟩ x (1 + p, q) = r at *; obtain ⟨⟨I', J', ps', ds'⟩, told, ok⟩ := r; simp only at V9 hk9 C9 ⊢; have V9 := hid V9; have C9 := hid ((C9.st (St.refl _)).less D8.out.gr.size); have D9 := hid (D8.out.st s9); (try have X9 := hid (X8.out.st s9)); clear s9 O9; (try (have x0 := X9.out.b.cell_ (i := 0) (v := .int .i64 0) rfl; have x1 := X9.out.b.cell_ (i := 1) (v := .int .i64 0) rfl; have x2 := X9.out.b.cell_ (i := 2) (v := .slice none 0 0) rfl; have x3 := X9.out.b.cell_ (i := 3) (v := .slice none 0 0) rfl; have xf0 := X9.out.b.frozen 0; have xf1 := X9.out.b.frozen 1; have xf2 := X9.out.b.frozen 2; have xf3 := X9.out.b.frozen 3)))
              (first | (refine hK.out _ _ ?_ (fun hH4 => ?_)) | (go_wp2_with fail; refine hK.out _ _ ?_ (fun hH4 => ?_)))
              · exact D9.out.cells
              clear hK K hH3
              (try simp only [Act.put, List.setIfInBounds_toArray, List.set_cons_zero, List.set_cons_succ])
              refine wpAnyH_take (i := 12) (oi := ⟨some 39, _, _, _, _, _⟩) (v := ?_) rfl (by kernel_rfl) (by kernel_rfl) (by kernel_rfl) (fun _ _ _ h => h) (Or.inl ⟨by rfl, ?_⟩) (by assumption) ?_
              rotate_left
              · (intro w hSw; (try dsimp only at hSw); go_simp; (try with_reducible rfl))
              (try simp only [Act.put, List.setIfInBounds_toArray, List.set_cons_zero, List.set_cons_succ])
              refine wpAnyH_take (i := 13) (oi := ⟨some 52, _, _, _, _, _⟩) (v := ?_) rfl (by kernel_rfl) (by kernel_rfl) (by kernel_rfl) (fun _ _ _ h => h) (Or.inl ⟨by rfl, ?_⟩) (by assumption) ?_
              rotate_left
              · (intro w hSw; (try dsimp only at hSw); go_simp; (try with_reducible rfl))
              (try simp only [Act.put, List.setIfInBounds_toArray, List.set_cons_zero, List.set_cons_succ])
              refine wpAnyH_take (i := 14) (oi := ⟨some 53, _, _, _, _, _⟩) (v := ?_) rfl (by kernel_rfl) (by kernel_rfl) (by kernel_rfl) (fun _ _ _ h => h) (Or.inl ⟨by rfl, ?_⟩) (by assumption) ?_
              rotate_left
              · (intro w hSw; (try dsimp only at hSw); go_simp; (try with_reducible rfl))
              (try simp only [Act.put, List.setIfInBounds_toArray, List.set_cons_zero, List.set_cons_succ])
              refine wpAnyH_take (i := 15) (oi := ⟨some 54, _, _, _, _, _⟩) (v := ?_) rfl (by kernel_rfl) (by kernel_rfl) (by kernel_rfl) (fun _ _ _ h => h) (Or.inl ⟨by rfl, ?_⟩) (by assumption) ?_
              rotate_left
              · (intro w hSw; (try dsimp only at hSw); go_simp; (try with_reducible rfl))
              (try simp only [Act.put, List.setIfInBounds_toArray, List.set_cons_zero, List.set_cons_succ])
              refine wpAnyH_ready (rs := [17]) (by kernel_rfl) (by simp) ?_
              refine AllReadyH.cons (o := ⟨none, _, _, _, _, _⟩) rfl (fun K hK => ?_) AllReadyH.nil
              go_simp
              (first | (refine hK.out _ _ ?_ (fun hH5 => ?_)) | (go_wp2_with fail; refine hK.out _ _ ?_ (fun hH5 => ?_)))
              · exact (X9.out.over D9.out C9.out).2.1.out.cells
              clear hK K hH4
              (try simp only [Act.put, List.setIfInBounds_toArray, List.set_cons_zero, List.set_cons_succ])
              refine wpAnyH_take (i := 18) (oi := ⟨some 11, _, _, _, _, _⟩) (v := ?_) rfl (by kernel_rfl) (by kernel_rfl) (by kernel_rfl) (fun _ _ _ h => h) (Or.inl ⟨by rfl, ?_⟩) (by assumption) ?_
              rotate_left
              · (intro w hSw; (try dsimp only at hSw); go_simp; (try with_reducible rfl))
              (try simp only [Act.put, List.setIfInBounds_toArray, List.set_cons_zero, List.set_cons_succ])
              refine wpAnyH_take (i := 19) (oi := ⟨some 12, _, _, _, _, _⟩) (v := ?_) rfl (by kernel_rfl) (by kernel_rfl) (by kernel_rfl) (fun _ _ _ h => h) (Or.inl ⟨by rfl, ?_⟩) (by assumption) ?_
              rotate_left
              · (intro w hSw; (try dsimp only at hSw); go_simp; (try with_reducible rfl))
              (try simp only [Act.put, List.setIfInBounds_toArray, List.set_cons_zero, List.set_cons_succ])
              refine wpAnyH_done (by kernel_rfl) ?_ _
              clear hH5
              obtain ⟨f1, f2, f3⟩ := X9.out.over D9.out C9.out
              go_wp2_with fail
              go_meet
              exact ⟨_, _, _, _, _, _, _, _, _, _, _, ok, rfl, rfl, V9, by omega, f1, hid (f2.out.le (by omega)), f3⟩
            exact AllReadyH.nil
          refine AllReadyH.cons (o := ⟨some 10, _, _, _, _, _⟩) rfl (fun K hK => ?_) ?_
          · skip
            (go_simp; have D6b := D6a; have X6 := XA)
            (first | (refine hK.out _ _ ?_ (fun hH1 => ?_)) | (go_wp2_with fail; refine hK.out _ _ ?_ (fun hH1 => ?_)))
            · exact D6b.out.cells
            clear hK K hH0
            (try simp only [Act.put, List.setIfInBounds_toArray, List.set_cons_zero, List.set_cons_succ])
            refine wpAnyH_ready (rs := [6]) (by kernel_rfl) (by simp) ?_
            refine AllReadyH.cons (o := ⟨some 46, _, _, _, _, _⟩) rfl (fun K hK => ?_) AllReadyH.nil
            go_simp
            (go_at_call 46; (with_reducible refine (pick_any _ _ _ _ D6b.out.r (by omega) (by omega) (by omega)).mono ?_); rintro e w7 ⟨p, rfl, hp, hr7, hg7⟩; have hp1 := hp.1; have hp2 := hp.2.1 (by omega); have D7 := hid (D6b.out.pick hr7 hg7); (try have X7 := hid (X6.out.pick hg7)); have hw1 : IntKind.i64.wrap (1 + p) = 1 + p := IntWalk.i64_in _ (by omega); clear hp hr7 hg7)
            (first | (refine hK.out _ _ ?_ (fun hH2 => ?_)) | (go_wp2_with fail; refine hK.out _ _ ?_ (fun hH2 => ?_)))
            · exact D7.out.cells
            clear hK K hH1
            (try simp only [Act.put, List.setIfInBounds_toArray, List.set_cons_zero, List.set_cons_succ])
            refine wpAnyH_take (i := 7) (oi := ⟨some 47, _, _, _, _, _⟩) (v := ?_) rfl (by kernel_rfl) (by kernel_rfl) (by kernel_rfl) (fun _ _ _ h => h) (Or.inl ⟨by rfl, ?_⟩) (by assumption) ?_
            rotate_left
            · (intro w hSw; (try dsimp only at hSw); go_simp; (try with_reducible rfl))
            (try simp only [Act.put, List.setIfInBounds_toArray, List.set_cons_zero, List.set_cons_succ])
            refine wpAnyH_ready (rs := [9]) (by kernel_rfl) (by simp) ?_
            refine AllReadyH.cons (o := ⟨some 49, _, _, _, _, _⟩) rfl (fun K hK => ?_) AllReadyH.nil
            go_simp
            (go_at_call 46; (with_reducible refine (pick_any _ _ _ _ D7.out.r (by omega) (by omega) (by omega)).mono ?_); rintro e w8 ⟨q, rfl, hq, hr8, hg8⟩; have hq1 := hq.1; have hq2 := hq.2.1 (by omega); have D8 := hid (D7.out.pick hr8 hg8); (try have X8 := hid (X7.out.pick hg8)); clear hq hr8 hg8)
            (first | (refine hK.out _ _ ?_ (fun hH3 => ?_)) | (go_wp2_with fail; refine hK.out _ _ ?_ (fun hH3 => ?_)))
            · exact D8.out.cells
            clear hK K hH2
            (try simp only [Act.put, List.setIfInBounds_toArray, List.set_cons_zero, List.set_cons_succ])
            refine wpAnyH_take (i := 10) (oi := ⟨some 50, _, _, _, _, _⟩) (v := ?_) rfl (by kernel_rfl) (by kernel_rfl) (by kernel_rfl) (fun _ _ _ h => h) (Or.inl ⟨by rfl, ?_⟩) (by assumption) ?_
            rotate_left
            · (intro w hSw; (try dsimp only at hSw); go_simp; (try with_reducible rfl))
            (try simp only [Act.put, List.setIfInBounds_toArray, List.set_cons_zero, List.set_cons_succ])
            refine wpAnyH_ready (rs := [11]) (by kernel_rfl) (by simp) ?_
            refine AllReadyH.cons (o := ⟨some 51, _, _, _, _, _⟩) rfl (fun K hK => ?_) AllReadyH.nil
            go_simp
            (go_at_call 48; (with_reducible refine (l11Final_any _ _ _ _ _ _ _ _ ps ds _ _ _ _ D8.out.c.oi.se D8.out.c.oh.se (by omega) (by omega) HND.out HAS.out).mono ?_); rintro e w9 ⟨A', n', c', B', m', d', T', t', rfl, C9, O9, s9⟩; obtain ⟨V9, hk9⟩ := finS_valid V.out HM.out (stOk_of hp1 (show p < 998 by omega) hq1 hq2); generalize finS ⟨I, J, ps, ds⟩ x (1 + p, q) = r at *; obtain ⟨⟨I', J', ps', ds'⟩, told, ok⟩ := r; simp only at V9 hk9 C9 ⊢; have V9 := hid V9; have C9 := hid ((C9.st (St.refl _)).less D8.out.gr.size); have D9 := hid (D8.out.st s9); (try have X9 := hid (X8.out.st s9)); clear s9 O9; (try (have x0 := X9.out.b.cell_ (i := 0) (v := .int .i64 0) rfl; have x1 := X9.out.b.cell_ (i := 1) (v := .int .i64 0) rfl; have x2 := X9.out.b.cell_ (i := 2) (v := .slice none 0 0) rfl; have x3 := X9.out.b.cell_ (i := 3) (v := .slice none 0 0) rfl; have xf0 := X9.out.b.frozen 0; have xf1 := X9.out.b.frozen 1; have xf2 := X9.out.b.frozen 2; have xf3 := X9.out.b.frozen 3)))
            (first | (refine hK.out _ _ ?_ (fun hH4 => ?_)) | (go_wp2_with fail; refine hK.out _ _ ?_ (fun hH4 => ?_)))
            · exact D9.out.cells
            clear hK K hH3
            (try simp only [Act.put, List.setIfInBounds_toArray, List.set_cons_zero, List.set_cons_succ])
            refine wpAnyH_take (i := 12) (oi := ⟨some 39, _, _, _, _, _⟩) (v := ?_) rfl (by kernel_rfl) (by kernel_rfl) (by kernel_rfl) (fun _ _ _ h => h) (Or.inl ⟨by rfl, ?_⟩) (by assumption) ?_
            rotate_left
            · (intro w hSw; (try dsimp only at hSw); go_simp; (try with_reducible rfl))
            (try simp only [Act.put, List.setIfInBounds_toArray, List.set_cons_zero, List.set_cons_succ])
            refine wpAnyH_take (i := 13) (oi := ⟨some 52, _, _, _, _, _⟩) (v := ?_) rfl (by kernel_rfl) (by kernel_rfl) (by kernel_rfl) (fun _ _ _ h => h) (Or.inl ⟨by rfl, ?_⟩) (by assumption) ?_
            rotate_left
            · (intro w hSw; (try dsimp only at hSw); go_simp; (try with_reducible rfl))
            (try simp only [Act.put, List.setIfInBounds_toArray, List.set_cons_zero, List.set_cons_succ])
            refine wpAnyH_take (i := 14) (oi := ⟨some 53, _, _, _, _, _⟩) (v := ?_) rfl (by kernel_rfl) (by kernel_rfl) (by kernel_rfl) (fun _ _ _ h => h) (Or.inl ⟨by rfl, ?_⟩) (by assumption) ?_
            rotate_left
            · (intro w hSw; (try dsimp only at hSw); go_simp; (try with_reducible rfl))
            (try simp only [Act.put, List.setIfInBounds_toArray, List.set_cons_zero, List.set_cons_succ])
            refine wpAnyH_take (i := 15) (oi := ⟨some 54, _, _, _, _, _⟩) (v := ?_) rfl (by kernel_rfl) (by kernel_rfl) (by kernel_rfl) (fun _ _ _ h => h) (Or.inl ⟨by rfl, ?_⟩) (by assumption) ?_
            rotate_left
            · (intro w hSw; (try dsimp only at hSw); go_simp; (try with_reducible rfl))
            (try simp only [Act.put, List.setIfInBounds_toArray, List.set_cons_zero, List.set_cons_succ])
            refine wpAnyH_ready (rs := [17]) (by kernel_rfl) (by simp) ?_
            refine AllReadyH.cons (o := ⟨none, _, _, _, _, _⟩) rfl (fun K hK => ?_) AllReadyH.nil
            go_simp
            (first | (refine hK.out _ _ ?_ (fun hH5 => ?_)) | (go_wp2_with fail; refine hK.out _ _ ?_ (fun hH5 => ?_)))
            · exact (X9.out.over D9.out C9.out).2.1.out.cells
            clear hK K hH4
            (try simp only [Act.put, List.setIfInBounds_toArray, List.set_cons_zero, List.set_cons_succ])
            refine wpAnyH_take (i := 18) (oi := ⟨some 11, _, _, _, _, _⟩) (v := ?_) rfl (by kernel_rfl) (by kernel_rfl) (by kernel_rfl) (fun _ _ _ h => h) (Or.inl ⟨by rfl, ?_⟩) (by assumption) ?_
            rotate_left
            · (intro w hSw; (try dsimp only at hSw); go_simp; (try with_reducible rfl))
            (try simp only [Act.put, List.setIfInBounds_toArray, List.set_cons_zero, List.set_cons_succ])
            refine wpAnyH_take (i := 19) (oi := ⟨some 12, _, _, _, _, _⟩) (v := ?_) rfl (by kernel_rfl) (by kernel_rfl) (by kernel_rfl) (fun _ _ _ h => h) (Or.inl ⟨by rfl, ?_⟩) (by assumption) ?_
            rotate_left
            · (intro w hSw; (try dsimp only at hSw); go_simp; (try with_reducible rfl))
            (try simp only [Act.put, List.setIfInBounds_toArray, List.set_cons_zero, List.set_cons_succ])
            refine wpAnyH_done (by kernel_rfl) ?_ _
            clear hH5
            obtain ⟨f1, f2, f3⟩ := X9.out.over D9.out C9.out
            go_wp2_with fail
            go_meet
            exact ⟨_, _, _, _, _, _, _, _, _, _, _, ok, rfl, rfl, V9, by omega, f1, hid (f2.out.le (by omega)), f3⟩
          exact AllReadyH.nil
        case rest =>
          obtain ⟨X, n', c', m', d', I', J', A', B', ps', ds', ok, rfl, rfl, V7, hk7, X7, D7, C8⟩ := hcut
          clear D6 D6a D6b XA HND HAS g0 g1 g2 g3 hk3 HL HL' HM
          cases ok
          · go_wp2_with fail
            go_roundw
            case rel => exact ⟨k + 1, n, c, m, d, I, J, A, B, ps, ds, by omega, by go_num, by omega, V, hid (D7.out.le (by omega))⟩
            case measure => simp [intOf]; omega
          · skip
            have x0 := X7.out.cell_ (i := 0) (v := .int .i64 I') rfl
            have x1 := X7.out.cell_ (i := 1) (v := .int .i64 J') rfl
            have x2 := X7.out.cell_ (i := 2) (v := .slice A' n' c') rfl
            have x3 := X7.out.cell_ (i := 3) (v := .slice B' m' d') rfl
            have g0 := D7.out.g.cell_ (i := 0) (v := .int .i64 I) rfl
            have g1 := D7.out.g.cell_ (i := 1) (v := .int .i64 J) rfl
            have g2 := D7.out.g.cell_ (i := 2) (v := .slice A n c) rfl
            have g3 := D7.out.g.cell_ (i := 3) (v := .slice B m d) rfl
            have gf0 := D7.out.g.frozen 0
            have gf1 := D7.out.g.frozen 1
            have gf2 := D7.out.g.frozen 2
            have gf3 := D7.out.g.frozen 3
            have D8 := hid (D7.out.over C8.out)
            go_wp2_with fail
            go_roundw
            case rel => exact ⟨k + 1, n', c', m', d', I', J', A', B', ps', ds', by omega, by go_num, by omega, V7, hid (D8.out.le (by omega))⟩
            case measure => simp [intOf]; omega
    · go_wp2_with fail
      refine (pick_any _ _ _ _ D4.out.r (by omega) (by omega) (by omega)).mono ?_
      rintro e w5 ⟨u, rfl, hp, hr5, hg5⟩
      have D5 := hid ((D4.out.pick hr5 hg5).le (L' := M + 80) (by omega))
      have HL := hid D5.out.c.oi.1
      have HL' := hid D5.out.c.oh.1
      have hlen := V.out.len
      simp only at hlen
      have hln := HL.out
      have hlm := HL'.out
      have hn12 : n ≤ 12 := by omega
      have hm12 : m ≤ 12 := by omega
      clear hp hp2 D4 hr5 hg5 hlen hln hlm HL HL'
      cases h0 : (u == 0)
      · cases h1 : (u == 1)
        · cases h2 : (u == 2)
          · cases h3 : (u == 3)
            · cases h4 : (u == 4)
              · go_upto_region 27 with (fail)
                have z0 := D5.out.z.cell_ (i := 0) (v := .int .i64 0) rfl
                have z1 := D5.out.z.cell_ (i := 1) (v := .int .i64 0) rfl
                have z2 := D5.out.z.cell_ (i := 2) (v := .slice none 0 0) rfl
                have z3 := D5.out.z.cell_ (i := 3) (v := .slice none 0 0) rfl
                have zf0 := D5.out.z.frozen 0
                have zf1 := D5.out.z.frozen 1
                have zf2 := D5.out.z.frozen 2
                have zf3 := D5.out.z.frozen 3
                have q0 := D5.out.g.cell_ (i := 0) (v := .int .i64 I) rfl
                have q1 := D5.out.g.cell_ (i := 1) (v := .int .i64 J) rfl
                have q2 := D5.out.g.cell_ (i := 2) (v := .slice A n c) rfl
                have q3 := D5.out.g.cell_ (i := 3) (v := .slice B m d) rfl
                obtain ⟨f1, f2⟩ := D5.out.fin (M := M + 120) (by omega) (by omega) (by omega) (by omega)
                have r0 := f1.out.cell_ (i := 0) (v := .int .i64 I) rfl
                have r1 := f1.out.cell_ (i := 1) (v := .int .i64 J) rfl
                have r2 := f1.out.cell_ (i := 2) (v := .slice A n c) rfl
                have r3 := f1.out.cell_ (i := 3) (v := .slice B m d) rfl
                go_wp2_with fail
                refine bodyPost_ret (v := grV I J A n c B m d) (by simp [results, Try.results35, go_sem, r0, r1, r2, r3]) rfl f2.out
              · go_wp2_with fail
                refine (pick_any _ _ _ _ D5.out.r (by omega) (by omega) (by omega)).mono ?_
                rintro e w6 ⟨v, rfl, hp, hr6, hg6⟩
                have hp1 := hp.1
                have hp2 := hp.2.1 (by omega)
                have D6 := hid (D5.out.pick hr6 hg6)
                clear hp D5 hr6 hg6
                have hv : IntKind.i64.wrap (v - 1) = v - 1 := IntWalk.i64_in _ (by omega)
                have c0 := D6.out.g.cell_ (i := 0) (v := .int .i64 I) rfl
                have f0 := D6.out.g.frozen 0
                have D8 := hid (D6.out.idn (v - 1))
                clear D6
                go_upto_region 27 with (fail)
                clear c0 f0
                generalize w6.setCell _ _ = w8 at *
                have z0 := D8.out.z.cell_ (i := 0) (v := .int .i64 0) rfl
                have z1 := D8.out.z.cell_ (i := 1) (v := .int .i64 0) rfl
                have z2 := D8.out.z.cell_ (i := 2) (v := .slice none 0 0) rfl
                have z3 := D8.out.z.cell_ (i := 3) (v := .slice none 0 0) rfl
                have zf0 := D8.out.z.frozen 0
                have zf1 := D8.out.z.frozen 1
                have zf2 := D8.out.z.frozen 2
                have zf3 := D8.out.z.frozen 3
                have q0 := D8.out.g.cell_ (i := 0) (v := .int .i64 (v - 1)) rfl
                have q1 := D8.out.g.cell_ (i := 1) (v := .int .i64 J) rfl
                have q2 := D8.out.g.cell_ (i := 2) (v := .slice A n c) rfl
                have q3 := D8.out.g.cell_ (i := 3) (v := .slice B m d) rfl
                obtain ⟨f1, f2⟩ := D8.out.fin (M := M + 120) (by omega) (by omega) (by omega) (by omega)
                have r0 := f1.out.cell_ (i := 0) (v := .int .i64 (v - 1)) rfl
                have r1 := f1.out.cell_ (i := 1) (v := .int .i64 J) rfl
                have r2 := f1.out.cell_ (i := 2) (v := .slice A n c) rfl
                have r3 := f1.out.cell_ (i := 3) (v := .slice B m d) rfl
                go_wp2_with fail
                refine bodyPost_ret (v := grV (v - 1) J A n c B m d) (by simp [results, Try.results35, go_sem, r0, r1, r2, r3]) rfl f2.out
            · by_cases hm0 : 0 < m
              · have hmi : 0 < (m : Int) := by omega
                obtain ⟨b, _, _, _, _, rfl, _⟩ := D5.out.c.oh.at1 hm0
                have g3 := D5.out.cells.2.2.2
                have D5b := hid (D5.out.st (Dr.st ⟨1, rfl⟩ : St w5 w5.drew))
                go_upto_region 24 with (fail)
                refine wp_region_held_drew (S := (fun w' => w'.cell? ⟨G, 3, none⟩ = some (.slice (some ⟨b, 0, none⟩) m d))) (by kernel_rfl) ?_ (fun hH0 => ?_)
                · exact g3
                refine wpAnyH_take (i := 0) (oi := ⟨some 105, _, _, _, _, _⟩) (v := ?_) rfl (by kernel_rfl) (by kernel_rfl) (by kernel_rfl) (fun _ _ _ h => h) (Or.inl ⟨by rfl, ?_⟩) (by assumption) ?_
                rotate_left
                · (intro w hSw; (try dsimp only at hSw); go_simp; (try with_reducible rfl))
                (try simp only [Act.put, List.setIfInBounds_toArray, List.set_cons_zero, List.set_cons_succ])
                refine wpAnyH_take (i := 1) (oi := ⟨some 106, _, _, _, _, _⟩) (v := ?_) rfl (by kernel_rfl) (by kernel_rfl) (by kernel_rfl) (fun _ _ _ h => h) (Or.inl ⟨by rfl, ?_⟩) (by assumption) ?_
                rotate_left
                · (intro w hSw; (try dsimp only at hSw); go_simp; (try with_reducible rfl))
                (try simp only [Act.put, List.setIfInBounds_toArray, List.set_cons_zero, List.set_cons_succ])
                refine wpAnyH_take (i := 2) (oi := ⟨some 107, _, _, _, _, _⟩) (v := ?_) rfl (by kernel_rfl) (by kernel_rfl) (by kernel_rfl) (fun _ _ _ h => h) (Or.inl ⟨by rfl, ?_⟩) (by assumption) ?_
                rotate_left
                · (intro w hSw; (try dsimp only at hSw); go_simp; (try with_reducible rfl))
                (try simp only [Act.put, List.setIfInBounds_toArray, List.set_cons_zero, List.set_cons_succ])
                refine wpAnyH_take (i := 3) (oi := ⟨some 108, _, _, _, _, _⟩) (v := ?_) rfl (by kernel_rfl) (by kernel_rfl) (by kernel_rfl) (fun _ _ _ h => h) (Or.inl ⟨by rfl, ?_⟩) (by assumption) ?_
                rotate_left
                · (intro w hSw; (try dsimp only at hSw); go_simp; (try with_reducible rfl))
                (try simp only [Act.put, List.setIfInBounds_toArray, List.set_cons_zero, List.set_cons_succ])
                refine wpAnyH_take (i := 4) (oi := ⟨some 109, _, _, _, _, _⟩) (v := ?_) rfl (by kernel_rfl) (by kernel_rfl) (by kernel_rfl) (fun _ _ _ h => h) (Or.inl ⟨by rfl, ?_⟩) (by assumption) ?_
                rotate_left
                · (intro w hSw; (try dsimp only at hSw); go_simp; (try with_reducible rfl))
                (try simp only [Act.put, List.setIfInBounds_toArray, List.set_cons_zero, List.set_cons_succ])
                refine wpAnyH_take (i := 5) (oi := ⟨some 110, _, _, _, _, _⟩) (v := ?_) rfl (by kernel_rfl) (by kernel_rfl) (by kernel_rfl) (fun _ _ _ h => h) (Or.inl ⟨by rfl, ?_⟩) (by assumption) ?_
                rotate_left
                · (intro w hSw; (try dsimp only at hSw); go_simp; (try with_reducible rfl))
                (try simp only [Act.put, List.setIfInBounds_toArray, List.set_cons_zero, List.set_cons_succ])
                refine wpAnyH_take (i := 7) (oi := ⟨some 112, _, _, _, _, _⟩) (v := ?_) rfl (by kernel_rfl) (by kernel_rfl) (by kernel_rfl) (fun _ _ _ h => h) (Or.inl ⟨by rfl, ?_⟩) (by assumption) ?_
                rotate_left
                · (intro w hSw; (try dsimp only at hSw); go_simp; (try with_reducible rfl))
                (try simp only [Act.put, List.setIfInBounds_toArray, List.set_cons_zero, List.set_cons_succ])
                refine wpAnyH_ready (rs := [6]) (by kernel_rfl) (by simp) ?_
                refine AllReadyH.cons (o := ⟨some 111, _, _, _, _, _⟩) rfl (fun K hK => ?_) AllReadyH.nil
                go_simp
                (go_at_call 46; (with_reducible refine (pick_any _ _ _ _ D5b.out.r (by omega) (by omega) (by omega)).mono ?_); rintro e w6 ⟨i, rfl, hp, hr6, hg6⟩; have hi1 := hp.1; have hi2 := hp.2.1 (by omega); have D6 := hid (D5b.out.pick hr6 hg6); clear hp hr6 hg6)
                (first | (refine hK.out _ _ ?_ (fun hH1 => ?_)) | (go_wp2_with fail; refine hK.out _ _ ?_ (fun hH1 => ?_)))
                · exact D6.out.cells.2.2.2
                clear hK K hH0
                (try simp only [Act.put, List.setIfInBounds_toArray, List.set_cons_zero, List.set_cons_succ])
                refine wpAnyH_ready (rs := [8]) (by kernel_rfl) (by simp) ?_
                refine AllReadyH.cons (o := ⟨some 113, _, _, _, _, _⟩) rfl (fun K hK => ?_) AllReadyH.nil
                go_simp
                (go_at_call 46; (with_reducible refine (pick_any _ _ _ _ D6.out.r (by omega) (by omega) (by omega)).mono ?_); rintro e w7 ⟨t, rfl, hp, hr7, hg7⟩; have D7 := hid (D6.out.pick hr7 hg7); clear hp hr7 hg7; obtain ⟨j, rfl⟩ : ∃ j : Nat, i = (j : Int) := ⟨i.toNat, by omega⟩; have hjm : j < m := (by omega); obtain ⟨b', m1, t1, g1', f1', hb', _, _, e0, e1, e2, e3, fz, o1, o2, o3⟩ := D7.out.c.oh.at1 hjm; obtain rfl : b = b' := (by injection hb' with hb'; injection hb'); have fz0 := fz (j * 4); have D8 := hid (D7.out.rowB (World.grownBy_set w7 b (j * 4) (.int .i64 t)) rfl (o1 t).out))
                (first | (refine hK.out _ _ ?_ (fun hH2 => ?_)) | (go_wp2_with fail; refine hK.out _ _ ?_ (fun hH2 => ?_)))
                · exact D7.out.cells.2.2.2
                clear hK K hH1
                (try simp only [Act.put, List.setIfInBounds_toArray, List.set_cons_zero, List.set_cons_succ])
                refine wpAnyH_take (i := 9) (oi := ⟨some 114, _, _, _, _, _⟩) (v := ?_) rfl (by kernel_rfl) (by kernel_rfl) (by kernel_rfl) (fun _ _ _ h => h) (Or.inl ⟨by rfl, ?_⟩) (by assumption) ?_
                rotate_left
                · (intro w hSw; (try dsimp only at hSw); go_simp; (try with_reducible rfl))
                (try simp only [Act.put, List.setIfInBounds_toArray, List.set_cons_zero, List.set_cons_succ])
                refine wpAnyH_take (i := 10) (oi := ⟨some 115, _, _, _, _, _⟩) (v := ?_) rfl (by kernel_rfl) (by kernel_rfl) (by kernel_rfl) (fun _ _ _ h => h) (Or.inl ⟨by rfl, ?_⟩) (by assumption) ?_
                rotate_left
                · (intro w hSw; (try dsimp only at hSw); go_simp; (try with_reducible rfl))
                (try simp only [Act.put, List.setIfInBounds_toArray, List.set_cons_zero, List.set_cons_succ])
                refine wpAnyH_ready (rs := [11]) (by kernel_rfl) (by simp) ?_
                refine AllReadyH.cons (o := ⟨none, _, _, _, _, _⟩) rfl (fun K hK => ?_) AllReadyH.nil
                go_simp
                (first | (refine hK.out _ _ ?_ (fun hH3 => ?_)) | (go_wp2_with fail; refine hK.out _ _ ?_ (fun hH3 => ?_)))
                · exact D8.out.cells.2.2.2
                clear hK K hH2
                (try simp only [Act.put, List.setIfInBounds_toArray, List.set_cons_zero, List.set_cons_succ])
                refine wpAnyH_done (by kernel_rfl) ?_ _
                clear hH3
                clear D5 D5b D6 D7 g3 e0 e1 e2 e3 fz fz0 o1 o2 o3 hb'
                go_upto_region 27 with (fail)
                generalize w7.setCell _ _ = w8 at *
                have z0 := D8.out.z.cell_ (i := 0) (v := .int .i64 0) rfl
                have z1 := D8.out.z.cell_ (i := 1) (v := .int .i64 0) rfl
                have z2 := D8.out.z.cell_ (i := 2) (v := .slice none 0 0) rfl
                have z3 := D8.out.z.cell_ (i := 3) (v := .slice none 0 0) rfl
                have zf0 := D8.out.z.frozen 0
                have zf1 := D8.out.z.frozen 1
                have zf2 := D8.out.z.frozen 2
                have zf3 := D8.out.z.frozen 3
                have q0 := D8.out.g.cell_ (i := 0) (v := .int .i64 I) rfl
                have q1 := D8.out.g.cell_ (i := 1) (v := .int .i64 J) rfl
                have q2 := D8.out.g.cell_ (i := 2) (v := .slice A n c) rfl
                have q3 := D8.out.g.cell_ (i := 3) (v := .slice (some ⟨b, 0, none⟩) m d) rfl
                obtain ⟨f1, f2⟩ := D8.out.fin (M := M + 120) (by omega) (by omega) (by omega) (by omega)
                have r0 := f1.out.cell_ (i := 0) (v := .int .i64 I) rfl
                have r1 := f1.out.cell_ (i := 1) (v := .int .i64 J) rfl
                have r2 := f1.out.cell_ (i := 2) (v := .slice A n c) rfl
                have r3 := f1.out.cell_ (i := 3) (v := .slice (some ⟨b, 0, none⟩) m d) rfl
                go_wp2_with fail
                refine bodyPost_ret (v := grV I J A n c (some ⟨b, 0, none⟩) m d) (by simp [results, Try.results35, go_sem, r0, r1, r2, r3]) rfl f2.out
              · have hmi : ¬ 0 < (m : Int) := by omega
                have g3 := D5.out.cells.2.2.2
                go_upto_region 27 with (fail)
                clear g3
                have z0 := D5.out.z.cell_ (i := 0) (v := .int .i64 0) rfl
                have z1 := D5.out.z.cell_ (i := 1) (v := .int .i64 0) rfl
                have z2 := D5.out.z.cell_ (i := 2) (v := .slice none 0 0) rfl
                have z3 := D5.out.z.cell_ (i := 3) (v := .slice none 0 0) rfl
                have zf0 := D5.out.z.frozen 0
                have zf1 := D5.out.z.frozen 1
                have zf2 := D5.out.z.frozen 2
                have zf3 := D5.out.z.frozen 3
                have q0 := D5.out.g.cell_ (i := 0) (v := .int .i64 I) rfl
                have q1 := D5.out.g.cell_ (i := 1) (v := .int .i64 J) rfl
                have q2 := D5.out.g.cell_ (i := 2) (v := .slice A n c) rfl
                have q3 := D5.out.g.cell_ (i := 3) (v := .slice B m d) rfl
                obtain ⟨f1, f2⟩ := D5.out.fin (M := M + 120) (by omega) (by omega) (by omega) (by omega)
                have r0 := f1.out.cell_ (i := 0) (v := .int .i64 I) rfl
                have r1 := f1.out.cell_ (i := 1) (v := .int .i64 J) rfl
                have r2 := f1.out.cell_ (i := 2) (v := .slice A n c) rfl
                have r3 := f1.out.cell_ (i := 3) (v := .slice B m d) rfl
                go_wp2_with fail
                refine bodyPost_ret (v := grV I J A n c B m d) (by simp [results, Try.results35, go_sem, r0, r1, r2, r3]) rfl f2.out
          · by_cases hn0 : 0 < n
            · have hni : 0 < (n : Int) := by omega
              obtain ⟨b, _, _, _, _, rfl, _⟩ := D5.out.c.oi.at1 hn0
              have g2 := D5.out.cells.2.2.1
              have D5b := hid (D5.out.st (Dr.st ⟨1, rfl⟩ : St w5 w5.drew))
              go_upto_region 21 with (fail)
              refine wp_region_held_drew (S := (fun w' => w'.cell? ⟨G, 2, none⟩ = some (.slice (some ⟨b, 0, none⟩) n c))) (by kernel_rfl) ?_ (fun hH0 => ?_)
              · exact g2
              refine wpAnyH_take (i := 0) (oi := ⟨some 90, _, _, _, _, _⟩) (v := ?_) rfl (by kernel_rfl) (by kernel_rfl) (by kernel_rfl) (fun _ _ _ h => h) (Or.inl ⟨by rfl, ?_⟩) (by assumption) ?_
              rotate_left
              · (intro w hSw; (try dsimp only at hSw); go_simp; (try with_reducible rfl))
              (try simp only [Act.put, List.setIfInBounds_toArray, List.set_cons_zero, List.set_cons_succ])
              refine wpAnyH_take (i := 1) (oi := ⟨some 91, _, _, _, _, _⟩) (v := ?_) rfl (by kernel_rfl) (by kernel_rfl) (by kernel_rfl) (fun _ _ _ h => h) (Or.inl ⟨by rfl, ?_⟩) (by assumption) ?_
              rotate_left
              · (intro w hSw; (try dsimp only at hSw); go_simp; (try with_reducible rfl))
              (try simp only [Act.put, List.setIfInBounds_toArray, List.set_cons_zero, List.set_cons_succ])
              refine wpAnyH_take (i := 2) (oi := ⟨some 92, _, _, _, _, _⟩) (v := ?_) rfl (by kernel_rfl) (by kernel_rfl) (by kernel_rfl) (fun _ _ _ h => h) (Or.inl ⟨by rfl, ?_⟩) (by assumption) ?_
              rotate_left
              · (intro w hSw; (try dsimp only at hSw); go_simp; (try with_reducible rfl))
              (try simp only [Act.put, List.setIfInBounds_toArray, List.set_cons_zero, List.set_cons_succ])
              refine wpAnyH_take (i := 3) (oi := ⟨some 93, _, _, _, _, _⟩) (v := ?_) rfl (by kernel_rfl) (by kernel_rfl) (by kernel_rfl) (fun _ _ _ h => h) (Or.inl ⟨by rfl, ?_⟩) (by assumption) ?_
              rotate_left
              · (intro w hSw; (try dsimp only at hSw); go_simp; (try with_reducible rfl))
              (try simp only [Act.put, List.setIfInBounds_toArray, List.set_cons_zero, List.set_cons_succ])
              refine wpAnyH_take (i := 4) (oi := ⟨some 94, _, _, _, _, _⟩) (v := ?_) rfl (by kernel_rfl) (by kernel_rfl) (by kernel_rfl) (fun _ _ _ h => h) (Or.inl ⟨by rfl, ?_⟩) (by assumption) ?_
              rotate_left
              · (intro w hSw; (try dsimp only at hSw); go_simp; (try with_reducible rfl))
              (try simp only [Act.put, List.setIfInBounds_toArray, List.set_cons_zero, List.set_cons_succ])
              refine wpAnyH_take (i := 5) (oi := ⟨some 95, _, _, _, _, _⟩) (v := ?_) rfl (by kernel_rfl) (by kernel_rfl) (by kernel_rfl) (fun _ _ _ h => h) (Or.inl ⟨by rfl, ?_⟩) (by assumption) ?_
              rotate_left
              · (intro w hSw; (try dsimp only at hSw); go_simp; (try with_reducible rfl))
              (try simp only [Act.put, List.setIfInBounds_toArray, List.set_cons_zero, List.set_cons_succ])
              refine wpAnyH_ready (rs := [6]) (by kernel_rfl) (by simp) ?_
              refine AllReadyH.cons (o := ⟨some 96, _, _, _, _, _⟩) rfl (fun K hK => ?_) AllReadyH.nil
              go_simp
              (go_at_call 46; (with_reducible refine (pick_any _ _ _ _ D5b.out.r (by omega) (by omega) (by omega)).mono ?_); rintro e w7 ⟨i, rfl, hp, hr6, hg6⟩; have hi1 := hp.1; have hi2 := hp.2.1 (by omega); have D7 := hid (D5b.out.pick hr6 hg6); clear hp hr6 hg6; obtain ⟨j, rfl⟩ : ∃ j : Nat, i = (j : Int) := ⟨i.toNat, by omega⟩; have hjm : j < n := (by omega); obtain ⟨b', m1, t1, g1', f1', hb', _, _, e0, e1, e2, e3, fz, o1, o2, o3⟩ := D7.out.c.oi.at1 hjm; obtain rfl : b = b' := (by injection hb' with hb'; injection hb'); have fz0 := fz (j * 4 + 2 + 1); have D8 := hid (D7.out.rowA (World.grownBy_set w7 b (j * 4 + 2 + 1) (.bool true)) rfl (o3 true).out))
              (first | (refine hK.out _ _ ?_ (fun hH1 => ?_)) | (go_wp2_with fail; refine hK.out _ _ ?_ (fun hH1 => ?_)))
              · exact D7.out.cells.2.2.1
              clear hK K hH0
              (try simp only [Act.put, List.setIfInBounds_toArray, List.set_cons_zero, List.set_cons_succ])
              refine wpAnyH_take (i := 7) (oi := ⟨some 97, _, _, _, _, _⟩) (v := ?_) rfl (by kernel_rfl) (by kernel_rfl) (by kernel_rfl) (fun _ _ _ h => h) (Or.inl ⟨by rfl, ?_⟩) (by assumption) ?_
              rotate_left
              · (intro w hSw; (try dsimp only at hSw); go_simp; (try with_reducible rfl))
              (try simp only [Act.put, List.setIfInBounds_toArray, List.set_cons_zero, List.set_cons_succ])
              refine wpAnyH_take (i := 8) (oi := ⟨some 98, _, _, _, _, _⟩) (v := ?_) rfl (by kernel_rfl) (by kernel_rfl) (by kernel_rfl) (fun _ _ _ h => h) (Or.inl ⟨by rfl, ?_⟩) (by assumption) ?_
              rotate_left
              · (intro w hSw; (try dsimp only at hSw); go_simp; (try with_reducible rfl))
              (try simp only [Act.put, List.setIfInBounds_toArray, List.set_cons_zero, List.set_cons_succ])
              refine wpAnyH_ready (rs := [9]) (by kernel_rfl) (by simp) ?_
              refine AllReadyH.cons (o := ⟨none, _, _, _, _, _⟩) rfl (fun K hK => ?_) AllReadyH.nil
              go_simp
              (first | (refine hK.out _ _ ?_ (fun hH2 => ?_)) | (go_wp2_with fail; refine hK.out _ _ ?_ (fun hH2 => ?_)))
              · exact D8.out.cells.2.2.1
              clear hK K hH1
              (try simp only [Act.put, List.setIfInBounds_toArray, List.set_cons_zero, List.set_cons_succ])
              refine wpAnyH_done (by kernel_rfl) ?_ _
              clear hH2
              clear D5 D5b D7 g2 e0 e1 e2 e3 fz fz0 o1 o2 o3 hb'
              go_upto_region 27 with (fail)
              generalize w7.setCell _ _ = w8 at *
              have z0 := D8.out.z.cell_ (i := 0) (v := .int .i64 0) rfl
              have z1 := D8.out.z.cell_ (i := 1) (v := .int .i64 0) rfl
              have z2 := D8.out.z.cell_ (i := 2) (v := .slice none 0 0) rfl
              have z3 := D8.out.z.cell_ (i := 3) (v := .slice none 0 0) rfl
              have zf0 := D8.out.z.frozen 0
              have zf1 := D8.out.z.frozen 1
              have zf2 := D8.out.z.frozen 2
              have zf3 := D8.out.z.frozen 3
              have q0 := D8.out.g.cell_ (i := 0) (v := .int .i64 I) rfl
              have q1 := D8.out.g.cell_ (i := 1) (v := .int .i64 J) rfl
              have q2 := D8.out.g.cell_ (i := 2) (v := .slice (some ⟨b, 0, none⟩) n c) rfl
              have q3 := D8.out.g.cell_ (i := 3) (v := .slice B m d) rfl
              obtain ⟨f1, f2⟩ := D8.out.fin (M := M + 120) (by omega) (by omega) (by omega) (by omega)
              have r0 := f1.out.cell_ (i := 0) (v := .int .i64 I) rfl
              have r1 := f1.out.cell_ (i := 1) (v := .int .i64 J) rfl
              have r2 := f1.out.cell_ (i := 2) (v := .slice (some ⟨b, 0, none⟩) n c) rfl
              have r3 := f1.out.cell_ (i := 3) (v := .slice B m d) rfl
              go_wp2_with fail
              refine bodyPost_ret (v := grV I J (some ⟨b, 0, none⟩) n c B m d) (by simp [results, Try.results35, go_sem, r0, r1, r2, r3]) rfl f2.out
            · have hni : ¬ 0 < (n : Int) := by omega
              have g2 := D5.out.cells.2.2.1
              go_upto_region 27 with (fail)
              clear g2
              have z0 := D5.out.z.cell_ (i := 0) (v := .int .i64 0) rfl
              have z1 := D5.out.z.cell_ (i := 1) (v := .int .i64 0) rfl
              have z2 := D5.out.z.cell_ (i := 2) (v := .slice none 0 0) rfl
              have z3 := D5.out.z.cell_ (i := 3) (v := .slice none 0 0) rfl
              have zf0 := D5.out.z.frozen 0
              have zf1 := D5.out.z.frozen 1
              have zf2 := D5.out.z.frozen 2
              have zf3 := D5.out.z.frozen 3
              have q0 := D5.out.g.cell_ (i := 0) (v := .int .i64 I) rfl
              have q1 := D5.out.g.cell_ (i := 1) (v := .int .i64 J) rfl
              have q2 := D5.out.g.cell_ (i := 2) (v := .slice A n c) rfl
              have q3 := D5.out.g.cell_ (i := 3) (v := .slice B m d) rfl
              obtain ⟨f1, f2⟩ := D5.out.fin (M := M + 120) (by omega) (by omega) (by omega) (by omega)
              have r0 := f1.out.cell_ (i := 0) (v := .int .i64 I) rfl
              have r1 := f1.out.cell_ (i := 1) (v := .int .i64 J) rfl
              have r2 := f1.out.cell_ (i := 2) (v := .slice A n c) rfl
              have r3 := f1.out.cell_ (i := 3) (v := .slice B m d) rfl
              go_wp2_with fail
              refine bodyPost_ret (v := grV I J A n c B m d) (by simp [results, Try.results35, go_sem, r0, r1, r2, r3]) rfl f2.out
        · by_cases hn0 : 0 < n
          · have hni : 0 < (n : Int) := by omega
            obtain ⟨b, _, _, _, _, rfl, _⟩ := D5.out.c.oi.at1 hn0
            have g2 := D5.out.cells.2.2.1
            have D5b := hid (D5.out.st (Dr.st ⟨1, rfl⟩ : St w5 w5.drew))
            go_upto_region 18 with (fail)
            refine wp_region_held_drew (S := (fun w' => w'.cell? ⟨G, 2, none⟩ = some (.slice (some ⟨b, 0, none⟩) n c))) (by kernel_rfl) ?_ (fun hH0 => ?_)
            · exact g2
            refine wpAnyH_take (i := 0) (oi := ⟨some 73, _, _, _, _, _⟩) (v := ?_) rfl (by kernel_rfl) (by kernel_rfl) (by kernel_rfl) (fun _ _ _ h => h) (Or.inl ⟨by rfl, ?_⟩) (by assumption) ?_
            rotate_left
            · (intro w hSw; (try dsimp only at hSw); go_simp; (try with_reducible rfl))
            (try simp only [Act.put, List.setIfInBounds_toArray, List.set_cons_zero, List.set_cons_succ])
            refine wpAnyH_take (i := 1) (oi := ⟨some 74, _, _, _, _, _⟩) (v := ?_) rfl (by kernel_rfl) (by kernel_rfl) (by kernel_rfl) (fun _ _ _ h => h) (Or.inl ⟨by rfl, ?_⟩) (by assumption) ?_
            rotate_left
            · (intro w hSw; (try dsimp only at hSw); go_simp; (try with_reducible rfl))
            (try simp only [Act.put, List.setIfInBounds_toArray, List.set_cons_zero, List.set_cons_succ])
            refine wpAnyH_take (i := 2) (oi := ⟨some 75, _, _, _, _, _⟩) (v := ?_) rfl (by kernel_rfl) (by kernel_rfl) (by kernel_rfl) (fun _ _ _ h => h) (Or.inl ⟨by rfl, ?_⟩) (by assumption) ?_
            rotate_left
            · (intro w hSw; (try dsimp only at hSw); go_simp; (try with_reducible rfl))
            (try simp only [Act.put, List.setIfInBounds_toArray, List.set_cons_zero, List.set_cons_succ])
            refine wpAnyH_take (i := 3) (oi := ⟨some 76, _, _, _, _, _⟩) (v := ?_) rfl (by kernel_rfl) (by kernel_rfl) (by kernel_rfl) (fun _ _ _ h => h) (Or.inl ⟨by rfl, ?_⟩) (by assumption) ?_
            rotate_left
            · (intro w hSw; (try dsimp only at hSw); go_simp; (try with_reducible rfl))
            (try simp only [Act.put, List.setIfInBounds_toArray, List.set_cons_zero, List.set_cons_succ])
            refine wpAnyH_take (i := 4) (oi := ⟨some 77, _, _, _, _, _⟩) (v := ?_) rfl (by kernel_rfl) (by kernel_rfl) (by kernel_rfl) (fun _ _ _ h => h) (Or.inl ⟨by rfl, ?_⟩) (by assumption) ?_
            rotate_left
            · (intro w hSw; (try dsimp only at hSw); go_simp; (try with_reducible rfl))
            (try simp only [Act.put, List.setIfInBounds_toArray, List.set_cons_zero, List.set_cons_succ])
            refine wpAnyH_take (i := 5) (oi := ⟨some 78, _, _, _, _, _⟩) (v := ?_) rfl (by kernel_rfl) (by kernel_rfl) (by kernel_rfl) (fun _ _ _ h => h) (Or.inl ⟨by rfl, ?_⟩) (by assumption) ?_
            rotate_left
            · (intro w hSw; (try dsimp only at hSw); go_simp; (try with_reducible rfl))
            (try simp only [Act.put, List.setIfInBounds_toArray, List.set_cons_zero, List.set_cons_succ])
            refine wpAnyH_take (i := 7) (oi := ⟨some 80, _, _, _, _, _⟩) (v := ?_) rfl (by kernel_rfl) (by kernel_rfl) (by kernel_rfl) (fun _ _ _ h => h) (Or.inl ⟨by rfl, ?_⟩) (by assumption) ?_
            rotate_left
            · (intro w hSw; (try dsimp only at hSw); go_simp; (try with_reducible rfl))
            (try simp only [Act.put, List.setIfInBounds_toArray, List.set_cons_zero, List.set_cons_succ])
            refine wpAnyH_ready (rs := [6]) (by kernel_rfl) (by simp) ?_
            refine AllReadyH.cons (o := ⟨some 79, _, _, _, _, _⟩) rfl (fun K hK => ?_) AllReadyH.nil
            go_simp
            (go_at_call 46; (with_reducible refine (pick_any _ _ _ _ D5b.out.r (by omega) (by omega) (by omega)).mono ?_); rintro e w6 ⟨i, rfl, hp, hr6, hg6⟩; have hi1 := hp.1; have hi2 := hp.2.1 (by omega); have D6 := hid (D5b.out.pick hr6 hg6); clear hp hr6 hg6)
            (first | (refine hK.out _ _ ?_ (fun hH1 => ?_)) | (go_wp2_with fail; refine hK.out _ _ ?_ (fun hH1 => ?_)))
            · exact D6.out.cells.2.2.1
            clear hK K hH0
            (try simp only [Act.put, List.setIfInBounds_toArray, List.set_cons_zero, List.set_cons_succ])
            refine wpAnyH_ready (rs := [8]) (by kernel_rfl) (by simp) ?_
            refine AllReadyH.cons (o := ⟨some 81, _, _, _, _, _⟩) rfl (fun K hK => ?_) AllReadyH.nil
            go_simp
            (go_at_call 45; (with_reducible refine (l91Stamp_any _ _ _ D6.out.r (by omega)).mono ?_); rintro e w7 ⟨t, g, rfl, hr7, hg7⟩; have D7 := hid (D6.out.pick hr7 hg7); clear hr7 hg7; obtain ⟨j, rfl⟩ : ∃ j : Nat, i = (j : Int) := ⟨i.toNat, by omega⟩; have hjm : j < n := (by omega); obtain ⟨b', m1, t1, g1', f1', hb', _, _, e0, e1, e2, e3, fz, o1, o2, o3⟩ := D7.out.c.oi.at1 hjm; obtain rfl : b = b' := (by injection hb' with hb'; injection hb'); have fz0 := fz (j * 4 + 1); have fz1 := fz (j * 4 + 1 + 1); have D8 := hid (D7.out.rowA (grown_trans' (World.grownBy_set w7 b (j * 4 + 1) (.int .i64 t)) (World.grownBy_set _ b (j * 4 + 1 + 1) (.int .i64 g))) rfl (o2 t g).out))
            (first | (refine hK.out _ _ ?_ (fun hH2 => ?_)) | (go_wp2_with fail; refine hK.out _ _ ?_ (fun hH2 => ?_)))
            · exact D7.out.cells.2.2.1
            clear hK K hH1
            (try simp only [Act.put, List.setIfInBounds_toArray, List.set_cons_zero, List.set_cons_succ])
            refine wpAnyH_take (i := 9) (oi := ⟨some 82, _, _, _, _, _⟩) (v := ?_) rfl (by kernel_rfl) (by kernel_rfl) (by kernel_rfl) (fun _ _ _ h => h) (Or.inl ⟨by rfl, ?_⟩) (by assumption) ?_
            rotate_left
            · (intro w hSw; (try dsimp only at hSw); go_simp; (try with_reducible rfl))
            (try simp only [Act.put, List.setIfInBounds_toArray, List.set_cons_zero, List.set_cons_succ])
            refine wpAnyH_take (i := 10) (oi := ⟨some 83, _, _, _, _, _⟩) (v := ?_) rfl (by kernel_rfl) (by kernel_rfl) (by kernel_rfl) (fun _ _ _ h => h) (Or.inl ⟨by rfl, ?_⟩) (by assumption) ?_
            rotate_left
            · (intro w hSw; (try dsimp only at hSw); go_simp; (try with_reducible rfl))
            (try simp only [Act.put, List.setIfInBounds_toArray, List.set_cons_zero, List.set_cons_succ])
            refine wpAnyH_ready (rs := [11]) (by kernel_rfl) (by simp) ?_
            refine AllReadyH.cons (o := ⟨none, _, _, _, _, _⟩) rfl (fun K hK => ?_) AllReadyH.nil
            go_simp
            (first | (refine hK.out _ _ ?_ (fun hH3 => ?_)) | (go_wp2_with fail; refine hK.out _ _ ?_ (fun hH3 => ?_)))
            · exact D8.out.cells.2.2.1
            clear hK K hH2
            (try simp only [Act.put, List.setIfInBounds_toArray, List.set_cons_zero, List.set_cons_succ])
            refine wpAnyH_done (by kernel_rfl) ?_ _
            clear hH3
            clear D5 D5b D6 D7 g2 e0 e1 e2 e3 fz fz0 fz1 o1 o2 o3 hb'
            go_upto_region 27 with (fail)
            generalize (w7.setCell _ _).setCell _ _ = w8 at *
            have z0 := D8.out.z.cell_ (i := 0) (v := .int .i64 0) rfl
            have z1 := D8.out.z.cell_ (i := 1) (v := .int .i64 0) rfl
            have z2 := D8.out.z.cell_ (i := 2) (v := .slice none 0 0) rfl
            have z3 := D8.out.z.cell_ (i := 3) (v := .slice none 0 0) rfl
            have zf0 := D8.out.z.frozen 0
            have zf1 := D8.out.z.frozen 1
            have zf2 := D8.out.z.frozen 2
            have zf3 := D8.out.z.frozen 3
            have q0 := D8.out.g.cell_ (i := 0) (v := .int .i64 I) rfl
            have q1 := D8.out.g.cell_ (i := 1) (v := .int .i64 J) rfl
            have q2 := D8.out.g.cell_ (i := 2) (v := .slice (some ⟨b, 0, none⟩) n c) rfl
            have q3 := D8.out.g.cell_ (i := 3) (v := .slice B m d) rfl
            obtain ⟨f1, f2⟩ := D8.out.fin (M := M + 120) (by omega) (by omega) (by omega) (by omega)
            have r0 := f1.out.cell_ (i := 0) (v := .int .i64 I) rfl
            have r1 := f1.out.cell_ (i := 1) (v := .int .i64 J) rfl
            have r2 := f1.out.cell_ (i := 2) (v := .slice (some ⟨b, 0, none⟩) n c) rfl
            have r3 := f1.out.cell_ (i := 3) (v := .slice B m d) rfl
            go_wp2_with fail
            refine bodyPost_ret (v := grV I J (some ⟨b, 0, none⟩) n c B m d) (by simp [results, Try.results35, go_sem, r0, r1, r2, r3]) rfl f2.out
          · have hni : ¬ 0 < (n : Int) := by omega
            have g2 := D5.out.cells.2.2.1
            go_upto_region 27 with (fail)
            clear g2
            have z0 := D5.out.z.cell_ (i := 0) (v := .int .i64 0) rfl
            have z1 := D5.out.z.cell_ (i := 1) (v := .int .i64 0) rfl
            have z2 := D5.out.z.cell_ (i := 2) (v := .slice none 0 0) rfl
            have z3 := D5.out.z.cell_ (i := 3) (v := .slice none 0 0) rfl
            have zf0 := D5.out.z.frozen 0
            have zf1 := D5.out.z.frozen 1
            have zf2 := D5.out.z.frozen 2
            have zf3 := D5.out.z.frozen 3
            have q0 := D5.out.g.cell_ (i := 0) (v := .int .i64 I) rfl
            have q1 := D5.out.g.cell_ (i := 1) (v := .int .i64 J) rfl
            have q2 := D5.out.g.cell_ (i := 2) (v := .slice A n c) rfl
            have q3 := D5.out.g.cell_ (i := 3) (v := .slice B m d) rfl
            obtain ⟨f1, f2⟩ := D5.out.fin (M := M + 120) (by omega) (by omega) (by omega) (by omega)
            have r0 := f1.out.cell_ (i := 0) (v := .int .i64 I) rfl
            have r1 := f1.out.cell_ (i := 1) (v := .int .i64 J) rfl
            have r2 := f1.out.cell_ (i := 2) (v := .slice A n c) rfl
            have r3 := f1.out.cell_ (i := 3) (v := .slice B m d) rfl
            go_wp2_with fail
            refine bodyPost_ret (v := grV I J A n c B m d) (by simp [results, Try.results35, go_sem, r0, r1, r2, r3]) rfl f2.out
      · have sA := (St.refl w5).alloc (.cells #[.int .i64 0, .int .i64 998, .int .i64 999, .int .i64 1000] 3)
        have D6 := hid (D5.out.st sA)
        have L6 := hid (Blk.new w5 3 #[.int .i64 0, .int .i64 998, .int .i64 999, .int .i64 1000])
        have hR5 : R < w5.heap.size := D5.out.r.lt
        clear D5 sA
        go_wp2_with fail
        refine (pick_any _ _ _ _ D6.out.r (by omega) (by omega) (by omega)).mono ?_
        rintro e w7 ⟨v, rfl, hp, hr7, hg7⟩
        have hp1 := hp.1
        have hp2 := hp.2.1 (by omega)
        have D7 := hid (D6.out.pick hr7 hg7)
        have L7 := hid (L6.out.grown hg7 (by intro e; injection e with e; omega))
        clear hp D6 L6 hr7 hg7
        have c1 := D7.out.g.cell_ (i := 1) (v := .int .i64 J) rfl
        have f1 := D7.out.g.frozen 1
        have l0 := L7.out.cell_ (i := 0) (v := .int .i64 0) rfl
        have l1 := L7.out.cell_ (i := 1) (v := .int .i64 998) rfl
        have l2 := L7.out.cell_ (i := 2) (v := .int .i64 999) rfl
        have l3 := L7.out.cell_ (i := 3) (v := .int .i64 1000) rfl
        have hv : v = 0 ∨ v = 1 ∨ v = 2 ∨ v = 3 := by omega
        clear hp1 hp2 L7
        rcases hv with rfl | rfl | rfl | rfl
        · have D8 := hid (D7.out.clk 0)
          clear D7
          go_upto_region 27 with (fail)
          clear c1 f1 l0 l1 l2 l3
          generalize w7.setCell _ _ = w8 at *
          have z0 := D8.out.z.cell_ (i := 0) (v := .int .i64 0) rfl
          have z1 := D8.out.z.cell_ (i := 1) (v := .int .i64 0) rfl
          have z2 := D8.out.z.cell_ (i := 2) (v := .slice none 0 0) rfl
          have z3 := D8.out.z.cell_ (i := 3) (v := .slice none 0 0) rfl
          have zf0 := D8.out.z.frozen 0
          have zf1 := D8.out.z.frozen 1
          have zf2 := D8.out.z.frozen 2
          have zf3 := D8.out.z.frozen 3
          have q0 := D8.out.g.cell_ (i := 0) (v := .int .i64 I) rfl
          have q1 := D8.out.g.cell_ (i := 1) (v := .int .i64 0) rfl
          have q2 := D8.out.g.cell_ (i := 2) (v := .slice A n c) rfl
          have q3 := D8.out.g.cell_ (i := 3) (v := .slice B m d) rfl
          obtain ⟨f1, f2⟩ := D8.out.fin (M := M + 120) (by omega) (by omega) (by omega) (by omega)
          have r0 := f1.out.cell_ (i := 0) (v := .int .i64 I) rfl
          have r1 := f1.out.cell_ (i := 1) (v := .int .i64 0) rfl
          have r2 := f1.out.cell_ (i := 2) (v := .slice A n c) rfl
          have r3 := f1.out.cell_ (i := 3) (v := .slice B m d) rfl
          go_wp2_with fail
          refine bodyPost_ret (v := grV I 0 A n c B m d) (by simp [results, Try.results35, go_sem, r0, r1, r2, r3]) rfl f2.out
        · have D8 := hid (D7.out.clk 998)
          clear D7
          go_upto_region 27 with (fail)
          clear c1 f1 l0 l1 l2 l3
          generalize w7.setCell _ _ = w8 at *
          have z0 := D8.out.z.cell_ (i := 0) (v := .int .i64 0) rfl
          have z1 := D8.out.z.cell_ (i := 1) (v := .int .i64 0) rfl
          have z2 := D8.out.z.cell_ (i := 2) (v := .slice none 0 0) rfl
          have z3 := D8.out.z.cell_ (i := 3) (v := .slice none 0 0) rfl
          have zf0 := D8.out.z.frozen 0
          have zf1 := D8.out.z.frozen 1
          have zf2 := D8.out.z.frozen 2
          have zf3 := D8.out.z.frozen 3
          have q0 := D8.out.g.cell_ (i := 0) (v := .int .i64 I) rfl
          have q1 := D8.out.g.cell_ (i := 1) (v := .int .i64 998) rfl
          have q2 := D8.out.g.cell_ (i := 2) (v := .slice A n c) rfl
          have q3 := D8.out.g.cell_ (i := 3) (v := .slice B m d) rfl
          obtain ⟨f1, f2⟩ := D8.out.fin (M := M + 120) (by omega) (by omega) (by omega) (by omega)
          have r0 := f1.out.cell_ (i := 0) (v := .int .i64 I) rfl
          have r1 := f1.out.cell_ (i := 1) (v := .int .i64 998) rfl
          have r2 := f1.out.cell_ (i := 2) (v := .slice A n c) rfl
          have r3 := f1.out.cell_ (i := 3) (v := .slice B m d) rfl
          go_wp2_with fail
          refine bodyPost_ret (v := grV I 998 A n c B m d) (by simp [results, Try.results35, go_sem, r0, r1, r2, r3]) rfl f2.out
        · have D8 := hid (D7.out.clk 999)
          clear D7
          go_upto_region 27 with (fail)
          clear c1 f1 l0 l1 l2 l3
          generalize w7.setCell _ _ = w8 at *
          have z0 := D8.out.z.cell_ (i := 0) (v := .int .i64 0) rfl
          have z1 := D8.out.z.cell_ (i := 1) (v := .int .i64 0) rfl
          have z2 := D8.out.z.cell_ (i := 2) (v := .slice none 0 0) rfl
          have z3 := D8.out.z.cell_ (i := 3) (v := .slice none 0 0) rfl
          have zf0 := D8.out.z.frozen 0
          have zf1 := D8.out.z.frozen 1
          have zf2 := D8.out.z.frozen 2
          have zf3 := D8.out.z.frozen 3
          have q0 := D8.out.g.cell_ (i := 0) (v := .int .i64 I) rfl
          have q1 := D8.out.g.cell_ (i := 1) (v := .int .i64 999) rfl
          have q2 := D8.out.g.cell_ (i := 2) (v := .slice A n c) rfl
          have q3 := D8.out.g.cell_ (i := 3) (v := .slice B m d) rfl
          obtain ⟨f1, f2⟩ := D8.out.fin (M := M + 120) (by omega) (by omega) (by omega) (by omega)
          have r0 := f1.out.cell_ (i := 0) (v := .int .i64 I) rfl
          have r1 := f1.out.cell_ (i := 1) (v := .int .i64 999) rfl
          have r2 := f1.out.cell_ (i := 2) (v := .slice A n c) rfl
          have r3 := f1.out.cell_ (i := 3) (v := .slice B m d) rfl
          go_wp2_with fail
          refine bodyPost_ret (v := grV I 999 A n c B m d) (by simp [results, Try.results35, go_sem, r0, r1, r2, r3]) rfl f2.out
        · have D8 := hid (D7.out.clk 1000)
          clear D7
          go_upto_region 27 with (fail)
          clear c1 f1 l0 l1 l2 l3
          generalize w7.setCell _ _ = w8 at *
          have z0 := D8.out.z.cell_ (i := 0) (v := .int .i64 0) rfl
          have z1 := D8.out.z.cell_ (i := 1) (v := .int .i64 0) rfl
          have z2 := D8.out.z.cell_ (i := 2) (v := .slice none 0 0) rfl
          have z3 := D8.out.z.cell_ (i := 3) (v := .slice none 0 0) rfl
          have zf0 := D8.out.z.frozen 0
          have zf1 := D8.out.z.frozen 1
          have zf2 := D8.out.z.frozen 2
          have zf3 := D8.out.z.frozen 3
          have q0 := D8.out.g.cell_ (i := 0) (v := .int .i64 I) rfl
          have q1 := D8.out.g.cell_ (i := 1) (v := .int .i64 1000) rfl
          have q2 := D8.out.g.cell_ (i := 2) (v := .slice A n c) rfl
          have q3 := D8.out.g.cell_ (i := 3) (v := .slice B m d) rfl
          obtain ⟨f1, f2⟩ := D8.out.fin (M := M + 120) (by omega) (by omega) (by omega) (by omega)
          have r0 := f1.out.cell_ (i := 0) (v := .int .i64 I) rfl
          have r1 := f1.out.cell_ (i := 1) (v := .int .i64 1000) rfl
          have r2 := f1.out.cell_ (i := 2) (v := .slice A n c) rfl
          have r3 := f1.out.cell_ (i := 3) (v := .slice B m d) rfl
          go_wp2_with fail
          refine bodyPost_ret (v := grV I 1000 A n c B m d) (by simp [results, Try.results35, go_sem, r0, r1, r2, r3]) rfl f2.out
end Go.Proofs.Ytkhgemgmnchodaa
