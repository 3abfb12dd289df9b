/- The reference: setting a final stamp. -/
import Derived.Test.YtkhgemgmnchodaaGr11
import Derived.Deep.DeepCutAuto
namespace Go.Proofs.Ytkhgemgmnchodaa
open Go.RowKit Go.Sort
set_option maxRecDepth 100000 in
set_option maxHeartbeats 8000000 in
theorem l11Final_any (I K : Int) (A B : Option Addr) (n c m d : Nat) (ps ds : List Ent) (x st sg : Int) (w : World) (h : SE w A n c ps) (h' : SE w B m d ds) (hn : n ≤ 1000) (hm : m ≤ 1000) (hnd : (msgs ps).Nodup) (hasc : ascE ps) :
    Calls Try.prog 48 #[grV I K A n c B m d, .int .i64 x, .agg #[.int .i64 st, .int .i64 sg]] w (FnEnd (finS ⟨I, K, ps, ds⟩ x (st, sg)) w) := by
  have HL := hid h.len
  have HL' := hid h'.len
  have HND := hid hnd
  have HAS := hid hasc
  have s0 := (((St.refl w).alloc (.cells (grC I K A n c B m d) 25)).alloc (.cells #[.int .i64 st, .int .i64 sg] 32)).alloc (.cells (grC 0 0 none 0 0 none 0 0) 25)
  have K0 := hid (((Blk.new w 25 (grC I K A n c B m d)).alloc (.cells #[.int .i64 st, .int .i64 sg] 32)).alloc (.cells (grC 0 0 none 0 0 none 0 0) 25))
  have T0 := hid ((blk_second w (.cells (grC I K A n c B m d) 25) 32 #[.int .i64 st, .int .i64 sg]).alloc (.cells (grC 0 0 none 0 0 none 0 0) 25))
  have L0 := hid (blk_third w (.cells (grC I K A n c B m d) 25) (.cells #[.int .i64 st, .int .i64 sg] 32) 25 (grC 0 0 none 0 0 none 0 0))
  have H0 := hid (h.st s0)
  have H0' := hid (h'.st s0)
  have S0 := hid s0
  have hcm := h.cm
  have hnc := h.nc
  unfold maxLen at hcm
  have HAD := hid (show ∀ ad, A = some ad → 0 < n → ad.block < w.heap.size from fun ad ha hn => by
    obtain ⟨ad', h1, h2, _⟩ := h.rd hn
    rw [h1] at ha
    injection ha with ha
    exact ha ▸ h2)
  have HP := hid (h.st (St.refl w))
  clear s0 h h' hnd hasc
  go_enter Try.func48, Try.ntmps48
  go_wp2_with fail
  generalize ((w.alloc (.cells _ 25)).alloc (.cells _ 32)).alloc (.cells _ 25) = w0 at *
  have k0 := K0.out.cell_ (i := 0) (v := .int .i64 I) rfl
  have k1 := K0.out.cell_ (i := 1) (v := .int .i64 K) rfl
  have k2 := K0.out.cell_ (i := 2) (v := .slice A n c) rfl
  have k3 := K0.out.cell_ (i := 3) (v := .slice B m d) rfl
  refine (l11Copy_any _ _ _ _ _ _ _ _ _ _ _ H0.out H0'.out (by omega) (by omega)).mono ?_
  rintro e w1 ⟨A1, c1, B1, d1, rfl, C, s1⟩
  replace K0 := hid (K0.out.st s1)
  replace L0 := hid (L0.out.st s1)
  replace T0 := hid (T0.out.st s1)
  have S1 := hid (S0.out.trans s1)
  have C1 := hid (C.less S0.out.le)
  have hG : w.heap.size + 1 + 1 < w1.heap.size := L0.out.lt
  have G1 := hid (Blk.new w1 25 (grC I K A1 n c1 B1 m d1))
  have s2 := (St.refl w1).alloc (.cells (grC I K A1 n c1 B1 m d1) 25)
  replace K0 := hid (K0.out.st s2)
  replace L0 := hid (L0.out.st s2)
  replace T0 := hid (T0.out.st s2)
  replace C1 := hid (C1.out.st s2)
  replace S1 := hid (S1.out.st s2)
  have F2 := hid (show FS w (w1.alloc (.cells (grC I K A1 n c1 B1 m d1) 25)) w1.heap.size I K A n c B m d st sg K A1 n c1 B1 m d1 from ⟨K0.out, T0.out, L0.out, G1.out, S1.out, hG⟩)
  have O3 := hid (OI.lit (w := w1.alloc (.cells (grC I K A1 n c1 B1 m d1) 25)) (e := 3))
  rw [World.heap_alloc_size'] at O3
  have s3 := (St.refl (w1.alloc (.cells (grC I K A1 n c1 B1 m d1) 25))).alloc (.cells #[] 3)
  replace F2 := hid (F2.out.st s3)
  replace C1 := hid (C1.out.st s3)
  clear s1 s2 s3 S0 S1 C k0 k1 k2 k3 K0 L0 T0 G1 H0 H0'
  have k0 := F2.out.k.cell_ (i := 0) (v := .int .i64 I) rfl
  have k1 := F2.out.k.cell_ (i := 1) (v := .int .i64 K) rfl
  have k2 := F2.out.k.cell_ (i := 2) (v := .slice A n c) rfl
  have k3 := F2.out.k.cell_ (i := 3) (v := .slice B m d) rfl
  go_wp2_with fail
  generalize (w1.alloc (.cells _ 25)).alloc (.cells _ 3) = w3 at *
  generalize w1.heap.size = G at *
  have HP3 := hid (HP.out.st F2.out.s)
  refine (l11Find_any _ _ _ _ _ _ HP3.out).mono ?_
  rintro e w4 ⟨rfl, s4⟩
  replace F2 := hid (F2.out.st s4)
  replace C1 := hid (C1.out.st s4)
  replace O3 := hid (O3.out.st s4)
  replace HP3 := hid (HP3.out.st s4)
  replace k0 := s4.cell k0
  replace k1 := s4.cell k1
  replace k2 := s4.cell k2
  replace k3 := s4.cell k3
  clear s4
  rcases idx_cases ps x with ⟨h1, h2, _⟩ | ⟨j, e, hj, he, hem, h1, h2⟩
  · rw [h1]
    have HR := hid (finS_none (g := ⟨I, K, ps, ds⟩) (s := (st, sg)) h2)
    clear h1 h2
    go_wp2_with fail
    go_quiet (fail)
    have sx := (Dr.st ⟨nq, rfl⟩ : St (w4) (World.drewN (w4) nq))
    generalize World.drewN (w4) nq = wx at sx ⊢
    clear nq
    replace F2 := hid (F2.out.st sx)
    replace C1 := hid (C1.out.st sx)
    replace O3 := hid (O3.out.st sx)
    clear sx k0 k1 k2 k3
    have g0 := F2.out.g.cell_ (i := 0) (v := .int .i64 I) rfl
    have g1 := F2.out.g.cell_ (i := 1) (v := .int .i64 K) rfl
    have g2 := F2.out.g.cell_ (i := 2) (v := .slice A1 n c1) rfl
    have g3 := F2.out.g.cell_ (i := 3) (v := .slice B1 m d1) rfl
    have l0 := F2.out.l.cell_ (i := 0) (v := .int .i64 0) rfl
    have l1 := F2.out.l.cell_ (i := 1) (v := .int .i64 0) rfl
    have l2 := F2.out.l.cell_ (i := 2) (v := .slice none 0 0) rfl
    have l3 := F2.out.l.cell_ (i := 3) (v := .slice none 0 0) rfl
    have lf0 := F2.out.l.frozen 0
    have lf1 := F2.out.l.frozen 1
    have lf2 := F2.out.l.frozen 2
    have lf3 := F2.out.l.frozen 3
    obtain ⟨f1, HQ⟩ := fn_fin HR.out F2.out.l C1.out O3.out F2.out.s (by omega)
    have r0 := f1.out.cell_ (i := 0) (v := .int .i64 I) rfl
    have r1 := f1.out.cell_ (i := 1) (v := .int .i64 K) rfl
    have r2 := f1.out.cell_ (i := 2) (v := .slice A1 n c1) rfl
    have r3 := f1.out.cell_ (i := 3) (v := .slice B1 m d1) rfl
    go_wp2_with fail
    refine bodyPost_ret (v := .tuple #[grV I K A1 n c1 B1 m d1, .slice (some ⟨G + 1, 0, none⟩) 0 0, .bool false]) (by simp [results, Try.results48, go_sem, r0, r1, r2, r3]) rfl HQ.out
  · rw [h1]
    rw [HL.out] at hj
    obtain ⟨ad, m1, t1, g1', f1', rfl, hb1, hx, c0, c1', c2, c3⟩ := HP3.out.at_ hj
    have hee : e = (m1, (t1, g1'), f1') := by have := hx.out; rw [he] at this; injection this
    subst hee
    have hxm : m1 = x := hem
    subst hxm
    have hadb := HAD.out ad rfl (by omega)
    have HFO := hid (finOk_of (g := ⟨I, K, ps, ds⟩) (s := (st, sg)) h2)
    have HX := hid he
    have hji : (0 : Int) ≤ (j : Int) := by omega
    have hji2 : (j : Int) < (n : Int) := by omega
    have hji3 : ¬ (j : Int) < 0 := by omega
    have hjb : decide ((j : Int) < 0) = false := decide_eq_false hji3
    clear h1 h2 he hem hx
    cases f1'
    rotate_left
    · have HR := hid (finS_no (HFO.out.trans (by rfl : _ = false)))
      go_wp2_with fail
      go_quiet (fail)
      have sx := (Dr.st ⟨nq, rfl⟩ : St (w4) (World.drewN (w4) nq))
      generalize World.drewN (w4) nq = wx at sx ⊢
      clear nq
      replace F2 := hid (F2.out.st sx)
      replace C1 := hid (C1.out.st sx)
      replace O3 := hid (O3.out.st sx)
      clear sx k0 k1 k2 k3
      have g0 := F2.out.g.cell_ (i := 0) (v := .int .i64 I) rfl
      have g1 := F2.out.g.cell_ (i := 1) (v := .int .i64 K) rfl
      have g2 := F2.out.g.cell_ (i := 2) (v := .slice A1 n c1) rfl
      have g3 := F2.out.g.cell_ (i := 3) (v := .slice B1 m d1) rfl
      have l0 := F2.out.l.cell_ (i := 0) (v := .int .i64 0) rfl
      have l1 := F2.out.l.cell_ (i := 1) (v := .int .i64 0) rfl
      have l2 := F2.out.l.cell_ (i := 2) (v := .slice none 0 0) rfl
      have l3 := F2.out.l.cell_ (i := 3) (v := .slice none 0 0) rfl
      have lf0 := F2.out.l.frozen 0
      have lf1 := F2.out.l.frozen 1
      have lf2 := F2.out.l.frozen 2
      have lf3 := F2.out.l.frozen 3
      obtain ⟨f1, HQ⟩ := fn_fin HR.out F2.out.l C1.out O3.out F2.out.s (by omega)
      have r0 := f1.out.cell_ (i := 0) (v := .int .i64 I) rfl
      have r1 := f1.out.cell_ (i := 1) (v := .int .i64 K) rfl
      have r2 := f1.out.cell_ (i := 2) (v := .slice A1 n c1) rfl
      have r3 := f1.out.cell_ (i := 3) (v := .slice B1 m d1) rfl
      go_wp2_with fail
      refine bodyPost_ret (v := .tuple #[grV I K A1 n c1 B1 m d1, .slice (some ⟨G + 1, 0, none⟩) 0 0, .bool false]) (by simp [results, Try.results48, go_sem, r0, r1, r2, r3]) rfl HQ.out
    have HFO2 := hid (HFO.out.trans (by rfl : _ = (!ltS (st, sg) (t1, g1') && !(restE ps m1).any (fun y => y.2.1 == (st, sg)))))
    have t0 := F2.out.t.cell_ (i := 0) (v := .int .i64 st) rfl
    have t1_ := F2.out.t.cell_ (i := 1) (v := .int .i64 sg) rfl
    go_wp2_with fail
    refine wp_region_held_drew (S := (fun w' => w'.cell? ⟨w.heap.size, 2, none⟩ = some (.slice (some ad) n c) ∧ w'.cell? ⟨w.heap.size + 1, 0, none⟩ = some (.int .i64 st) ∧ w'.cell? ⟨w.heap.size + 1, 1, none⟩ = some (.int .i64 sg) ∧ w'.cell? ⟨(ad.add (j * 4)).block, (ad.add (j * 4)).off + 1, none⟩ = some (.int .i64 t1) ∧ w'.cell? ⟨(ad.add (j * 4)).block, (ad.add (j * 4)).off + 1 + 1, none⟩ = some (.int .i64 g1') ∧ w'.cell? ⟨(ad.add (j * 4)).block, (ad.add (j * 4)).off + 3, none⟩ = some (.bool false))) (by kernel_rfl) ?_ (fun hH0 => ?_)
    · exact ⟨k2, t0, t1_, c1', c2, c3⟩
    refine wpAnyH_take (i := 0) (oi := ⟨some 21, _, _, _, _, _⟩) (v := ?_) rfl (by kernel_rfl) (by kernel_rfl) (by kernel_rfl) (fun _ _ _ h => h) (Or.inl ⟨by rfl, ?_⟩) (by assumption) ?_
    rotate_left
    · (intro w hSw; (try dsimp only at hSw); go_simp; (try with_reducible rfl))
    (try simp only [Act.put, List.setIfInBounds_toArray, List.set_cons_zero, List.set_cons_succ])
    refine wpAnyH_take (i := 1) (oi := ⟨some 22, _, _, _, _, _⟩) (v := ?_) rfl (by kernel_rfl) (by kernel_rfl) (by kernel_rfl) (fun _ _ _ h => h) (Or.inl ⟨by rfl, ?_⟩) (by assumption) ?_
    rotate_left
    · (intro w hSw; (try dsimp only at hSw); go_simp; (try with_reducible rfl))
    (try simp only [Act.put, List.setIfInBounds_toArray, List.set_cons_zero, List.set_cons_succ])
    refine wpAnyH_take (i := 2) (oi := ⟨some 23, _, _, _, _, _⟩) (v := ?_) rfl (by kernel_rfl) (by kernel_rfl) (by kernel_rfl) (fun _ _ _ h => h) (Or.inl ⟨by rfl, ?_⟩) (by assumption) ?_
    rotate_left
    · (intro w hSw; (try dsimp only at hSw); go_simp; (try with_reducible rfl))
    (try simp only [Act.put, List.setIfInBounds_toArray, List.set_cons_zero, List.set_cons_succ])
    refine wpAnyH_take (i := 3) (oi := ⟨some 24, _, _, _, _, _⟩) (v := ?_) rfl (by kernel_rfl) (by kernel_rfl) (by kernel_rfl) (fun _ _ _ h => h) (Or.inl ⟨by rfl, ?_⟩) (by assumption) ?_
    rotate_left
    · (intro w hSw; (try dsimp only at hSw); go_simp; (try with_reducible rfl))
    (try simp only [Act.put, List.setIfInBounds_toArray, List.set_cons_zero, List.set_cons_succ])
    refine wpAnyH_take (i := 4) (oi := ⟨some 25, _, _, _, _, _⟩) (v := ?_) rfl (by kernel_rfl) (by kernel_rfl) (by kernel_rfl) (fun _ _ _ h => h) (Or.inl ⟨by rfl, ?_⟩) (by assumption) ?_
    rotate_left
    · (intro w hSw; (try dsimp only at hSw); go_simp; (try with_reducible rfl))
    (try simp only [Act.put, List.setIfInBounds_toArray, List.set_cons_zero, List.set_cons_succ])
    refine wpAnyH_take (i := 5) (oi := ⟨some 26, _, _, _, _, _⟩) (v := ?_) rfl (by kernel_rfl) (by kernel_rfl) (by kernel_rfl) (fun _ _ _ h => h) (Or.inl ⟨by rfl, ?_⟩) (by assumption) ?_
    rotate_left
    · (intro w hSw; (try dsimp only at hSw); go_simp; (try with_reducible rfl))
    (try simp only [Act.put, List.setIfInBounds_toArray, List.set_cons_zero, List.set_cons_succ])
    refine wpAnyH_take (i := 6) (oi := ⟨some 27, _, _, _, _, _⟩) (v := ?_) rfl (by kernel_rfl) (by kernel_rfl) (by kernel_rfl) (fun _ _ _ h => h) (Or.inl ⟨by rfl, ?_⟩) (by assumption) ?_
    rotate_left
    · (intro w hSw; (try dsimp only at hSw); go_simp; (try with_reducible rfl))
    (try simp only [Act.put, List.setIfInBounds_toArray, List.set_cons_zero, List.set_cons_succ])
    refine wpAnyH_take (i := 7) (oi := ⟨some 28, _, _, _, _, _⟩) (v := ?_) rfl (by kernel_rfl) (by kernel_rfl) (by kernel_rfl) (fun _ _ _ h => h) (Or.inl ⟨by rfl, ?_⟩) (by assumption) ?_
    rotate_left
    · (intro w hSw; (try dsimp only at hSw); go_simp; (try with_reducible rfl))
    (try simp only [Act.put, List.setIfInBounds_toArray, List.set_cons_zero, List.set_cons_succ])
    refine wpAnyH_take (i := 8) (oi := ⟨some 29, _, _, _, _, _⟩) (v := ?_) rfl (by kernel_rfl) (by kernel_rfl) (by kernel_rfl) (fun _ _ _ h => h) (Or.inl ⟨by rfl, ?_⟩) (by assumption) ?_
    rotate_left
    · (intro w hSw; (try dsimp only at hSw); go_simp; (try with_reducible rfl))
    (try simp only [Act.put, List.setIfInBounds_toArray, List.set_cons_zero, List.set_cons_succ])
    refine wpAnyH_take (i := 9) (oi := ⟨some 30, _, _, _, _, _⟩) (v := ?_) rfl (by kernel_rfl) (by kernel_rfl) (by kernel_rfl) (fun _ _ _ h => h) (Or.inl ⟨by rfl, ?_⟩) (by assumption) ?_
    rotate_left
    · (intro w hSw; (try dsimp only at hSw); go_simp; (try with_reducible rfl))
    (try simp only [Act.put, List.setIfInBounds_toArray, List.set_cons_zero, List.set_cons_succ])
    refine wpAnyH_take (i := 10) (oi := ⟨some 31, _, _, _, _, _⟩) (v := ?_) rfl (by kernel_rfl) (by kernel_rfl) (by kernel_rfl) (fun _ _ _ h => h) (Or.inl ⟨by rfl, ?_⟩) (by assumption) ?_
    rotate_left
    · (intro w hSw; (try dsimp only at hSw); go_simp; (try with_reducible rfl))
    (try simp only [Act.put, List.setIfInBounds_toArray, List.set_cons_zero, List.set_cons_succ])
    refine wpAnyH_take (i := 11) (oi := ⟨some 32, _, _, _, _, _⟩) (v := ?_) rfl (by kernel_rfl) (by kernel_rfl) (by kernel_rfl) (fun _ _ _ h => h) (Or.inl ⟨by rfl, ?_⟩) (by assumption) ?_
    rotate_left
    · (intro w hSw; (try dsimp only at hSw); go_simp; (try with_reducible rfl))
    (try simp only [Act.put, List.setIfInBounds_toArray, List.set_cons_zero, List.set_cons_succ])
    refine wpAnyH_take (i := 12) (oi := ⟨some 33, _, _, _, _, _⟩) (v := ?_) rfl (by kernel_rfl) (by kernel_rfl) (by kernel_rfl) (fun _ _ _ h => h) (Or.inl ⟨by rfl, ?_⟩) (by assumption) ?_
    rotate_left
    · (intro w hSw; (try dsimp only at hSw); go_simp; (try with_reducible rfl))
    (try simp only [Act.put, List.setIfInBounds_toArray, List.set_cons_zero, List.set_cons_succ])
    refine wpAnyH_take (i := 13) (oi := ⟨some 34, _, _, _, _, _⟩) (v := ?_) rfl (by kernel_rfl) (by kernel_rfl) (by kernel_rfl) (fun _ _ _ h => h) (Or.inl ⟨by rfl, ?_⟩) (by assumption) ?_
    rotate_left
    · (intro w hSw; (try dsimp only at hSw); go_simp; (try with_reducible rfl))
    (try simp only [Act.put, List.setIfInBounds_toArray, List.set_cons_zero, List.set_cons_succ])
    refine wpAnyH_take (i := 14) (oi := ⟨some 35, _, _, _, _, _⟩) (v := ?_) rfl (by kernel_rfl) (by kernel_rfl) (by kernel_rfl) (fun _ _ _ h => h) (Or.inl ⟨by rfl, ?_⟩) (by assumption) ?_
    rotate_left
    · (intro w hSw; (try dsimp only at hSw); go_simp; (try with_reducible rfl))
    (try simp only [Act.put, List.setIfInBounds_toArray, List.set_cons_zero, List.set_cons_succ])
    refine wpAnyH_take (i := 15) (oi := ⟨some 36, _, _, _, _, _⟩) (v := ?_) rfl (by kernel_rfl) (by kernel_rfl) (by kernel_rfl) (fun _ _ _ h => h) (Or.inl ⟨by rfl, ?_⟩) (by assumption) ?_
    rotate_left
    · (intro w hSw; (try dsimp only at hSw); go_simp; (try with_reducible rfl))
    (try simp only [Act.put, List.setIfInBounds_toArray, List.set_cons_zero, List.set_cons_succ])
    refine wpAnyH_take (i := 16) (oi := ⟨some 37, _, _, _, _, _⟩) (v := ?_) rfl (by kernel_rfl) (by kernel_rfl) (by kernel_rfl) (fun _ _ _ h => h) (Or.inl ⟨by rfl, ?_⟩) (by assumption) ?_
    rotate_left
    · (intro w hSw; (try dsimp only at hSw); go_simp; (try with_reducible rfl))
    (try simp only [Act.put, List.setIfInBounds_toArray, List.set_cons_zero, List.set_cons_succ])
    refine wpAnyH_take (i := 17) (oi := ⟨some 38, _, _, _, _, _⟩) (v := ?_) rfl (by kernel_rfl) (by kernel_rfl) (by kernel_rfl) (fun _ _ _ h => h) (Or.inl ⟨by rfl, ?_⟩) (by assumption) ?_
    rotate_left
    · (intro w hSw; (try dsimp only at hSw); go_simp; (try with_reducible rfl))
    (try simp only [Act.put, List.setIfInBounds_toArray, List.set_cons_zero, List.set_cons_succ])
    refine wpAnyH_ready (rs := [18]) (by kernel_rfl) (by simp) ?_
    refine AllReadyH.cons (o := ⟨some 39, _, _, _, _, _⟩) rfl (fun K hK => ?_) AllReadyH.nil
    go_simp
    (go_at_call 57; refine (l2Less_any _ _ _ _ _).mono ?_; rintro e w9 ⟨rfl, s9⟩; have U9 := (Dr.st ⟨1, rfl⟩ : St w4 (w4.drewN 1)).trans s9)
    (first | (refine hK.out _ _ ?_ (fun hH1 => ?_)) | (go_wp2_with fail; refine hK.out _ _ ?_ (fun hH1 => ?_)))
    · exact ⟨U9.cell k2, U9.cell t0, U9.cell t1_, U9.cell c1', U9.cell c2, U9.cell c3⟩
    clear hK K hH0
    (try simp only [Act.put, List.setIfInBounds_toArray, List.set_cons_zero, List.set_cons_succ])
    refine wpAnyH_take (i := 19) (oi := ⟨some 40, _, _, _, _, _⟩) (v := ?_) rfl (by kernel_rfl) (by kernel_rfl) (by kernel_rfl) (fun _ _ _ h => h) (Or.inl ⟨by rfl, ?_⟩) (by assumption) ?_
    rotate_left
    · (intro w hSw; (try dsimp only at hSw); go_simp; (try with_reducible rfl))
    (try simp only [Act.put, List.setIfInBounds_toArray, List.set_cons_zero, List.set_cons_succ])
    refine wpAnyH_done (by kernel_rfl) ?_ _
    clear hH1
    replace F2 := hid (F2.out.st U9)
    replace C1 := hid (C1.out.st U9)
    replace O3 := hid (O3.out.st U9)
    replace HP3 := hid (HP3.out.st U9)
    replace k0 := U9.cell k0
    replace k1 := U9.cell k1
    replace k2 := U9.cell k2
    replace k3 := U9.cell k3
    clear U9 s9 t0 t1_ c0 c1' c2 c3
    cases hl : ltS (st, sg) (t1, g1')
    rotate_left
    · have HR := hid (finS_no (HFO2.out.trans (by rw [hl]; rfl : _ = false)))
      clear k0 k1 k2 k3
      have g0 := F2.out.g.cell_ (i := 0) (v := .int .i64 I) rfl
      have g1 := F2.out.g.cell_ (i := 1) (v := .int .i64 K) rfl
      have g2 := F2.out.g.cell_ (i := 2) (v := .slice A1 n c1) rfl
      have g3 := F2.out.g.cell_ (i := 3) (v := .slice B1 m d1) rfl
      have l0 := F2.out.l.cell_ (i := 0) (v := .int .i64 0) rfl
      have l1 := F2.out.l.cell_ (i := 1) (v := .int .i64 0) rfl
      have l2 := F2.out.l.cell_ (i := 2) (v := .slice none 0 0) rfl
      have l3 := F2.out.l.cell_ (i := 3) (v := .slice none 0 0) rfl
      have lf0 := F2.out.l.frozen 0
      have lf1 := F2.out.l.frozen 1
      have lf2 := F2.out.l.frozen 2
      have lf3 := F2.out.l.frozen 3
      obtain ⟨f1, HQ⟩ := fn_fin HR.out F2.out.l C1.out O3.out F2.out.s (by omega)
      have r0 := f1.out.cell_ (i := 0) (v := .int .i64 I) rfl
      have r1 := f1.out.cell_ (i := 1) (v := .int .i64 K) rfl
      have r2 := f1.out.cell_ (i := 2) (v := .slice A1 n c1) rfl
      have r3 := f1.out.cell_ (i := 3) (v := .slice B1 m d1) rfl
      go_wp2_with fail
      refine bodyPost_ret (v := .tuple #[grV I K A1 n c1 B1 m d1, .slice (some ⟨G + 1, 0, none⟩) 0 0, .bool false]) (by simp [results, Try.results48, go_sem, r0, r1, r2, r3]) rfl HQ.out
    have HFO3 := hid (HFO2.out.trans (by rw [hl]; rfl : _ = !(restE ps m1).any (fun y => y.2.1 == (st, sg))))
    clear hl HFO HFO2
    go_wp2_with fail
    obtain ⟨X2, hX2⟩ : ∃ X, X = (if c = j + 1 then some ad else (some ad).map (·.add ((j + 1) * 4))) := ⟨_, rfl⟩
    have HQ2 := hid (HP3.out.cut (k := j + 1) (by omega))
    rw [← hX2] at HQ2
    have hcut2 : ∀ W, (Instr.slice 23 (.slice (some ad) n c) (some (.int .i64 ((j : Int) + 1))) none none).run Try.prog W = .ok (.slice X2 (n - (j + 1)) (c - (j + 1))) W := fun W => by
      have := cut_ents (some ad) (n := n) (c := c) (j + 1) (by omega) (by omega) W
      rw [← hX2] at this
      rwa [show ((j + 1 : Nat) : Int) = (j : Int) + 1 by omega] at this
    clear hX2
    have hj1 : IntKind.i64.wrap ((j : Int) + 1) = (j : Int) + 1 := IntWalk.i64_in _ (by omega)
    have hjc : (j : Int) ≤ (c : Int) := by omega
    have sA : St w9 ((w9.alloc (.cells #[] 34)).drew) := ((St.refl w9).alloc _).drew
    have E1 := hid (World.ownsRow.dr (row_lit w9 34 4) (w' := (w9.alloc (.cells #[] 34)).drew) ⟨1, rfl⟩)
    have RU := ((HP3.out.st sA).upto (k := j) (by omega)).reads
    have LE1 := hid (show w9.heap.size ≤ ((w9.alloc (.cells #[] 34)).drew).heap.size from sA.le)
    have HSP := hid (rest_split HND.out HX.out)
    refine wp_region_held_drew (S := (fun w' => w'.cell? ⟨w.heap.size, 2, none⟩ = some (.slice (some ad) n c))) (by kernel_rfl) ?_ (fun hH0 => ?_)
    · exact k2
    refine wpAnyH_take (i := 1) (oi := ⟨some 44, _, _, _, _, _⟩) (v := ?_) rfl (by kernel_rfl) (by kernel_rfl) (by kernel_rfl) (fun _ _ _ h => h) (Or.inl ⟨by rfl, ?_⟩) (by assumption) ?_
    rotate_left
    · (intro w hSw; (try dsimp only at hSw); go_simp; (try with_reducible rfl))
    (try simp only [Act.put, List.setIfInBounds_toArray, List.set_cons_zero, List.set_cons_succ])
    refine wpAnyH_take (i := 2) (oi := ⟨some 45, _, _, _, _, _⟩) (v := ?_) rfl (by kernel_rfl) (by kernel_rfl) (by kernel_rfl) (fun _ _ _ h => h) (Or.inl ⟨by rfl, ?_⟩) (by assumption) ?_
    rotate_left
    · (intro w hSw; (try dsimp only at hSw); go_simp; (try with_reducible rfl))
    (try simp only [Act.put, List.setIfInBounds_toArray, List.set_cons_zero, List.set_cons_succ])
    refine wpAnyH_take (i := 3) (oi := ⟨some 46, _, _, _, _, _⟩) (v := ?_) rfl (by kernel_rfl) (by kernel_rfl) (by kernel_rfl) (fun _ _ _ h => h) (Or.inl ⟨by rfl, ?_⟩) (by assumption) ?_
    rotate_left
    · (intro w hSw; (try dsimp only at hSw); go_simp; (try with_reducible rfl))
    (try simp only [Act.put, List.setIfInBounds_toArray, List.set_cons_zero, List.set_cons_succ])
    refine wpAnyH_take (i := 4) (oi := ⟨some 47, _, _, _, _, _⟩) (v := ?_) rfl (by kernel_rfl) (by kernel_rfl) (by kernel_rfl) (fun _ _ _ h => h) (Or.inl ⟨by rfl, ?_⟩) (by assumption) ?_
    rotate_left
    · (intro w hSw; (try dsimp only at hSw); go_simp; (try with_reducible rfl))
    (try simp only [Act.put, List.setIfInBounds_toArray, List.set_cons_zero, List.set_cons_succ])
    refine wpAnyH_take (i := 6) (oi := ⟨some 49, _, _, _, _, _⟩) (v := ?_) rfl (by kernel_rfl) (by kernel_rfl) (by kernel_rfl) (fun _ _ _ h => h) (Or.inl ⟨by rfl, ?_⟩) (by assumption) ?_
    rotate_left
    · (intro w hSw; (try dsimp only at hSw); go_simp; (try with_reducible rfl))
    (try simp only [Act.put, List.setIfInBounds_toArray, List.set_cons_zero, List.set_cons_succ])
    refine wpAnyH_take (i := 7) (oi := ⟨some 50, _, _, _, _, _⟩) (v := ?_) rfl (by kernel_rfl) (by kernel_rfl) (by kernel_rfl) (fun _ _ _ h => h) (Or.inl ⟨by rfl, ?_⟩) (by assumption) ?_
    rotate_left
    · (intro w hSw; (try dsimp only at hSw); go_simp; (try with_reducible rfl))
    (try simp only [Act.put, List.setIfInBounds_toArray, List.set_cons_zero, List.set_cons_succ])
    refine wpAnyH_take (i := 8) (oi := ⟨some 51, _, _, _, _, _⟩) (v := ?_) rfl (by kernel_rfl) (by kernel_rfl) (by kernel_rfl) (fun _ _ _ h => h) (Or.inl ⟨by rfl, ?_⟩) (by assumption) ?_
    rotate_left
    · (intro w hSw; (try dsimp only at hSw); go_simp; (try with_reducible rfl))
    (try simp only [Act.put, List.setIfInBounds_toArray, List.set_cons_zero, List.set_cons_succ])
    refine wpAnyH_take (i := 9) (oi := ⟨some 52, _, _, _, _, _⟩) (v := ?_) rfl (by kernel_rfl) (by kernel_rfl) (by kernel_rfl) (fun _ _ _ h => h) (Or.inl ⟨by rfl, ?_⟩) (by assumption) ?_
    rotate_left
    · (intro w hSw; (try dsimp only at hSw); go_simp; (try with_reducible rfl))
    (try simp only [Act.put, List.setIfInBounds_toArray, List.set_cons_zero, List.set_cons_succ])
    refine wpAnyH_take (i := 10) (oi := ⟨some 53, _, _, _, _, _⟩) (v := ?_) rfl (by kernel_rfl) (by kernel_rfl) (by kernel_rfl) (fun _ _ _ h => h) (Or.inl ⟨by rfl, ?_⟩) (by assumption) ?_
    rotate_left
    · (intro w hSw; (try dsimp only at hSw); go_simp; (try with_reducible rfl))
    (try simp only [Act.put, List.setIfInBounds_toArray, List.set_cons_zero, List.set_cons_succ])
    refine wpAnyH_ready (rs := [0]) (by kernel_rfl) (by simp) ?_
    refine AllReadyH.cons (o := ⟨some 43, _, _, _, _, _⟩) rfl (fun K hK => ?_) AllReadyH.nil
    go_simp
    (first | (refine hK.out _ _ ?_ (fun hH1 => ?_)) | (go_wp2_with fail; refine hK.out _ _ ?_ (fun hH1 => ?_)))
    · exact sA.cell k2
    clear hK K hH0
    (try simp only [Act.put, List.setIfInBounds_toArray, List.set_cons_zero, List.set_cons_succ])
    refine wpAnyH_ready (rs := [5]) (by kernel_rfl) (by simp) ?_
    refine AllReadyH.cons (o := ⟨some 48, _, _, _, _, _⟩) rfl (fun K hK => ?_) AllReadyH.nil
    (refine step_append_rows _ (by rfl) (.tmp 43) (.tmp 47) 23 (by rfl) w9.heap.size 34 4 32 eZ Try.underlying23 entInfo rfl (by omega) (some ⟨w9.heap.size, 0, none⟩) 0 0 [] (by rfl) E1.out _ (some ad) j c (entCells (ps.take j)) (by rfl) RU (entCells_one _) (by omega) (by omega) LE1.out ?_; intro X1 a1 w6 ho6 hg6; simp only [Nat.zero_add, List.nil_append] at ho6 ⊢; have s6 : St w9 w6 := sA.grown hg6 (fun k hk => by simp only [blockOf, Option.map_some, Option.some.injEq] at hk; omega); have x6 := hid ((HQ2.out.st s6).reads))
    (first | (refine hK.out _ _ ?_ (fun hH2 => ?_)) | (go_wp2_with fail; refine hK.out _ _ ?_ (fun hH2 => ?_)))
    · exact s6.cell k2
    clear hK K hH1
    (try simp only [Act.put, List.setIfInBounds_toArray, List.set_cons_zero, List.set_cons_succ])
    refine wpAnyH_ready (rs := [11]) (by kernel_rfl) (by simp) ?_
    refine AllReadyH.cons (o := ⟨some 54, _, _, _, _, _⟩) rfl (fun K hK => ?_) AllReadyH.nil
    (refine step_append_rows _ (by rfl) (.tmp 48) (.tmp 53) 23 (by rfl) w9.heap.size 34 4 32 eZ Try.underlying23 entInfo rfl (by omega) X1 j a1 (entCells (ps.take j)) (by rfl) ho6 _ X2 (n - (j + 1)) (c - (j + 1)) (entCells (ps.drop (j + 1))) (by rfl) x6.out (entCells_one _) (by omega) (by omega) s6.le ?_; intro X3 a3 w7 ho7 hg7; rw [← entCells_app] at ho7; have s7 : St w9 w7 := s6.grown hg7 (fun k hk => (World.ownsRow.lt ho6 k (by rw [ownBlock_slice]; exact hk)).1))
    (first | (refine hK.out _ _ ?_ (fun hH3 => ?_)) | (go_wp2_with fail; refine hK.out _ _ ?_ (fun hH3 => ?_)))
    · exact s7.cell k2
    clear hK K hH2
    (try simp only [Act.put, List.setIfInBounds_toArray, List.set_cons_zero, List.set_cons_succ])
    refine wpAnyH_take (i := 12) (oi := ⟨some 12, _, _, _, _, _⟩) (v := ?_) rfl (by kernel_rfl) (by kernel_rfl) (by kernel_rfl) (fun _ _ _ h => h) (Or.inl ⟨by rfl, ?_⟩) (by assumption) ?_
    rotate_left
    · (intro w hSw; (try dsimp only at hSw); go_simp; (try with_reducible rfl))
    (try simp only [Act.put, List.setIfInBounds_toArray, List.set_cons_zero, List.set_cons_succ])
    refine wpAnyH_done (by kernel_rfl) ?_ _
    clear hH3
    obtain ⟨r, hr⟩ : ∃ r, j + (n - (j + 1)) = r := ⟨_, rfl⟩
    rw [hr] at ho7 ⊢
    have hrn : r + 1 = n := by omega
    have hrl : (ps.take j ++ ps.drop (j + 1)).length = r := by rw [List.length_append, List.length_take, List.length_drop, HL.out]; omega
    have RE : Hid (OE w7 w9.heap.size X3 r a3 (restE ps m1)) := by rw [HSP.out]; exact ⟨hrl, ho7⟩
    have HB7 := hid (show w.heap.size ≤ w9.heap.size from F2.out.s.le)
    replace F2 := hid (F2.out.st s7)
    replace C1 := hid (C1.out.st s7)
    replace O3 := hid (O3.out.st s7)
    replace k0 := s7.cell k0
    replace k1 := s7.cell k1
    clear s7 s6 x6 ho6 hg6 ho7 hg7 hr hrl sA E1 RU LE1 HQ2 hcut2 hj1 hjc k2 k3 HP3 HSP HX hji hji2 hji3 hjb hadb hb1
    generalize w9.heap.size = b9 at *
    have hra := RE.out.cap
    have hram : a3 ≤ 9223372036854775807 := by have := hra.2; unfold maxLen at this; omega
    have HRL := hid RE.out.1
    have HRA := hid (asc_rest (m := m1) HAS.out)
    obtain ⟨L0, hL0⟩ : ∃ L, restE ps m1 = L := ⟨_, rfl⟩
    have HL0 := hid hL0
    rw [hL0] at RE HRL HRA HFO3
    clear hL0
    go_wp2_with fail
    go_loopw [13] (fun v wr => ∃ i : Nat, i ≤ r ∧ v = .int .i64 (i : Int) ∧ Hid (∀ y ∈ L0.take i, ltS y.2.1 (st, sg) = true) ∧ Hid (St w7 wr)) (fun v _ => r - (intOf v).toNat)
    case atStart => exact ⟨0, Nat.zero_le _, rfl, hid (by simp), St.refl _⟩
    case round =>
      obtain ⟨wa, rfl⟩ : ∃ wo : World, wo = wr := ⟨_, rfl⟩
      obtain ⟨i, hi, rfl, hlow, hd⟩ := hrel
      have F := hid (F2.out.st hd.out)
      have CG := hid (C1.out.st hd.out)
      have OT := hid (O3.out.st hd.out)
      have RR := hid (RE.out.st hd.out)
      have k1 := F.out.k.cell_ (i := 1) (v := .int .i64 K) rfl
      have t0 := F.out.t.cell_ (i := 0) (v := .int .i64 st) rfl
      have t1_ := F.out.t.cell_ (i := 1) (v := .int .i64 sg) rfl
      have hi0 : (0 : Int) ≤ (i : Int) := by omega
      by_cases hlt : i < r
      · have hir : (i : Int) < (r : Int) := by omega
        have hib : decide ((i : Int) < (r : Int)) = true := decide_eq_true hir
        obtain ⟨ay, my, ty, gy, fy, rfl, hby, hy, e0, e1, e2, e3⟩ := RR.out.se.at_ hlt
        have HY := hid hy.out
        clear hy e0 e3
        go_wp2_with fail
        refine wp_region_held_drew (S := (fun w' => w'.cell? ⟨w.heap.size + 1, 0, none⟩ = some (.int .i64 st) ∧ w'.cell? ⟨w.heap.size + 1, 1, none⟩ = some (.int .i64 sg) ∧ w'.cell? ⟨(ay.add (i * 4)).block, (ay.add (i * 4)).off + 1, none⟩ = some (.int .i64 ty) ∧ w'.cell? ⟨(ay.add (i * 4)).block, (ay.add (i * 4)).off + 1 + 1, none⟩ = some (.int .i64 gy))) (by kernel_rfl) ?_ (fun hH0 => ?_)
        · exact ⟨t0, t1_, e1, e2⟩
        refine wpAnyH_take (i := 0) (oi := ⟨some 55, _, _, _, _, _⟩) (v := ?_) rfl (by kernel_rfl) (by kernel_rfl) (by kernel_rfl) (fun _ _ _ h => h) (Or.inl ⟨by rfl, ?_⟩) (by assumption) ?_
        rotate_left
        · (intro w hSw; (try dsimp only at hSw); go_simp; (try with_reducible rfl))
        (try simp only [Act.put, List.setIfInBounds_toArray, List.set_cons_zero, List.set_cons_succ])
        refine wpAnyH_take (i := 1) (oi := ⟨some 56, _, _, _, _, _⟩) (v := ?_) rfl (by kernel_rfl) (by kernel_rfl) (by kernel_rfl) (fun _ _ _ h => h) (Or.inl ⟨by rfl, ?_⟩) (by assumption) ?_
        rotate_left
        · (intro w hSw; (try dsimp only at hSw); go_simp; (try with_reducible rfl))
        (try simp only [Act.put, List.setIfInBounds_toArray, List.set_cons_zero, List.set_cons_succ])
        refine wpAnyH_take (i := 2) (oi := ⟨some 57, _, _, _, _, _⟩) (v := ?_) rfl (by kernel_rfl) (by kernel_rfl) (by kernel_rfl) (fun _ _ _ h => h) (Or.inl ⟨by rfl, ?_⟩) (by assumption) ?_
        rotate_left
        · (intro w hSw; (try dsimp only at hSw); go_simp; (try with_reducible rfl))
        (try simp only [Act.put, List.setIfInBounds_toArray, List.set_cons_zero, List.set_cons_succ])
        refine wpAnyH_take (i := 3) (oi := ⟨some 58, _, _, _, _, _⟩) (v := ?_) rfl (by kernel_rfl) (by kernel_rfl) (by kernel_rfl) (fun _ _ _ h => h) (Or.inl ⟨by rfl, ?_⟩) (by assumption) ?_
        rotate_left
        · (intro w hSw; (try dsimp only at hSw); go_simp; (try with_reducible rfl))
        (try simp only [Act.put, List.setIfInBounds_toArray, List.set_cons_zero, List.set_cons_succ])
        refine wpAnyH_take (i := 4) (oi := ⟨some 59, _, _, _, _, _⟩) (v := ?_) rfl (by kernel_rfl) (by kernel_rfl) (by kernel_rfl) (fun _ _ _ h => h) (Or.inl ⟨by rfl, ?_⟩) (by assumption) ?_
        rotate_left
        · (intro w hSw; (try dsimp only at hSw); go_simp; (try with_reducible rfl))
        (try simp only [Act.put, List.setIfInBounds_toArray, List.set_cons_zero, List.set_cons_succ])
        refine wpAnyH_take (i := 5) (oi := ⟨some 60, _, _, _, _, _⟩) (v := ?_) rfl (by kernel_rfl) (by kernel_rfl) (by kernel_rfl) (fun _ _ _ h => h) (Or.inl ⟨by rfl, ?_⟩) (by assumption) ?_
        rotate_left
        · (intro w hSw; (try dsimp only at hSw); go_simp; (try with_reducible rfl))
        (try simp only [Act.put, List.setIfInBounds_toArray, List.set_cons_zero, List.set_cons_succ])
        refine wpAnyH_take (i := 6) (oi := ⟨some 61, _, _, _, _, _⟩) (v := ?_) rfl (by kernel_rfl) (by kernel_rfl) (by kernel_rfl) (fun _ _ _ h => h) (Or.inl ⟨by rfl, ?_⟩) (by assumption) ?_
        rotate_left
        · (intro w hSw; (try dsimp only at hSw); go_simp; (try with_reducible rfl))
        (try simp only [Act.put, List.setIfInBounds_toArray, List.set_cons_zero, List.set_cons_succ])
        refine wpAnyH_take (i := 7) (oi := ⟨some 62, _, _, _, _, _⟩) (v := ?_) rfl (by kernel_rfl) (by kernel_rfl) (by kernel_rfl) (fun _ _ _ h => h) (Or.inl ⟨by rfl, ?_⟩) (by assumption) ?_
        rotate_left
        · (intro w hSw; (try dsimp only at hSw); go_simp; (try with_reducible rfl))
        (try simp only [Act.put, List.setIfInBounds_toArray, List.set_cons_zero, List.set_cons_succ])
        refine wpAnyH_take (i := 8) (oi := ⟨some 63, _, _, _, _, _⟩) (v := ?_) rfl (by kernel_rfl) (by kernel_rfl) (by kernel_rfl) (fun _ _ _ h => h) (Or.inl ⟨by rfl, ?_⟩) (by assumption) ?_
        rotate_left
        · (intro w hSw; (try dsimp only at hSw); go_simp; (try with_reducible rfl))
        (try simp only [Act.put, List.setIfInBounds_toArray, List.set_cons_zero, List.set_cons_succ])
        refine wpAnyH_take (i := 9) (oi := ⟨some 64, _, _, _, _, _⟩) (v := ?_) rfl (by kernel_rfl) (by kernel_rfl) (by kernel_rfl) (fun _ _ _ h => h) (Or.inl ⟨by rfl, ?_⟩) (by assumption) ?_
        rotate_left
        · (intro w hSw; (try dsimp only at hSw); go_simp; (try with_reducible rfl))
        (try simp only [Act.put, List.setIfInBounds_toArray, List.set_cons_zero, List.set_cons_succ])
        refine wpAnyH_take (i := 10) (oi := ⟨some 65, _, _, _, _, _⟩) (v := ?_) rfl (by kernel_rfl) (by kernel_rfl) (by kernel_rfl) (fun _ _ _ h => h) (Or.inl ⟨by rfl, ?_⟩) (by assumption) ?_
        rotate_left
        · (intro w hSw; (try dsimp only at hSw); go_simp; (try with_reducible rfl))
        (try simp only [Act.put, List.setIfInBounds_toArray, List.set_cons_zero, List.set_cons_succ])
        refine wpAnyH_ready (rs := [11]) (by kernel_rfl) (by simp) ?_
        refine AllReadyH.cons (o := ⟨some 66, _, _, _, _, _⟩) rfl (fun K hK => ?_) AllReadyH.nil
        go_simp
        (go_at_call 57; refine (l2Less_any _ _ _ _ _).mono ?_; rintro e wx ⟨rfl, s9⟩; have U9 := (Dr.st ⟨1, rfl⟩ : St wa (wa.drewN 1)).trans s9)
        (first | (refine hK.out _ _ ?_ (fun hH1 => ?_)) | (go_wp2_with fail; refine hK.out _ _ ?_ (fun hH1 => ?_)))
        · exact ⟨U9.cell t0, U9.cell t1_, U9.cell e1, U9.cell e2⟩
        clear hK K hH0
        (try simp only [Act.put, List.setIfInBounds_toArray, List.set_cons_zero, List.set_cons_succ])
        refine wpAnyH_take (i := 12) (oi := ⟨some 67, _, _, _, _, _⟩) (v := ?_) rfl (by kernel_rfl) (by kernel_rfl) (by kernel_rfl) (fun _ _ _ h => h) (Or.inl ⟨by rfl, ?_⟩) (by assumption) ?_
        rotate_left
        · (intro w hSw; (try dsimp only at hSw); go_simp; (try with_reducible rfl))
        (try simp only [Act.put, List.setIfInBounds_toArray, List.set_cons_zero, List.set_cons_succ])
        refine wpAnyH_done (by kernel_rfl) ?_ _
        clear hH1
        cases hl : ltS (ty, gy) (st, sg)
        rotate_left
        · have hlow2 : Hid (∀ y ∈ L0.take (i + 1), ltS y.2.1 (st, sg) = true) := by
            intro y hy
            rw [take_snoc HY.out, List.mem_append, List.mem_singleton] at hy
            rcases hy with hy | rfl
            · exact hlow.out y hy
            · exact hl
          have hd2 := hid (hd.out.trans U9)
          clear hl
          go_wp2_with fail
          go_roundw
          case rel => exact ⟨i + 1, by omega, by go_num, hlow2, hd2⟩
          case measure => simp [intOf]; omega
        replace F := hid (F.out.st U9)
        replace CG := hid (CG.out.st U9)
        replace OT := hid (OT.out.st U9)
        replace RR := hid (RR.out.st U9)
        replace k1 := U9.cell k1
        replace t0 := U9.cell t0
        replace t1_ := U9.cell t1_
        replace e1 := U9.cell e1
        replace e2 := U9.cell e2
        clear U9 s9
        by_cases heq : ty = st ∧ gy = sg
        · obtain ⟨rfl, rfl⟩ := heq
          have HR := hid (finS_no (g := ⟨I, K, ps, ds⟩) (HFO3.out.trans (by
            have : L0.any (fun y => y.2.1 == (ty, gy)) = true := List.any_eq_true.2 ⟨_, List.mem_of_getElem? HY.out, by simp⟩
            rw [this]; rfl : _ = false)))
          clear hl
          go_wp2_with fail
          go_quiet (fail)
          have sx := (Dr.st ⟨nq, rfl⟩ : St (wx) (World.drewN (wx) nq))
          generalize World.drewN (wx) nq = wy at sx ⊢
          clear nq
          replace F := hid (F.out.st sx)
          replace CG := hid (CG.out.st sx)
          replace OT := hid (OT.out.st sx)
          clear sx k1 t0 t1_ e1 e2
          have g0 := F.out.g.cell_ (i := 0) (v := .int .i64 I) rfl
          have g1 := F.out.g.cell_ (i := 1) (v := .int .i64 K) rfl
          have g2 := F.out.g.cell_ (i := 2) (v := .slice A1 n c1) rfl
          have g3 := F.out.g.cell_ (i := 3) (v := .slice B1 m d1) rfl
          have l0 := F.out.l.cell_ (i := 0) (v := .int .i64 0) rfl
          have l1 := F.out.l.cell_ (i := 1) (v := .int .i64 0) rfl
          have l2 := F.out.l.cell_ (i := 2) (v := .slice none 0 0) rfl
          have l3 := F.out.l.cell_ (i := 3) (v := .slice none 0 0) rfl
          have lf0 := F.out.l.frozen 0
          have lf1 := F.out.l.frozen 1
          have lf2 := F.out.l.frozen 2
          have lf3 := F.out.l.frozen 3
          obtain ⟨f1, HQ⟩ := fn_fin HR.out F.out.l CG.out OT.out F.out.s (by omega)
          have r0 := f1.out.cell_ (i := 0) (v := .int .i64 I) rfl
          have r1 := f1.out.cell_ (i := 1) (v := .int .i64 K) rfl
          have r2 := f1.out.cell_ (i := 2) (v := .slice A1 n c1) rfl
          have r3 := f1.out.cell_ (i := 3) (v := .slice B1 m d1) rfl
          go_wp2_with fail
          refine bodyPost_ret (v := .tuple #[grV I K A1 n c1 B1 m d1, .slice (some ⟨G + 1, 0, none⟩) 0 0, .bool false]) (by simp [results, Try.results48, go_sem, r0, r1, r2, r3]) rfl HQ.out
        have hfree : L0.any (fun y => y.2.1 == (st, sg)) = false := fin_free HRA.out hlow.out (fun y hy => by
          rw [HY.out] at hy; injection hy with hy; subst hy
          exact ⟨hl, fun e => heq ⟨congrArg Prod.fst e, congrArg Prod.snd e⟩⟩)
        have HINS := hid (ins_at (E := (m1, (st, sg), true)) (rest := L0) (j := i) hlow.out (fun y hy => by rw [HY.out] at hy; injection hy with hy; subst hy; exact hl))
        clear hl
        have hite : ∀ (α : Type) (a b : α), (if ty = st then (if gy = sg then a else b) else b) = b := fun α a b => by
          split
          · rename_i h1
            rw [if_neg (fun h2 => heq ⟨h1, h2⟩)]
          · rfl
        go_wp2_with fail
        go_quiet (fail)
        have sx := (Dr.st ⟨nq, rfl⟩ : St (wx) (World.drewN (wx) nq))
        generalize World.drewN (wx) nq = wy at sx ⊢
        clear nq
        replace F := hid (F.out.st sx)
        replace CG := hid (CG.out.st sx)
        replace OT := hid (OT.out.st sx)
        replace RR := hid (RR.out.st sx)
        replace k1 := sx.cell k1
        replace t0 := sx.cell t0
        replace t1_ := sx.cell t1_
        clear sx e1 e2
        have HOK := hid (show finOk ⟨I, K, ps, ds⟩ m1 (st, sg) = true from HFO3.out.trans (by rw [hfree]; rfl))
        have HFS := hid (finS_yes HOK.out)
        clear hfree
        -- the clock
        obtain ⟨Kn, hKn⟩ : ∃ z, (if K < st then st else K) = z := ⟨_, rfl⟩
        have HKN := hid (show max K st = Kn by rw [← hKn, Int.max_def]; split <;> split <;> omega)
        have g1 := F.out.g.cell_ (i := 1) (v := .int .i64 K) rfl
        have gf1 := F.out.g.frozen 1
        have hne1 : ∀ {z : Nat}, z ≤ w.heap.size + 1 + 1 → G ≠ z := fun hz => by omega
        have FA := hid (F.out.set1 Kn)
        have CA := hid (CG.out.blk F.out.g (by decide) (World.grownBy_set wy G 1 (.int .i64 Kn)))
        have OA := hid (OT.out.grown (World.grownBy_set wy G 1 (.int .i64 Kn)) (fun k hk hA => by injection hk with hk; have := (OT.out.lt k hA).1; omega))
        have RA := hid (RR.out.blk F.out.g (by decide) (World.grownBy_set wy G 1 (.int .i64 Kn)))
        have ta0 := FA.out.t.cell_ (i := 0) (v := .int .i64 st) rfl
        have ta1 := FA.out.t.cell_ (i := 1) (v := .int .i64 sg) rfl
        clear F CG OT RR hne1
        go_wp2_with fail
        clear g1 gf1 t0 t1_ k1
        (try rw [hKn])
        generalize wy.setCell ⟨G, 1, none⟩ (.int .i64 Kn) = wz at *
        clear hKn
        have hia : (i : Int) ≤ (a3 : Int) := by omega
        obtain ⟨X4, hX4⟩ : ∃ X, X = (if a3 = i then (some ay) else (some ay).map (·.add (i * 4))) := ⟨_, rfl⟩
        have HQ4 := hid (RA.out.se.cut (k := i) (by omega))
        rw [← hX4] at HQ4
        have hcut4 : ∀ W, (Instr.slice 23 (.slice (some ay) r a3) (some (.int .i64 (i : Int))) none none).run Try.prog W = .ok (.slice X4 (r - i) (a3 - i)) W := fun W => by
          have := cut_ents ((some ay)) (n := r) (c := a3) i (by omega) (by omega) W
          rwa [← hX4] at this
        clear hX4
        have HTK := hid (RA.out.se.upto (k := i) (by omega))
        have s1 : St wz ((wz.alloc (.cells #[] 34)).drew) := ((St.refl wz).alloc _).drew
        have s2 : St wz (((wz.alloc (.cells #[] 34)).alloc (.cells #[.int .i64 m1, .int .i64 st, .int .i64 sg, .bool true] 34)).drew) := (((St.refl wz).alloc _).alloc _).drew
        have s3 : St wz (((wz.alloc (.cells #[.int .i64 m1, .int .i64 st, .int .i64 sg, .bool true] 34)).alloc (.cells #[] 34)).drew) := (((St.refl wz).alloc _).alloc _).drew
        have s4 : St wz ((wz.alloc (.cells #[.int .i64 m1, .int .i64 st, .int .i64 sg, .bool true] 34)).drew) := ((St.refl wz).alloc _).drew
        have E1 := hid (World.ownsRow.dr (row_lit wz 34 4) (w' := (wz.alloc (.cells #[] 34)).drew) ⟨1, rfl⟩)
        have E2 := hid (World.ownsRow.dr (World.ownsRow.alloc (row_lit wz 34 4) (.cells #[.int .i64 m1, .int .i64 st, .int .i64 sg, .bool true] 34)) (w' := ((wz.alloc (.cells #[] 34)).alloc (.cells #[.int .i64 m1, .int .i64 st, .int .i64 sg, .bool true] 34)).drew) ⟨1, rfl⟩)
        have E3 : Hid ((((wz.alloc (.cells #[.int .i64 m1, .int .i64 st, .int .i64 sg, .bool true] 34)).alloc (.cells #[] 34)).drew).ownsRow wz.heap.size 34 4 (.slice (some ⟨wz.heap.size + 1, 0, none⟩) 0 0) 0 []) := by
          have := row_lit (wz.alloc (.cells #[.int .i64 m1, .int .i64 st, .int .i64 sg, .bool true] 34)) 34 4
          rw [World.heap_alloc_size'] at this
          exact World.ownsRow.dr (OI_less_row this (by omega)) ⟨1, rfl⟩
        have N2 := hid ((blk_second wz (.cells #[] 34) 34 #[.int .i64 m1, .int .i64 st, .int .i64 sg, .bool true]).dr (w' := ((wz.alloc (.cells #[] 34)).alloc (.cells #[.int .i64 m1, .int .i64 st, .int .i64 sg, .bool true] 34)).drew) ⟨1, rfl⟩)
        have N3 := hid (((Blk.new wz 34 #[.int .i64 m1, .int .i64 st, .int .i64 sg, .bool true]).alloc (.cells #[] 34)).dr (w' := ((wz.alloc (.cells #[.int .i64 m1, .int .i64 st, .int .i64 sg, .bool true] 34)).alloc (.cells #[] 34)).drew) ⟨1, rfl⟩)
        have R1 := (HTK.out.st s1).reads
        have R2 := (HTK.out.st s2).reads
        have R3 := (HTK.out.st s3).reads
        have ga2 := FA.out.g.cell_ (i := 2) (v := .slice A1 n c1) rfl
        have hTG : w.heap.size + 1 ≠ G := by omega
        have hB1 : ∀ k, blockOf (some (⟨wz.heap.size, 0, none⟩ : Addr)) = some k → wz.heap.size ≤ k := fun k hk => by simp only [blockOf, Option.map_some, Option.some.injEq] at hk; omega
        have hB3 : ∀ k, blockOf (some (⟨wz.heap.size + 1, 0, none⟩ : Addr)) = some k → wz.heap.size ≤ k := fun k hk => by simp only [blockOf, Option.map_some, Option.some.injEq] at hk; omega
        have hN2 : some (wz.heap.size + 1) ≠ blockOf (some (⟨wz.heap.size, 0, none⟩ : Addr)) := by simp [blockOf]
        have hN3 : some wz.heap.size ≠ blockOf (some (⟨wz.heap.size + 1, 0, none⟩ : Addr)) := by simp [blockOf]
        go_cut [] (fun wx => ∃ (X7 : Option Addr) (N a7 : Nat), N = r + 1 ∧ Hid (FS w wx G I K (some ad) n c B m d st sg Kn X7 N a7 B1 m d1) ∧ Hid (OE wx wz.heap.size X7 N a7 (insE (m1, (st, sg), true) L0)) ∧ Hid (OE wx w.heap.size B1 m d1 ds) ∧ Hid (OI wx (G + 1) 3 (some ⟨G + 1, 0, none⟩) 0 0 []) ∧ Hid (∀ g, blockOf X7 = some g → blockOf B1 ≠ some g))
        case first =>
          refine wp_region_held_drew (S := (fun w' => w'.cell? ⟨w.heap.size + 1, 0, none⟩ = some (.int .i64 st) ∧ w'.cell? ⟨w.heap.size + 1, 1, none⟩ = some (.int .i64 sg))) (by kernel_rfl) ?_ (fun hH0 => ?_)
          · exact ⟨ta0, ta1⟩
          refine wpAnyH_take (i := 1) (oi := ⟨some 92, _, _, _, _, _⟩) (v := ?_) rfl (by kernel_rfl) (by kernel_rfl) (by kernel_rfl) (fun _ _ _ h => h) (Or.inl ⟨by rfl, ?_⟩) (by assumption) ?_
          rotate_left
          · (intro w hSw; (try dsimp only at hSw); go_simp; (try with_reducible rfl))
          (try simp only [Act.put, List.setIfInBounds_toArray, List.set_cons_zero, List.set_cons_succ])
          refine wpAnyH_take (i := 2) (oi := ⟨some 93, _, _, _, _, _⟩) (v := ?_) rfl (by kernel_rfl) (by kernel_rfl) (by kernel_rfl) (fun _ _ _ h => h) (Or.inl ⟨by rfl, ?_⟩) (by assumption) ?_
          rotate_left
          · (intro w hSw; (try dsimp only at hSw); go_simp; (try with_reducible rfl))
          (try simp only [Act.put, List.setIfInBounds_toArray, List.set_cons_zero, List.set_cons_succ])
          refine wpAnyH_take (i := 3) (oi := ⟨some 94, _, _, _, _, _⟩) (v := ?_) rfl (by kernel_rfl) (by kernel_rfl) (by kernel_rfl) (fun _ _ _ h => h) (Or.inl ⟨by rfl, ?_⟩) (by assumption) ?_
          rotate_left
          · (intro w hSw; (try dsimp only at hSw); go_simp; (try with_reducible rfl))
          (try simp only [Act.put, List.setIfInBounds_toArray, List.set_cons_zero, List.set_cons_succ])
          refine wpAnyH_take (i := 5) (oi := ⟨some 96, _, _, _, _, _⟩) (v := ?_) rfl (by kernel_rfl) (by kernel_rfl) (by kernel_rfl) (fun _ _ _ h => h) (Or.inl ⟨by rfl, ?_⟩) (by assumption) ?_
          rotate_left
          · (intro w hSw; (try dsimp only at hSw); go_simp; (try with_reducible rfl))
          (try simp only [Act.put, List.setIfInBounds_toArray, List.set_cons_zero, List.set_cons_succ])
          refine wpAnyH_take (i := 6) (oi := ⟨some 97, _, _, _, _, _⟩) (v := ?_) rfl (by kernel_rfl) (by kernel_rfl) (by kernel_rfl) (fun _ _ _ h => h) (Or.inl ⟨by rfl, ?_⟩) (by assumption) ?_
          rotate_left
          · (intro w hSw; (try dsimp only at hSw); go_simp; (try with_reducible rfl))
          (try simp only [Act.put, List.setIfInBounds_toArray, List.set_cons_zero, List.set_cons_succ])
          refine wpAnyH_take (i := 7) (oi := ⟨some 98, _, _, _, _, _⟩) (v := ?_) rfl (by kernel_rfl) (by kernel_rfl) (by kernel_rfl) (fun _ _ _ h => h) (Or.inl ⟨by rfl, ?_⟩) (by assumption) ?_
          rotate_left
          · (intro w hSw; (try dsimp only at hSw); go_simp; (try with_reducible rfl))
          (try simp only [Act.put, List.setIfInBounds_toArray, List.set_cons_zero, List.set_cons_succ])
          refine wpAnyH_take (i := 10) (oi := ⟨some 101, _, _, _, _, _⟩) (v := ?_) rfl (by kernel_rfl) (by kernel_rfl) (by kernel_rfl) (fun _ _ _ h => h) (Or.inl ⟨by rfl, ?_⟩) (by assumption) ?_
          rotate_left
          · (intro w hSw; (try dsimp only at hSw); go_simp; (try with_reducible rfl))
          (try simp only [Act.put, List.setIfInBounds_toArray, List.set_cons_zero, List.set_cons_succ])
          refine wpAnyH_take (i := 11) (oi := ⟨some 102, _, _, _, _, _⟩) (v := ?_) rfl (by kernel_rfl) (by kernel_rfl) (by kernel_rfl) (fun _ _ _ h => h) (Or.inl ⟨by rfl, ?_⟩) (by assumption) ?_
          rotate_left
          · (intro w hSw; (try dsimp only at hSw); go_simp; (try with_reducible rfl))
          (try simp only [Act.put, List.setIfInBounds_toArray, List.set_cons_zero, List.set_cons_succ])
          refine wpAnyH_take (i := 12) (oi := ⟨some 103, _, _, _, _, _⟩) (v := ?_) rfl (by kernel_rfl) (by kernel_rfl) (by kernel_rfl) (fun _ _ _ h => h) (Or.inl ⟨by rfl, ?_⟩) (by assumption) ?_
          rotate_left
          · (intro w hSw; (try dsimp only at hSw); go_simp; (try with_reducible rfl))
          (try simp only [Act.put, List.setIfInBounds_toArray, List.set_cons_zero, List.set_cons_succ])
          refine wpAnyH_ready (rs := [0, 8]) (by kernel_rfl) (by simp) ?_
          refine AllReadyH.cons (o := ⟨some 91, _, _, _, _, _⟩) rfl (fun K hK => ?_) ?_
          · skip
            go_simp
            (first | (refine hK.out _ _ ?_ (fun hH1 => ?_)) | (go_wp2_with fail; refine hK.out _ _ ?_ (fun hH1 => ?_)))
            · first | with_reducible exact ⟨s1.cell ta0, s1.cell ta1⟩ | with_reducible exact ⟨s3.cell ta0, s3.cell ta1⟩
            clear hK K hH0
            (try simp only [Act.put, List.setIfInBounds_toArray, List.set_cons_zero, List.set_cons_succ])
            refine wpAnyH_ready (rs := [4, 8]) (by kernel_rfl) (by simp) ?_
            refine AllReadyH.cons (o := ⟨some 95, _, _, _, _, _⟩) rfl (fun K hK => ?_) ?_
            · skip
              (first | (refine step_append_rows ((wz.alloc (.cells #[] 34)).drew) (by rfl) (.tmp 91) (.tmp 94) 23 (by rfl) wz.heap.size 34 4 32 eZ Try.underlying23 entInfo rfl (by omega) (some ⟨wz.heap.size, 0, none⟩) 0 0 [] (by rfl) E1.out _ (some ay) i a3 (entCells (L0.take i)) (by rfl) R1 (entCells_one _) (by omega) (by omega) s1.le ?_; intro X5 a5 w6 ho6 hg6; simp only [Nat.zero_add, List.nil_append] at ho6 ⊢; have s6 : St wz w6 := s1.grown hg6 hB1; have s6e := s6.alloc (.cells #[.int .i64 m1, .int .i64 st, .int .i64 sg, .bool true] 34); have one6 := hid trivial) | (refine step_append_rows (((wz.alloc (.cells #[.int .i64 m1, .int .i64 st, .int .i64 sg, .bool true] 34)).alloc (.cells #[] 34)).drew) (by rfl) (.tmp 91) (.tmp 94) 23 (by rfl) wz.heap.size 34 4 32 eZ Try.underlying23 entInfo rfl (by omega) (some ⟨wz.heap.size + 1, 0, none⟩) 0 0 [] (by rfl) E3.out _ (some ay) i a3 (entCells (L0.take i)) (by rfl) R3 (entCells_one _) (by omega) (by omega) s3.le ?_; intro X5 a5 w6 ho6 hg6; simp only [Nat.zero_add, List.nil_append] at ho6 ⊢; have s6 : St wz w6 := s3.grown hg6 hB3; have one6 := hid (N3.out.grown hg6 hN3)))
              (first | (refine hK.out _ _ ?_ (fun hH2 => ?_)) | (go_wp2_with fail; refine hK.out _ _ ?_ (fun hH2 => ?_)))
              · exact ⟨s6.cell ta0, s6.cell ta1⟩
              clear hK K hH1
              (try simp only [Act.put, List.setIfInBounds_toArray, List.set_cons_zero, List.set_cons_succ])
              refine wpAnyH_ready (rs := [8]) (by kernel_rfl) (by simp) ?_
              refine AllReadyH.cons (o := ⟨some 99, _, _, _, _, _⟩) rfl (fun K hK => ?_) AllReadyH.nil
              go_simp
              (first | (refine hK.out _ _ ?_ (fun hH3 => ?_)) | (go_wp2_with fail; refine hK.out _ _ ?_ (fun hH3 => ?_)))
              · first | with_reducible exact ⟨s4.cell ta0, s4.cell ta1⟩ | with_reducible exact ⟨s2.cell ta0, s2.cell ta1⟩ | with_reducible exact ⟨s6e.cell ta0, s6e.cell ta1⟩
              clear hK K hH2
              (try simp only [Act.put, List.setIfInBounds_toArray, List.set_cons_zero, List.set_cons_succ])
              refine wpAnyH_ready (rs := [9]) (by kernel_rfl) (by simp) ?_
              refine AllReadyH.cons (o := ⟨some 100, _, _, _, _, _⟩) rfl (fun K hK => ?_) AllReadyH.nil
              (refine step_append_rows (w6.alloc (.cells #[.int .i64 m1, .int .i64 st, .int .i64 sg, .bool true] 34)) (by rfl) (.tmp 95) (.tmp 99) 23 (by rfl) wz.heap.size 34 4 32 eZ Try.underlying23 entInfo rfl (by omega) X5 i a5 (entCells (L0.take i)) (by rfl) (World.ownsRow.alloc ho6 (.cells #[.int .i64 m1, .int .i64 st, .int .i64 sg, .bool true] 34)) _ (some ⟨w6.heap.size, 0, none⟩) 1 1 (entCells [(m1, (st, sg), true)]) (by rfl) (Reads.one w6 34 #[.int .i64 m1, .int .i64 st, .int .i64 sg, .bool true] 4 rfl) (entCells_one _) (by omega) (by omega) s6e.le ?_; intro X6 a6 w7' ho7 hg7; rw [← entCells_app] at ho7; have s7 : St wz w7' := s6e.grown hg7 (fun k hk => (World.ownsRow.lt ho6 k (by rw [ownBlock_slice]; exact hk)).1); have x7 := hid ((HQ4.out.st s7).reads))
              (first | (refine hK.out _ _ ?_ (fun hH4 => ?_)) | (go_wp2_with fail; refine hK.out _ _ ?_ (fun hH4 => ?_)))
              · exact ⟨s7.cell ta0, s7.cell ta1⟩
              clear hK K hH3
              (try simp only [Act.put, List.setIfInBounds_toArray, List.set_cons_zero, List.set_cons_succ])
              refine wpAnyH_ready (rs := [13]) (by kernel_rfl) (by simp) ?_
              refine AllReadyH.cons (o := ⟨some 104, _, _, _, _, _⟩) rfl (fun K hK => ?_) AllReadyH.nil
              (refine step_append_rows w7' (by rfl) (.tmp 100) (.tmp 103) 23 (by rfl) wz.heap.size 34 4 32 eZ Try.underlying23 entInfo rfl (by omega) X6 (i + 1) a6 (entCells (L0.take i ++ [(m1, (st, sg), true)])) (by rfl) ho7 _ X4 (r - i) (a3 - i) (entCells (L0.drop i)) (by rfl) x7.out (entCells_one _) (by omega) (by omega) s7.le ?_; intro X7 a7 w8 ho8 hg8; rw [← entCells_app] at ho8; have s8 : St wz w8 := s7.grown hg8 (fun k hk => (World.ownsRow.lt ho7 k (by rw [ownBlock_slice]; exact hk)).1); have g82 := s8.cell ga2; have gf2 := (FA.out.st s8).g.frozen 2)
              (first | (refine hK.out _ _ ?_ (fun hH5 => ?_)) | (go_wp2_with fail; refine hK.out _ _ ?_ (fun hH5 => ?_)))
              · exact ⟨s8.cell ta0, s8.cell ta1⟩
              clear hK K hH4
              (try simp only [Act.put, List.setIfInBounds_toArray, List.set_cons_zero, List.set_cons_succ])
              refine wpAnyH_take (i := 14) (oi := ⟨some 105, _, _, _, _, _⟩) (v := ?_) rfl (by kernel_rfl) (by kernel_rfl) (by kernel_rfl) (fun _ _ _ h => h) (Or.inl ⟨by rfl, ?_⟩) (by assumption) ?_
              rotate_left
              · (intro w hSw; (try dsimp only at hSw); go_simp; (try with_reducible rfl))
              (try simp only [Act.put, List.setIfInBounds_toArray, List.set_cons_zero, List.set_cons_succ])
              refine wpAnyH_ready (rs := [15]) (by kernel_rfl) (by simp) ?_
              refine AllReadyH.cons (o := ⟨none, _, _, _, _, _⟩) rfl (fun K hK => ?_) AllReadyH.nil
              go_simp
              (first | (refine hK.out _ _ ?_ (fun hH6 => ?_)) | (go_wp2_with fail; refine hK.out _ _ ?_ (fun hH6 => ?_)))
              · exact ⟨cell_set (s8.cell ta0) hTG, cell_set (s8.cell ta1) hTG⟩
              clear hK K hH5
              (try simp only [Act.put, List.setIfInBounds_toArray, List.set_cons_zero, List.set_cons_succ])
              refine wpAnyH_done (by kernel_rfl) ?_ _
              clear hH6
              obtain ⟨N, hN⟩ : ∃ N, i + 1 + (r - i) = N := ⟨_, rfl⟩
              rw [hN] at ho8 ⊢
              have hNn : N = r + 1 := by omega
              have hlen8 : (L0.take i ++ [(m1, (st, sg), true)] ++ L0.drop i).length = N := by rw [List.length_append, List.length_append, List.length_take, List.length_drop, HRL.out]; simp; omega
              have PE := hid (show OE w8 wz.heap.size X7 N a7 (insE (m1, (st, sg), true) L0) from by rw [HINS.out]; exact ⟨hlen8, ho8⟩)
              have FB := hid ((FA.out.st s8).set2 X7 N a7)
              have hgB := World.grownBy_set w8 G 2 (.slice X7 N a7)
              have hGb := (FA.out.st s8).g
              have PB := hid (PE.out.blk hGb (by decide) hgB)
              have DB := hid ((CA.out.oh.st s8).blk hGb (by decide) hgB)
              have OB := hid ((OI.st OA.out s8).grown hgB (fun k hk hA => by injection hk with hk; have := (OA.out.lt k hA).1; omega))
              have NEB := hid (show ∀ g, blockOf X7 = some g → blockOf B1 ≠ some g from fun g hg hA => by have h1 := (PE.out.lt g hg).1; have h2 := (CA.out.oh.lt g hA).2; omega)
              clear hlen8 ho8 hg8 s8 hgB hGb PE x7 ho7 hg7 s7 ho6 hg6 s6 one6
              go_wp2_with fail
              go_meet
              exact ⟨X7, N, a7, hNn, FB, PB, DB, OB, NEB⟩
            refine AllReadyH.cons (o := ⟨some 99, _, _, _, _, _⟩) rfl (fun K hK => ?_) ?_
            · skip
              go_simp
              (first | (refine hK.out _ _ ?_ (fun hH2 => ?_)) | (go_wp2_with fail; refine hK.out _ _ ?_ (fun hH2 => ?_)))
              · first | with_reducible exact ⟨s4.cell ta0, s4.cell ta1⟩ | with_reducible exact ⟨s2.cell ta0, s2.cell ta1⟩ | with_reducible exact ⟨s6e.cell ta0, s6e.cell ta1⟩
              clear hK K hH1
              (try simp only [Act.put, List.setIfInBounds_toArray, List.set_cons_zero, List.set_cons_succ])
              refine wpAnyH_ready (rs := [4]) (by kernel_rfl) (by simp) ?_
              refine AllReadyH.cons (o := ⟨some 95, _, _, _, _, _⟩) rfl (fun K hK => ?_) AllReadyH.nil
              (refine step_append_rows (((wz.alloc (.cells #[] 34)).alloc (.cells #[.int .i64 m1, .int .i64 st, .int .i64 sg, .bool true] 34)).drew) (by rfl) (.tmp 91) (.tmp 94) 23 (by rfl) wz.heap.size 34 4 32 eZ Try.underlying23 entInfo rfl (by omega) (some ⟨wz.heap.size, 0, none⟩) 0 0 [] (by rfl) E2.out _ (some ay) i a3 (entCells (L0.take i)) (by rfl) R2 (entCells_one _) (by omega) (by omega) s2.le ?_; intro X5 a5 w6 ho6 hg6; simp only [Nat.zero_add, List.nil_append] at ho6 ⊢; have s6 : St wz w6 := s2.grown hg6 hB1; have one6 := hid (N2.out.grown hg6 hN2))
              (first | (refine hK.out _ _ ?_ (fun hH3 => ?_)) | (go_wp2_with fail; refine hK.out _ _ ?_ (fun hH3 => ?_)))
              · exact ⟨s6.cell ta0, s6.cell ta1⟩
              clear hK K hH2
              (try simp only [Act.put, List.setIfInBounds_toArray, List.set_cons_zero, List.set_cons_succ])
              refine wpAnyH_ready (rs := [9]) (by kernel_rfl) (by simp) ?_
              refine AllReadyH.cons (o := ⟨some 100, _, _, _, _, _⟩) rfl (fun K hK => ?_) AllReadyH.nil
              (first | (refine step_append_rows w6 (by rfl) (.tmp 95) (.tmp 99) 23 (by rfl) wz.heap.size 34 4 32 eZ Try.underlying23 entInfo rfl (by omega) X5 i a5 (entCells (L0.take i)) (by rfl) ho6 _ (some ⟨wz.heap.size + 1, 0, none⟩) 1 1 (entCells [(m1, (st, sg), true)]) (by rfl) (Blk.reads1 one6.out 4 rfl) (entCells_one _) (by omega) (by omega) s6.le ?_; intro X6 a6 w7' ho7 hg7; rw [← entCells_app] at ho7; have s7 : St wz w7' := s6.grown hg7 (fun k hk => (World.ownsRow.lt ho6 k (by rw [ownBlock_slice]; exact hk)).1); have x7 := hid ((HQ4.out.st s7).reads)) | (refine step_append_rows w6 (by rfl) (.tmp 95) (.tmp 99) 23 (by rfl) wz.heap.size 34 4 32 eZ Try.underlying23 entInfo rfl (by omega) X5 i a5 (entCells (L0.take i)) (by rfl) ho6 _ (some ⟨wz.heap.size, 0, none⟩) 1 1 (entCells [(m1, (st, sg), true)]) (by rfl) (Blk.reads1 one6.out 4 rfl) (entCells_one _) (by omega) (by omega) s6.le ?_; intro X6 a6 w7' ho7 hg7; rw [← entCells_app] at ho7; have s7 : St wz w7' := s6.grown hg7 (fun k hk => (World.ownsRow.lt ho6 k (by rw [ownBlock_slice]; exact hk)).1); have x7 := hid ((HQ4.out.st s7).reads)))
              (first | (refine hK.out _ _ ?_ (fun hH4 => ?_)) | (go_wp2_with fail; refine hK.out _ _ ?_ (fun hH4 => ?_)))
              · exact ⟨s7.cell ta0, s7.cell ta1⟩
              clear hK K hH3
              (try simp only [Act.put, List.setIfInBounds_toArray, List.set_cons_zero, List.set_cons_succ])
              refine wpAnyH_ready (rs := [13]) (by kernel_rfl) (by simp) ?_
              refine AllReadyH.cons (o := ⟨some 104, _, _, _, _, _⟩) rfl (fun K hK => ?_) AllReadyH.nil
              (refine step_append_rows w7' (by rfl) (.tmp 100) (.tmp 103) 23 (by rfl) wz.heap.size 34 4 32 eZ Try.underlying23 entInfo rfl (by omega) X6 (i + 1) a6 (entCells (L0.take i ++ [(m1, (st, sg), true)])) (by rfl) ho7 _ X4 (r - i) (a3 - i) (entCells (L0.drop i)) (by rfl) x7.out (entCells_one _) (by omega) (by omega) s7.le ?_; intro X7 a7 w8 ho8 hg8; rw [← entCells_app] at ho8; have s8 : St wz w8 := s7.grown hg8 (fun k hk => (World.ownsRow.lt ho7 k (by rw [ownBlock_slice]; exact hk)).1); have g82 := s8.cell ga2; have gf2 := (FA.out.st s8).g.frozen 2)
              (first | (refine hK.out _ _ ?_ (fun hH5 => ?_)) | (go_wp2_with fail; refine hK.out _ _ ?_ (fun hH5 => ?_)))
              · exact ⟨s8.cell ta0, s8.cell ta1⟩
              clear hK K hH4
              (try simp only [Act.put, List.setIfInBounds_toArray, List.set_cons_zero, List.set_cons_succ])
              refine wpAnyH_take (i := 14) (oi := ⟨some 105, _, _, _, _, _⟩) (v := ?_) rfl (by kernel_rfl) (by kernel_rfl) (by kernel_rfl) (fun _ _ _ h => h) (Or.inl ⟨by rfl, ?_⟩) (by assumption) ?_
              rotate_left
              · (intro w hSw; (try dsimp only at hSw); go_simp; (try with_reducible rfl))
              (try simp only [Act.put, List.setIfInBounds_toArray, List.set_cons_zero, List.set_cons_succ])
              refine wpAnyH_ready (rs := [15]) (by kernel_rfl) (by simp) ?_
              refine AllReadyH.cons (o := ⟨none, _, _, _, _, _⟩) rfl (fun K hK => ?_) AllReadyH.nil
              go_simp
              (first | (refine hK.out _ _ ?_ (fun hH6 => ?_)) | (go_wp2_with fail; refine hK.out _ _ ?_ (fun hH6 => ?_)))
              · exact ⟨cell_set (s8.cell ta0) hTG, cell_set (s8.cell ta1) hTG⟩
              clear hK K hH5
              (try simp only [Act.put, List.setIfInBounds_toArray, List.set_cons_zero, List.set_cons_succ])
              refine wpAnyH_done (by kernel_rfl) ?_ _
              clear hH6
              obtain ⟨N, hN⟩ : ∃ N, i + 1 + (r - i) = N := ⟨_, rfl⟩
              rw [hN] at ho8 ⊢
              have hNn : N = r + 1 := by omega
              have hlen8 : (L0.take i ++ [(m1, (st, sg), true)] ++ L0.drop i).length = N := by rw [List.length_append, List.length_append, List.length_take, List.length_drop, HRL.out]; simp; omega
              have PE := hid (show OE w8 wz.heap.size X7 N a7 (insE (m1, (st, sg), true) L0) from by rw [HINS.out]; exact ⟨hlen8, ho8⟩)
              have FB := hid ((FA.out.st s8).set2 X7 N a7)
              have hgB := World.grownBy_set w8 G 2 (.slice X7 N a7)
              have hGb := (FA.out.st s8).g
              have PB := hid (PE.out.blk hGb (by decide) hgB)
              have DB := hid ((CA.out.oh.st s8).blk hGb (by decide) hgB)
              have OB := hid ((OI.st OA.out s8).grown hgB (fun k hk hA => by injection hk with hk; have := (OA.out.lt k hA).1; omega))
              have NEB := hid (show ∀ g, blockOf X7 = some g → blockOf B1 ≠ some g from fun g hg hA => by have h1 := (PE.out.lt g hg).1; have h2 := (CA.out.oh.lt g hA).2; omega)
              clear hlen8 ho8 hg8 s8 hgB hGb PE x7 ho7 hg7 s7 ho6 hg6 s6 one6
              go_wp2_with fail
              go_meet
              exact ⟨X7, N, a7, hNn, FB, PB, DB, OB, NEB⟩
            exact AllReadyH.nil
          refine AllReadyH.cons (o := ⟨some 99, _, _, _, _, _⟩) rfl (fun K hK => ?_) ?_
          · skip
            go_simp
            (first | (refine hK.out _ _ ?_ (fun hH1 => ?_)) | (go_wp2_with fail; refine hK.out _ _ ?_ (fun hH1 => ?_)))
            · first | with_reducible exact ⟨s4.cell ta0, s4.cell ta1⟩ | with_reducible exact ⟨s2.cell ta0, s2.cell ta1⟩ | with_reducible exact ⟨s6e.cell ta0, s6e.cell ta1⟩
            clear hK K hH0
            (try simp only [Act.put, List.setIfInBounds_toArray, List.set_cons_zero, List.set_cons_succ])
            refine wpAnyH_ready (rs := [0]) (by kernel_rfl) (by simp) ?_
            refine AllReadyH.cons (o := ⟨some 91, _, _, _, _, _⟩) rfl (fun K hK => ?_) AllReadyH.nil
            go_simp
            (first | (refine hK.out _ _ ?_ (fun hH2 => ?_)) | (go_wp2_with fail; refine hK.out _ _ ?_ (fun hH2 => ?_)))
            · first | with_reducible exact ⟨s1.cell ta0, s1.cell ta1⟩ | with_reducible exact ⟨s3.cell ta0, s3.cell ta1⟩
            clear hK K hH1
            (try simp only [Act.put, List.setIfInBounds_toArray, List.set_cons_zero, List.set_cons_succ])
            refine wpAnyH_ready (rs := [4]) (by kernel_rfl) (by simp) ?_
            refine AllReadyH.cons (o := ⟨some 95, _, _, _, _, _⟩) rfl (fun K hK => ?_) AllReadyH.nil
            (first | (refine step_append_rows ((wz.alloc (.cells #[] 34)).drew) (by rfl) (.tmp 91) (.tmp 94) 23 (by rfl) wz.heap.size 34 4 32 eZ Try.underlying23 entInfo rfl (by omega) (some ⟨wz.heap.size, 0, none⟩) 0 0 [] (by rfl) E1.out _ (some ay) i a3 (entCells (L0.take i)) (by rfl) R1 (entCells_one _) (by omega) (by omega) s1.le ?_; intro X5 a5 w6 ho6 hg6; simp only [Nat.zero_add, List.nil_append] at ho6 ⊢; have s6 : St wz w6 := s1.grown hg6 hB1; have s6e := s6.alloc (.cells #[.int .i64 m1, .int .i64 st, .int .i64 sg, .bool true] 34); have one6 := hid trivial) | (refine step_append_rows (((wz.alloc (.cells #[.int .i64 m1, .int .i64 st, .int .i64 sg, .bool true] 34)).alloc (.cells #[] 34)).drew) (by rfl) (.tmp 91) (.tmp 94) 23 (by rfl) wz.heap.size 34 4 32 eZ Try.underlying23 entInfo rfl (by omega) (some ⟨wz.heap.size + 1, 0, none⟩) 0 0 [] (by rfl) E3.out _ (some ay) i a3 (entCells (L0.take i)) (by rfl) R3 (entCells_one _) (by omega) (by omega) s3.le ?_; intro X5 a5 w6 ho6 hg6; simp only [Nat.zero_add, List.nil_append] at ho6 ⊢; have s6 : St wz w6 := s3.grown hg6 hB3; have one6 := hid (N3.out.grown hg6 hN3)))
            (first | (refine hK.out _ _ ?_ (fun hH3 => ?_)) | (go_wp2_with fail; refine hK.out _ _ ?_ (fun hH3 => ?_)))
            · exact ⟨s6.cell ta0, s6.cell ta1⟩
            clear hK K hH2
            (try simp only [Act.put, List.setIfInBounds_toArray, List.set_cons_zero, List.set_cons_succ])
            refine wpAnyH_ready (rs := [9]) (by kernel_rfl) (by simp) ?_
            refine AllReadyH.cons (o := ⟨some 100, _, _, _, _, _⟩) rfl (fun K hK => ?_) AllReadyH.nil
            (first | (refine step_append_rows w6 (by rfl) (.tmp 95) (.tmp 99) 23 (by rfl) wz.heap.size 34 4 32 eZ Try.underlying23 entInfo rfl (by omega) X5 i a5 (entCells (L0.take i)) (by rfl) ho6 _ (some ⟨wz.heap.size + 1, 0, none⟩) 1 1 (entCells [(m1, (st, sg), true)]) (by rfl) (Blk.reads1 one6.out 4 rfl) (entCells_one _) (by omega) (by omega) s6.le ?_; intro X6 a6 w7' ho7 hg7; rw [← entCells_app] at ho7; have s7 : St wz w7' := s6.grown hg7 (fun k hk => (World.ownsRow.lt ho6 k (by rw [ownBlock_slice]; exact hk)).1); have x7 := hid ((HQ4.out.st s7).reads)) | (refine step_append_rows w6 (by rfl) (.tmp 95) (.tmp 99) 23 (by rfl) wz.heap.size 34 4 32 eZ Try.underlying23 entInfo rfl (by omega) X5 i a5 (entCells (L0.take i)) (by rfl) ho6 _ (some ⟨wz.heap.size, 0, none⟩) 1 1 (entCells [(m1, (st, sg), true)]) (by rfl) (Blk.reads1 one6.out 4 rfl) (entCells_one _) (by omega) (by omega) s6.le ?_; intro X6 a6 w7' ho7 hg7; rw [← entCells_app] at ho7; have s7 : St wz w7' := s6.grown hg7 (fun k hk => (World.ownsRow.lt ho6 k (by rw [ownBlock_slice]; exact hk)).1); have x7 := hid ((HQ4.out.st s7).reads)))
            (first | (refine hK.out _ _ ?_ (fun hH4 => ?_)) | (go_wp2_with fail; refine hK.out _ _ ?_ (fun hH4 => ?_)))
            · exact ⟨s7.cell ta0, s7.cell ta1⟩
            clear hK K hH3
            (try simp only [Act.put, List.setIfInBounds_toArray, List.set_cons_zero, List.set_cons_succ])
            refine wpAnyH_ready (rs := [13]) (by kernel_rfl) (by simp) ?_
            refine AllReadyH.cons (o := ⟨some 104, _, _, _, _, _⟩) rfl (fun K hK => ?_) AllReadyH.nil
            (refine step_append_rows w7' (by rfl) (.tmp 100) (.tmp 103) 23 (by rfl) wz.heap.size 34 4 32 eZ Try.underlying23 entInfo rfl (by omega) X6 (i + 1) a6 (entCells (L0.take i ++ [(m1, (st, sg), true)])) (by rfl) ho7 _ X4 (r - i) (a3 - i) (entCells (L0.drop i)) (by rfl) x7.out (entCells_one _) (by omega) (by omega) s7.le ?_; intro X7 a7 w8 ho8 hg8; rw [← entCells_app] at ho8; have s8 : St wz w8 := s7.grown hg8 (fun k hk => (World.ownsRow.lt ho7 k (by rw [ownBlock_slice]; exact hk)).1); have g82 := s8.cell ga2; have gf2 := (FA.out.st s8).g.frozen 2)
            (first | (refine hK.out _ _ ?_ (fun hH5 => ?_)) | (go_wp2_with fail; refine hK.out _ _ ?_ (fun hH5 => ?_)))
            · exact ⟨s8.cell ta0, s8.cell ta1⟩
            clear hK K hH4
            (try simp only [Act.put, List.setIfInBounds_toArray, List.set_cons_zero, List.set_cons_succ])
            refine wpAnyH_take (i := 14) (oi := ⟨some 105, _, _, _, _, _⟩) (v := ?_) rfl (by kernel_rfl) (by kernel_rfl) (by kernel_rfl) (fun _ _ _ h => h) (Or.inl ⟨by rfl, ?_⟩) (by assumption) ?_
            rotate_left
            · (intro w hSw; (try dsimp only at hSw); go_simp; (try with_reducible rfl))
            (try simp only [Act.put, List.setIfInBounds_toArray, List.set_cons_zero, List.set_cons_succ])
            refine wpAnyH_ready (rs := [15]) (by kernel_rfl) (by simp) ?_
            refine AllReadyH.cons (o := ⟨none, _, _, _, _, _⟩) rfl (fun K hK => ?_) AllReadyH.nil
            go_simp
            (first | (refine hK.out _ _ ?_ (fun hH6 => ?_)) | (go_wp2_with fail; refine hK.out _ _ ?_ (fun hH6 => ?_)))
            · exact ⟨cell_set (s8.cell ta0) hTG, cell_set (s8.cell ta1) hTG⟩
            clear hK K hH5
            (try simp only [Act.put, List.setIfInBounds_toArray, List.set_cons_zero, List.set_cons_succ])
            refine wpAnyH_done (by kernel_rfl) ?_ _
            clear hH6
            obtain ⟨N, hN⟩ : ∃ N, i + 1 + (r - i) = N := ⟨_, rfl⟩
            rw [hN] at ho8 ⊢
            have hNn : N = r + 1 := by omega
            have hlen8 : (L0.take i ++ [(m1, (st, sg), true)] ++ L0.drop i).length = N := by rw [List.length_append, List.length_append, List.length_take, List.length_drop, HRL.out]; simp; omega
            have PE := hid (show OE w8 wz.heap.size X7 N a7 (insE (m1, (st, sg), true) L0) from by rw [HINS.out]; exact ⟨hlen8, ho8⟩)
            have FB := hid ((FA.out.st s8).set2 X7 N a7)
            have hgB := World.grownBy_set w8 G 2 (.slice X7 N a7)
            have hGb := (FA.out.st s8).g
            have PB := hid (PE.out.blk hGb (by decide) hgB)
            have DB := hid ((CA.out.oh.st s8).blk hGb (by decide) hgB)
            have OB := hid ((OI.st OA.out s8).grown hgB (fun k hk hA => by injection hk with hk; have := (OA.out.lt k hA).1; omega))
            have NEB := hid (show ∀ g, blockOf X7 = some g → blockOf B1 ≠ some g from fun g hg hA => by have h1 := (PE.out.lt g hg).1; have h2 := (CA.out.oh.lt g hA).2; omega)
            clear hlen8 ho8 hg8 s8 hgB hGb PE x7 ho7 hg7 s7 ho6 hg6 s6 one6
            go_wp2_with fail
            go_meet
            exact ⟨X7, N, a7, hNn, FB, PB, DB, OB, NEB⟩
          exact AllReadyH.nil
        case rest =>
        obtain ⟨X7, N, a7, hNn, FB, PB, DB, OB, NEB⟩ := hcut
        obtain ⟨L, hL⟩ : ∃ L, insE (m1, (st, sg), true) L0 = L := ⟨_, rfl⟩
        have HSG := hid (show setG ⟨I, K, ps, ds⟩ m1 (st, sg) = ⟨I, Kn, L, ds⟩ by unfold setG; simp only; rw [HL0.out, HKN.out, hL])
        rw [hL] at PB
        clear s1 s2 s3 s4 E1 E2 E3 N2 N3 R1 R2 R3 ga2 ta0 ta1 hTG hB1 hB3 hN2 hN3 HTK HQ4 hcut4 hia RA CA FA OA HINS hlow HKN hL
        generalize wz.heap.size = bz at *
        have hmN : m + N ≤ 2002 := by omega
        have HRN := hid hrn
        clear hNn hrn
        go_wp2_with fail
        go_loopw [10] (fun v wr => ∃ (q u x' e' : Nat) (T Pp D : Option Addr), q ≤ N ∧ v = .slice T q u ∧ blockOf Pp = blockOf X7 ∧ Hid (FS w wr G I K (some ad) n c B m d st sg Kn Pp (N - q) e' D (m + q) x') ∧ Hid (OE wr bz X7 N a7 L) ∧ Hid (SE wr Pp (N - q) e' (L.drop q)) ∧ Hid (OE wr w.heap.size D (m + q) x' (ds ++ L.take q)) ∧ Hid (∀ g, blockOf X7 = some g → blockOf D ≠ some g) ∧ Hid (OI wr (G + 1) 3 T q u (msgs (L.take q))) ∧ Hid (∀ z ∈ L.take q, z.2.2 = true)) (fun v _ => N - lenV v)
        case atStart => exact ⟨0, 0, d1, a7, _, X7, B1, Nat.zero_le _, rfl, rfl, FB, PB, PB.out.se, by have := DB.out; simpa using DB, NEB, OB, hid (by simp)⟩
        case round =>
          obtain ⟨wb, rfl⟩ : ∃ wo : World, wo = wr := ⟨_, rfl⟩
          obtain ⟨q, u, x', e', T, Pp, D, hq, rfl, hbP, F, PE, SP, DE, NE, TO, HFI⟩ := hrel
          clear FB PB DB NEB OB
          have g0 := F.out.g.cell_ (i := 0) (v := .int .i64 I) rfl
          have g1 := F.out.g.cell_ (i := 1) (v := .int .i64 Kn) rfl
          have g2 := F.out.g.cell_ (i := 2) (v := .slice Pp (N - q) e') rfl
          have g3 := F.out.g.cell_ (i := 3) (v := .slice D (m + q) x') rfl
          have hLN := hid PE.out.1
          by_cases hlt : q < N
          · obtain ⟨ay2, m2, t2, g2x, f2, rfl, hb2, hy2, y0, y1, y2, y3⟩ := SP.out.at_ (k := 0) (by omega)
            simp only [Nat.zero_mul, add_zero] at y0 y1 y2 y3
            have HY2 := hid (show L[q]? = some (m2, (t2, g2x), f2) by have := hy2.out; rwa [List.getElem?_drop, Nat.add_zero] at this)
            have hN0 : (0 : Int) < ((N - q : Nat) : Int) := by omega
            have hN1 : (0 : Nat) < N - q := by omega
            have hec := SP.out.nc
            have hecm := SP.out.cm
            unfold maxLen at hecm
            cases f2
            · have HEND := hid (del_end (g := ⟨I, Kn, L, ds⟩) (j := q) HFI.out (fun z hz => by have := HY2.out; rw [hz] at this; injection this with this; subst this; rfl))
              clear y0 y1 y2 hy2
              go_wp2_with fail
              refine (l11Copy_any _ _ _ _ _ _ _ _ _ _ _ SP.out DE.out.se (by omega) (by omega)).mono ?_
              rintro e w6 ⟨A5, c5, B5, d5, rfl, C5, s5⟩
              have HR := hid (show finS ⟨I, K, ps, ds⟩ m1 (st, sg) = (⟨I, Kn, L.drop q, ds ++ L.take q⟩, msgs (L.take q), true) from HFS.out.trans (by rw [HSG.out, HEND.out.1, HEND.out.2]))
              have F6 := hid (F.out.st s5)
              have T6 := hid (OI.st TO.out s5)
              have C6 := hid (C5.less F.out.s.le)
              clear C5 s5 HEND g0 g1 g2 g3
              have l0 := F6.out.l.cell_ (i := 0) (v := .int .i64 0) rfl
              have l1 := F6.out.l.cell_ (i := 1) (v := .int .i64 0) rfl
              have l2 := F6.out.l.cell_ (i := 2) (v := .slice none 0 0) rfl
              have l3 := F6.out.l.cell_ (i := 3) (v := .slice none 0 0) rfl
              have lf0 := F6.out.l.frozen 0
              have lf1 := F6.out.l.frozen 1
              have lf2 := F6.out.l.frozen 2
              have lf3 := F6.out.l.frozen 3
              obtain ⟨f1, HQ⟩ := fn_fin HR.out F6.out.l C6.out T6.out F6.out.s (by have := F6.out.lt; omega)
              have r0 := f1.out.cell_ (i := 0) (v := .int .i64 I) rfl
              have r1 := f1.out.cell_ (i := 1) (v := .int .i64 Kn) rfl
              have r2 := f1.out.cell_ (i := 2) (v := .slice A5 (N - q) c5) rfl
              have r3 := f1.out.cell_ (i := 3) (v := .slice B5 (m + q) d5) rfl
              go_wp2_with fail
              refine bodyPost_ret (v := .tuple #[grV I Kn A5 (N - q) c5 B5 (m + q) d5, .slice T q u, .bool true]) (by simp [results, Try.results48, go_sem, r0, r1, r2, r3]) rfl HQ.out
            · have hGl : G + 1 ≤ wb.heap.size := F.out.g.lt
              go_wp2_with (at_builtin; refine wpList_append_int _ rfl _ _ 28 rfl (G + 1) 3 Try.underlying28 intInfo _ _ _ _ m2 rfl TO.out rfl (by omega) hGl ?_; intro T2 u2 w5 ho5 hg5)
              have F5 := hid (F.out.row TO.out (by decide) (by decide) (by have := F.out.lt; omega) hg5)
              have PE5 := hid (PE.out.grown hg5 (fun k hk hX => OI_OE_ne TO.out PE.out k hX hk))
              have SP5 := hid (SP.out.grownB hg5 (fun k hk hP => OI_OE_ne TO.out PE.out k (by rw [← hbP]; exact hP) hk))
              have DE5 := hid (DE.out.grown hg5 (fun k hk hD => OI_OE_ne TO.out DE.out k hD hk))
              have hneT : some ay2.block ≠ blockOf T := fun e => OI_OE_ne TO.out PE.out ay2.block (by rw [← hbP]; rfl) e.symm
              have T5 := hid (show OI w5 (G + 1) 3 T2 (q + 1) u2 (msgs (L.take (q + 1))) by rw [take_snoc HY2.out]; unfold msgs; rw [List.map_append]; exact ho5)
              have z0 := grown_cell hg5 y0 hneT
              have z1 := grown_cell hg5 y1 hneT
              have z2 := grown_cell hg5 y2 hneT
              have z3 := grown_cell hg5 y3 hneT
              clear F PE SP DE TO ho5 hg5 hneT y0 y1 y2 y3 g0 g1 g2 g3 hGl
              have g0 := F5.out.g.cell_ (i := 0) (v := .int .i64 I) rfl
              have g1 := F5.out.g.cell_ (i := 1) (v := .int .i64 Kn) rfl
              have g2 := F5.out.g.cell_ (i := 2) (v := .slice (some ay2) (N - q) e') rfl
              have g3 := F5.out.g.cell_ (i := 3) (v := .slice D (m + q) x') rfl
              have s6 : St w5 ((w5.alloc (.cells #[.int .i64 m2, .int .i64 t2, .int .i64 g2x, .bool true] 34)).drew) := ((St.refl w5).alloc _).drew
              have g63 := s6.cell g3
              have RO := hid (Reads.drew (Reads.one w5 34 #[.int .i64 m2, .int .i64 t2, .int .i64 g2x, .bool true] 4 rfl))
              have D6 := hid (World.ownsRow.dr (World.ownsRow.alloc DE5.out.2 (.cells #[.int .i64 m2, .int .i64 t2, .int .i64 g2x, .bool true] 34)) (w' := (w5.alloc (.cells #[.int .i64 m2, .int .i64 t2, .int .i64 g2x, .bool true] 34)).drew) ⟨1, rfl⟩)
              have HW6 := hid (show w.heap.size ≤ ((w5.alloc (.cells #[.int .i64 m2, .int .i64 t2, .int .i64 g2x, .bool true] 34)).drew).heap.size from (F5.out.s.trans s6).le)
              have hneD : some ay2.block ≠ blockOf D := fun e => NE.out ay2.block (by rw [← hbP]; rfl) e.symm
              have hayG : ay2.block ≠ G := fun e => by
                have h1 := PE5.out.ne_blk F5.out.g (by decide)
                rw [← hbP] at h1
                exact h1 (by rw [← e]; rfl)
              go_cut [] (fun wx => ∃ (D2 : Option Addr) (x2 : Nat), Hid (FS w wx G I K (some ad) n c B m d st sg Kn (some ay2) (N - q) e' D2 (m + q + 1) x2) ∧ Hid (OE wx bz X7 N a7 L) ∧ Hid (SE wx (some ay2) (N - q) e' (L.drop q)) ∧ Hid (OE wx w.heap.size D2 (m + q + 1) x2 (ds ++ L.take (q + 1))) ∧ Hid (∀ g, blockOf X7 = some g → blockOf D2 ≠ some g) ∧ Hid (OI wx (G + 1) 3 T2 (q + 1) u2 (msgs (L.take (q + 1)))))
              case first =>
                refine wp_region_held_drew (S := (fun w' => w'.cell? ⟨G, 2, none⟩ = some (.slice (some ay2) (N - q) e') ∧ w'.cell? ay2 = some (.int .i64 m2) ∧ w'.cell? ⟨ay2.block, ay2.off + 1, none⟩ = some (.int .i64 t2) ∧ w'.cell? ⟨ay2.block, ay2.off + 2, none⟩ = some (.int .i64 g2x) ∧ w'.cell? ⟨ay2.block, ay2.off + 3, none⟩ = some (.bool true))) (by kernel_rfl) ?_ (fun hH0 => ?_)
                · exact ⟨g2, z0, z1, z2, z3⟩
                refine wpAnyH_take (i := 0) (oi := ⟨some 125, _, _, _, _, _⟩) (v := ?_) rfl (by kernel_rfl) (by kernel_rfl) (by kernel_rfl) (fun _ _ _ h => h) (Or.inl ⟨by rfl, ?_⟩) (by assumption) ?_
                rotate_left
                · (intro w hSw; (try dsimp only at hSw); go_simp; (try with_reducible rfl))
                (try simp only [Act.put, List.setIfInBounds_toArray, List.set_cons_zero, List.set_cons_succ])
                refine wpAnyH_take (i := 2) (oi := ⟨some 127, _, _, _, _, _⟩) (v := ?_) rfl (by kernel_rfl) (by kernel_rfl) (by kernel_rfl) (fun _ _ _ h => h) (Or.inl ⟨by rfl, ?_⟩) (by assumption) ?_
                rotate_left
                · (intro w hSw; (try dsimp only at hSw); go_simp; (try with_reducible rfl))
                (try simp only [Act.put, List.setIfInBounds_toArray, List.set_cons_zero, List.set_cons_succ])
                refine wpAnyH_take (i := 3) (oi := ⟨some 128, _, _, _, _, _⟩) (v := ?_) rfl (by kernel_rfl) (by kernel_rfl) (by kernel_rfl) (fun _ _ _ h => h) (Or.inl ⟨by rfl, ?_⟩) (by assumption) ?_
                rotate_left
                · (intro w hSw; (try dsimp only at hSw); go_simp; (try with_reducible rfl))
                (try simp only [Act.put, List.setIfInBounds_toArray, List.set_cons_zero, List.set_cons_succ])
                refine wpAnyH_take (i := 4) (oi := ⟨some 129, _, _, _, _, _⟩) (v := ?_) rfl (by kernel_rfl) (by kernel_rfl) (by kernel_rfl) (fun _ _ _ h => h) (Or.inl ⟨by rfl, ?_⟩) (by assumption) ?_
                rotate_left
                · (intro w hSw; (try dsimp only at hSw); go_simp; (try with_reducible rfl))
                (try simp only [Act.put, List.setIfInBounds_toArray, List.set_cons_zero, List.set_cons_succ])
                refine wpAnyH_take (i := 5) (oi := ⟨some 130, _, _, _, _, _⟩) (v := ?_) rfl (by kernel_rfl) (by kernel_rfl) (by kernel_rfl) (fun _ _ _ h => h) (Or.inl ⟨by rfl, ?_⟩) (by assumption) ?_
                rotate_left
                · (intro w hSw; (try dsimp only at hSw); go_simp; (try with_reducible rfl))
                (try simp only [Act.put, List.setIfInBounds_toArray, List.set_cons_zero, List.set_cons_succ])
                refine wpAnyH_ready (rs := [1, 6]) (by kernel_rfl) (by simp) ?_
                refine AllReadyH.cons (o := ⟨some 126, _, _, _, _, _⟩) rfl (fun K hK => ?_) ?_
                · skip
                  go_simp
                  (first | (refine hK.out _ _ ?_ (fun hH1 => ?_)) | (go_wp2_with fail; refine hK.out _ _ ?_ (fun hH1 => ?_)))
                  · first | with_reducible exact ⟨g2, z0, z1, z2, z3⟩ | exact ⟨g2, z0, z1, z2, z3⟩ | exact ⟨s6.cell g2, s6.cell z0, s6.cell z1, s6.cell z2, s6.cell z3⟩
                  clear hK K hH0
                  (try simp only [Act.put, List.setIfInBounds_toArray, List.set_cons_zero, List.set_cons_succ])
                  refine wpAnyH_ready (rs := [6]) (by kernel_rfl) (by simp) ?_
                  refine AllReadyH.cons (o := ⟨some 131, _, _, _, _, _⟩) rfl (fun K hK => ?_) AllReadyH.nil
                  go_simp
                  (first | (refine hK.out _ _ ?_ (fun hH2 => ?_)) | (go_wp2_with fail; refine hK.out _ _ ?_ (fun hH2 => ?_)))
                  · exact ⟨s6.cell g2, s6.cell z0, s6.cell z1, s6.cell z2, s6.cell z3⟩
                  clear hK K hH1
                  (try simp only [Act.put, List.setIfInBounds_toArray, List.set_cons_zero, List.set_cons_succ])
                  refine wpAnyH_ready (rs := [7]) (by kernel_rfl) (by simp) ?_
                  refine AllReadyH.cons (o := ⟨some 132, _, _, _, _, _⟩) rfl (fun K hK => ?_) AllReadyH.nil
                  (refine step_append_rows_at ((w5.alloc (.cells #[.int .i64 m2, .int .i64 t2, .int .i64 g2x, .bool true] 34)).drew) (by rfl) (.tmp 126) (.tmp 131) 23 (by rfl) w.heap.size 34 4 32 eZ Try.underlying23 entInfo rfl (by omega) D (m + q) x' (entCells (ds ++ L.take q)) (by rfl) D6.out _ (some ⟨w5.heap.size, 0, none⟩) 1 1 (entCells [(m2, (t2, g2x), true)]) (by rfl) RO.out (entCells_one _) (by omega) (by omega) HW6.out ?_; intro D2 x2 w7 ho7 hg7 hat; rw [← entCells_app] at ho7; have F7 := hid ((F5.out.st s6).row D6.out (by decide) (by decide) (Nat.le_refl _) hg7); have g73 := F7.out.g.cell_ (i := 3) (v := .slice D (m + q) x') rfl; have gf3 := F7.out.g.frozen 3; have v0 := grown_cell hg7 (s6.cell z0) hneD; have v1 := grown_cell hg7 (s6.cell z1) hneD; have v2 := grown_cell hg7 (s6.cell z2) hneD; have v3 := grown_cell hg7 (s6.cell z3) hneD; have g72 := F7.out.g.cell_ (i := 2) (v := .slice (some ay2) (N - q) e') rfl)
                  (first | (refine hK.out _ _ ?_ (fun hH3 => ?_)) | (go_wp2_with fail; refine hK.out _ _ ?_ (fun hH3 => ?_)))
                  · exact ⟨g72, v0, v1, v2, v3⟩
                  clear hK K hH2
                  (try simp only [Act.put, List.setIfInBounds_toArray, List.set_cons_zero, List.set_cons_succ])
                  refine wpAnyH_take (i := 8) (oi := ⟨some 133, _, _, _, _, _⟩) (v := ?_) rfl (by kernel_rfl) (by kernel_rfl) (by kernel_rfl) (fun _ _ _ h => h) (Or.inl ⟨by rfl, ?_⟩) (by assumption) ?_
                  rotate_left
                  · (intro w hSw; (try dsimp only at hSw); go_simp; (try with_reducible rfl))
                  (try simp only [Act.put, List.setIfInBounds_toArray, List.set_cons_zero, List.set_cons_succ])
                  refine wpAnyH_ready (rs := [9]) (by kernel_rfl) (by simp) ?_
                  refine AllReadyH.cons (o := ⟨none, _, _, _, _, _⟩) rfl (fun K hK => ?_) AllReadyH.nil
                  go_simp
                  (first | (refine hK.out _ _ ?_ (fun hH4 => ?_)) | (go_wp2_with fail; refine hK.out _ _ ?_ (fun hH4 => ?_)))
                  · exact ⟨(F7.out.set3 D2 (m + q + 1) x2).g.cell_ (i := 2) (v := .slice (some ay2) (N - q) e') rfl, cell_set v0 hayG, cell_set v1 hayG, cell_set v2 hayG, cell_set v3 hayG⟩
                  clear hK K hH3
                  (try simp only [Act.put, List.setIfInBounds_toArray, List.set_cons_zero, List.set_cons_succ])
                  refine wpAnyH_done (by kernel_rfl) ?_ _
                  clear hH4
                  have PE7 := hid ((PE5.out.st s6).grown hg7 (fun k hk hX => NE.out k hX hk))
                  have SP7 := hid ((SP5.out.st s6).grownB hg7 (fun k hk hP => NE.out k (by rw [← hbP]; exact hP) hk))
                  have T7 := hid (OI.grown (OI.st T5.out s6) hg7 (fun k hk hT => OI_OE_ne T5.out DE5.out k hk hT))
                  have NE7 := hid (show ∀ g, blockOf X7 = some g → blockOf D2 ≠ some g from fun g hg hD => by
                    rcases hat with h | h
                    · rw [h] at hD; exact NE.out g hg hD
                    · rw [h] at hD
                      injection hD with hD
                      have := ((PE5.out.st s6).lt g hg).2
                      omega)
                  have DE7 := hid (show OE w7 w.heap.size D2 (m + q + 1) x2 (ds ++ L.take (q + 1)) by
                    rw [take_snoc HY2.out, ← List.append_assoc]
                    exact ⟨by rw [List.length_append, DE5.out.1]; rfl, ho7⟩)
                  have F8 := hid (F7.out.set3 D2 (m + q + 1) x2)
                  have hgB := World.grownBy_set w7 G 3 (.slice D2 (m + q + 1) x2)
                  have PE8 := hid (PE7.out.blk F7.out.g (by decide) hgB)
                  have SP8 := hid (SP7.out.grownB hgB (fun k hk hP => by injection hk with hk; subst hk; injection hP with hP; exact hayG hP))
                  have DE8 := hid (DE7.out.blk F7.out.g (by decide) hgB)
                  have T8 := hid (T7.out.grown hgB (fun k hk hA => by injection hk with hk; have := (T7.out.lt k hA).1; omega))
                  clear ho7 hg7 hat F7 PE7 SP7 T7 DE7 hgB
                  go_wp2_with fail
                  go_meet
                  exact ⟨D2, x2, F8, PE8, SP8, DE8, NE7, T8⟩
                refine AllReadyH.cons (o := ⟨some 131, _, _, _, _, _⟩) rfl (fun K hK => ?_) ?_
                · skip
                  go_simp
                  (first | (refine hK.out _ _ ?_ (fun hH1 => ?_)) | (go_wp2_with fail; refine hK.out _ _ ?_ (fun hH1 => ?_)))
                  · exact ⟨s6.cell g2, s6.cell z0, s6.cell z1, s6.cell z2, s6.cell z3⟩
                  clear hK K hH0
                  (try simp only [Act.put, List.setIfInBounds_toArray, List.set_cons_zero, List.set_cons_succ])
                  refine wpAnyH_ready (rs := [1]) (by kernel_rfl) (by simp) ?_
                  refine AllReadyH.cons (o := ⟨some 126, _, _, _, _, _⟩) rfl (fun K hK => ?_) AllReadyH.nil
                  go_simp
                  (first | (refine hK.out _ _ ?_ (fun hH2 => ?_)) | (go_wp2_with fail; refine hK.out _ _ ?_ (fun hH2 => ?_)))
                  · first | with_reducible exact ⟨g2, z0, z1, z2, z3⟩ | exact ⟨g2, z0, z1, z2, z3⟩ | exact ⟨s6.cell g2, s6.cell z0, s6.cell z1, s6.cell z2, s6.cell z3⟩
                  clear hK K hH1
                  (try simp only [Act.put, List.setIfInBounds_toArray, List.set_cons_zero, List.set_cons_succ])
                  refine wpAnyH_ready (rs := [7]) (by kernel_rfl) (by simp) ?_
                  refine AllReadyH.cons (o := ⟨some 132, _, _, _, _, _⟩) rfl (fun K hK => ?_) AllReadyH.nil
                  (refine step_append_rows_at ((w5.alloc (.cells #[.int .i64 m2, .int .i64 t2, .int .i64 g2x, .bool true] 34)).drew) (by rfl) (.tmp 126) (.tmp 131) 23 (by rfl) w.heap.size 34 4 32 eZ Try.underlying23 entInfo rfl (by omega) D (m + q) x' (entCells (ds ++ L.take q)) (by rfl) D6.out _ (some ⟨w5.heap.size, 0, none⟩) 1 1 (entCells [(m2, (t2, g2x), true)]) (by rfl) RO.out (entCells_one _) (by omega) (by omega) HW6.out ?_; intro D2 x2 w7 ho7 hg7 hat; rw [← entCells_app] at ho7; have F7 := hid ((F5.out.st s6).row D6.out (by decide) (by decide) (Nat.le_refl _) hg7); have g73 := F7.out.g.cell_ (i := 3) (v := .slice D (m + q) x') rfl; have gf3 := F7.out.g.frozen 3; have v0 := grown_cell hg7 (s6.cell z0) hneD; have v1 := grown_cell hg7 (s6.cell z1) hneD; have v2 := grown_cell hg7 (s6.cell z2) hneD; have v3 := grown_cell hg7 (s6.cell z3) hneD; have g72 := F7.out.g.cell_ (i := 2) (v := .slice (some ay2) (N - q) e') rfl)
                  (first | (refine hK.out _ _ ?_ (fun hH3 => ?_)) | (go_wp2_with fail; refine hK.out _ _ ?_ (fun hH3 => ?_)))
                  · exact ⟨g72, v0, v1, v2, v3⟩
                  clear hK K hH2
                  (try simp only [Act.put, List.setIfInBounds_toArray, List.set_cons_zero, List.set_cons_succ])
                  refine wpAnyH_take (i := 8) (oi := ⟨some 133, _, _, _, _, _⟩) (v := ?_) rfl (by kernel_rfl) (by kernel_rfl) (by kernel_rfl) (fun _ _ _ h => h) (Or.inl ⟨by rfl, ?_⟩) (by assumption) ?_
                  rotate_left
                  · (intro w hSw; (try dsimp only at hSw); go_simp; (try with_reducible rfl))
                  (try simp only [Act.put, List.setIfInBounds_toArray, List.set_cons_zero, List.set_cons_succ])
                  refine wpAnyH_ready (rs := [9]) (by kernel_rfl) (by simp) ?_
                  refine AllReadyH.cons (o := ⟨none, _, _, _, _, _⟩) rfl (fun K hK => ?_) AllReadyH.nil
                  go_simp
                  (first | (refine hK.out _ _ ?_ (fun hH4 => ?_)) | (go_wp2_with fail; refine hK.out _ _ ?_ (fun hH4 => ?_)))
                  · exact ⟨(F7.out.set3 D2 (m + q + 1) x2).g.cell_ (i := 2) (v := .slice (some ay2) (N - q) e') rfl, cell_set v0 hayG, cell_set v1 hayG, cell_set v2 hayG, cell_set v3 hayG⟩
                  clear hK K hH3
                  (try simp only [Act.put, List.setIfInBounds_toArray, List.set_cons_zero, List.set_cons_succ])
                  refine wpAnyH_done (by kernel_rfl) ?_ _
                  clear hH4
                  have PE7 := hid ((PE5.out.st s6).grown hg7 (fun k hk hX => NE.out k hX hk))
                  have SP7 := hid ((SP5.out.st s6).grownB hg7 (fun k hk hP => NE.out k (by rw [← hbP]; exact hP) hk))
                  have T7 := hid (OI.grown (OI.st T5.out s6) hg7 (fun k hk hT => OI_OE_ne T5.out DE5.out k hk hT))
                  have NE7 := hid (show ∀ g, blockOf X7 = some g → blockOf D2 ≠ some g from fun g hg hD => by
                    rcases hat with h | h
                    · rw [h] at hD; exact NE.out g hg hD
                    · rw [h] at hD
                      injection hD with hD
                      have := ((PE5.out.st s6).lt g hg).2
                      omega)
                  have DE7 := hid (show OE w7 w.heap.size D2 (m + q + 1) x2 (ds ++ L.take (q + 1)) by
                    rw [take_snoc HY2.out, ← List.append_assoc]
                    exact ⟨by rw [List.length_append, DE5.out.1]; rfl, ho7⟩)
                  have F8 := hid (F7.out.set3 D2 (m + q + 1) x2)
                  have hgB := World.grownBy_set w7 G 3 (.slice D2 (m + q + 1) x2)
                  have PE8 := hid (PE7.out.blk F7.out.g (by decide) hgB)
                  have SP8 := hid (SP7.out.grownB hgB (fun k hk hP => by injection hk with hk; subst hk; injection hP with hP; exact hayG hP))
                  have DE8 := hid (DE7.out.blk F7.out.g (by decide) hgB)
                  have T8 := hid (T7.out.grown hgB (fun k hk hA => by injection hk with hk; have := (T7.out.lt k hA).1; omega))
                  clear ho7 hg7 hat F7 PE7 SP7 T7 DE7 hgB
                  go_wp2_with fail
                  go_meet
                  exact ⟨D2, x2, F8, PE8, SP8, DE8, NE7, T8⟩
                exact AllReadyH.nil
              case rest =>
              obtain ⟨D2, x2, F8, PE8, SP8, DE8, NE7, T8⟩ := hcut
              clear g0 g1 g2 g3 g63 z0 z1 z2 z3 s6 RO D6 HW6 hneD hayG F5 PE5 SP5 DE5 T5 NE
              have g0 := F8.out.g.cell_ (i := 0) (v := .int .i64 I) rfl
              have g1 := F8.out.g.cell_ (i := 1) (v := .int .i64 Kn) rfl
              have g2 := F8.out.g.cell_ (i := 2) (v := .slice (some ay2) (N - q) e') rfl
              have g3 := F8.out.g.cell_ (i := 3) (v := .slice D2 (m + q + 1) x2) rfl
              have gf2 := F8.out.g.frozen 2
              obtain ⟨P9, hP9⟩ : ∃ X, X = (if e' = 1 then some ay2 else (some ay2).map (·.add (1 * 4))) := ⟨_, rfl⟩
              have hcut9 : ∀ W, (Instr.slice 23 (.slice (some ay2) (N - q) e') (some (.int .i64 1)) none none).run Try.prog W = .ok (.slice P9 (N - q - 1) (e' - 1)) W := fun W => by
                have := cut_ents (some ay2) (n := N - q) (c := e') 1 (by omega) (by omega) W
                rwa [← hP9] at this
              have SP9 := hid (SP8.out.cut (k := 1) (by omega))
              rw [← hP9, List.drop_drop] at SP9
              have hb9 : blockOf P9 = blockOf X7 := by rw [hP9, blockOf_cut]; exact hbP
              have F9 := hid (F8.out.set2 P9 (N - q - 1) (e' - 1))
              have hgB := World.grownBy_set wc G 2 (.slice P9 (N - q - 1) (e' - 1))
              have PE9 := hid (PE8.out.blk F8.out.g (by decide) hgB)
              have hXG : blockOf X7 ≠ some G := PE8.out.ne_blk F8.out.g (by decide)
              have SP10 := hid (SP9.out.grownB hgB (fun k hk hP => by injection hk with hk; subst hk; rw [hb9] at hP; exact hXG hP))
              have DE9 := hid (DE8.out.blk F8.out.g (by decide) hgB)
              have T9 := hid (T8.out.grown hgB (fun k hk hA => by injection hk with hk; have := (T8.out.lt k hA).1; omega))
              have hfi := hid (del_step (g := ⟨I, Kn, L, ds⟩) HFI.out HY2.out rfl)
              have hsub : N - q - 1 = N - (q + 1) := by omega
              rw [hsub] at F9 SP10
              clear hP9 hgB hXG SP9 PE8 SP8 DE8 T8 hy2
              go_wp2_with fail
              go_roundw
              case rel => exact ⟨q + 1, u2, x2, e' - 1, T2, P9, D2, by omega, by rfl, hb9, F9, PE9, SP10, DE9, NE7, T9, hfi⟩
              case measure => simp [lenV]; omega
          · have hz : N - q = 0 := by omega
            have hqN : q = N := by omega
            have HEND := hid (del_end (g := ⟨I, Kn, L, ds⟩) (j := q) HFI.out (fun z hz => by have h1 : q < L.length := (List.getElem?_eq_some_iff.1 hz).1; have h2 := hLN.out; omega))
            rw [hz] at F SP
            have hmq : m + q ≤ 2002 := by omega
            clear g0 g1 g2 g3 hz hqN hlt hq hmN
            have g0 := F.out.g.cell_ (i := 0) (v := .int .i64 I) rfl
            have g1 := F.out.g.cell_ (i := 1) (v := .int .i64 Kn) rfl
            have g2 := F.out.g.cell_ (i := 2) (v := .slice Pp 0 e') rfl
            have g3 := F.out.g.cell_ (i := 3) (v := .slice D (m + q) x') rfl
            go_wp2_with fail
            refine (l11Copy_any _ _ _ _ _ _ _ _ _ _ _ SP.out DE.out.se (by omega) (by omega)).mono ?_
            rintro e w6 ⟨A5, c5, B5, d5, rfl, C5, s5⟩
            have HR := hid (show finS ⟨I, K, ps, ds⟩ m1 (st, sg) = (⟨I, Kn, L.drop q, ds ++ L.take q⟩, msgs (L.take q), true) from HFS.out.trans (by rw [HSG.out, HEND.out.1, HEND.out.2]))
            have F6 := hid (F.out.st s5)
            have T6 := hid (OI.st TO.out s5)
            have C6 := hid (C5.less F.out.s.le)
            clear C5 s5 HEND g0 g1 g2 g3
            have l0 := F6.out.l.cell_ (i := 0) (v := .int .i64 0) rfl
            have l1 := F6.out.l.cell_ (i := 1) (v := .int .i64 0) rfl
            have l2 := F6.out.l.cell_ (i := 2) (v := .slice none 0 0) rfl
            have l3 := F6.out.l.cell_ (i := 3) (v := .slice none 0 0) rfl
            have lf0 := F6.out.l.frozen 0
            have lf1 := F6.out.l.frozen 1
            have lf2 := F6.out.l.frozen 2
            have lf3 := F6.out.l.frozen 3
            obtain ⟨f1, HQ⟩ := fn_fin HR.out F6.out.l C6.out T6.out F6.out.s (by have := F6.out.lt; omega)
            have r0 := f1.out.cell_ (i := 0) (v := .int .i64 I) rfl
            have r1 := f1.out.cell_ (i := 1) (v := .int .i64 Kn) rfl
            have r2 := f1.out.cell_ (i := 2) (v := .slice A5 0 c5) rfl
            have r3 := f1.out.cell_ (i := 3) (v := .slice B5 (m + q) d5) rfl
            go_wp2_with fail
            refine bodyPost_ret (v := .tuple #[grV I Kn A5 0 c5 B5 (m + q) d5, .slice T q u, .bool true]) (by simp [results, Try.results48, go_sem, r0, r1, r2, r3]) rfl HQ.out
      · have hir : ¬ (i : Int) < (r : Int) := by omega
        have hib : decide ((i : Int) < (r : Int)) = false := decide_eq_false hir
        have hnone : ∀ y, L0[i]? = some y → False := fun y hy => by have := (List.getElem?_eq_some_iff.1 hy).1; have := HRL.out; omega
        have hfree : L0.any (fun y => y.2.1 == (st, sg)) = false := fin_free HRA.out hlow.out (fun y hy => (hnone y hy).elim)
        have HINS := hid (ins_at (E := (m1, (st, sg), true)) (rest := L0) (j := i) hlow.out (fun y hy => (hnone y hy).elim))
        clear hnone
        go_wp2_with fail
        go_quiet (fail)
        have sx := (Dr.st ⟨nq, rfl⟩ : St (wa) (World.drewN (wa) nq))
        generalize World.drewN (wa) nq = wy0 at sx ⊢
        clear nq
        replace F := hid (F.out.st sx)
        replace CG := hid (CG.out.st sx)
        replace OT := hid (OT.out.st sx)
        replace RR := hid (RR.out.st sx)
        replace k1 := sx.cell k1
        replace t0 := sx.cell t0
        replace t1_ := sx.cell t1_
        clear sx
        go_wp2_with fail
        go_quiet (fail)
        have sx := (Dr.st ⟨nq, rfl⟩ : St (wy0) (World.drewN (wy0) nq))
        generalize World.drewN (wy0) nq = wy at sx ⊢
        clear nq
        replace F := hid (F.out.st sx)
        replace CG := hid (CG.out.st sx)
        replace OT := hid (OT.out.st sx)
        replace RR := hid (RR.out.st sx)
        replace k1 := sx.cell k1
        replace t0 := sx.cell t0
        replace t1_ := sx.cell t1_
        clear sx

        have HOK := hid (show finOk ⟨I, K, ps, ds⟩ m1 (st, sg) = true from HFO3.out.trans (by rw [hfree]; rfl))
        have HFS := hid (finS_yes HOK.out)
        clear hfree
        -- the clock
        obtain ⟨Kn, hKn⟩ : ∃ z, (if K < st then st else K) = z := ⟨_, rfl⟩
        have HKN := hid (show max K st = Kn by rw [← hKn, Int.max_def]; split <;> split <;> omega)
        have g1 := F.out.g.cell_ (i := 1) (v := .int .i64 K) rfl
        have gf1 := F.out.g.frozen 1
        have hne1 : ∀ {z : Nat}, z ≤ w.heap.size + 1 + 1 → G ≠ z := fun hz => by omega
        have FA := hid (F.out.set1 Kn)
        have CA := hid (CG.out.blk F.out.g (by decide) (World.grownBy_set wy G 1 (.int .i64 Kn)))
        have OA := hid (OT.out.grown (World.grownBy_set wy G 1 (.int .i64 Kn)) (fun k hk hA => by injection hk with hk; have := (OT.out.lt k hA).1; omega))
        have RA := hid (RR.out.blk F.out.g (by decide) (World.grownBy_set wy G 1 (.int .i64 Kn)))
        have ta0 := FA.out.t.cell_ (i := 0) (v := .int .i64 st) rfl
        have ta1 := FA.out.t.cell_ (i := 1) (v := .int .i64 sg) rfl
        clear F CG OT RR hne1
        go_wp2_with fail
        clear g1 gf1 t0 t1_ k1
        (try rw [hKn])
        generalize wy.setCell ⟨G, 1, none⟩ (.int .i64 Kn) = wz at *
        clear hKn
        have hia : (i : Int) ≤ (a3 : Int) := by omega
        obtain ⟨X4, hX4⟩ : ∃ X, X = (if a3 = i then X3 else X3.map (·.add (i * 4))) := ⟨_, rfl⟩
        have HQ4 := hid (RA.out.se.cut (k := i) (by omega))
        rw [← hX4] at HQ4
        have hcut4 : ∀ W, (Instr.slice 23 (.slice X3 r a3) (some (.int .i64 (i : Int))) none none).run Try.prog W = .ok (.slice X4 (r - i) (a3 - i)) W := fun W => by
          have := cut_ents (X3) (n := r) (c := a3) i (by omega) (by omega) W
          rwa [← hX4] at this
        clear hX4
        have HTK := hid (RA.out.se.upto (k := i) (by omega))
        have s1 : St wz ((wz.alloc (.cells #[] 34)).drew) := ((St.refl wz).alloc _).drew
        have s2 : St wz (((wz.alloc (.cells #[] 34)).alloc (.cells #[.int .i64 m1, .int .i64 st, .int .i64 sg, .bool true] 34)).drew) := (((St.refl wz).alloc _).alloc _).drew
        have s3 : St wz (((wz.alloc (.cells #[.int .i64 m1, .int .i64 st, .int .i64 sg, .bool true] 34)).alloc (.cells #[] 34)).drew) := (((St.refl wz).alloc _).alloc _).drew
        have s4 : St wz ((wz.alloc (.cells #[.int .i64 m1, .int .i64 st, .int .i64 sg, .bool true] 34)).drew) := ((St.refl wz).alloc _).drew
        have E1 := hid (World.ownsRow.dr (row_lit wz 34 4) (w' := (wz.alloc (.cells #[] 34)).drew) ⟨1, rfl⟩)
        have E2 := hid (World.ownsRow.dr (World.ownsRow.alloc (row_lit wz 34 4) (.cells #[.int .i64 m1, .int .i64 st, .int .i64 sg, .bool true] 34)) (w' := ((wz.alloc (.cells #[] 34)).alloc (.cells #[.int .i64 m1, .int .i64 st, .int .i64 sg, .bool true] 34)).drew) ⟨1, rfl⟩)
        have E3 : Hid ((((wz.alloc (.cells #[.int .i64 m1, .int .i64 st, .int .i64 sg, .bool true] 34)).alloc (.cells #[] 34)).drew).ownsRow wz.heap.size 34 4 (.slice (some ⟨wz.heap.size + 1, 0, none⟩) 0 0) 0 []) := by
          have := row_lit (wz.alloc (.cells #[.int .i64 m1, .int .i64 st, .int .i64 sg, .bool true] 34)) 34 4
          rw [World.heap_alloc_size'] at this
          exact World.ownsRow.dr (OI_less_row this (by omega)) ⟨1, rfl⟩
        have N2 := hid ((blk_second wz (.cells #[] 34) 34 #[.int .i64 m1, .int .i64 st, .int .i64 sg, .bool true]).dr (w' := ((wz.alloc (.cells #[] 34)).alloc (.cells #[.int .i64 m1, .int .i64 st, .int .i64 sg, .bool true] 34)).drew) ⟨1, rfl⟩)
        have N3 := hid (((Blk.new wz 34 #[.int .i64 m1, .int .i64 st, .int .i64 sg, .bool true]).alloc (.cells #[] 34)).dr (w' := ((wz.alloc (.cells #[.int .i64 m1, .int .i64 st, .int .i64 sg, .bool true] 34)).alloc (.cells #[] 34)).drew) ⟨1, rfl⟩)
        have R1 := (HTK.out.st s1).reads
        have R2 := (HTK.out.st s2).reads
        have R3 := (HTK.out.st s3).reads
        have ga2 := FA.out.g.cell_ (i := 2) (v := .slice A1 n c1) rfl
        have hTG : w.heap.size + 1 ≠ G := by omega
        have hB1 : ∀ k, blockOf (some (⟨wz.heap.size, 0, none⟩ : Addr)) = some k → wz.heap.size ≤ k := fun k hk => by simp only [blockOf, Option.map_some, Option.some.injEq] at hk; omega
        have hB3 : ∀ k, blockOf (some (⟨wz.heap.size + 1, 0, none⟩ : Addr)) = some k → wz.heap.size ≤ k := fun k hk => by simp only [blockOf, Option.map_some, Option.some.injEq] at hk; omega
        have hN2 : some (wz.heap.size + 1) ≠ blockOf (some (⟨wz.heap.size, 0, none⟩ : Addr)) := by simp [blockOf]
        have hN3 : some wz.heap.size ≠ blockOf (some (⟨wz.heap.size + 1, 0, none⟩ : Addr)) := by simp [blockOf]
        go_cut [] (fun wx => ∃ (X7 : Option Addr) (N a7 : Nat), N = r + 1 ∧ Hid (FS w wx G I K (some ad) n c B m d st sg Kn X7 N a7 B1 m d1) ∧ Hid (OE wx wz.heap.size X7 N a7 (insE (m1, (st, sg), true) L0)) ∧ Hid (OE wx w.heap.size B1 m d1 ds) ∧ Hid (OI wx (G + 1) 3 (some ⟨G + 1, 0, none⟩) 0 0 []) ∧ Hid (∀ g, blockOf X7 = some g → blockOf B1 ≠ some g))
        case first =>
          refine wp_region_held_drew (S := (fun w' => w'.cell? ⟨w.heap.size + 1, 0, none⟩ = some (.int .i64 st) ∧ w'.cell? ⟨w.heap.size + 1, 1, none⟩ = some (.int .i64 sg))) (by kernel_rfl) ?_ (fun hH0 => ?_)
          · exact ⟨ta0, ta1⟩
          refine wpAnyH_take (i := 1) (oi := ⟨some 92, _, _, _, _, _⟩) (v := ?_) rfl (by kernel_rfl) (by kernel_rfl) (by kernel_rfl) (fun _ _ _ h => h) (Or.inl ⟨by rfl, ?_⟩) (by assumption) ?_
          rotate_left
          · (intro w hSw; (try dsimp only at hSw); go_simp; (try with_reducible rfl))
          (try simp only [Act.put, List.setIfInBounds_toArray, List.set_cons_zero, List.set_cons_succ])
          refine wpAnyH_take (i := 2) (oi := ⟨some 93, _, _, _, _, _⟩) (v := ?_) rfl (by kernel_rfl) (by kernel_rfl) (by kernel_rfl) (fun _ _ _ h => h) (Or.inl ⟨by rfl, ?_⟩) (by assumption) ?_
          rotate_left
          · (intro w hSw; (try dsimp only at hSw); go_simp; (try with_reducible rfl))
          (try simp only [Act.put, List.setIfInBounds_toArray, List.set_cons_zero, List.set_cons_succ])
          refine wpAnyH_take (i := 3) (oi := ⟨some 94, _, _, _, _, _⟩) (v := ?_) rfl (by kernel_rfl) (by kernel_rfl) (by kernel_rfl) (fun _ _ _ h => h) (Or.inl ⟨by rfl, ?_⟩) (by assumption) ?_
          rotate_left
          · (intro w hSw; (try dsimp only at hSw); go_simp; (try with_reducible rfl))
          (try simp only [Act.put, List.setIfInBounds_toArray, List.set_cons_zero, List.set_cons_succ])
          refine wpAnyH_take (i := 5) (oi := ⟨some 96, _, _, _, _, _⟩) (v := ?_) rfl (by kernel_rfl) (by kernel_rfl) (by kernel_rfl) (fun _ _ _ h => h) (Or.inl ⟨by rfl, ?_⟩) (by assumption) ?_
          rotate_left
          · (intro w hSw; (try dsimp only at hSw); go_simp; (try with_reducible rfl))
          (try simp only [Act.put, List.setIfInBounds_toArray, List.set_cons_zero, List.set_cons_succ])
          refine wpAnyH_take (i := 6) (oi := ⟨some 97, _, _, _, _, _⟩) (v := ?_) rfl (by kernel_rfl) (by kernel_rfl) (by kernel_rfl) (fun _ _ _ h => h) (Or.inl ⟨by rfl, ?_⟩) (by assumption) ?_
          rotate_left
          · (intro w hSw; (try dsimp only at hSw); go_simp; (try with_reducible rfl))
          (try simp only [Act.put, List.setIfInBounds_toArray, List.set_cons_zero, List.set_cons_succ])
          refine wpAnyH_take (i := 7) (oi := ⟨some 98, _, _, _, _, _⟩) (v := ?_) rfl (by kernel_rfl) (by kernel_rfl) (by kernel_rfl) (fun _ _ _ h => h) (Or.inl ⟨by rfl, ?_⟩) (by assumption) ?_
          rotate_left
          · (intro w hSw; (try dsimp only at hSw); go_simp; (try with_reducible rfl))
          (try simp only [Act.put, List.setIfInBounds_toArray, List.set_cons_zero, List.set_cons_succ])
          refine wpAnyH_take (i := 10) (oi := ⟨some 101, _, _, _, _, _⟩) (v := ?_) rfl (by kernel_rfl) (by kernel_rfl) (by kernel_rfl) (fun _ _ _ h => h) (Or.inl ⟨by rfl, ?_⟩) (by assumption) ?_
          rotate_left
          · (intro w hSw; (try dsimp only at hSw); go_simp; (try with_reducible rfl))
          (try simp only [Act.put, List.setIfInBounds_toArray, List.set_cons_zero, List.set_cons_succ])
          refine wpAnyH_take (i := 11) (oi := ⟨some 102, _, _, _, _, _⟩) (v := ?_) rfl (by kernel_rfl) (by kernel_rfl) (by kernel_rfl) (fun _ _ _ h => h) (Or.inl ⟨by rfl, ?_⟩) (by assumption) ?_
          rotate_left
          · (intro w hSw; (try dsimp only at hSw); go_simp; (try with_reducible rfl))
          (try simp only [Act.put, List.setIfInBounds_toArray, List.set_cons_zero, List.set_cons_succ])
          refine wpAnyH_take (i := 12) (oi := ⟨some 103, _, _, _, _, _⟩) (v := ?_) rfl (by kernel_rfl) (by kernel_rfl) (by kernel_rfl) (fun _ _ _ h => h) (Or.inl ⟨by rfl, ?_⟩) (by assumption) ?_
          rotate_left
          · (intro w hSw; (try dsimp only at hSw); go_simp; (try with_reducible rfl))
          (try simp only [Act.put, List.setIfInBounds_toArray, List.set_cons_zero, List.set_cons_succ])
          refine wpAnyH_ready (rs := [0, 8]) (by kernel_rfl) (by simp) ?_
          refine AllReadyH.cons (o := ⟨some 91, _, _, _, _, _⟩) rfl (fun K hK => ?_) ?_
          · skip
            go_simp
            (first | (refine hK.out _ _ ?_ (fun hH1 => ?_)) | (go_wp2_with fail; refine hK.out _ _ ?_ (fun hH1 => ?_)))
            · first | with_reducible exact ⟨s1.cell ta0, s1.cell ta1⟩ | with_reducible exact ⟨s3.cell ta0, s3.cell ta1⟩
            clear hK K hH0
            (try simp only [Act.put, List.setIfInBounds_toArray, List.set_cons_zero, List.set_cons_succ])
            refine wpAnyH_ready (rs := [4, 8]) (by kernel_rfl) (by simp) ?_
            refine AllReadyH.cons (o := ⟨some 95, _, _, _, _, _⟩) rfl (fun K hK => ?_) ?_
            · skip
              (first | (refine step_append_rows ((wz.alloc (.cells #[] 34)).drew) (by rfl) (.tmp 91) (.tmp 94) 23 (by rfl) wz.heap.size 34 4 32 eZ Try.underlying23 entInfo rfl (by omega) (some ⟨wz.heap.size, 0, none⟩) 0 0 [] (by rfl) E1.out _ X3 i a3 (entCells (L0.take i)) (by rfl) R1 (entCells_one _) (by omega) (by omega) s1.le ?_; intro X5 a5 w6 ho6 hg6; simp only [Nat.zero_add, List.nil_append] at ho6 ⊢; have s6 : St wz w6 := s1.grown hg6 hB1; have s6e := s6.alloc (.cells #[.int .i64 m1, .int .i64 st, .int .i64 sg, .bool true] 34); have one6 := hid trivial) | (refine step_append_rows (((wz.alloc (.cells #[.int .i64 m1, .int .i64 st, .int .i64 sg, .bool true] 34)).alloc (.cells #[] 34)).drew) (by rfl) (.tmp 91) (.tmp 94) 23 (by rfl) wz.heap.size 34 4 32 eZ Try.underlying23 entInfo rfl (by omega) (some ⟨wz.heap.size + 1, 0, none⟩) 0 0 [] (by rfl) E3.out _ X3 i a3 (entCells (L0.take i)) (by rfl) R3 (entCells_one _) (by omega) (by omega) s3.le ?_; intro X5 a5 w6 ho6 hg6; simp only [Nat.zero_add, List.nil_append] at ho6 ⊢; have s6 : St wz w6 := s3.grown hg6 hB3; have one6 := hid (N3.out.grown hg6 hN3)))
              (first | (refine hK.out _ _ ?_ (fun hH2 => ?_)) | (go_wp2_with fail; refine hK.out _ _ ?_ (fun hH2 => ?_)))
              · exact ⟨s6.cell ta0, s6.cell ta1⟩
              clear hK K hH1
              (try simp only [Act.put, List.setIfInBounds_toArray, List.set_cons_zero, List.set_cons_succ])
              refine wpAnyH_ready (rs := [8]) (by kernel_rfl) (by simp) ?_
              refine AllReadyH.cons (o := ⟨some 99, _, _, _, _, _⟩) rfl (fun K hK => ?_) AllReadyH.nil
              go_simp
              (first | (refine hK.out _ _ ?_ (fun hH3 => ?_)) | (go_wp2_with fail; refine hK.out _ _ ?_ (fun hH3 => ?_)))
              · first | with_reducible exact ⟨s4.cell ta0, s4.cell ta1⟩ | with_reducible exact ⟨s2.cell ta0, s2.cell ta1⟩ | with_reducible exact ⟨s6e.cell ta0, s6e.cell ta1⟩
              clear hK K hH2
              (try simp only [Act.put, List.setIfInBounds_toArray, List.set_cons_zero, List.set_cons_succ])
              refine wpAnyH_ready (rs := [9]) (by kernel_rfl) (by simp) ?_
              refine AllReadyH.cons (o := ⟨some 100, _, _, _, _, _⟩) rfl (fun K hK => ?_) AllReadyH.nil
              (refine step_append_rows (w6.alloc (.cells #[.int .i64 m1, .int .i64 st, .int .i64 sg, .bool true] 34)) (by rfl) (.tmp 95) (.tmp 99) 23 (by rfl) wz.heap.size 34 4 32 eZ Try.underlying23 entInfo rfl (by omega) X5 i a5 (entCells (L0.take i)) (by rfl) (World.ownsRow.alloc ho6 (.cells #[.int .i64 m1, .int .i64 st, .int .i64 sg, .bool true] 34)) _ (some ⟨w6.heap.size, 0, none⟩) 1 1 (entCells [(m1, (st, sg), true)]) (by rfl) (Reads.one w6 34 #[.int .i64 m1, .int .i64 st, .int .i64 sg, .bool true] 4 rfl) (entCells_one _) (by omega) (by omega) s6e.le ?_; intro X6 a6 w7' ho7 hg7; rw [← entCells_app] at ho7; have s7 : St wz w7' := s6e.grown hg7 (fun k hk => (World.ownsRow.lt ho6 k (by rw [ownBlock_slice]; exact hk)).1); have x7 := hid ((HQ4.out.st s7).reads))
              (first | (refine hK.out _ _ ?_ (fun hH4 => ?_)) | (go_wp2_with fail; refine hK.out _ _ ?_ (fun hH4 => ?_)))
              · exact ⟨s7.cell ta0, s7.cell ta1⟩
              clear hK K hH3
              (try simp only [Act.put, List.setIfInBounds_toArray, List.set_cons_zero, List.set_cons_succ])
              refine wpAnyH_ready (rs := [13]) (by kernel_rfl) (by simp) ?_
              refine AllReadyH.cons (o := ⟨some 104, _, _, _, _, _⟩) rfl (fun K hK => ?_) AllReadyH.nil
              (refine step_append_rows w7' (by rfl) (.tmp 100) (.tmp 103) 23 (by rfl) wz.heap.size 34 4 32 eZ Try.underlying23 entInfo rfl (by omega) X6 (i + 1) a6 (entCells (L0.take i ++ [(m1, (st, sg), true)])) (by rfl) ho7 _ X4 (r - i) (a3 - i) (entCells (L0.drop i)) (by rfl) x7.out (entCells_one _) (by omega) (by omega) s7.le ?_; intro X7 a7 w8 ho8 hg8; rw [← entCells_app] at ho8; have s8 : St wz w8 := s7.grown hg8 (fun k hk => (World.ownsRow.lt ho7 k (by rw [ownBlock_slice]; exact hk)).1); have g82 := s8.cell ga2; have gf2 := (FA.out.st s8).g.frozen 2)
              (first | (refine hK.out _ _ ?_ (fun hH5 => ?_)) | (go_wp2_with fail; refine hK.out _ _ ?_ (fun hH5 => ?_)))
              · exact ⟨s8.cell ta0, s8.cell ta1⟩
              clear hK K hH4
              (try simp only [Act.put, List.setIfInBounds_toArray, List.set_cons_zero, List.set_cons_succ])
              refine wpAnyH_take (i := 14) (oi := ⟨some 105, _, _, _, _, _⟩) (v := ?_) rfl (by kernel_rfl) (by kernel_rfl) (by kernel_rfl) (fun _ _ _ h => h) (Or.inl ⟨by rfl, ?_⟩) (by assumption) ?_
              rotate_left
              · (intro w hSw; (try dsimp only at hSw); go_simp; (try with_reducible rfl))
              (try simp only [Act.put, List.setIfInBounds_toArray, List.set_cons_zero, List.set_cons_succ])
              refine wpAnyH_ready (rs := [15]) (by kernel_rfl) (by simp) ?_
              refine AllReadyH.cons (o := ⟨none, _, _, _, _, _⟩) rfl (fun K hK => ?_) AllReadyH.nil
              go_simp
              (first | (refine hK.out _ _ ?_ (fun hH6 => ?_)) | (go_wp2_with fail; refine hK.out _ _ ?_ (fun hH6 => ?_)))
              · exact ⟨cell_set (s8.cell ta0) hTG, cell_set (s8.cell ta1) hTG⟩
              clear hK K hH5
              (try simp only [Act.put, List.setIfInBounds_toArray, List.set_cons_zero, List.set_cons_succ])
              refine wpAnyH_done (by kernel_rfl) ?_ _
              clear hH6
              obtain ⟨N, hN⟩ : ∃ N, i + 1 + (r - i) = N := ⟨_, rfl⟩
              rw [hN] at ho8 ⊢
              have hNn : N = r + 1 := by omega
              have hlen8 : (L0.take i ++ [(m1, (st, sg), true)] ++ L0.drop i).length = N := by rw [List.length_append, List.length_append, List.length_take, List.length_drop, HRL.out]; simp; omega
              have PE := hid (show OE w8 wz.heap.size X7 N a7 (insE (m1, (st, sg), true) L0) from by rw [HINS.out]; exact ⟨hlen8, ho8⟩)
              have FB := hid ((FA.out.st s8).set2 X7 N a7)
              have hgB := World.grownBy_set w8 G 2 (.slice X7 N a7)
              have hGb := (FA.out.st s8).g
              have PB := hid (PE.out.blk hGb (by decide) hgB)
              have DB := hid ((CA.out.oh.st s8).blk hGb (by decide) hgB)
              have OB := hid ((OI.st OA.out s8).grown hgB (fun k hk hA => by injection hk with hk; have := (OA.out.lt k hA).1; omega))
              have NEB := hid (show ∀ g, blockOf X7 = some g → blockOf B1 ≠ some g from fun g hg hA => by have h1 := (PE.out.lt g hg).1; have h2 := (CA.out.oh.lt g hA).2; omega)
              clear hlen8 ho8 hg8 s8 hgB hGb PE x7 ho7 hg7 s7 ho6 hg6 s6 one6
              go_wp2_with fail
              go_meet
              exact ⟨X7, N, a7, hNn, FB, PB, DB, OB, NEB⟩
            refine AllReadyH.cons (o := ⟨some 99, _, _, _, _, _⟩) rfl (fun K hK => ?_) ?_
            · skip
              go_simp
              (first | (refine hK.out _ _ ?_ (fun hH2 => ?_)) | (go_wp2_with fail; refine hK.out _ _ ?_ (fun hH2 => ?_)))
              · first | with_reducible exact ⟨s4.cell ta0, s4.cell ta1⟩ | with_reducible exact ⟨s2.cell ta0, s2.cell ta1⟩ | with_reducible exact ⟨s6e.cell ta0, s6e.cell ta1⟩
              clear hK K hH1
              (try simp only [Act.put, List.setIfInBounds_toArray, List.set_cons_zero, List.set_cons_succ])
              refine wpAnyH_ready (rs := [4]) (by kernel_rfl) (by simp) ?_
              refine AllReadyH.cons (o := ⟨some 95, _, _, _, _, _⟩) rfl (fun K hK => ?_) AllReadyH.nil
              (refine step_append_rows (((wz.alloc (.cells #[] 34)).alloc (.cells #[.int .i64 m1, .int .i64 st, .int .i64 sg, .bool true] 34)).drew) (by rfl) (.tmp 91) (.tmp 94) 23 (by rfl) wz.heap.size 34 4 32 eZ Try.underlying23 entInfo rfl (by omega) (some ⟨wz.heap.size, 0, none⟩) 0 0 [] (by rfl) E2.out _ X3 i a3 (entCells (L0.take i)) (by rfl) R2 (entCells_one _) (by omega) (by omega) s2.le ?_; intro X5 a5 w6 ho6 hg6; simp only [Nat.zero_add, List.nil_append] at ho6 ⊢; have s6 : St wz w6 := s2.grown hg6 hB1; have one6 := hid (N2.out.grown hg6 hN2))
              (first | (refine hK.out _ _ ?_ (fun hH3 => ?_)) | (go_wp2_with fail; refine hK.out _ _ ?_ (fun hH3 => ?_)))
              · exact ⟨s6.cell ta0, s6.cell ta1⟩
              clear hK K hH2
              (try simp only [Act.put, List.setIfInBounds_toArray, List.set_cons_zero, List.set_cons_succ])
              refine wpAnyH_ready (rs := [9]) (by kernel_rfl) (by simp) ?_
              refine AllReadyH.cons (o := ⟨some 100, _, _, _, _, _⟩) rfl (fun K hK => ?_) AllReadyH.nil
              (first | (refine step_append_rows w6 (by rfl) (.tmp 95) (.tmp 99) 23 (by rfl) wz.heap.size 34 4 32 eZ Try.underlying23 entInfo rfl (by omega) X5 i a5 (entCells (L0.take i)) (by rfl) ho6 _ (some ⟨wz.heap.size + 1, 0, none⟩) 1 1 (entCells [(m1, (st, sg), true)]) (by rfl) (Blk.reads1 one6.out 4 rfl) (entCells_one _) (by omega) (by omega) s6.le ?_; intro X6 a6 w7' ho7 hg7; rw [← entCells_app] at ho7; have s7 : St wz w7' := s6.grown hg7 (fun k hk => (World.ownsRow.lt ho6 k (by rw [ownBlock_slice]; exact hk)).1); have x7 := hid ((HQ4.out.st s7).reads)) | (refine step_append_rows w6 (by rfl) (.tmp 95) (.tmp 99) 23 (by rfl) wz.heap.size 34 4 32 eZ Try.underlying23 entInfo rfl (by omega) X5 i a5 (entCells (L0.take i)) (by rfl) ho6 _ (some ⟨wz.heap.size, 0, none⟩) 1 1 (entCells [(m1, (st, sg), true)]) (by rfl) (Blk.reads1 one6.out 4 rfl) (entCells_one _) (by omega) (by omega) s6.le ?_; intro X6 a6 w7' ho7 hg7; rw [← entCells_app] at ho7; have s7 : St wz w7' := s6.grown hg7 (fun k hk => (World.ownsRow.lt ho6 k (by rw [ownBlock_slice]; exact hk)).1); have x7 := hid ((HQ4.out.st s7).reads)))
              (first | (refine hK.out _ _ ?_ (fun hH4 => ?_)) | (go_wp2_with fail; refine hK.out _ _ ?_ (fun hH4 => ?_)))
              · exact ⟨s7.cell ta0, s7.cell ta1⟩
              clear hK K hH3
              (try simp only [Act.put, List.setIfInBounds_toArray, List.set_cons_zero, List.set_cons_succ])
              refine wpAnyH_ready (rs := [13]) (by kernel_rfl) (by simp) ?_
              refine AllReadyH.cons (o := ⟨some 104, _, _, _, _, _⟩) rfl (fun K hK => ?_) AllReadyH.nil
              (refine step_append_rows w7' (by rfl) (.tmp 100) (.tmp 103) 23 (by rfl) wz.heap.size 34 4 32 eZ Try.underlying23 entInfo rfl (by omega) X6 (i + 1) a6 (entCells (L0.take i ++ [(m1, (st, sg), true)])) (by rfl) ho7 _ X4 (r - i) (a3 - i) (entCells (L0.drop i)) (by rfl) x7.out (entCells_one _) (by omega) (by omega) s7.le ?_; intro X7 a7 w8 ho8 hg8; rw [← entCells_app] at ho8; have s8 : St wz w8 := s7.grown hg8 (fun k hk => (World.ownsRow.lt ho7 k (by rw [ownBlock_slice]; exact hk)).1); have g82 := s8.cell ga2; have gf2 := (FA.out.st s8).g.frozen 2)
              (first | (refine hK.out _ _ ?_ (fun hH5 => ?_)) | (go_wp2_with fail; refine hK.out _ _ ?_ (fun hH5 => ?_)))
              · exact ⟨s8.cell ta0, s8.cell ta1⟩
              clear hK K hH4
              (try simp only [Act.put, List.setIfInBounds_toArray, List.set_cons_zero, List.set_cons_succ])
              refine wpAnyH_take (i := 14) (oi := ⟨some 105, _, _, _, _, _⟩) (v := ?_) rfl (by kernel_rfl) (by kernel_rfl) (by kernel_rfl) (fun _ _ _ h => h) (Or.inl ⟨by rfl, ?_⟩) (by assumption) ?_
              rotate_left
              · (intro w hSw; (try dsimp only at hSw); go_simp; (try with_reducible rfl))
              (try simp only [Act.put, List.setIfInBounds_toArray, List.set_cons_zero, List.set_cons_succ])
              refine wpAnyH_ready (rs := [15]) (by kernel_rfl) (by simp) ?_
              refine AllReadyH.cons (o := ⟨none, _, _, _, _, _⟩) rfl (fun K hK => ?_) AllReadyH.nil
              go_simp
              (first | (refine hK.out _ _ ?_ (fun hH6 => ?_)) | (go_wp2_with fail; refine hK.out _ _ ?_ (fun hH6 => ?_)))
              · exact ⟨cell_set (s8.cell ta0) hTG, cell_set (s8.cell ta1) hTG⟩
              clear hK K hH5
              (try simp only [Act.put, List.setIfInBounds_toArray, List.set_cons_zero, List.set_cons_succ])
              refine wpAnyH_done (by kernel_rfl) ?_ _
              clear hH6
              obtain ⟨N, hN⟩ : ∃ N, i + 1 + (r - i) = N := ⟨_, rfl⟩
              rw [hN] at ho8 ⊢
              have hNn : N = r + 1 := by omega
              have hlen8 : (L0.take i ++ [(m1, (st, sg), true)] ++ L0.drop i).length = N := by rw [List.length_append, List.length_append, List.length_take, List.length_drop, HRL.out]; simp; omega
              have PE := hid (show OE w8 wz.heap.size X7 N a7 (insE (m1, (st, sg), true) L0) from by rw [HINS.out]; exact ⟨hlen8, ho8⟩)
              have FB := hid ((FA.out.st s8).set2 X7 N a7)
              have hgB := World.grownBy_set w8 G 2 (.slice X7 N a7)
              have hGb := (FA.out.st s8).g
              have PB := hid (PE.out.blk hGb (by decide) hgB)
              have DB := hid ((CA.out.oh.st s8).blk hGb (by decide) hgB)
              have OB := hid ((OI.st OA.out s8).grown hgB (fun k hk hA => by injection hk with hk; have := (OA.out.lt k hA).1; omega))
              have NEB := hid (show ∀ g, blockOf X7 = some g → blockOf B1 ≠ some g from fun g hg hA => by have h1 := (PE.out.lt g hg).1; have h2 := (CA.out.oh.lt g hA).2; omega)
              clear hlen8 ho8 hg8 s8 hgB hGb PE x7 ho7 hg7 s7 ho6 hg6 s6 one6
              go_wp2_with fail
              go_meet
              exact ⟨X7, N, a7, hNn, FB, PB, DB, OB, NEB⟩
            exact AllReadyH.nil
          refine AllReadyH.cons (o := ⟨some 99, _, _, _, _, _⟩) rfl (fun K hK => ?_) ?_
          · skip
            go_simp
            (first | (refine hK.out _ _ ?_ (fun hH1 => ?_)) | (go_wp2_with fail; refine hK.out _ _ ?_ (fun hH1 => ?_)))
            · first | with_reducible exact ⟨s4.cell ta0, s4.cell ta1⟩ | with_reducible exact ⟨s2.cell ta0, s2.cell ta1⟩ | with_reducible exact ⟨s6e.cell ta0, s6e.cell ta1⟩
            clear hK K hH0
            (try simp only [Act.put, List.setIfInBounds_toArray, List.set_cons_zero, List.set_cons_succ])
            refine wpAnyH_ready (rs := [0]) (by kernel_rfl) (by simp) ?_
            refine AllReadyH.cons (o := ⟨some 91, _, _, _, _, _⟩) rfl (fun K hK => ?_) AllReadyH.nil
            go_simp
            (first | (refine hK.out _ _ ?_ (fun hH2 => ?_)) | (go_wp2_with fail; refine hK.out _ _ ?_ (fun hH2 => ?_)))
            · first | with_reducible exact ⟨s1.cell ta0, s1.cell ta1⟩ | with_reducible exact ⟨s3.cell ta0, s3.cell ta1⟩
            clear hK K hH1
            (try simp only [Act.put, List.setIfInBounds_toArray, List.set_cons_zero, List.set_cons_succ])
            refine wpAnyH_ready (rs := [4]) (by kernel_rfl) (by simp) ?_
            refine AllReadyH.cons (o := ⟨some 95, _, _, _, _, _⟩) rfl (fun K hK => ?_) AllReadyH.nil
            (first | (refine step_append_rows ((wz.alloc (.cells #[] 34)).drew) (by rfl) (.tmp 91) (.tmp 94) 23 (by rfl) wz.heap.size 34 4 32 eZ Try.underlying23 entInfo rfl (by omega) (some ⟨wz.heap.size, 0, none⟩) 0 0 [] (by rfl) E1.out _ X3 i a3 (entCells (L0.take i)) (by rfl) R1 (entCells_one _) (by omega) (by omega) s1.le ?_; intro X5 a5 w6 ho6 hg6; simp only [Nat.zero_add, List.nil_append] at ho6 ⊢; have s6 : St wz w6 := s1.grown hg6 hB1; have s6e := s6.alloc (.cells #[.int .i64 m1, .int .i64 st, .int .i64 sg, .bool true] 34); have one6 := hid trivial) | (refine step_append_rows (((wz.alloc (.cells #[.int .i64 m1, .int .i64 st, .int .i64 sg, .bool true] 34)).alloc (.cells #[] 34)).drew) (by rfl) (.tmp 91) (.tmp 94) 23 (by rfl) wz.heap.size 34 4 32 eZ Try.underlying23 entInfo rfl (by omega) (some ⟨wz.heap.size + 1, 0, none⟩) 0 0 [] (by rfl) E3.out _ X3 i a3 (entCells (L0.take i)) (by rfl) R3 (entCells_one _) (by omega) (by omega) s3.le ?_; intro X5 a5 w6 ho6 hg6; simp only [Nat.zero_add, List.nil_append] at ho6 ⊢; have s6 : St wz w6 := s3.grown hg6 hB3; have one6 := hid (N3.out.grown hg6 hN3)))
            (first | (refine hK.out _ _ ?_ (fun hH3 => ?_)) | (go_wp2_with fail; refine hK.out _ _ ?_ (fun hH3 => ?_)))
            · exact ⟨s6.cell ta0, s6.cell ta1⟩
            clear hK K hH2
            (try simp only [Act.put, List.setIfInBounds_toArray, List.set_cons_zero, List.set_cons_succ])
            refine wpAnyH_ready (rs := [9]) (by kernel_rfl) (by simp) ?_
            refine AllReadyH.cons (o := ⟨some 100, _, _, _, _, _⟩) rfl (fun K hK => ?_) AllReadyH.nil
            (first | (refine step_append_rows w6 (by rfl) (.tmp 95) (.tmp 99) 23 (by rfl) wz.heap.size 34 4 32 eZ Try.underlying23 entInfo rfl (by omega) X5 i a5 (entCells (L0.take i)) (by rfl) ho6 _ (some ⟨wz.heap.size + 1, 0, none⟩) 1 1 (entCells [(m1, (st, sg), true)]) (by rfl) (Blk.reads1 one6.out 4 rfl) (entCells_one _) (by omega) (by omega) s6.le ?_; intro X6 a6 w7' ho7 hg7; rw [← entCells_app] at ho7; have s7 : St wz w7' := s6.grown hg7 (fun k hk => (World.ownsRow.lt ho6 k (by rw [ownBlock_slice]; exact hk)).1); have x7 := hid ((HQ4.out.st s7).reads)) | (refine step_append_rows w6 (by rfl) (.tmp 95) (.tmp 99) 23 (by rfl) wz.heap.size 34 4 32 eZ Try.underlying23 entInfo rfl (by omega) X5 i a5 (entCells (L0.take i)) (by rfl) ho6 _ (some ⟨wz.heap.size, 0, none⟩) 1 1 (entCells [(m1, (st, sg), true)]) (by rfl) (Blk.reads1 one6.out 4 rfl) (entCells_one _) (by omega) (by omega) s6.le ?_; intro X6 a6 w7' ho7 hg7; rw [← entCells_app] at ho7; have s7 : St wz w7' := s6.grown hg7 (fun k hk => (World.ownsRow.lt ho6 k (by rw [ownBlock_slice]; exact hk)).1); have x7 := hid ((HQ4.out.st s7).reads)))
            (first | (refine hK.out _ _ ?_ (fun hH4 => ?_)) | (go_wp2_with fail; refine hK.out _ _ ?_ (fun hH4 => ?_)))
            · exact ⟨s7.cell ta0, s7.cell ta1⟩
            clear hK K hH3
            (try simp only [Act.put, List.setIfInBounds_toArray, List.set_cons_zero, List.set_cons_succ])
            refine wpAnyH_ready (rs := [13]) (by kernel_rfl) (by simp) ?_
            refine AllReadyH.cons (o := ⟨some 104, _, _, _, _, _⟩) rfl (fun K hK => ?_) AllReadyH.nil
            (refine step_append_rows w7' (by rfl) (.tmp 100) (.tmp 103) 23 (by rfl) wz.heap.size 34 4 32 eZ Try.underlying23 entInfo rfl (by omega) X6 (i + 1) a6 (entCells (L0.take i ++ [(m1, (st, sg), true)])) (by rfl) ho7 _ X4 (r - i) (a3 - i) (entCells (L0.drop i)) (by rfl) x7.out (entCells_one _) (by omega) (by omega) s7.le ?_; intro X7 a7 w8 ho8 hg8; rw [← entCells_app] at ho8; have s8 : St wz w8 := s7.grown hg8 (fun k hk => (World.ownsRow.lt ho7 k (by rw [ownBlock_slice]; exact hk)).1); have g82 := s8.cell ga2; have gf2 := (FA.out.st s8).g.frozen 2)
            (first | (refine hK.out _ _ ?_ (fun hH5 => ?_)) | (go_wp2_with fail; refine hK.out _ _ ?_ (fun hH5 => ?_)))
            · exact ⟨s8.cell ta0, s8.cell ta1⟩
            clear hK K hH4
            (try simp only [Act.put, List.setIfInBounds_toArray, List.set_cons_zero, List.set_cons_succ])
            refine wpAnyH_take (i := 14) (oi := ⟨some 105, _, _, _, _, _⟩) (v := ?_) rfl (by kernel_rfl) (by kernel_rfl) (by kernel_rfl) (fun _ _ _ h => h) (Or.inl ⟨by rfl, ?_⟩) (by assumption) ?_
            rotate_left
            · (intro w hSw; (try dsimp only at hSw); go_simp; (try with_reducible rfl))
            (try simp only [Act.put, List.setIfInBounds_toArray, List.set_cons_zero, List.set_cons_succ])
            refine wpAnyH_ready (rs := [15]) (by kernel_rfl) (by simp) ?_
            refine AllReadyH.cons (o := ⟨none, _, _, _, _, _⟩) rfl (fun K hK => ?_) AllReadyH.nil
            go_simp
            (first | (refine hK.out _ _ ?_ (fun hH6 => ?_)) | (go_wp2_with fail; refine hK.out _ _ ?_ (fun hH6 => ?_)))
            · exact ⟨cell_set (s8.cell ta0) hTG, cell_set (s8.cell ta1) hTG⟩
            clear hK K hH5
            (try simp only [Act.put, List.setIfInBounds_toArray, List.set_cons_zero, List.set_cons_succ])
            refine wpAnyH_done (by kernel_rfl) ?_ _
            clear hH6
            obtain ⟨N, hN⟩ : ∃ N, i + 1 + (r - i) = N := ⟨_, rfl⟩
            rw [hN] at ho8 ⊢
            have hNn : N = r + 1 := by omega
            have hlen8 : (L0.take i ++ [(m1, (st, sg), true)] ++ L0.drop i).length = N := by rw [List.length_append, List.length_append, List.length_take, List.length_drop, HRL.out]; simp; omega
            have PE := hid (show OE w8 wz.heap.size X7 N a7 (insE (m1, (st, sg), true) L0) from by rw [HINS.out]; exact ⟨hlen8, ho8⟩)
            have FB := hid ((FA.out.st s8).set2 X7 N a7)
            have hgB := World.grownBy_set w8 G 2 (.slice X7 N a7)
            have hGb := (FA.out.st s8).g
            have PB := hid (PE.out.blk hGb (by decide) hgB)
            have DB := hid ((CA.out.oh.st s8).blk hGb (by decide) hgB)
            have OB := hid ((OI.st OA.out s8).grown hgB (fun k hk hA => by injection hk with hk; have := (OA.out.lt k hA).1; omega))
            have NEB := hid (show ∀ g, blockOf X7 = some g → blockOf B1 ≠ some g from fun g hg hA => by have h1 := (PE.out.lt g hg).1; have h2 := (CA.out.oh.lt g hA).2; omega)
            clear hlen8 ho8 hg8 s8 hgB hGb PE x7 ho7 hg7 s7 ho6 hg6 s6 one6
            go_wp2_with fail
            go_meet
            exact ⟨X7, N, a7, hNn, FB, PB, DB, OB, NEB⟩
          exact AllReadyH.nil
        case rest =>
        obtain ⟨X7, N, a7, hNn, FB, PB, DB, OB, NEB⟩ := hcut
        obtain ⟨L, hL⟩ : ∃ L, insE (m1, (st, sg), true) L0 = L := ⟨_, rfl⟩
        have HSG := hid (show setG ⟨I, K, ps, ds⟩ m1 (st, sg) = ⟨I, Kn, L, ds⟩ by unfold setG; simp only; rw [HL0.out, HKN.out, hL])
        rw [hL] at PB
        clear s1 s2 s3 s4 E1 E2 E3 N2 N3 R1 R2 R3 ga2 ta0 ta1 hTG hB1 hB3 hN2 hN3 HTK HQ4 hcut4 hia RA CA FA OA HINS hlow HKN hL
        generalize wz.heap.size = bz at *
        have hmN : m + N ≤ 2002 := by omega
        have HRN := hid hrn
        clear hNn hrn
        go_wp2_with fail
        go_loopw [10] (fun v wr => ∃ (q u x' e' : Nat) (T Pp D : Option Addr), q ≤ N ∧ v = .slice T q u ∧ blockOf Pp = blockOf X7 ∧ Hid (FS w wr G I K (some ad) n c B m d st sg Kn Pp (N - q) e' D (m + q) x') ∧ Hid (OE wr bz X7 N a7 L) ∧ Hid (SE wr Pp (N - q) e' (L.drop q)) ∧ Hid (OE wr w.heap.size D (m + q) x' (ds ++ L.take q)) ∧ Hid (∀ g, blockOf X7 = some g → blockOf D ≠ some g) ∧ Hid (OI wr (G + 1) 3 T q u (msgs (L.take q))) ∧ Hid (∀ z ∈ L.take q, z.2.2 = true)) (fun v _ => N - lenV v)
        case atStart => exact ⟨0, 0, d1, a7, _, X7, B1, Nat.zero_le _, rfl, rfl, FB, PB, PB.out.se, by have := DB.out; simpa using DB, NEB, OB, hid (by simp)⟩
        case round =>
          obtain ⟨wb, rfl⟩ : ∃ wo : World, wo = wr := ⟨_, rfl⟩
          obtain ⟨q, u, x', e', T, Pp, D, hq, rfl, hbP, F, PE, SP, DE, NE, TO, HFI⟩ := hrel
          clear FB PB DB NEB OB
          have g0 := F.out.g.cell_ (i := 0) (v := .int .i64 I) rfl
          have g1 := F.out.g.cell_ (i := 1) (v := .int .i64 Kn) rfl
          have g2 := F.out.g.cell_ (i := 2) (v := .slice Pp (N - q) e') rfl
          have g3 := F.out.g.cell_ (i := 3) (v := .slice D (m + q) x') rfl
          have hLN := hid PE.out.1
          by_cases hlt : q < N
          · obtain ⟨ay2, m2, t2, g2x, f2, rfl, hb2, hy2, y0, y1, y2, y3⟩ := SP.out.at_ (k := 0) (by omega)
            simp only [Nat.zero_mul, add_zero] at y0 y1 y2 y3
            have HY2 := hid (show L[q]? = some (m2, (t2, g2x), f2) by have := hy2.out; rwa [List.getElem?_drop, Nat.add_zero] at this)
            have hN0 : (0 : Int) < ((N - q : Nat) : Int) := by omega
            have hN1 : (0 : Nat) < N - q := by omega
            have hec := SP.out.nc
            have hecm := SP.out.cm
            unfold maxLen at hecm
            cases f2
            · have HEND := hid (del_end (g := ⟨I, Kn, L, ds⟩) (j := q) HFI.out (fun z hz => by have := HY2.out; rw [hz] at this; injection this with this; subst this; rfl))
              clear y0 y1 y2 hy2
              go_wp2_with fail
              refine (l11Copy_any _ _ _ _ _ _ _ _ _ _ _ SP.out DE.out.se (by omega) (by omega)).mono ?_
              rintro e w6 ⟨A5, c5, B5, d5, rfl, C5, s5⟩
              have HR := hid (show finS ⟨I, K, ps, ds⟩ m1 (st, sg) = (⟨I, Kn, L.drop q, ds ++ L.take q⟩, msgs (L.take q), true) from HFS.out.trans (by rw [HSG.out, HEND.out.1, HEND.out.2]))
              have F6 := hid (F.out.st s5)
              have T6 := hid (OI.st TO.out s5)
              have C6 := hid (C5.less F.out.s.le)
              clear C5 s5 HEND g0 g1 g2 g3
              have l0 := F6.out.l.cell_ (i := 0) (v := .int .i64 0) rfl
              have l1 := F6.out.l.cell_ (i := 1) (v := .int .i64 0) rfl
              have l2 := F6.out.l.cell_ (i := 2) (v := .slice none 0 0) rfl
              have l3 := F6.out.l.cell_ (i := 3) (v := .slice none 0 0) rfl
              have lf0 := F6.out.l.frozen 0
              have lf1 := F6.out.l.frozen 1
              have lf2 := F6.out.l.frozen 2
              have lf3 := F6.out.l.frozen 3
              obtain ⟨f1, HQ⟩ := fn_fin HR.out F6.out.l C6.out T6.out F6.out.s (by have := F6.out.lt; omega)
              have r0 := f1.out.cell_ (i := 0) (v := .int .i64 I) rfl
              have r1 := f1.out.cell_ (i := 1) (v := .int .i64 Kn) rfl
              have r2 := f1.out.cell_ (i := 2) (v := .slice A5 (N - q) c5) rfl
              have r3 := f1.out.cell_ (i := 3) (v := .slice B5 (m + q) d5) rfl
              go_wp2_with fail
              refine bodyPost_ret (v := .tuple #[grV I Kn A5 (N - q) c5 B5 (m + q) d5, .slice T q u, .bool true]) (by simp [results, Try.results48, go_sem, r0, r1, r2, r3]) rfl HQ.out
            · have hGl : G + 1 ≤ wb.heap.size := F.out.g.lt
              go_wp2_with (at_builtin; refine wpList_append_int _ rfl _ _ 28 rfl (G + 1) 3 Try.underlying28 intInfo _ _ _ _ m2 rfl TO.out rfl (by omega) hGl ?_; intro T2 u2 w5 ho5 hg5)
              have F5 := hid (F.out.row TO.out (by decide) (by decide) (by have := F.out.lt; omega) hg5)
              have PE5 := hid (PE.out.grown hg5 (fun k hk hX => OI_OE_ne TO.out PE.out k hX hk))
              have SP5 := hid (SP.out.grownB hg5 (fun k hk hP => OI_OE_ne TO.out PE.out k (by rw [← hbP]; exact hP) hk))
              have DE5 := hid (DE.out.grown hg5 (fun k hk hD => OI_OE_ne TO.out DE.out k hD hk))
              have hneT : some ay2.block ≠ blockOf T := fun e => OI_OE_ne TO.out PE.out ay2.block (by rw [← hbP]; rfl) e.symm
              have T5 := hid (show OI w5 (G + 1) 3 T2 (q + 1) u2 (msgs (L.take (q + 1))) by rw [take_snoc HY2.out]; unfold msgs; rw [List.map_append]; exact ho5)
              have z0 := grown_cell hg5 y0 hneT
              have z1 := grown_cell hg5 y1 hneT
              have z2 := grown_cell hg5 y2 hneT
              have z3 := grown_cell hg5 y3 hneT
              clear F PE SP DE TO ho5 hg5 hneT y0 y1 y2 y3 g0 g1 g2 g3 hGl
              have g0 := F5.out.g.cell_ (i := 0) (v := .int .i64 I) rfl
              have g1 := F5.out.g.cell_ (i := 1) (v := .int .i64 Kn) rfl
              have g2 := F5.out.g.cell_ (i := 2) (v := .slice (some ay2) (N - q) e') rfl
              have g3 := F5.out.g.cell_ (i := 3) (v := .slice D (m + q) x') rfl
              have s6 : St w5 ((w5.alloc (.cells #[.int .i64 m2, .int .i64 t2, .int .i64 g2x, .bool true] 34)).drew) := ((St.refl w5).alloc _).drew
              have g63 := s6.cell g3
              have RO := hid (Reads.drew (Reads.one w5 34 #[.int .i64 m2, .int .i64 t2, .int .i64 g2x, .bool true] 4 rfl))
              have D6 := hid (World.ownsRow.dr (World.ownsRow.alloc DE5.out.2 (.cells #[.int .i64 m2, .int .i64 t2, .int .i64 g2x, .bool true] 34)) (w' := (w5.alloc (.cells #[.int .i64 m2, .int .i64 t2, .int .i64 g2x, .bool true] 34)).drew) ⟨1, rfl⟩)
              have HW6 := hid (show w.heap.size ≤ ((w5.alloc (.cells #[.int .i64 m2, .int .i64 t2, .int .i64 g2x, .bool true] 34)).drew).heap.size from (F5.out.s.trans s6).le)
              have hneD : some ay2.block ≠ blockOf D := fun e => NE.out ay2.block (by rw [← hbP]; rfl) e.symm
              have hayG : ay2.block ≠ G := fun e => by
                have h1 := PE5.out.ne_blk F5.out.g (by decide)
                rw [← hbP] at h1
                exact h1 (by rw [← e]; rfl)
              go_cut [] (fun wx => ∃ (D2 : Option Addr) (x2 : Nat), Hid (FS w wx G I K (some ad) n c B m d st sg Kn (some ay2) (N - q) e' D2 (m + q + 1) x2) ∧ Hid (OE wx bz X7 N a7 L) ∧ Hid (SE wx (some ay2) (N - q) e' (L.drop q)) ∧ Hid (OE wx w.heap.size D2 (m + q + 1) x2 (ds ++ L.take (q + 1))) ∧ Hid (∀ g, blockOf X7 = some g → blockOf D2 ≠ some g) ∧ Hid (OI wx (G + 1) 3 T2 (q + 1) u2 (msgs (L.take (q + 1)))))
              case first =>
                refine wp_region_held_drew (S := (fun w' => w'.cell? ⟨G, 2, none⟩ = some (.slice (some ay2) (N - q) e') ∧ w'.cell? ay2 = some (.int .i64 m2) ∧ w'.cell? ⟨ay2.block, ay2.off + 1, none⟩ = some (.int .i64 t2) ∧ w'.cell? ⟨ay2.block, ay2.off + 2, none⟩ = some (.int .i64 g2x) ∧ w'.cell? ⟨ay2.block, ay2.off + 3, none⟩ = some (.bool true))) (by kernel_rfl) ?_ (fun hH0 => ?_)
                · exact ⟨g2, z0, z1, z2, z3⟩
                refine wpAnyH_take (i := 0) (oi := ⟨some 125, _, _, _, _, _⟩) (v := ?_) rfl (by kernel_rfl) (by kernel_rfl) (by kernel_rfl) (fun _ _ _ h => h) (Or.inl ⟨by rfl, ?_⟩) (by assumption) ?_
                rotate_left
                · (intro w hSw; (try dsimp only at hSw); go_simp; (try with_reducible rfl))
                (try simp only [Act.put, List.setIfInBounds_toArray, List.set_cons_zero, List.set_cons_succ])
                refine wpAnyH_take (i := 2) (oi := ⟨some 127, _, _, _, _, _⟩) (v := ?_) rfl (by kernel_rfl) (by kernel_rfl) (by kernel_rfl) (fun _ _ _ h => h) (Or.inl ⟨by rfl, ?_⟩) (by assumption) ?_
                rotate_left
                · (intro w hSw; (try dsimp only at hSw); go_simp; (try with_reducible rfl))
                (try simp only [Act.put, List.setIfInBounds_toArray, List.set_cons_zero, List.set_cons_succ])
                refine wpAnyH_take (i := 3) (oi := ⟨some 128, _, _, _, _, _⟩) (v := ?_) rfl (by kernel_rfl) (by kernel_rfl) (by kernel_rfl) (fun _ _ _ h => h) (Or.inl ⟨by rfl, ?_⟩) (by assumption) ?_
                rotate_left
                · (intro w hSw; (try dsimp only at hSw); go_simp; (try with_reducible rfl))
                (try simp only [Act.put, List.setIfInBounds_toArray, List.set_cons_zero, List.set_cons_succ])
                refine wpAnyH_take (i := 4) (oi := ⟨some 129, _, _, _, _, _⟩) (v := ?_) rfl (by kernel_rfl) (by kernel_rfl) (by kernel_rfl) (fun _ _ _ h => h) (Or.inl ⟨by rfl, ?_⟩) (by assumption) ?_
                rotate_left
                · (intro w hSw; (try dsimp only at hSw); go_simp; (try with_reducible rfl))
                (try simp only [Act.put, List.setIfInBounds_toArray, List.set_cons_zero, List.set_cons_succ])
                refine wpAnyH_take (i := 5) (oi := ⟨some 130, _, _, _, _, _⟩) (v := ?_) rfl (by kernel_rfl) (by kernel_rfl) (by kernel_rfl) (fun _ _ _ h => h) (Or.inl ⟨by rfl, ?_⟩) (by assumption) ?_
                rotate_left
                · (intro w hSw; (try dsimp only at hSw); go_simp; (try with_reducible rfl))
                (try simp only [Act.put, List.setIfInBounds_toArray, List.set_cons_zero, List.set_cons_succ])
                refine wpAnyH_ready (rs := [1, 6]) (by kernel_rfl) (by simp) ?_
                refine AllReadyH.cons (o := ⟨some 126, _, _, _, _, _⟩) rfl (fun K hK => ?_) ?_
                · skip
                  go_simp
                  (first | (refine hK.out _ _ ?_ (fun hH1 => ?_)) | (go_wp2_with fail; refine hK.out _ _ ?_ (fun hH1 => ?_)))
                  · first | with_reducible exact ⟨g2, z0, z1, z2, z3⟩ | exact ⟨g2, z0, z1, z2, z3⟩ | exact ⟨s6.cell g2, s6.cell z0, s6.cell z1, s6.cell z2, s6.cell z3⟩
                  clear hK K hH0
                  (try simp only [Act.put, List.setIfInBounds_toArray, List.set_cons_zero, List.set_cons_succ])
                  refine wpAnyH_ready (rs := [6]) (by kernel_rfl) (by simp) ?_
                  refine AllReadyH.cons (o := ⟨some 131, _, _, _, _, _⟩) rfl (fun K hK => ?_) AllReadyH.nil
                  go_simp
                  (first | (refine hK.out _ _ ?_ (fun hH2 => ?_)) | (go_wp2_with fail; refine hK.out _ _ ?_ (fun hH2 => ?_)))
                  · exact ⟨s6.cell g2, s6.cell z0, s6.cell z1, s6.cell z2, s6.cell z3⟩
                  clear hK K hH1
                  (try simp only [Act.put, List.setIfInBounds_toArray, List.set_cons_zero, List.set_cons_succ])
                  refine wpAnyH_ready (rs := [7]) (by kernel_rfl) (by simp) ?_
                  refine AllReadyH.cons (o := ⟨some 132, _, _, _, _, _⟩) rfl (fun K hK => ?_) AllReadyH.nil
                  (refine step_append_rows_at ((w5.alloc (.cells #[.int .i64 m2, .int .i64 t2, .int .i64 g2x, .bool true] 34)).drew) (by rfl) (.tmp 126) (.tmp 131) 23 (by rfl) w.heap.size 34 4 32 eZ Try.underlying23 entInfo rfl (by omega) D (m + q) x' (entCells (ds ++ L.take q)) (by rfl) D6.out _ (some ⟨w5.heap.size, 0, none⟩) 1 1 (entCells [(m2, (t2, g2x), true)]) (by rfl) RO.out (entCells_one _) (by omega) (by omega) HW6.out ?_; intro D2 x2 w7 ho7 hg7 hat; rw [← entCells_app] at ho7; have F7 := hid ((F5.out.st s6).row D6.out (by decide) (by decide) (Nat.le_refl _) hg7); have g73 := F7.out.g.cell_ (i := 3) (v := .slice D (m + q) x') rfl; have gf3 := F7.out.g.frozen 3; have v0 := grown_cell hg7 (s6.cell z0) hneD; have v1 := grown_cell hg7 (s6.cell z1) hneD; have v2 := grown_cell hg7 (s6.cell z2) hneD; have v3 := grown_cell hg7 (s6.cell z3) hneD; have g72 := F7.out.g.cell_ (i := 2) (v := .slice (some ay2) (N - q) e') rfl)
                  (first | (refine hK.out _ _ ?_ (fun hH3 => ?_)) | (go_wp2_with fail; refine hK.out _ _ ?_ (fun hH3 => ?_)))
                  · exact ⟨g72, v0, v1, v2, v3⟩
                  clear hK K hH2
                  (try simp only [Act.put, List.setIfInBounds_toArray, List.set_cons_zero, List.set_cons_succ])
                  refine wpAnyH_take (i := 8) (oi := ⟨some 133, _, _, _, _, _⟩) (v := ?_) rfl (by kernel_rfl) (by kernel_rfl) (by kernel_rfl) (fun _ _ _ h => h) (Or.inl ⟨by rfl, ?_⟩) (by assumption) ?_
                  rotate_left
                  · (intro w hSw; (try dsimp only at hSw); go_simp; (try with_reducible rfl))
                  (try simp only [Act.put, List.setIfInBounds_toArray, List.set_cons_zero, List.set_cons_succ])
                  refine wpAnyH_ready (rs := [9]) (by kernel_rfl) (by simp) ?_
                  refine AllReadyH.cons (o := ⟨none, _, _, _, _, _⟩) rfl (fun K hK => ?_) AllReadyH.nil
                  go_simp
                  (first | (refine hK.out _ _ ?_ (fun hH4 => ?_)) | (go_wp2_with fail; refine hK.out _ _ ?_ (fun hH4 => ?_)))
                  · exact ⟨(F7.out.set3 D2 (m + q + 1) x2).g.cell_ (i := 2) (v := .slice (some ay2) (N - q) e') rfl, cell_set v0 hayG, cell_set v1 hayG, cell_set v2 hayG, cell_set v3 hayG⟩
                  clear hK K hH3
                  (try simp only [Act.put, List.setIfInBounds_toArray, List.set_cons_zero, List.set_cons_succ])
                  refine wpAnyH_done (by kernel_rfl) ?_ _
                  clear hH4
                  have PE7 := hid ((PE5.out.st s6).grown hg7 (fun k hk hX => NE.out k hX hk))
                  have SP7 := hid ((SP5.out.st s6).grownB hg7 (fun k hk hP => NE.out k (by rw [← hbP]; exact hP) hk))
                  have T7 := hid (OI.grown (OI.st T5.out s6) hg7 (fun k hk hT => OI_OE_ne T5.out DE5.out k hk hT))
                  have NE7 := hid (show ∀ g, blockOf X7 = some g → blockOf D2 ≠ some g from fun g hg hD => by
                    rcases hat with h | h
                    · rw [h] at hD; exact NE.out g hg hD
                    · rw [h] at hD
                      injection hD with hD
                      have := ((PE5.out.st s6).lt g hg).2
                      omega)
                  have DE7 := hid (show OE w7 w.heap.size D2 (m + q + 1) x2 (ds ++ L.take (q + 1)) by
                    rw [take_snoc HY2.out, ← List.append_assoc]
                    exact ⟨by rw [List.length_append, DE5.out.1]; rfl, ho7⟩)
                  have F8 := hid (F7.out.set3 D2 (m + q + 1) x2)
                  have hgB := World.grownBy_set w7 G 3 (.slice D2 (m + q + 1) x2)
                  have PE8 := hid (PE7.out.blk F7.out.g (by decide) hgB)
                  have SP8 := hid (SP7.out.grownB hgB (fun k hk hP => by injection hk with hk; subst hk; injection hP with hP; exact hayG hP))
                  have DE8 := hid (DE7.out.blk F7.out.g (by decide) hgB)
                  have T8 := hid (T7.out.grown hgB (fun k hk hA => by injection hk with hk; have := (T7.out.lt k hA).1; omega))
                  clear ho7 hg7 hat F7 PE7 SP7 T7 DE7 hgB
                  go_wp2_with fail
                  go_meet
                  exact ⟨D2, x2, F8, PE8, SP8, DE8, NE7, T8⟩
                refine AllReadyH.cons (o := ⟨some 131, _, _, _, _, _⟩) rfl (fun K hK => ?_) ?_
                · skip
                  go_simp
                  (first | (refine hK.out _ _ ?_ (fun hH1 => ?_)) | (go_wp2_with fail; refine hK.out _ _ ?_ (fun hH1 => ?_)))
                  · exact ⟨s6.cell g2, s6.cell z0, s6.cell z1, s6.cell z2, s6.cell z3⟩
                  clear hK K hH0
                  (try simp only [Act.put, List.setIfInBounds_toArray, List.set_cons_zero, List.set_cons_succ])
                  refine wpAnyH_ready (rs := [1]) (by kernel_rfl) (by simp) ?_
                  refine AllReadyH.cons (o := ⟨some 126, _, _, _, _, _⟩) rfl (fun K hK => ?_) AllReadyH.nil
                  go_simp
                  (first | (refine hK.out _ _ ?_ (fun hH2 => ?_)) | (go_wp2_with fail; refine hK.out _ _ ?_ (fun hH2 => ?_)))
                  · first | with_reducible exact ⟨g2, z0, z1, z2, z3⟩ | exact ⟨g2, z0, z1, z2, z3⟩ | exact ⟨s6.cell g2, s6.cell z0, s6.cell z1, s6.cell z2, s6.cell z3⟩
                  clear hK K hH1
                  (try simp only [Act.put, List.setIfInBounds_toArray, List.set_cons_zero, List.set_cons_succ])
                  refine wpAnyH_ready (rs := [7]) (by kernel_rfl) (by simp) ?_
                  refine AllReadyH.cons (o := ⟨some 132, _, _, _, _, _⟩) rfl (fun K hK => ?_) AllReadyH.nil
                  (refine step_append_rows_at ((w5.alloc (.cells #[.int .i64 m2, .int .i64 t2, .int .i64 g2x, .bool true] 34)).drew) (by rfl) (.tmp 126) (.tmp 131) 23 (by rfl) w.heap.size 34 4 32 eZ Try.underlying23 entInfo rfl (by omega) D (m + q) x' (entCells (ds ++ L.take q)) (by rfl) D6.out _ (some ⟨w5.heap.size, 0, none⟩) 1 1 (entCells [(m2, (t2, g2x), true)]) (by rfl) RO.out (entCells_one _) (by omega) (by omega) HW6.out ?_; intro D2 x2 w7 ho7 hg7 hat; rw [← entCells_app] at ho7; have F7 := hid ((F5.out.st s6).row D6.out (by decide) (by decide) (Nat.le_refl _) hg7); have g73 := F7.out.g.cell_ (i := 3) (v := .slice D (m + q) x') rfl; have gf3 := F7.out.g.frozen 3; have v0 := grown_cell hg7 (s6.cell z0) hneD; have v1 := grown_cell hg7 (s6.cell z1) hneD; have v2 := grown_cell hg7 (s6.cell z2) hneD; have v3 := grown_cell hg7 (s6.cell z3) hneD; have g72 := F7.out.g.cell_ (i := 2) (v := .slice (some ay2) (N - q) e') rfl)
                  (first | (refine hK.out _ _ ?_ (fun hH3 => ?_)) | (go_wp2_with fail; refine hK.out _ _ ?_ (fun hH3 => ?_)))
                  · exact ⟨g72, v0, v1, v2, v3⟩
                  clear hK K hH2
                  (try simp only [Act.put, List.setIfInBounds_toArray, List.set_cons_zero, List.set_cons_succ])
                  refine wpAnyH_take (i := 8) (oi := ⟨some 133, _, _, _, _, _⟩) (v := ?_) rfl (by kernel_rfl) (by kernel_rfl) (by kernel_rfl) (fun _ _ _ h => h) (Or.inl ⟨by rfl, ?_⟩) (by assumption) ?_
                  rotate_left
                  · (intro w hSw; (try dsimp only at hSw); go_simp; (try with_reducible rfl))
                  (try simp only [Act.put, List.setIfInBounds_toArray, List.set_cons_zero, List.set_cons_succ])
                  refine wpAnyH_ready (rs := [9]) (by kernel_rfl) (by simp) ?_
                  refine AllReadyH.cons (o := ⟨none, _, _, _, _, _⟩) rfl (fun K hK => ?_) AllReadyH.nil
                  go_simp
                  (first | (refine hK.out _ _ ?_ (fun hH4 => ?_)) | (go_wp2_with fail; refine hK.out _ _ ?_ (fun hH4 => ?_)))
                  · exact ⟨(F7.out.set3 D2 (m + q + 1) x2).g.cell_ (i := 2) (v := .slice (some ay2) (N - q) e') rfl, cell_set v0 hayG, cell_set v1 hayG, cell_set v2 hayG, cell_set v3 hayG⟩
                  clear hK K hH3
                  (try simp only [Act.put, List.setIfInBounds_toArray, List.set_cons_zero, List.set_cons_succ])
                  refine wpAnyH_done (by kernel_rfl) ?_ _
                  clear hH4
                  have PE7 := hid ((PE5.out.st s6).grown hg7 (fun k hk hX => NE.out k hX hk))
                  have SP7 := hid ((SP5.out.st s6).grownB hg7 (fun k hk hP => NE.out k (by rw [← hbP]; exact hP) hk))
                  have T7 := hid (OI.grown (OI.st T5.out s6) hg7 (fun k hk hT => OI_OE_ne T5.out DE5.out k hk hT))
                  have NE7 := hid (show ∀ g, blockOf X7 = some g → blockOf D2 ≠ some g from fun g hg hD => by
                    rcases hat with h | h
                    · rw [h] at hD; exact NE.out g hg hD
                    · rw [h] at hD
                      injection hD with hD
                      have := ((PE5.out.st s6).lt g hg).2
                      omega)
                  have DE7 := hid (show OE w7 w.heap.size D2 (m + q + 1) x2 (ds ++ L.take (q + 1)) by
                    rw [take_snoc HY2.out, ← List.append_assoc]
                    exact ⟨by rw [List.length_append, DE5.out.1]; rfl, ho7⟩)
                  have F8 := hid (F7.out.set3 D2 (m + q + 1) x2)
                  have hgB := World.grownBy_set w7 G 3 (.slice D2 (m + q + 1) x2)
                  have PE8 := hid (PE7.out.blk F7.out.g (by decide) hgB)
                  have SP8 := hid (SP7.out.grownB hgB (fun k hk hP => by injection hk with hk; subst hk; injection hP with hP; exact hayG hP))
                  have DE8 := hid (DE7.out.blk F7.out.g (by decide) hgB)
                  have T8 := hid (T7.out.grown hgB (fun k hk hA => by injection hk with hk; have := (T7.out.lt k hA).1; omega))
                  clear ho7 hg7 hat F7 PE7 SP7 T7 DE7 hgB
                  go_wp2_with fail
                  go_meet
                  exact ⟨D2, x2, F8, PE8, SP8, DE8, NE7, T8⟩
                exact AllReadyH.nil
              case rest =>
              obtain ⟨D2, x2, F8, PE8, SP8, DE8, NE7, T8⟩ := hcut
              clear g0 g1 g2 g3 g63 z0 z1 z2 z3 s6 RO D6 HW6 hneD hayG F5 PE5 SP5 DE5 T5 NE
              have g0 := F8.out.g.cell_ (i := 0) (v := .int .i64 I) rfl
              have g1 := F8.out.g.cell_ (i := 1) (v := .int .i64 Kn) rfl
              have g2 := F8.out.g.cell_ (i := 2) (v := .slice (some ay2) (N - q) e') rfl
              have g3 := F8.out.g.cell_ (i := 3) (v := .slice D2 (m + q + 1) x2) rfl
              have gf2 := F8.out.g.frozen 2
              obtain ⟨P9, hP9⟩ : ∃ X, X = (if e' = 1 then some ay2 else (some ay2).map (·.add (1 * 4))) := ⟨_, rfl⟩
              have hcut9 : ∀ W, (Instr.slice 23 (.slice (some ay2) (N - q) e') (some (.int .i64 1)) none none).run Try.prog W = .ok (.slice P9 (N - q - 1) (e' - 1)) W := fun W => by
                have := cut_ents (some ay2) (n := N - q) (c := e') 1 (by omega) (by omega) W
                rwa [← hP9] at this
              have SP9 := hid (SP8.out.cut (k := 1) (by omega))
              rw [← hP9, List.drop_drop] at SP9
              have hb9 : blockOf P9 = blockOf X7 := by rw [hP9, blockOf_cut]; exact hbP
              have F9 := hid (F8.out.set2 P9 (N - q - 1) (e' - 1))
              have hgB := World.grownBy_set wc G 2 (.slice P9 (N - q - 1) (e' - 1))
              have PE9 := hid (PE8.out.blk F8.out.g (by decide) hgB)
              have hXG : blockOf X7 ≠ some G := PE8.out.ne_blk F8.out.g (by decide)
              have SP10 := hid (SP9.out.grownB hgB (fun k hk hP => by injection hk with hk; subst hk; rw [hb9] at hP; exact hXG hP))
              have DE9 := hid (DE8.out.blk F8.out.g (by decide) hgB)
              have T9 := hid (T8.out.grown hgB (fun k hk hA => by injection hk with hk; have := (T8.out.lt k hA).1; omega))
              have hfi := hid (del_step (g := ⟨I, Kn, L, ds⟩) HFI.out HY2.out rfl)
              have hsub : N - q - 1 = N - (q + 1) := by omega
              rw [hsub] at F9 SP10
              clear hP9 hgB hXG SP9 PE8 SP8 DE8 T8 hy2
              go_wp2_with fail
              go_roundw
              case rel => exact ⟨q + 1, u2, x2, e' - 1, T2, P9, D2, by omega, by rfl, hb9, F9, PE9, SP10, DE9, NE7, T9, hfi⟩
              case measure => simp [lenV]; omega
          · have hz : N - q = 0 := by omega
            have hqN : q = N := by omega
            have HEND := hid (del_end (g := ⟨I, Kn, L, ds⟩) (j := q) HFI.out (fun z hz => by have h1 : q < L.length := (List.getElem?_eq_some_iff.1 hz).1; have h2 := hLN.out; omega))
            rw [hz] at F SP
            have hmq : m + q ≤ 2002 := by omega
            clear g0 g1 g2 g3 hz hqN hlt hq hmN
            have g0 := F.out.g.cell_ (i := 0) (v := .int .i64 I) rfl
            have g1 := F.out.g.cell_ (i := 1) (v := .int .i64 Kn) rfl
            have g2 := F.out.g.cell_ (i := 2) (v := .slice Pp 0 e') rfl
            have g3 := F.out.g.cell_ (i := 3) (v := .slice D (m + q) x') rfl
            go_wp2_with fail
            refine (l11Copy_any _ _ _ _ _ _ _ _ _ _ _ SP.out DE.out.se (by omega) (by omega)).mono ?_
            rintro e w6 ⟨A5, c5, B5, d5, rfl, C5, s5⟩
            have HR := hid (show finS ⟨I, K, ps, ds⟩ m1 (st, sg) = (⟨I, Kn, L.drop q, ds ++ L.take q⟩, msgs (L.take q), true) from HFS.out.trans (by rw [HSG.out, HEND.out.1, HEND.out.2]))
            have F6 := hid (F.out.st s5)
            have T6 := hid (OI.st TO.out s5)
            have C6 := hid (C5.less F.out.s.le)
            clear C5 s5 HEND g0 g1 g2 g3
            have l0 := F6.out.l.cell_ (i := 0) (v := .int .i64 0) rfl
            have l1 := F6.out.l.cell_ (i := 1) (v := .int .i64 0) rfl
            have l2 := F6.out.l.cell_ (i := 2) (v := .slice none 0 0) rfl
            have l3 := F6.out.l.cell_ (i := 3) (v := .slice none 0 0) rfl
            have lf0 := F6.out.l.frozen 0
            have lf1 := F6.out.l.frozen 1
            have lf2 := F6.out.l.frozen 2
            have lf3 := F6.out.l.frozen 3
            obtain ⟨f1, HQ⟩ := fn_fin HR.out F6.out.l C6.out T6.out F6.out.s (by have := F6.out.lt; omega)
            have r0 := f1.out.cell_ (i := 0) (v := .int .i64 I) rfl
            have r1 := f1.out.cell_ (i := 1) (v := .int .i64 Kn) rfl
            have r2 := f1.out.cell_ (i := 2) (v := .slice A5 0 c5) rfl
            have r3 := f1.out.cell_ (i := 3) (v := .slice B5 (m + q) d5) rfl
            go_wp2_with fail
            refine bodyPost_ret (v := .tuple #[grV I Kn A5 0 c5 B5 (m + q) d5, .slice T q u, .bool true]) (by simp [results, Try.results48, go_sem, r0, r1, r2, r3]) rfl HQ.out
end Go.Proofs.Ytkhgemgmnchodaa
