/- The reference: GroupPropose. -/
import Derived.Test.YtfepegellpegdaaGr10
import Derived.Test.YtfepegellpegdaaGr6
import Derived.Deep.DeepCutAuto
namespace Go.Proofs.Ytfepegellpegdaa
open Go.RowKit Go.Sort
set_option maxRecDepth 100000 in
set_option maxHeartbeats 1000000 in
theorem specGroupPropose_any (I K : Int) (A B : Option Addr) (n c m d : Nat) (ps ds : List Ent) (x : Int) (w : World) (h : SE w A n c ps) (h' : SE w B m d ds) (hn : n ≤ 1048576) (hm : m ≤ 1048576) :
    Calls Try.prog 37 #[grV I K A n c B m d, .int .i64 x] w (PrEnd (propM ⟨I, K, ps, ds⟩ x) w) := by
  have s0 := (((St.refl w).alloc (.cells (grC I K A n c B m d) 25)).alloc (.cells (grC 0 0 none 0 0 none 0 0) 25)).alloc (.cells #[.int .i64 0, .int .i64 0] 29)
  have K0 := hid (((Blk.new w 25 (grC I K A n c B m d)).alloc (.cells (grC 0 0 none 0 0 none 0 0) 25)).alloc (.cells #[.int .i64 0, .int .i64 0] 29))
  have L0 := hid ((blk_second w (.cells (grC I K A n c B m d) 25) 25 (grC 0 0 none 0 0 none 0 0)).alloc (.cells #[.int .i64 0, .int .i64 0] 29))
  have T0 := hid (blk_third w (.cells (grC I K A n c B m d) 25) (.cells (grC 0 0 none 0 0 none 0 0) 25) 29 #[.int .i64 0, .int .i64 0])
  have H0 := hid (h.st s0)
  have H0' := hid (h'.st s0)
  have S0 := hid s0
  have HL := hid h.len
  have HL' := hid h'.len
  clear s0 h h'
  go_enter Try.func37, Try.ntmps37
  go_upto_region 1 with (fail)
  generalize ((w.alloc (.cells _ 25)).alloc (.cells _ 25)).alloc (.cells _ 29) = w0 at *
  have k0 := K0.out.cell_ (i := 0) (v := .int .i64 I) rfl
  have k1 := K0.out.cell_ (i := 1) (v := .int .i64 K) rfl
  have k2 := K0.out.cell_ (i := 2) (v := .slice A n c) rfl
  have k3 := K0.out.cell_ (i := 3) (v := .slice B m d) rfl
  go_wp2_with fail
  refine (specGroupValid_any _ _ _ _ _ _ _ _ _ _ _ H0.out H0'.out).mono ?_
  rintro e w1 ⟨rfl, s1⟩
  replace K0 := hid (K0.out.st s1)
  replace L0 := hid (L0.out.st s1)
  replace T0 := hid (T0.out.st s1)
  replace H0 := hid (H0.out.st s1)
  replace H0' := hid (H0'.out.st s1)
  replace k0 := s1.cell k0
  replace k1 := s1.cell k1
  replace k2 := s1.cell k2
  replace k3 := s1.cell k3
  have S1 := hid (S0.out.trans s1)
  clear s1 S0
  cases hv : grOk ⟨I, K, ps, ds⟩
  · skip
    have HP := hid (propM_bad (g := ⟨I, K, ps, ds⟩) (m := x) (by rw [hv]; rfl))
    obtain ⟨f1, f2, f3, f4⟩ := pr_fin (I := 0) (K := 0) (t := 0) (g := 0) L0.out T0.out (show OwGr w1 w.heap.size 0 0 none 0 0 none 0 0 [] [] from ⟨OE.nil _ _, OE.nil _ _, fun g hg => by cases hg⟩) S1.out (Nat.le_succ _) (by omega) (Nat.ne_of_lt (Nat.lt_succ_self _))
    have l0 := L0.out.cell_ (i := 0) (v := .int .i64 0) rfl
    have l1 := L0.out.cell_ (i := 1) (v := .int .i64 0) rfl
    have l2 := L0.out.cell_ (i := 2) (v := .slice none 0 0) rfl
    have l3 := L0.out.cell_ (i := 3) (v := .slice none 0 0) rfl
    have lf0 := L0.out.frozen 0
    have lf1 := L0.out.frozen 1
    have lf2 := L0.out.frozen 2
    have lf3 := L0.out.frozen 3
    have t0 := T0.out.cell_ (i := 0) (v := .int .i64 0) rfl
    have t1 := T0.out.cell_ (i := 1) (v := .int .i64 0) rfl
    have tf0 := T0.out.frozen 0
    have tf1 := T0.out.frozen 1
    have r0 := f1.out.cell_ (i := 0) (v := .int .i64 0) rfl
    have r1 := f1.out.cell_ (i := 1) (v := .int .i64 0) rfl
    have r2 := f1.out.cell_ (i := 2) (v := .slice none 0 0) rfl
    have r3 := f1.out.cell_ (i := 3) (v := .slice none 0 0) rfl
    have u0 := f2.out.cell_ (i := 0) (v := .int .i64 0) rfl
    have u1 := f2.out.cell_ (i := 1) (v := .int .i64 0) rfl
    go_wp2_with fail
    refine bodyPost_ret (v := .tuple #[grV 0 0 none 0 0 none 0 0, .agg #[.int .i64 0, .int .i64 0], .bool false]) (by simp [results, Try.results37, go_sem, r0, r1, r2, r3, u0, u1]) rfl ?_
    unfold PrEnd
    rw [HP.out]
    exact ⟨_, _, _, _, _, _, rfl, f3.out, f4.out⟩
  have V := hid (grOk_iff.1 hv)
  have hn : n ≤ 999 := by have h1 := V.out.small.1; have h2 := HL.out; simp only at h1; omega
  go_wp2_with fail
  refine (l11Message_any _ _).mono ?_
  rintro e w2 ⟨rfl, rfl⟩
  cases hx : isMsg x
  · skip
    have HP := hid (propM_bad (g := ⟨I, K, ps, ds⟩) (m := x) (by rw [hv]; rw [hx]; rfl))
    obtain ⟨f1, f2, f3, f4⟩ := pr_fin (I := 0) (K := 0) (t := 0) (g := 0) L0.out T0.out (show OwGr w1 w.heap.size 0 0 none 0 0 none 0 0 [] [] from ⟨OE.nil _ _, OE.nil _ _, fun g hg => by cases hg⟩) S1.out (Nat.le_succ _) (by omega) (Nat.ne_of_lt (Nat.lt_succ_self _))
    have l0 := L0.out.cell_ (i := 0) (v := .int .i64 0) rfl
    have l1 := L0.out.cell_ (i := 1) (v := .int .i64 0) rfl
    have l2 := L0.out.cell_ (i := 2) (v := .slice none 0 0) rfl
    have l3 := L0.out.cell_ (i := 3) (v := .slice none 0 0) rfl
    have lf0 := L0.out.frozen 0
    have lf1 := L0.out.frozen 1
    have lf2 := L0.out.frozen 2
    have lf3 := L0.out.frozen 3
    have t0 := T0.out.cell_ (i := 0) (v := .int .i64 0) rfl
    have t1 := T0.out.cell_ (i := 1) (v := .int .i64 0) rfl
    have tf0 := T0.out.frozen 0
    have tf1 := T0.out.frozen 1
    have r0 := f1.out.cell_ (i := 0) (v := .int .i64 0) rfl
    have r1 := f1.out.cell_ (i := 1) (v := .int .i64 0) rfl
    have r2 := f1.out.cell_ (i := 2) (v := .slice none 0 0) rfl
    have r3 := f1.out.cell_ (i := 3) (v := .slice none 0 0) rfl
    have u0 := f2.out.cell_ (i := 0) (v := .int .i64 0) rfl
    have u1 := f2.out.cell_ (i := 1) (v := .int .i64 0) rfl
    go_wp2_with fail
    refine bodyPost_ret (v := .tuple #[grV 0 0 none 0 0 none 0 0, .agg #[.int .i64 0, .int .i64 0], .bool false]) (by simp [results, Try.results37, go_sem, r0, r1, r2, r3, u0, u1]) rfl ?_
    unfold PrEnd
    rw [HP.out]
    exact ⟨_, _, _, _, _, _, rfl, f3.out, f4.out⟩
  have HPM := hid (propM_ok V.out hx)
  have hK0 := V.out.ck.1
  simp only at hK0
  go_wp2_with fail
  refine (l11Propose_any I K A B n c m d ps ds x _ H0.out H0'.out (by omega) hm (by omega)).mono ?_
  rintro e w3 ⟨A1, n1, c1, B1, m1, d1, rfl, C3, s3⟩
  replace L0 := hid (L0.out.st s3)
  replace T0 := hid (T0.out.st s3)
  have S3 := hid (S1.out.trans s3)
  have C4 := hid (C3.less S1.out.le)
  obtain ⟨⟨⟨I', K', ps', ds'⟩, ⟨t', g'⟩, ok⟩, hr⟩ : ∃ r, propS ⟨I, K, ps, ds⟩ x = r := ⟨_, rfl⟩
  rw [hr] at HPM C4 ⊢
  clear hr C3 s3 S1 H0 H0' K0 k0 k1 k2 k3
  simp only at C4 ⊢
  obtain ⟨f1, f2, f3, f4⟩ := pr_fin (I := I') (K := K') (t := t') (g := g') L0.out T0.out C4.out S3.out (Nat.le_succ _) (by omega) (Nat.ne_of_lt (Nat.lt_succ_self _))
  have l0 := L0.out.cell_ (i := 0) (v := .int .i64 0) rfl
  have l1 := L0.out.cell_ (i := 1) (v := .int .i64 0) rfl
  have l2 := L0.out.cell_ (i := 2) (v := .slice none 0 0) rfl
  have l3 := L0.out.cell_ (i := 3) (v := .slice none 0 0) rfl
  have lf0 := L0.out.frozen 0
  have lf1 := L0.out.frozen 1
  have lf2 := L0.out.frozen 2
  have lf3 := L0.out.frozen 3
  have t0 := T0.out.cell_ (i := 0) (v := .int .i64 0) rfl
  have t1 := T0.out.cell_ (i := 1) (v := .int .i64 0) rfl
  have tf0 := T0.out.frozen 0
  have tf1 := T0.out.frozen 1
  have r0 := f1.out.cell_ (i := 0) (v := .int .i64 I') rfl
  have r1 := f1.out.cell_ (i := 1) (v := .int .i64 K') rfl
  have r2 := f1.out.cell_ (i := 2) (v := .slice A1 n1 c1) rfl
  have r3 := f1.out.cell_ (i := 3) (v := .slice B1 m1 d1) rfl
  have u0 := f2.out.cell_ (i := 0) (v := .int .i64 t') rfl
  have u1 := f2.out.cell_ (i := 1) (v := .int .i64 g') rfl
  go_wp2_with fail
  refine bodyPost_ret (v := .tuple #[grV I' K' A1 n1 c1 B1 m1 d1, .agg #[.int .i64 t', .int .i64 g'], .bool ok]) (by simp [results, Try.results37, go_sem, r0, r1, r2, r3, u0, u1]) rfl ?_
  unfold PrEnd
  rw [HPM.out]
  exact ⟨_, _, _, _, _, _, rfl, f3.out, f4.out⟩
end Go.Proofs.Ytfepegellpegdaa
