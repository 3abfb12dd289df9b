/- The program: proposing. -/
import Derived.Test.YtfepegellpegdaaGr10
import Derived.Test.YtfepegellpegdaaGr4
import Derived.Test.YtfepegellpegdaaHeap4
namespace Go.Proofs.Ytfepegellpegdaa
open Go.RowKit Go.Sort
set_option maxRecDepth 100000 in
set_option maxHeartbeats 1000000 in
theorem GroupPropose_any (I K : Int) (A B : Option Addr) (n c m d : Nat) (ps ds : List Ent) (x : Int) (w : World) (h : SE w A n c ps) (h' : SE w B m d ds) (hn : n ≤ 1048576) (hm : m ≤ 1048576) :
    Calls Try.prog 36 #[grV I K A n c B m d, .int .i64 x] w (PrEnd (propM ⟨I, K, ps, ds⟩ x) w) := by
  have s0 := (((St.refl w).alloc (.cells (grC I K A n c B m d) 25)).alloc (.cells (grC 0 0 none 0 0 none 0 0) 25)).alloc (.cells #[.int .i64 0, .int .i64 0] 29)
  have K0 := hid (((Blk.new w 25 (grC I K A n c B m d)).alloc (.cells (grC 0 0 none 0 0 none 0 0) 25)).alloc (.cells #[.int .i64 0, .int .i64 0] 29))
  have L0 := hid ((blk_second w (.cells (grC I K A n c B m d) 25) 25 (grC 0 0 none 0 0 none 0 0)).alloc (.cells #[.int .i64 0, .int .i64 0] 29))
  have T0 := hid (blk_third w (.cells (grC I K A n c B m d) 25) (.cells (grC 0 0 none 0 0 none 0 0) 25) 29 #[.int .i64 0, .int .i64 0])
  have H0 := hid (h.st s0)
  have H0' := hid (h'.st s0)
  have S0 := hid s0
  have HL := hid h.len
  have HL' := hid h'.len
  clear s0 h h'
  go_enter Try.func36, Try.ntmps36
  go_upto_region 1 with (fail)
  generalize ((w.alloc (.cells _ 25)).alloc (.cells _ 25)).alloc (.cells _ 29) = w0 at *
  have k0 := K0.out.cell_ (i := 0) (v := .int .i64 I) rfl
  have k1 := K0.out.cell_ (i := 1) (v := .int .i64 K) rfl
  have k2 := K0.out.cell_ (i := 2) (v := .slice A n c) rfl
  have k3 := K0.out.cell_ (i := 3) (v := .slice B m d) rfl
  go_wp2_with fail
  refine (GroupValid_any _ _ _ _ _ _ _ _ _ _ _ H0.out H0'.out (by omega) hm).mono ?_
  rintro e w1 ⟨rfl, s1⟩
  replace K0 := hid (K0.out.st s1)
  replace L0 := hid (L0.out.st s1)
  replace T0 := hid (T0.out.st s1)
  replace H0 := hid (H0.out.st s1)
  replace H0' := hid (H0'.out.st s1)
  replace k0 := s1.cell k0
  replace k1 := s1.cell k1
  replace k2 := s1.cell k2
  replace k3 := s1.cell k3
  have S1 := hid (S0.out.trans s1)
  clear s1 S0
  cases hv : grOk ⟨I, K, ps, ds⟩
  · skip
    have HP := hid (propM_bad (g := ⟨I, K, ps, ds⟩) (m := x) (by rw [hv]; rfl))
    obtain ⟨f1, f2, f3, f4⟩ := pr_fin (I := 0) (K := 0) (t := 0) (g := 0) L0.out T0.out (show OwGr w1 w.heap.size 0 0 none 0 0 none 0 0 [] [] from ⟨OE.nil _ _, OE.nil _ _, fun g hg => by cases hg⟩) S1.out (Nat.le_succ _) (by omega) (Nat.ne_of_lt (Nat.lt_succ_self _))
    have l0 := L0.out.cell_ (i := 0) (v := .int .i64 0) rfl
    have l1 := L0.out.cell_ (i := 1) (v := .int .i64 0) rfl
    have l2 := L0.out.cell_ (i := 2) (v := .slice none 0 0) rfl
    have l3 := L0.out.cell_ (i := 3) (v := .slice none 0 0) rfl
    have lf0 := L0.out.frozen 0
    have lf1 := L0.out.frozen 1
    have lf2 := L0.out.frozen 2
    have lf3 := L0.out.frozen 3
    have t0 := T0.out.cell_ (i := 0) (v := .int .i64 0) rfl
    have t1 := T0.out.cell_ (i := 1) (v := .int .i64 0) rfl
    have tf0 := T0.out.frozen 0
    have tf1 := T0.out.frozen 1
    have r0 := f1.out.cell_ (i := 0) (v := .int .i64 0) rfl
    have r1 := f1.out.cell_ (i := 1) (v := .int .i64 0) rfl
    have r2 := f1.out.cell_ (i := 2) (v := .slice none 0 0) rfl
    have r3 := f1.out.cell_ (i := 3) (v := .slice none 0 0) rfl
    have u0 := f2.out.cell_ (i := 0) (v := .int .i64 0) rfl
    have u1 := f2.out.cell_ (i := 1) (v := .int .i64 0) rfl
    go_wp2_with fail
    refine bodyPost_ret (v := .tuple #[grV 0 0 none 0 0 none 0 0, .agg #[.int .i64 0, .int .i64 0], .bool false]) (by simp [results, Try.results36, go_sem, r0, r1, r2, r3, u0, u1]) rfl ?_
    unfold PrEnd
    rw [HP.out]
    exact ⟨_, _, _, _, _, _, rfl, f3.out, f4.out⟩
  have V := hid (grOk_iff.1 hv)
  have hn : n ≤ 999 := by have h1 := V.out.small.1; have h2 := HL.out; simp only at h1; omega
  go_wp2_with fail
  refine (isMessage_any _ _).mono ?_
  rintro e w2 ⟨rfl, rfl⟩
  cases hx : isMsg x
  · skip
    have HP := hid (propM_bad (g := ⟨I, K, ps, ds⟩) (m := x) (by rw [hv]; rw [hx]; rfl))
    obtain ⟨f1, f2, f3, f4⟩ := pr_fin (I := 0) (K := 0) (t := 0) (g := 0) L0.out T0.out (show OwGr w1 w.heap.size 0 0 none 0 0 none 0 0 [] [] from ⟨OE.nil _ _, OE.nil _ _, fun g hg => by cases hg⟩) S1.out (Nat.le_succ _) (by omega) (Nat.ne_of_lt (Nat.lt_succ_self _))
    have l0 := L0.out.cell_ (i := 0) (v := .int .i64 0) rfl
    have l1 := L0.out.cell_ (i := 1) (v := .int .i64 0) rfl
    have l2 := L0.out.cell_ (i := 2) (v := .slice none 0 0) rfl
    have l3 := L0.out.cell_ (i := 3) (v := .slice none 0 0) rfl
    have lf0 := L0.out.frozen 0
    have lf1 := L0.out.frozen 1
    have lf2 := L0.out.frozen 2
    have lf3 := L0.out.frozen 3
    have t0 := T0.out.cell_ (i := 0) (v := .int .i64 0) rfl
    have t1 := T0.out.cell_ (i := 1) (v := .int .i64 0) rfl
    have tf0 := T0.out.frozen 0
    have tf1 := T0.out.frozen 1
    have r0 := f1.out.cell_ (i := 0) (v := .int .i64 0) rfl
    have r1 := f1.out.cell_ (i := 1) (v := .int .i64 0) rfl
    have r2 := f1.out.cell_ (i := 2) (v := .slice none 0 0) rfl
    have r3 := f1.out.cell_ (i := 3) (v := .slice none 0 0) rfl
    have u0 := f2.out.cell_ (i := 0) (v := .int .i64 0) rfl
    have u1 := f2.out.cell_ (i := 1) (v := .int .i64 0) rfl
    go_wp2_with fail
    refine bodyPost_ret (v := .tuple #[grV 0 0 none 0 0 none 0 0, .agg #[.int .i64 0, .int .i64 0], .bool false]) (by simp [results, Try.results36, go_sem, r0, r1, r2, r3, u0, u1]) rfl ?_
    unfold PrEnd
    rw [HP.out]
    exact ⟨_, _, _, _, _, _, rfl, f3.out, f4.out⟩
  have HPM := hid (propM_ok V.out hx)
  go_wp2_with fail
  refine (copyGroup_any _ _ _ _ _ _ _ _ _ _ _ H0.out H0'.out (by omega) hm).mono ?_
  rintro e w3 ⟨A1, c1, B1, d1, rfl, C3, s3⟩
  have sa := (St.refl w3).alloc (.cells (grC I K A1 n c1 B1 m d1) 25)
  have G4 := hid (Blk.new w3 25 (grC I K A1 n c1 B1 m d1))
  have ss := s3.trans sa
  have hT1 := T0.out.lt
  replace K0 := hid (K0.out.st ss)
  replace L0 := hid (L0.out.st ss)
  replace T0 := hid (T0.out.st ss)
  replace H0 := hid (H0.out.st ss)
  replace H0' := hid (H0'.out.st ss)
  replace k0 := ss.cell k0
  replace k1 := ss.cell k1
  replace k2 := ss.cell k2
  replace k3 := ss.cell k3
  have hG : w.heap.size + 1 + 1 < w3.heap.size := Nat.lt_of_lt_of_le hT1 s3.le
  have C4 := hid ((C3.st sa).less S1.out.le)
  have S4 := hid (S1.out.trans ss)
  clear s3 sa ss C3 S1
  go_upto_region 4 with (fail)
  generalize w3.alloc (.cells _ 25) = w4 at *
  generalize w3.heap.size = G at *
  go_wp2_with fail
  refine (GroupStamp_any _ _ _ _ _ _ _ _ _ _ x _ H0.out H0'.out (by omega) hm).mono ?_
  rintro e w5 ⟨rfl, s5⟩
  have hST := hid (show stampG ⟨I, K, ps, ds⟩ x = (findE ps x).or (findE ds x) by unfold stampG; rw [hv]; rfl)
  obtain ⟨⟨em, ⟨et, eg⟩, ef⟩, he⟩ : ∃ e, (stampG ⟨I, K, ps, ds⟩ x).getD e0 = e := ⟨_, rfl⟩
  obtain ⟨b, hb⟩ : ∃ b, (stampG ⟨I, K, ps, ds⟩ x).isSome = b := ⟨_, rfl⟩
  have HR : stRes (stampG ⟨I, K, ps, ds⟩ x) = .tuple #[enV em et eg ef, .bool b] := by unfold stRes; rw [he, hb]
  have HE := hid he
  have HB := hid hb
  rw [HR]
  have sb := (St.refl w5).alloc (.cells #[.int .i64 em, .int .i64 et, .int .i64 eg, .bool ef] 31)
  have E6 := hid (Blk.new w5 31 #[.int .i64 em, .int .i64 et, .int .i64 eg, .bool ef])
  have hX := Nat.lt_of_lt_of_le T0.out.lt s5.le
  have ss := s5.trans sb
  replace K0 := hid (K0.out.st ss)
  replace L0 := hid (L0.out.st ss)
  replace T0 := hid (T0.out.st ss)
  replace G4 := hid (G4.out.st ss)
  replace C4 := hid (C4.out.st ss)
  replace k0 := ss.cell k0
  replace k1 := ss.cell k1
  replace k2 := ss.cell k2
  replace k3 := ss.cell k3
  have S6 := hid (S4.out.trans ss)
  clear he hb HR s5 sb ss S4 H0 H0'
  go_upto_region 5 with (fail)
  generalize w5.alloc (.cells _ 31) = w6 at *
  generalize w5.heap.size = X at *
  have e0 := E6.out.cell_ (i := 0) (v := .int .i64 em) rfl
  have e1 := E6.out.cell_ (i := 1) (v := .int .i64 et) rfl
  have e2 := E6.out.cell_ (i := 2) (v := .int .i64 eg) rfl
  have e3 := E6.out.cell_ (i := 3) (v := .bool ef) rfl
  have g0 := G4.out.cell_ (i := 0) (v := .int .i64 I) rfl
  have g1 := G4.out.cell_ (i := 1) (v := .int .i64 K) rfl
  have g2 := G4.out.cell_ (i := 2) (v := .slice A1 n c1) rfl
  have g3 := G4.out.cell_ (i := 3) (v := .slice B1 m d1) rfl
  have hGw : G ≠ w.heap.size + 1 := by omega
  have hGw' : w.heap.size + 1 ≠ G := by omega
  have hXL : X ≠ w.heap.size + 1 := by omega
  have hXL' : w.heap.size + 1 ≠ X := by omega
  have hXT : X ≠ w.heap.size + 1 + 1 := by omega
  have hGT : G ≠ w.heap.size + 1 + 1 := by omega
  cases hp : findE ps x with
  | some e =>
    have h1 := HE.out
    have h2 := HB.out
    rw [hST.out, hp] at h1 h2
    simp only [Option.some_or, Option.getD_some, Option.isSome_some] at h1 h2
    subst h1 h2
    cases ef
    · have HP := hid (HPM.out.trans (show propS ⟨I, K, ps, ds⟩ x = (⟨I, K, ps, ds⟩, (et, eg), true) by unfold propS; simp only; rw [hp]; rfl))
      clear hp hST HE HB HPM
      obtain ⟨f1, f2, f3, f4⟩ := pr_fin (I := I) (K := K) (t := et) (g := eg) L0.out T0.out C4.out S6.out (Nat.le_succ _) (by omega) (Nat.ne_of_lt (Nat.lt_succ_self _))
      have l0 := L0.out.cell_ (i := 0) (v := .int .i64 0) rfl
      have l1 := L0.out.cell_ (i := 1) (v := .int .i64 0) rfl
      have l2 := L0.out.cell_ (i := 2) (v := .slice none 0 0) rfl
      have l3 := L0.out.cell_ (i := 3) (v := .slice none 0 0) rfl
      have lf0 := L0.out.frozen 0
      have lf1 := L0.out.frozen 1
      have lf2 := L0.out.frozen 2
      have lf3 := L0.out.frozen 3
      have t0 := T0.out.cell_ (i := 0) (v := .int .i64 0) rfl
      have t1 := T0.out.cell_ (i := 1) (v := .int .i64 0) rfl
      have tf0 := T0.out.frozen 0
      have tf1 := T0.out.frozen 1
      have r0 := f1.out.cell_ (i := 0) (v := .int .i64 I) rfl
      have r1 := f1.out.cell_ (i := 1) (v := .int .i64 K) rfl
      have r2 := f1.out.cell_ (i := 2) (v := .slice A1 n c1) rfl
      have r3 := f1.out.cell_ (i := 3) (v := .slice B1 m d1) rfl
      have u0 := f2.out.cell_ (i := 0) (v := .int .i64 et) rfl
      have u1 := f2.out.cell_ (i := 1) (v := .int .i64 eg) rfl
      go_upto_region 6 with (fail)
      go_region
      all_goals
        go_wp2_with fail
        refine bodyPost_ret (v := .tuple #[grV I K A1 n c1 B1 m d1, .agg #[.int .i64 et, .int .i64 eg], .bool true]) (by simp [results, Try.results36, go_sem, r0, r1, r2, r3, u0, u1]) rfl ?_
        unfold PrEnd
        rw [HP.out]
        exact ⟨_, _, _, _, _, _, rfl, f3.out.st (Dr.st ⟨1, rfl⟩), f4.out.drew⟩
    · have HP := hid (HPM.out.trans (show propS ⟨I, K, ps, ds⟩ x = (⟨I, K, ps, ds⟩, (0, 0), false) by unfold propS; simp only; rw [hp]; rfl))
      clear hp hST HE HB HPM
      obtain ⟨f1, f2, f3, f4⟩ := pr_fin (I := I) (K := K) (t := 0) (g := 0) L0.out T0.out C4.out S6.out (Nat.le_succ _) (by omega) (Nat.ne_of_lt (Nat.lt_succ_self _))
      have l0 := L0.out.cell_ (i := 0) (v := .int .i64 0) rfl
      have l1 := L0.out.cell_ (i := 1) (v := .int .i64 0) rfl
      have l2 := L0.out.cell_ (i := 2) (v := .slice none 0 0) rfl
      have l3 := L0.out.cell_ (i := 3) (v := .slice none 0 0) rfl
      have lf0 := L0.out.frozen 0
      have lf1 := L0.out.frozen 1
      have lf2 := L0.out.frozen 2
      have lf3 := L0.out.frozen 3
      have t0 := T0.out.cell_ (i := 0) (v := .int .i64 0) rfl
      have t1 := T0.out.cell_ (i := 1) (v := .int .i64 0) rfl
      have tf0 := T0.out.frozen 0
      have tf1 := T0.out.frozen 1
      have r0 := f1.out.cell_ (i := 0) (v := .int .i64 I) rfl
      have r1 := f1.out.cell_ (i := 1) (v := .int .i64 K) rfl
      have r2 := f1.out.cell_ (i := 2) (v := .slice A1 n c1) rfl
      have r3 := f1.out.cell_ (i := 3) (v := .slice B1 m d1) rfl
      have u0 := f2.out.cell_ (i := 0) (v := .int .i64 0) rfl
      have u1 := f2.out.cell_ (i := 1) (v := .int .i64 0) rfl
      go_wp2_with fail
      refine bodyPost_ret (v := .tuple #[grV I K A1 n c1 B1 m d1, .agg #[.int .i64 0, .int .i64 0], .bool false]) (by simp [results, Try.results36, go_sem, r0, r1, r2, r3, u0, u1]) rfl ?_
      unfold PrEnd
      rw [HP.out]
      exact ⟨_, _, _, _, _, _, rfl, f3.out, f4.out⟩
  | none =>
    cases hd : findE ds x with
    | some e =>
      have h1 := HE.out
      have h2 := HB.out
      rw [hST.out, hp, hd] at h1 h2
      simp only [Option.none_or, Option.getD_some, Option.isSome_some] at h1 h2
      have hf : ef = true := by have h3 := V.out.df _ (find_some hd).1; rw [h1] at h3; exact h3
      subst h2 hf
      have HP := hid (HPM.out.trans (show propS ⟨I, K, ps, ds⟩ x = (⟨I, K, ps, ds⟩, (0, 0), false) by unfold propS; simp only; rw [hp, hd]; rfl))
      clear hp hd h1 hST HE HB HPM
      obtain ⟨f1, f2, f3, f4⟩ := pr_fin (I := I) (K := K) (t := 0) (g := 0) L0.out T0.out C4.out S6.out (Nat.le_succ _) (by omega) (Nat.ne_of_lt (Nat.lt_succ_self _))
      have l0 := L0.out.cell_ (i := 0) (v := .int .i64 0) rfl
      have l1 := L0.out.cell_ (i := 1) (v := .int .i64 0) rfl
      have l2 := L0.out.cell_ (i := 2) (v := .slice none 0 0) rfl
      have l3 := L0.out.cell_ (i := 3) (v := .slice none 0 0) rfl
      have lf0 := L0.out.frozen 0
      have lf1 := L0.out.frozen 1
      have lf2 := L0.out.frozen 2
      have lf3 := L0.out.frozen 3
      have t0 := T0.out.cell_ (i := 0) (v := .int .i64 0) rfl
      have t1 := T0.out.cell_ (i := 1) (v := .int .i64 0) rfl
      have tf0 := T0.out.frozen 0
      have tf1 := T0.out.frozen 1
      have r0 := f1.out.cell_ (i := 0) (v := .int .i64 I) rfl
      have r1 := f1.out.cell_ (i := 1) (v := .int .i64 K) rfl
      have r2 := f1.out.cell_ (i := 2) (v := .slice A1 n c1) rfl
      have r3 := f1.out.cell_ (i := 3) (v := .slice B1 m d1) rfl
      have u0 := f2.out.cell_ (i := 0) (v := .int .i64 0) rfl
      have u1 := f2.out.cell_ (i := 1) (v := .int .i64 0) rfl
      go_wp2_with fail
      refine bodyPost_ret (v := .tuple #[grV I K A1 n c1 B1 m d1, .agg #[.int .i64 0, .int .i64 0], .bool false]) (by simp [results, Try.results36, go_sem, r0, r1, r2, r3, u0, u1]) rfl ?_
      unfold PrEnd
      rw [HP.out]
      exact ⟨_, _, _, _, _, _, rfl, f3.out, f4.out⟩
    | none =>
      have h2 := HB.out
      rw [hST.out, hp, hd] at h2
      simp only [Option.none_or, Option.isSome_none] at h2
      subst h2
      by_cases hK : K = 999
      · subst hK
        have HP := hid (HPM.out.trans (show propS ⟨I, 999, ps, ds⟩ x = (⟨I, 999, ps, ds⟩, (0, 0), false) by unfold propS; simp only; rw [hp, hd]; rfl))
        clear hp hd hST HE HB HPM
        obtain ⟨f1, f2, f3, f4⟩ := pr_fin (I := I) (K := 999) (t := 0) (g := 0) L0.out T0.out C4.out S6.out (Nat.le_succ _) (by omega) (Nat.ne_of_lt (Nat.lt_succ_self _))
        have l0 := L0.out.cell_ (i := 0) (v := .int .i64 0) rfl
        have l1 := L0.out.cell_ (i := 1) (v := .int .i64 0) rfl
        have l2 := L0.out.cell_ (i := 2) (v := .slice none 0 0) rfl
        have l3 := L0.out.cell_ (i := 3) (v := .slice none 0 0) rfl
        have lf0 := L0.out.frozen 0
        have lf1 := L0.out.frozen 1
        have lf2 := L0.out.frozen 2
        have lf3 := L0.out.frozen 3
        have t0 := T0.out.cell_ (i := 0) (v := .int .i64 0) rfl
        have t1 := T0.out.cell_ (i := 1) (v := .int .i64 0) rfl
        have tf0 := T0.out.frozen 0
        have tf1 := T0.out.frozen 1
        have r0 := f1.out.cell_ (i := 0) (v := .int .i64 I) rfl
        have r1 := f1.out.cell_ (i := 1) (v := .int .i64 999) rfl
        have r2 := f1.out.cell_ (i := 2) (v := .slice A1 n c1) rfl
        have r3 := f1.out.cell_ (i := 3) (v := .slice B1 m d1) rfl
        have u0 := f2.out.cell_ (i := 0) (v := .int .i64 0) rfl
        have u1 := f2.out.cell_ (i := 1) (v := .int .i64 0) rfl
        go_wp2_with fail
        refine bodyPost_ret (v := .tuple #[grV I 999 A1 n c1 B1 m d1, .agg #[.int .i64 0, .int .i64 0], .bool false]) (by simp [results, Try.results36, go_sem, r0, r1, r2, r3, u0, u1]) rfl ?_
        unfold PrEnd
        rw [HP.out]
        exact ⟨_, _, _, _, _, _, rfl, f3.out, f4.out⟩
      · skip
        have hK0 := V.out.ck.1
        have hKle := V.out.ck.2
        simp only at hK0 hKle
        have hq : IntKind.i64.wrap (K + 1) = K + 1 := IntWalk.i64_in _ (by omega)
        have HP := hid (HPM.out.trans (show propS ⟨I, K, ps, ds⟩ x = (⟨I, K + 1, ps ++ [(x, (K + 1, I), false)], ds⟩, (K + 1, I), true) by unfold propS; simp only; rw [hp, hd]; simp only; rw [if_neg (by simp; omega)]))
        have HSRT := hid (show sortL ltE (ps ++ [(x, (K + 1, I), false)]) = ps ++ [(x, (K + 1, I), false)] from sortL_eq ltS_SLt (List.Perm.refl _) (List.pairwise_append.2 ⟨V.out.pa, List.pairwise_singleton _ _, fun a ha b hb => by
          rw [List.mem_singleton] at hb
          subst hb
          have h1 := (entOk_iff.1 (V.out.pe a ha)).2.2.1
          rw [ltE, ltS_iff]
          left
          simp only at h1 ⊢
          omega⟩))
        clear hp hd hST HE HB HPM e0 e1 e2 e3 E6
        have hwG : w.heap.size ≠ G := by omega
        have hTG : w.heap.size + 1 + 1 ≠ G := by omega
        have G7 := hid (G4.out.set_ 1 (.int .i64 (K + 1)))
        have K7 := hid (K0.out.far (p := ⟨G, 1, none⟩) hwG (.int .i64 (K + 1)))
        have L7 := hid (L0.out.far (p := ⟨G, 1, none⟩) hGw' (.int .i64 (K + 1)))
        have T7 := hid (T0.out.far (p := ⟨G, 1, none⟩) hTG (.int .i64 (K + 1)))
        have C7 := hid (C4.out.blk G4.out (by decide) (World.grownBy_set w6 G 1 (.int .i64 (K + 1))))
        have S7 := hid (S6.out.setCell (p := ⟨G, 1, none⟩) (show w.heap.size ≤ G by omega) (.int .i64 (K + 1)))
        have gf1 := G4.out.frozen 1
        go_upto_region 10 with (fail)
        generalize w6.setCell _ _ = w7 at *
        clear g0 g1 g2 g3 gf1 k0 k1 k2 k3 K0 L0 T0 C4 S6 G4
        have g1 := G7.out.cell_ (i := 1) (v := .int .i64 (K + 1)) rfl
        have k0 := K7.out.cell_ (i := 0) (v := .int .i64 I) rfl
        have sa := (St.refl w7).alloc (.cells #[.int .i64 (K + 1), .int .i64 I] 29)
        have P8 := hid (Blk.new w7 29 #[.int .i64 (K + 1), .int .i64 I])
        have S8 := hid (S7.out.trans sa)
        have hP : G < w7.heap.size := G7.out.lt
        replace G7 := hid (G7.out.st sa)
        replace L7 := hid (L7.out.st sa)
        replace T7 := hid (T7.out.st sa)
        replace C7 := hid (C7.out.st sa)
        clear sa S7 K7
        go_upto_region 11 with (fail)
        generalize w7.alloc (.cells _ 29) = w8 at *
        generalize w7.heap.size = P at *
        clear g1 k0
        have g2 := G7.out.cell_ (i := 2) (v := .slice A1 n c1) rfl
        have p0 := P8.out.cell_ (i := 0) (v := .int .i64 (K + 1)) rfl
        have p1 := P8.out.cell_ (i := 1) (v := .int .i64 I) rfl
        have sb := (St.refl w8).alloc (.cells (entA (x, (K + 1, I), false)) 31)
        have O9 := hid (C7.out.oi.st sb)
        have hb9 := hid (show w.heap.size ≤ (w8.alloc (.cells (entA (x, (K + 1, I), false)) 31)).heap.size from (S8.out.trans sb).le)
        have G9 := hid (G7.out.st sb)
        have L9 := hid (L7.out.st sb)
        have T9 := hid (T7.out.st sb)
        have P9 := hid (P8.out.st sb)
        have J9 := hid (C7.out.oh.st sb)
        have S9 := hid (S8.out.trans sb)
        have NE := hid C7.out.ne
        clear sb G7 L7 T7 P8 C7 S8
        go_wp2_with (at_builtin; refine wpList_append_rows _ rfl _ _ 23 rfl w.heap.size 31 4 32 eZ_ Try.underlying23 entInfo rfl (by omega) A1 n c1 (entCells ps) (by rfl) O9.out.2 _ (some ⟨w8.heap.size, 0, none⟩) 1 1 (entCells [(x, (K + 1, I), false)]) (by rfl) (Reads.one w8 31 (entA (x, (K + 1, I), false)) 4 rfl) (entCells_one _) (by omega) (by omega) hb9.out ?_; intro Y a' w10 ho hg; rw [← entCells_app] at ho)
        have O10 := hid (show OE w10 w.heap.size Y (n + 1) a' (ps ++ [(x, (K + 1, I), false)]) from ⟨by rw [List.length_append, HL.out]; rfl, ho⟩)
        have hnA : ∀ {T : TypeId} {cs : Array Value} {g : Nat} {W : World}, OE W w.heap.size A1 n c1 ps → Blk W g T cs → 31 ≠ T → some g ≠ blockOf A1 := fun o b h e => o.ne_blk b h e.symm
        have G10 := G9.out.grown hg (by intro e; exact O9.out.ne_blk G9.out (by decide) (by first | exact e | exact e.symm))
        have L10 := L9.out.grown hg (by intro e; exact O9.out.ne_blk L9.out (by decide) (by first | exact e | exact e.symm))
        have T10 := T9.out.grown hg (by intro e; exact O9.out.ne_blk T9.out (by decide) (by first | exact e | exact e.symm))
        have P10 := P9.out.grown hg (by intro e; exact O9.out.ne_blk P9.out (by decide) (by first | exact e | exact e.symm))
        have J10 := J9.out.grown hg (fun k hk hB => NE.out k hB hk)
        have S10 := S9.out.grown hg (fun k hk => (O9.out.lt k hk).1)
        refine (sorted_any Y (n + 1) a' _ w10 O10.out.se (by omega) (by omega)).mono ?_
        rintro e w11 ⟨Z, a2, rfl, o11, s11⟩
        rw [HSRT.out] at o11
        have G11 := hid (G10.st s11)
        have L11 := hid (L10.st s11)
        have T11 := hid (T10.st s11)
        have P11 := hid (P10.st s11)
        have S11 := hid (S10.trans s11)
        have C11 := hid (show OwGr w11 w.heap.size I (K + 1) Z (n + 1) a2 B1 m d1 (ps ++ [(x, (K + 1, I), false)]) ds from ⟨o11.less S10.le, J10.st s11, fun g hB hZ => by have h1 := (J10.lt g hB).2; have h2 := (o11.lt g hZ).1; omega⟩)
        clear hnA G10 L10 T10 P10 J10 S10 s11 o11 ho hg G9 L9 T9 P9 J9 S9 O9 hb9 NE O10 g2 p0 p1
        have c2 := G11.out.cell_ (i := 2) (v := .slice A1 n c1) rfl
        have f2_ := G11.out.frozen 2
        have hPG : P ≠ G := by omega
        have G12 := hid (G11.out.set_ 2 (.slice Z (n + 1) a2))
        have L12 := hid (L11.out.far (p := ⟨G, 2, none⟩) hGw' (.slice Z (n + 1) a2))
        have T12 := hid (T11.out.far (p := ⟨G, 2, none⟩) hTG (.slice Z (n + 1) a2))
        have P12 := hid (P11.out.far (p := ⟨G, 2, none⟩) hPG (.slice Z (n + 1) a2))
        have C12 := hid (C11.out.blk G11.out (by decide) (World.grownBy_set w11 G 2 (.slice Z (n + 1) a2)))
        have S12 := hid (S11.out.setCell (p := ⟨G, 2, none⟩) (show w.heap.size ≤ G by omega) (.slice Z (n + 1) a2))
        go_upto_region 12 with (fail)
        generalize w11.setCell _ _ = w12 at *
        clear c2 f2_ G11 L11 T11 P11 C11 S11
        have g0 := G12.out.cell_ (i := 0) (v := .int .i64 I) rfl
        have g1 := G12.out.cell_ (i := 1) (v := .int .i64 (K + 1)) rfl
        have g2 := G12.out.cell_ (i := 2) (v := .slice Z (n + 1) a2) rfl
        have g3 := G12.out.cell_ (i := 3) (v := .slice B1 m d1) rfl
        have p0 := P12.out.cell_ (i := 0) (v := .int .i64 (K + 1)) rfl
        have p1 := P12.out.cell_ (i := 1) (v := .int .i64 I) rfl
        have hPL : P ≠ w.heap.size + 1 := by omega
        have hPL' : w.heap.size + 1 ≠ P := by omega
        have hPT : P ≠ w.heap.size + 1 + 1 := by omega
        obtain ⟨f1, f2, f3, f4⟩ := pr_fin (I := I) (K := K + 1) (t := K + 1) (g := I) L12.out T12.out C12.out S12.out (Nat.le_succ _) (by omega) (Nat.ne_of_lt (Nat.lt_succ_self _))
        have l0 := L12.out.cell_ (i := 0) (v := .int .i64 0) rfl
        have l1 := L12.out.cell_ (i := 1) (v := .int .i64 0) rfl
        have l2 := L12.out.cell_ (i := 2) (v := .slice none 0 0) rfl
        have l3 := L12.out.cell_ (i := 3) (v := .slice none 0 0) rfl
        have lf0 := L12.out.frozen 0
        have lf1 := L12.out.frozen 1
        have lf2 := L12.out.frozen 2
        have lf3 := L12.out.frozen 3
        have t0 := T12.out.cell_ (i := 0) (v := .int .i64 0) rfl
        have t1 := T12.out.cell_ (i := 1) (v := .int .i64 0) rfl
        have tf0 := T12.out.frozen 0
        have tf1 := T12.out.frozen 1
        have r0 := f1.out.cell_ (i := 0) (v := .int .i64 I) rfl
        have r1 := f1.out.cell_ (i := 1) (v := .int .i64 (K + 1)) rfl
        have r2 := f1.out.cell_ (i := 2) (v := .slice Z (n + 1) a2) rfl
        have r3 := f1.out.cell_ (i := 3) (v := .slice B1 m d1) rfl
        have u0 := f2.out.cell_ (i := 0) (v := .int .i64 (K + 1)) rfl
        have u1 := f2.out.cell_ (i := 1) (v := .int .i64 I) rfl
        go_region
        all_goals
          go_wp2_with fail
          refine bodyPost_ret (v := .tuple #[grV I (K + 1) Z (n + 1) a2 B1 m d1, .agg #[.int .i64 (K + 1), .int .i64 I], .bool true]) (by simp [results, Try.results36, go_sem, r0, r1, r2, r3, u0, u1]) rfl ?_
          unfold PrEnd
          rw [HP.out]
          exact ⟨_, _, _, _, _, _, rfl, f3.out.st (Dr.st ⟨1, rfl⟩), f4.out.drew⟩
end Go.Proofs.Ytfepegellpegdaa
