/- FnRoundFinalNotLess returns true. -/
import Derived.Test.YtldclkjknhjbfaaL15
import Derived.Test.YtldclkjknhjbfaaRd6
namespace Go.Proofs.Ytldclkjknhjbfaa
open Go.RowKit Go.Sort
theorem ltS_tr {a b c : Int × Int} (h : ltS a b = false) (k : ltS b c = false) : ltS a c = false := by
  rw [ltS_false] at *
  omega
theorem fold_gtr : ∀ (t : List (Int × Int)) (s : Int × Int), t.foldl gtr s ∈ s :: t ∧ ltS (t.foldl gtr s) s = false ∧ ∀ x ∈ t, ltS (t.foldl gtr s) x = false
  | [], s => ⟨by simp, by show ltS s s = false; rw [ltS_false]; omega, by simp⟩
  | x :: t, s => by
    obtain ⟨h1, h2, h3⟩ := fold_gtr t (gtr s x)
    have hg : (gtr s x = s ∨ gtr s x = x) ∧ ltS (gtr s x) s = false ∧ ltS (gtr s x) x = false := by
      unfold gtr
      cases h : ltS s x
      · refine ⟨.inl (by simp), ?_, ?_⟩
        · simp only [Bool.false_eq_true, if_false]; rw [ltS_false]; omega
        · simpa using h
      · refine ⟨.inr (by simp), ?_, ?_⟩
        · simp only [if_true]; rw [ltS_iff] at h; rw [ltS_false]; omega
        · simp only [if_true]; rw [ltS_false]; omega
    simp only [List.foldl_cons]
    refine ⟨?_, ltS_tr h2 hg.2.1, fun y hy => ?_⟩
    · rcases List.mem_cons.1 h1 with h | h
      · rw [h]
        rcases hg.1 with h' | h' <;> rw [h'] <;> simp
      · simp [h]
    · rcases List.mem_cons.1 hy with rfl | hy
      · exact ltS_tr h2 hg.2.2
      · exact h3 y hy
theorem maxS_top {ss : List (Int × Int)} (h : ss ≠ []) : maxS ss ∈ ss ∧ ∀ x ∈ ss, ltS (maxS ss) x = false := by
  cases ss with
  | nil => exact absurd rfl h
  | cons s t =>
    obtain ⟨h1, h2, h3⟩ := fold_gtr t s
    refine ⟨h1, fun x hx => ?_⟩
    rcases List.mem_cons.1 hx with rfl | hx
    · exact h2
    · exact h3 x hx
theorem StampLess_any (t g t' g' : Int) (w : World) : Calls Try.prog 44 #[.agg #[.int .i64 t, .int .i64 g], .agg #[.int .i64 t', .int .i64 g']] w fun e w' => e = .returned (.bool ((stOk (t, g) && stOk (t', g')) && ltS (t, g) (t', g'))) ∧ St w w' := by
  have s0 := ((St.refl w).alloc (.cells #[.int .i64 t, .int .i64 g] 45)).alloc (.cells #[.int .i64 t', .int .i64 g'] 45)
  have K0 := hid ((Blk.new w 45 #[.int .i64 t, .int .i64 g]).alloc (.cells #[.int .i64 t', .int .i64 g'] 45))
  have K1 := hid (blk_second w (.cells #[.int .i64 t, .int .i64 g] 45) 45 #[.int .i64 t', .int .i64 g'])
  have a0 := K0.out.cell_ (i := 0) (v := .int .i64 t) rfl
  have a1 := K0.out.cell_ (i := 1) (v := .int .i64 g) rfl
  have S0 := hid s0
  clear s0
  go_enter Try.func44, Try.ntmps44
  go_wp2_with fail
  refine (StampValid_any _ _ _).mono ?_
  rintro e w1 ⟨rfl, s1⟩
  have K0 := hid (K0.out.below s1 K0.out.lt)
  have K1 := hid (K1.out.below s1 K1.out.lt)
  have S1 := hid (S0.out.trans s1)
  clear a0 a1 s1 S0
  have b0 := K1.out.cell_ (i := 0) (v := .int .i64 t') rfl
  have b1 := K1.out.cell_ (i := 1) (v := .int .i64 g') rfl
  cases h1 : stOk (t, g)
  · go_wp2_with fail
    go_ret
    exact ⟨by rw [h1]; rfl, S1.out⟩
  go_wp2_with fail
  refine (StampValid_any _ _ _).mono ?_
  rintro e w2 ⟨rfl, s2⟩
  have K0 := hid (K0.out.below s2 K0.out.lt)
  have K1 := hid (K1.out.below s2 K1.out.lt)
  have S2 := hid (S1.out.trans s2)
  clear b0 b1 s2 S1
  have a0 := K0.out.cell_ (i := 0) (v := .int .i64 t) rfl
  have a1 := K0.out.cell_ (i := 1) (v := .int .i64 g) rfl
  have b0 := K1.out.cell_ (i := 0) (v := .int .i64 t') rfl
  have b1 := K1.out.cell_ (i := 1) (v := .int .i64 g') rfl
  cases h2 : stOk (t', g')
  · go_wp2_with fail
    go_ret
    exact ⟨by rw [h1, h2]; rfl, S2.out⟩
  go_wp2_with fail
  refine (less_any _ _ _ _ _).mono ?_
  rintro e w3 ⟨rfl, s3⟩
  have S3 := hid (S2.out.trans s3)
  cases h3 : ltS (t, g) (t', g')
  · go_wp2_with fail
    go_ret
    exact ⟨by rw [h1, h2, h3]; rfl, S3.out⟩
  · go_wp2_with fail
    go_ret
    exact ⟨by rw [h1, h2, h3]; rfl, S3.out⟩
set_option maxRecDepth 100000 in
set_option maxHeartbeats 2000000 in
theorem walkRoundFinalNotLess (A : Option Addr) (n c : Nat) (bs : List Nat) {w : World} (h : RB w w.heap.size A n bs) (hnc : n ≤ c ∧ c ≤ maxLen) :
    Calls Try.prog 11 #[.slice A n c] w fun e w' => e = .returned (.bool true) ∧ Below w.heap.size w w' := by
  obtain ⟨hnc, hcm⟩ := hnc
  have HCM := hid hcm
  clear hcm
  by_cases hn : 1048576 < n
  · have hn : (1048576 : Int) < (n : Int) := by omega
    go_enter Try.func11, Try.ntmps11
    go_wp2_with fail
    go_ret
    exact ⟨rfl, Below.refl _ _⟩
  have hni : ¬ (1048576 : Int) < (n : Int) := by omega
  go_enter Try.func11, Try.ntmps11
  go_wp2_with fail
  refine (DrawRoundFinal_any _ _ _ _ _ h (by omega) hnc HCM.out).mono ?_
  rintro e w1 ⟨M, A1, n1, c1, B1, q1, d1, xs, ss, rfl, i1, f1, hn1, hq1, s1⟩
  have X2 := hid (LX.new i1 s1)
  have F := hid f1
  clear i1 s1 f1
  obtain ⟨⟨vt, vg⟩, hv⟩ : ∃ v, rfV M xs ss = v := ⟨_, rfl⟩
  obtain ⟨ok, hok⟩ : ∃ b, rfOk M xs ss = b := ⟨_, rfl⟩
  have q0 := X2.out.k.cell_ (i := 0) (v := .int .i64 M) rfl
  have q1' := X2.out.k.cell_ (i := 1) (v := .slice A1 n1 c1) rfl
  have q2 := X2.out.k.cell_ (i := 2) (v := .slice B1 q1 d1) rfl
  go_wp2_with fail
  generalize w1.alloc (.cells #[.int .i64 M, .slice A1 n1 c1, .slice B1 q1 d1] 25) = w2 at X2 q0 q1' q2 ⊢
  refine (RoundFinal_any M A1 B1 n1 c1 q1 d1 xs ss _ X2.out.i.sl X2.out.i.sh (by omega)).mono ?_
  rintro e w3 ⟨rfl, s3⟩
  rw [hv, hok]
  have a3 := s3.alloc (.cells #[.int .i64 vt, .int .i64 vg] 45)
  have X4 := hid (X2.out.st a3)
  have P4 := hid (Blk.new w3 45 #[.int .i64 vt, .int .i64 vg])
  clear X2 q0 q1' q2 s3 a3
  have q0 := X4.out.k.cell_ (i := 0) (v := .int .i64 M) rfl
  have q1' := X4.out.k.cell_ (i := 1) (v := .slice A1 n1 c1) rfl
  have q2 := X4.out.k.cell_ (i := 2) (v := .slice B1 q1 d1) rfl
  go_wp2_with fail
  generalize w3.alloc (.cells #[.int .i64 vt, .int .i64 vg] 45) = w4 at X4 P4 q0 q1' q2 ⊢
  refine (specRoundFinal_any M A1 B1 n1 c1 q1 d1 xs ss _ X4.out.i.sl X4.out.i.sh (by omega)).mono ?_
  rintro e w5 ⟨rfl, s5⟩
  rw [hv, hok]
  have a5 := s5.alloc (.cells #[.int .i64 vt, .int .i64 vg] 45)
  have X6 := hid (X4.out.st a5)
  have P6 := hid (P4.out.below a5 P4.out.lt)
  have Q6 := hid (Blk.new w5 45 #[.int .i64 vt, .int .i64 vg])
  clear X4 P4 q0 q1' q2 s5 a5
  have q0 := X6.out.k.cell_ (i := 0) (v := .int .i64 M) rfl
  have q1' := X6.out.k.cell_ (i := 1) (v := .slice A1 n1 c1) rfl
  have q2 := X6.out.k.cell_ (i := 2) (v := .slice B1 q1 d1) rfl
  have p0 := P6.out.cell_ (i := 0) (v := .int .i64 vt) rfl
  have p1 := P6.out.cell_ (i := 1) (v := .int .i64 vg) rfl
  have r0 := Q6.out.cell_ (i := 0) (v := .int .i64 vt) rfl
  have r1 := Q6.out.cell_ (i := 1) (v := .int .i64 vg) rfl
  have hoo : (ok == ok) = true := by simp
  have hon : (ok != ok) = false := by simp
  cases ok
  · go_wp2_with fail
    go_ret
    exact ⟨rfl, X6.out.s⟩
  have hmx : maxS ss = (vt, vg) := by rw [← hv]; unfold rfV; rw [if_pos hok]
  have hne : ss ≠ [] := by
    intro e
    have := (rf_sm hok).1
    rw [e] at this
    simp [smOk] at this
  have htop := maxS_top hne
  rw [hmx] at htop
  have HT := hid htop
  have HL' := hid X6.out.i.sh.len
  have hqd := X6.out.i.sh.nc
  clear hmx hne htop hv hok
  go_wp2_with fail
  generalize w5.alloc (.cells #[.int .i64 vt, .int .i64 vg] 45) = w6 at X6 P6 Q6 q0 q1' q2 p0 p1 r0 r1 ⊢
  generalize hb4 : w3.heap.size = b4 at P6 p0 p1 ⊢
  generalize hb3 : w1.heap.size = bx at X6 q0 q1' q2 ⊢
  clear hb4 hb3 hoo hon
  go_loopw [8, 9] (fun v i wr => ∃ (k : Nat), k ≤ q1 ∧ i = .int .i64 (k : Int) ∧ v = .bool ((ss.take k).any fun s => s == (vt, vg)) ∧ Hid (LX w wr bx M A1 n1 c1 B1 q1 d1 xs ss) ∧ Hid (Blk wr b4 45 #[.int .i64 vt, .int .i64 vg])) (fun _ i _ => q1 - (intOf i).toNat)
  case atStart => exact ⟨0, Nat.zero_le _, rfl, rfl, X6, P6⟩
  case round =>
    obtain ⟨k, hk, rfl, rfl, hx, hp⟩ := hrel
    clear q0 q1' q2 p0 p1 r0 r1
    have q2 := hx.out.k.cell_ (i := 2) (v := .slice B1 q1 d1) rfl
    by_cases hlt : k < q1
    · obtain ⟨ad, t, g, rfl, hb1, hc1, hc2, hxx⟩ := hx.out.i.sh.at_ hlt
      have hki : (0 : Int) ≤ (k : Int) := by omega
      have hki2 : (k : Int) < (q1 : Int) := by omega
      have p0 := hp.out.cell_ (i := 0) (v := .int .i64 vt) rfl
      have p1 := hp.out.cell_ (i := 1) (v := .int .i64 vg) rfl
      have hnl := hid (HT.out.2 (t, g) (List.mem_of_getElem? hxx.out))
      have hst := hid (show ((ss.take (k + 1)).any fun s => s == (vt, vg)) = (((ss.take k).any fun s => s == (vt, vg)) || ((t == vt) && (g == vg))) by
        rw [take_snoc hxx.out, List.any_append]; simp only [List.any_cons, List.any_nil, Bool.or_false]; rfl)
      obtain ⟨fo, hfo⟩ : ∃ b, ((ss.take k).any fun s => s == (vt, vg)) = b := ⟨_, rfl⟩
      rw [hfo] at hst ⊢
      clear hfo
      cases fo
      · cases h1 : (t == vt)
        · cases h2 : (g == vg)
          · go_wp2_with fail
            go_quiet (fail)
            have hx2 := hid (hx.out.st (Dr.st ⟨nq, rfl⟩ : St wr (wr.drewN nq)))
            have hp2 := hid (hp.out.dr ⟨nq, rfl⟩)
            generalize wr.drewN nq = wx at hx2 hp2 ⊢
            clear q2 hc1 hc2 p0 p1
            obtain ⟨ad', t', g', he, hb1', hc1, hc2, hxx'⟩ := hx2.out.i.sh.at_ hlt
            injection he with he
            subst he
            have hee : (t', g') = (t, g) := by have := hxx'.out; rw [hxx.out] at this; injection this with this; exact this.symm
            injection hee with e1 e2
            subst e1 e2
            have z0 := cell_regrown hc1
            have z1 := cell_regrown hc2
            have z2 := cell_regrown (hp2.out.cell_ (i := 0) (v := .int .i64 vt) rfl)
            have z3 := cell_regrown (hp2.out.cell_ (i := 1) (v := .int .i64 vg) rfl)
            have z4 := cell_regrown (hx2.out.k.cell_ (i := 2) (v := .slice (some ad) q1 d1) rfl)
            have HV := hid (fun (d2 : Nat) (os : Array Obj) => Calls.regrown_of (StampLess_any vt vg t' g' (grow (redrawn wx d2) os)))
            rw [hnl.out, Bool.and_false] at HV
            go_wp2_with fail
            refine wp_region_quiet_below (by kernel_rfl) (by kernel_rfl) ?_
            repeat (first | go_big_quiet_step ((first | exact HV.out _ _)) | quiet_step ((first | exact HV.out _ _)))
            refine wpQuiet_nil ?_
            intro _ hw'
            obtain ⟨⟨nd, ns⟩, hw''⟩ := hw'
            subst hw''
            have s5 := below_regrown (wx) nd ns
            generalize grow (redrawn (wx) nd) ns = w5 at s5 ⊢
            have hx3 := hid (hx2.out.st s5)
            have hp3 := hid (hp2.out.below s5 hp2.out.lt)
            go_wp2_with fail
            go_roundw
            case rel => exact ⟨k + 1, by omega, by go_num, by rw [hst.out, h1, h2]; rfl, hx3, hp3⟩
            case measure => simp [intOf]; omega
          · go_wp2_with fail
            go_quiet (fail)
            have hx2 := hid (hx.out.st (Dr.st ⟨nq, rfl⟩ : St wr (wr.drewN nq)))
            have hp2 := hid (hp.out.dr ⟨nq, rfl⟩)
            generalize wr.drewN nq = wx at hx2 hp2 ⊢
            clear q2 hc1 hc2 p0 p1
            obtain ⟨ad', t', g', he, hb1', hc1, hc2, hxx'⟩ := hx2.out.i.sh.at_ hlt
            injection he with he
            subst he
            have hee : (t', g') = (t, g) := by have := hxx'.out; rw [hxx.out] at this; injection this with this; exact this.symm
            injection hee with e1 e2
            subst e1 e2
            have z0 := cell_regrown hc1
            have z1 := cell_regrown hc2
            have z2 := cell_regrown (hp2.out.cell_ (i := 0) (v := .int .i64 vt) rfl)
            have z3 := cell_regrown (hp2.out.cell_ (i := 1) (v := .int .i64 vg) rfl)
            have z4 := cell_regrown (hx2.out.k.cell_ (i := 2) (v := .slice (some ad) q1 d1) rfl)
            have HV := hid (fun (d2 : Nat) (os : Array Obj) => Calls.regrown_of (StampLess_any vt vg t' g' (grow (redrawn wx d2) os)))
            rw [hnl.out, Bool.and_false] at HV
            go_wp2_with fail
            refine wp_region_quiet_below (by kernel_rfl) (by kernel_rfl) ?_
            repeat (first | go_big_quiet_step ((first | exact HV.out _ _)) | quiet_step ((first | exact HV.out _ _)))
            refine wpQuiet_nil ?_
            intro _ hw'
            obtain ⟨⟨nd, ns⟩, hw''⟩ := hw'
            subst hw''
            have s5 := below_regrown (wx) nd ns
            generalize grow (redrawn (wx) nd) ns = w5 at s5 ⊢
            have hx3 := hid (hx2.out.st s5)
            have hp3 := hid (hp2.out.below s5 hp2.out.lt)
            go_wp2_with fail
            go_roundw
            case rel => exact ⟨k + 1, by omega, by go_num, by rw [hst.out, h1, h2]; rfl, hx3, hp3⟩
            case measure => simp [intOf]; omega
        · cases h2 : (g == vg)
          · go_wp2_with fail
            go_quiet (fail)
            have hx2 := hid (hx.out.st (Dr.st ⟨nq, rfl⟩ : St wr (wr.drewN nq)))
            have hp2 := hid (hp.out.dr ⟨nq, rfl⟩)
            generalize wr.drewN nq = wx at hx2 hp2 ⊢
            clear q2 hc1 hc2 p0 p1
            obtain ⟨ad', t', g', he, hb1', hc1, hc2, hxx'⟩ := hx2.out.i.sh.at_ hlt
            injection he with he
            subst he
            have hee : (t', g') = (t, g) := by have := hxx'.out; rw [hxx.out] at this; injection this with this; exact this.symm
            injection hee with e1 e2
            subst e1 e2
            have z0 := cell_regrown hc1
            have z1 := cell_regrown hc2
            have z2 := cell_regrown (hp2.out.cell_ (i := 0) (v := .int .i64 vt) rfl)
            have z3 := cell_regrown (hp2.out.cell_ (i := 1) (v := .int .i64 vg) rfl)
            have z4 := cell_regrown (hx2.out.k.cell_ (i := 2) (v := .slice (some ad) q1 d1) rfl)
            have HV := hid (fun (d2 : Nat) (os : Array Obj) => Calls.regrown_of (StampLess_any vt vg t' g' (grow (redrawn wx d2) os)))
            rw [hnl.out, Bool.and_false] at HV
            go_wp2_with fail
            refine wp_region_quiet_below (by kernel_rfl) (by kernel_rfl) ?_
            repeat (first | go_big_quiet_step ((first | exact HV.out _ _)) | quiet_step ((first | exact HV.out _ _)))
            refine wpQuiet_nil ?_
            intro _ hw'
            obtain ⟨⟨nd, ns⟩, hw''⟩ := hw'
            subst hw''
            have s5 := below_regrown (wx) nd ns
            generalize grow (redrawn (wx) nd) ns = w5 at s5 ⊢
            have hx3 := hid (hx2.out.st s5)
            have hp3 := hid (hp2.out.below s5 hp2.out.lt)
            go_wp2_with fail
            go_roundw
            case rel => exact ⟨k + 1, by omega, by go_num, by rw [hst.out, h1, h2]; rfl, hx3, hp3⟩
            case measure => simp [intOf]; omega
          · go_wp2_with fail
            go_quiet (fail)
            have hx2 := hid (hx.out.st (Dr.st ⟨nq, rfl⟩ : St wr (wr.drewN nq)))
            have hp2 := hid (hp.out.dr ⟨nq, rfl⟩)
            generalize wr.drewN nq = wx at hx2 hp2 ⊢
            clear q2 hc1 hc2 p0 p1
            obtain ⟨ad', t', g', he, hb1', hc1, hc2, hxx'⟩ := hx2.out.i.sh.at_ hlt
            injection he with he
            subst he
            have hee : (t', g') = (t, g) := by have := hxx'.out; rw [hxx.out] at this; injection this with this; exact this.symm
            injection hee with e1 e2
            subst e1 e2
            have z0 := cell_regrown hc1
            have z1 := cell_regrown hc2
            have z2 := cell_regrown (hp2.out.cell_ (i := 0) (v := .int .i64 vt) rfl)
            have z3 := cell_regrown (hp2.out.cell_ (i := 1) (v := .int .i64 vg) rfl)
            have z4 := cell_regrown (hx2.out.k.cell_ (i := 2) (v := .slice (some ad) q1 d1) rfl)
            have HV := hid (fun (d2 : Nat) (os : Array Obj) => Calls.regrown_of (StampLess_any vt vg t' g' (grow (redrawn wx d2) os)))
            rw [hnl.out, Bool.and_false] at HV
            go_wp2_with fail
            refine wp_region_quiet_below (by kernel_rfl) (by kernel_rfl) ?_
            repeat (first | go_big_quiet_step ((first | exact HV.out _ _)) | quiet_step ((first | exact HV.out _ _)))
            refine wpQuiet_nil ?_
            intro _ hw'
            obtain ⟨⟨nd, ns⟩, hw''⟩ := hw'
            subst hw''
            have s5 := below_regrown (wx) nd ns
            generalize grow (redrawn (wx) nd) ns = w5 at s5 ⊢
            have hx3 := hid (hx2.out.st s5)
            have hp3 := hid (hp2.out.below s5 hp2.out.lt)
            go_wp2_with fail
            go_roundw
            case rel => exact ⟨k + 1, by omega, by go_num, by rw [hst.out, h1, h2]; rfl, hx3, hp3⟩
            case measure => simp [intOf]; omega
      · generalize ((t == vt) && (g == vg)) = uu at hst
        go_wp2_with fail
        go_quiet (fail)
        have hx2 := hid (hx.out.st (Dr.st ⟨nq, rfl⟩ : St wr (wr.drewN nq)))
        have hp2 := hid (hp.out.dr ⟨nq, rfl⟩)
        generalize wr.drewN nq = wx at hx2 hp2 ⊢
        clear q2 hc1 hc2 p0 p1
        obtain ⟨ad', t', g', he, hb1', hc1, hc2, hxx'⟩ := hx2.out.i.sh.at_ hlt
        injection he with he
        subst he
        have hee : (t', g') = (t, g) := by have := hxx'.out; rw [hxx.out] at this; injection this with this; exact this.symm
        injection hee with e1 e2
        subst e1 e2
        have z0 := cell_regrown hc1
        have z1 := cell_regrown hc2
        have z2 := cell_regrown (hp2.out.cell_ (i := 0) (v := .int .i64 vt) rfl)
        have z3 := cell_regrown (hp2.out.cell_ (i := 1) (v := .int .i64 vg) rfl)
        have z4 := cell_regrown (hx2.out.k.cell_ (i := 2) (v := .slice (some ad) q1 d1) rfl)
        have HV := hid (fun (d2 : Nat) (os : Array Obj) => Calls.regrown_of (StampLess_any vt vg t' g' (grow (redrawn wx d2) os)))
        rw [hnl.out, Bool.and_false] at HV
        go_wp2_with fail
        refine wp_region_quiet_below (by kernel_rfl) (by kernel_rfl) ?_
        repeat (first | go_big_quiet_step ((first | exact HV.out _ _)) | quiet_step ((first | exact HV.out _ _)))
        refine wpQuiet_nil ?_
        intro _ hw'
        obtain ⟨⟨nd, ns⟩, hw''⟩ := hw'
        subst hw''
        have s5 := below_regrown (wx) nd ns
        generalize grow (redrawn (wx) nd) ns = w5 at s5 ⊢
        have hx3 := hid (hx2.out.st s5)
        have hp3 := hid (hp2.out.below s5 hp2.out.lt)
        go_wp2_with fail
        go_roundw
        case rel => exact ⟨k + 1, by omega, by go_num, by rw [hst.out]; rfl, hx3, hp3⟩
        case measure => simp [intOf]; omega
    · obtain rfl : k = q1 := by omega
      have hfin : ((ss.take k).any fun s => s == (vt, vg)) = true := by
        rw [List.take_of_length_le (by rw [HL'.out]; omega), List.any_eq_true]
        exact ⟨(vt, vg), HT.out.1, by simp⟩
      rw [hfin]
      clear hfin
      go_wp2_with fail
      go_ret
      exact ⟨rfl, hx.out.s⟩
end Go.Proofs.Ytldclkjknhjbfaa
