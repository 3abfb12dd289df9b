/- FnExactGroupPropose returns true. -/
import Derived.Test.YtfepegellpegdaaLawPr
namespace Go.Proofs.Ytfepegellpegdaa
open Go.RowKit Go.Sort
theorem prop_fit {g o : Grp} {m : Int} {s : Int × Int} {ok : Bool} (h : propM g m = (o, s, ok)) : FitGr o.pend o.done := by
  have hl := prop_len g m
  rw [h] at hl
  cases hb : (grOk g && isMsg m)
  · rw [propM_bad hb] at h
    injection h with h _
    subst h
    exact ⟨by simp [g0], by simp [g0]⟩
  · rw [Bool.and_eq_true] at hb
    have := (grOk_iff.1 hb.1).small
    simp only at hl
    exact ⟨by omega, by omega⟩
set_option maxRecDepth 100000 in
set_option maxHeartbeats 8000000 in
theorem walkExactGroupPropose (I K : Int) (A : Option Addr) (n c : Nat) (B : Option Addr) (m d : Nat) (ps ds : List Ent) {w : World} (hf0 : SE w A n c ps) (hf1 : SE w B m d ds) (xm : Int) (_ : (Lit.int .i64 xm).wf = true) :
    Calls Try.prog 14 #[grV I K A n c B m d, .int .i64 xm] w fun e w' => e = .returned (.bool true) ∧ Below w.heap.size w w' := by
  have hR0 := hid (show RdGr w I K A n c B m d ps ds from ⟨hf0, hf1⟩)
  clear hf0 hf1
  have s0 := (St.refl w).alloc (.cells (grC I K A n c B m d) 41)
  have X := hid (Blk.new w 41 (grC I K A n c B m d))
  have R := hid (hR0.out.st s0)
  have S := hid s0
  clear s0
  obtain ⟨⟨⟨I', K', ps', ds'⟩, ⟨t, g⟩, ok⟩, hr⟩ : ∃ r, propM ⟨I, K, ps, ds⟩ xm = r := ⟨_, rfl⟩
  have HR := hid hr
  have FT := hid (show FitGr ps' ds' from prop_fit hr)
  clear hr
  go_enter Try.func14, Try.ntmps14
  go_upto_region 2 with (fail)
  generalize w.alloc (.cells _ 41) = w1 at *
  have x0 := X.out.cell_ (i := 0) (v := .int .i64 I) rfl
  have x1 := X.out.cell_ (i := 1) (v := .int .i64 K) rfl
  have x2 := X.out.cell_ (i := 2) (v := .slice A n c) rfl
  have x3 := X.out.cell_ (i := 3) (v := .slice B m d) rfl
  go_wp2_with fail
  refine (gr_sz R.out).mono ?_
  rintro e w2 ⟨⟨r, rfl, hr⟩, s2⟩
  replace R := hid (R.out.st s2)
  replace S := hid (S.out.st s2)
  replace X := hid (X.out.st s2)
  replace x0 := s2.cell x0
  replace x1 := s2.cell x1
  replace x2 := s2.cell x2
  replace x3 := s2.cell x3
  clear s2
  by_cases hz : r < 0
  · go_wp2_with fail
    go_ret
    exact ⟨rfl, S.out⟩
  have HF := hid (hr.resolve_left hz)
  clear hr
  go_wp2_with fail
  refine (gr_to R.out HF.out).mono ?_
  rintro e w3 ⟨A3, n3, c3, B3, m3, d3, rfl, o3, s3⟩
  have R3 := hid o3.rd
  replace R := hid (R.out.st s3)
  replace S := hid (S.out.st s3)
  replace X := hid (X.out.st s3)
  replace x0 := s3.cell x0
  replace x1 := s3.cell x1
  replace x2 := s3.cell x2
  replace x3 := s3.cell x3
  clear s3 o3
  go_wp2_with fail
  refine (specGroupPropose_any _ _ _ _ _ _ _ _ _ _ xm _ R3.out.sl R3.out.sh (R3.out.n_ HF.out) (R3.out.m_ HF.out)).mono ?_
  rintro e w4 ⟨A5, n5, c5, B5, m5, d5, rfl, C5, s4⟩
  rw [HR.out] at C5 ⊢
  simp only at C5 ⊢
  have V5 := hid (PO.new (t := t) (g := g) C5)
  have sa := ((St.refl w4).alloc (.cells (grC I' K' A5 n5 c5 B5 m5 d5) 25)).alloc (.cells #[.int .i64 t, .int .i64 g] 29)
  have ss := s4.trans sa
  replace R := hid (R.out.st ss)
  replace S := hid (S.out.st ss)
  replace X := hid (X.out.st ss)
  replace x0 := ss.cell x0
  replace x1 := ss.cell x1
  replace x2 := ss.cell x2
  replace x3 := ss.cell x3
  clear s4 sa ss C5 R3
  go_upto_region 6 with (fail)
  generalize (w4.alloc (.cells _ 25)).alloc (.cells _ 29) = v5 at *
  generalize w4.heap.size = b5 at *
  have HS5 := hid (show w.heap.size < v5.heap.size from X.out.lt)
  have T5 := hid (St.refl v5)
  go_wp2_with fail
  refine (gr_to R.out HF.out).mono ?_
  rintro e w6 ⟨A6, n6, c6, B6, m6, d6, rfl, o6, s6⟩
  have sa := (St.refl w6).alloc (.cells (grC I K A6 n6 c6 B6 m6 d6) 25)
  have WW := hid ((gr_wr (P := fun g => v5.heap.size ≤ g ∧ g < w6.heap.size) o6 HF.out (fun g h1 h2 => ⟨h1, h2⟩)).kept (Kept.of_st sa))
  have R6 := hid (o6.rd.st sa)
  have Z := hid (Blk.new w6 25 (grC I K A6 n6 c6 B6 m6 d6))
  have HZ56 := hid (show v5.heap.size ≤ w6.heap.size from s6.le)
  have ss := s6.trans sa
  replace R := hid (R.out.st ss)
  replace S := hid (S.out.st ss)
  replace X := hid (X.out.st ss)
  replace T5 := hid (T5.out.st ss)
  replace x0 := ss.cell x0
  replace x1 := ss.cell x1
  replace x2 := ss.cell x2
  replace x3 := ss.cell x3
  clear s6 sa ss o6
  go_upto_region 7 with (fail)
  generalize w6.alloc (.cells _ 25) = w7 at *
  have HZ7 := hid (show w6.heap.size < w7.heap.size from Z.out.lt)
  have z0 := Z.out.cell_ (i := 0) (v := .int .i64 I) rfl
  have z1 := Z.out.cell_ (i := 1) (v := .int .i64 K) rfl
  have z2 := Z.out.cell_ (i := 2) (v := .slice A6 n6 c6) rfl
  have z3 := Z.out.cell_ (i := 3) (v := .slice B6 m6 d6) rfl
  go_wp2_with fail
  refine (GroupPropose_any _ _ _ _ _ _ _ _ _ _ xm _ R6.out.sl R6.out.sh (R6.out.n_ HF.out) (R6.out.m_ HF.out)).mono ?_
  rintro e w8 ⟨A7, n7, c7, B7, m7, d7, rfl, C7, s8⟩
  rw [HR.out] at C7 ⊢
  simp only at C7 ⊢
  have V7 := PO.new (t := t) (g := g) C7
  have K7 := hid V7.k
  have J7 := hid V7.s
  have sa := ((St.refl w8).alloc (.cells (grC I' K' A7 n7 c7 B7 m7 d7) 25)).alloc (.cells #[.int .i64 t, .int .i64 g] 29)
  have G7 := hid (C7.st sa)
  have HB7 := hid (show w7.heap.size ≤ w8.heap.size from s8.le)
  have ss := s8.trans sa
  have WW := hid (WW.out.kept (Kept.of_st ss))
  replace R := hid (R.out.st ss)
  replace S := hid (S.out.st ss)
  replace X := hid (X.out.st ss)
  replace T5 := hid (T5.out.st ss)
  replace R6 := hid (R6.out.st ss)
  replace Z := hid (Z.out.st ss)
  replace x0 := ss.cell x0
  replace x1 := ss.cell x1
  replace x2 := ss.cell x2
  replace x3 := ss.cell x3
  replace z0 := ss.cell z0
  replace z1 := ss.cell z1
  replace z2 := ss.cell z2
  replace z3 := ss.cell z3
  clear s8 sa ss C7 V7
  go_upto_region 8 with (fail)
  generalize (w8.alloc (.cells _ 25)).alloc (.cells _ 29) = v8 at *
  generalize w8.heap.size = b7 at *
  have l0 := (V5.out.st T5.out).k.cell_ (i := 0) (v := .int .i64 I') rfl
  have l1 := (V5.out.st T5.out).k.cell_ (i := 1) (v := .int .i64 K') rfl
  have l2 := (V5.out.st T5.out).k.cell_ (i := 2) (v := .slice A5 n5 c5) rfl
  have l3 := (V5.out.st T5.out).k.cell_ (i := 3) (v := .slice B5 m5 d5) rfl
  have u0 := (V5.out.st T5.out).s.cell_ (i := 0) (v := .int .i64 t) rfl
  have u1 := (V5.out.st T5.out).s.cell_ (i := 1) (v := .int .i64 g) rfl
  have k0 := K7.out.cell_ (i := 0) (v := .int .i64 I') rfl
  have k1 := K7.out.cell_ (i := 1) (v := .int .i64 K') rfl
  have k2 := K7.out.cell_ (i := 2) (v := .slice A7 n7 c7) rfl
  have k3 := K7.out.cell_ (i := 3) (v := .slice B7 m7 d7) rfl
  have j0 := J7.out.cell_ (i := 0) (v := .int .i64 t) rfl
  have j1 := J7.out.cell_ (i := 1) (v := .int .i64 g) rfl
  have hoo : (ok == ok) = true := by simp
  have hon : (ok != ok) = false := by simp
  go_wp2_with fail
  refine (gr_same (show RdGr _ I' K' A7 n7 c7 B7 m7 d7 ps' ds' from ⟨G7.out.oi.se, G7.out.oh.se⟩) (show RdGr _ I' K' A5 n5 c5 B5 m5 d5 ps' ds' from ⟨(V5.out.st T5.out).i, (V5.out.st T5.out).j⟩) FT.out).mono ?_
  rintro e w9 ⟨rfl, s9⟩
  have WW := hid (WW.out.kept (Kept.of_st s9))
  replace R := hid (R.out.st s9)
  replace S := hid (S.out.st s9)
  replace X := hid (X.out.st s9)
  replace T5 := hid (T5.out.st s9)
  replace R6 := hid (R6.out.st s9)
  replace Z := hid (Z.out.st s9)
  replace K7 := hid (K7.out.st s9)
  replace J7 := hid (J7.out.st s9)
  replace G7 := hid (G7.out.st s9)
  replace x0 := s9.cell x0
  replace x1 := s9.cell x1
  replace x2 := s9.cell x2
  replace x3 := s9.cell x3
  replace z0 := s9.cell z0
  replace z1 := s9.cell z1
  replace z2 := s9.cell z2
  replace z3 := s9.cell z3
  replace l0 := s9.cell l0
  replace l1 := s9.cell l1
  replace l2 := s9.cell l2
  replace l3 := s9.cell l3
  replace k0 := s9.cell k0
  replace k1 := s9.cell k1
  replace k2 := s9.cell k2
  replace k3 := s9.cell k3
  replace u0 := s9.cell u0
  replace u1 := s9.cell u1
  replace j0 := s9.cell j0
  replace j1 := s9.cell j1
  clear s9
  go_wp2_with fail
  refine (eqStamp_any t g t g _).mono ?_
  rintro e w9b ⟨rfl, s9⟩
  rw [show eqS (t, g) (t, g) = true from eqS_iff.2 rfl]
  have WW := hid (WW.out.kept (Kept.of_st s9))
  replace R := hid (R.out.st s9)
  replace S := hid (S.out.st s9)
  replace X := hid (X.out.st s9)
  replace T5 := hid (T5.out.st s9)
  replace R6 := hid (R6.out.st s9)
  replace Z := hid (Z.out.st s9)
  replace K7 := hid (K7.out.st s9)
  replace J7 := hid (J7.out.st s9)
  replace G7 := hid (G7.out.st s9)
  replace x0 := s9.cell x0
  replace x1 := s9.cell x1
  replace x2 := s9.cell x2
  replace x3 := s9.cell x3
  replace z0 := s9.cell z0
  replace z1 := s9.cell z1
  replace z2 := s9.cell z2
  replace z3 := s9.cell z3
  replace l0 := s9.cell l0
  replace l1 := s9.cell l1
  replace l2 := s9.cell l2
  replace l3 := s9.cell l3
  replace k0 := s9.cell k0
  replace k1 := s9.cell k1
  replace k2 := s9.cell k2
  replace k3 := s9.cell k3
  replace u0 := s9.cell u0
  replace u1 := s9.cell u1
  replace j0 := s9.cell j0
  replace j1 := s9.cell j1
  clear s9
  go_upto_region 10 with (fail)
  refine wp_region_held_drew (S := (fun w' => w'.cell? ⟨w6.heap.size, 0, none⟩ = some (.int .i64 I) ∧ w'.cell? ⟨w6.heap.size, 1, none⟩ = some (.int .i64 K) ∧ w'.cell? ⟨w6.heap.size, 2, none⟩ = some (.slice A6 n6 c6) ∧ w'.cell? ⟨w6.heap.size, 3, none⟩ = some (.slice B6 m6 d6) ∧ w'.cell? ⟨w.heap.size, 0, none⟩ = some (.int .i64 I) ∧ w'.cell? ⟨w.heap.size, 1, none⟩ = some (.int .i64 K) ∧ w'.cell? ⟨w.heap.size, 2, none⟩ = some (.slice A n c) ∧ w'.cell? ⟨w.heap.size, 3, none⟩ = some (.slice B m d))) (by kernel_rfl) ?_ (fun hH0 => ?_)
  · exact ⟨z0, z1, z2, z3, x0, x1, x2, x3⟩
  refine wpAnyH_take (i := 0) (oi := ⟨some 56, _, _, _, _, _⟩) (v := ?_) rfl (by kernel_rfl) (by kernel_rfl) (by kernel_rfl) (fun _ _ _ h => h) (Or.inl ⟨by rfl, ?_⟩) (by assumption) ?_
  rotate_left
  · (intro w hSw; (try dsimp only at hSw); go_simp; (try with_reducible rfl))
  (try simp only [Act.put, List.setIfInBounds_toArray, List.set_cons_zero, List.set_cons_succ])
  refine wpAnyH_take (i := 1) (oi := ⟨some 57, _, _, _, _, _⟩) (v := ?_) rfl (by kernel_rfl) (by kernel_rfl) (by kernel_rfl) (fun _ _ _ h => h) (Or.inl ⟨by rfl, ?_⟩) (by assumption) ?_
  rotate_left
  · (intro w hSw; (try dsimp only at hSw); go_simp; (try with_reducible rfl))
  (try simp only [Act.put, List.setIfInBounds_toArray, List.set_cons_zero, List.set_cons_succ])
  refine wpAnyH_ready (rs := [2]) (by kernel_rfl) (by simp) ?_
  refine AllReadyH.cons (o := ⟨some 58, _, _, _, _, _⟩) rfl (fun K hK => ?_) AllReadyH.nil
  go_simp
  (go_at_call 25; refine (gr_to (hR0.out.st (S.out.trans (Dr.st ⟨1, rfl⟩))) HF.out).mono ?_; rintro e wa ⟨Aa, na, ca, Ba, ma, da, rfl, oa, ta⟩; have Ta := St.trans (Dr.st ⟨1, rfl⟩ : St w9b (w9b.drewN 1)) ta)
  (first | (refine hK.out _ _ ?_ (fun hH1 => ?_)) | (go_wp2_with fail; refine hK.out _ _ ?_ (fun hH1 => ?_)))
  · exact ⟨Ta.cell z0, Ta.cell z1, Ta.cell z2, Ta.cell z3, Ta.cell x0, Ta.cell x1, Ta.cell x2, Ta.cell x3⟩
  clear hK K hH0
  (try simp only [Act.put, List.setIfInBounds_toArray, List.set_cons_zero, List.set_cons_succ])
  refine wpAnyH_ready (rs := [3]) (by kernel_rfl) (by simp) ?_
  refine AllReadyH.cons (o := ⟨some 59, _, _, _, _, _⟩) rfl (fun K hK => ?_) AllReadyH.nil
  go_simp
  (go_at_call 27; refine (gr_same (R6.out.st Ta) oa.rd HF.out).mono ?_; rintro e w10 ⟨rfl, tb⟩; have Tb := Ta.trans tb)
  (first | (refine hK.out _ _ ?_ (fun hH2 => ?_)) | (go_wp2_with fail; refine hK.out _ _ ?_ (fun hH2 => ?_)))
  · exact ⟨Tb.cell z0, Tb.cell z1, Tb.cell z2, Tb.cell z3, Tb.cell x0, Tb.cell x1, Tb.cell x2, Tb.cell x3⟩
  clear hK K hH1
  (try simp only [Act.put, List.setIfInBounds_toArray, List.set_cons_zero, List.set_cons_succ])
  refine wpAnyH_take (i := 4) (oi := ⟨some 60, _, _, _, _, _⟩) (v := ?_) rfl (by kernel_rfl) (by kernel_rfl) (by kernel_rfl) (fun _ _ _ h => h) (Or.inl ⟨by rfl, ?_⟩) (by assumption) ?_
  rotate_left
  · (intro w hSw; (try dsimp only at hSw); go_simp; (try with_reducible rfl))
  (try simp only [Act.put, List.setIfInBounds_toArray, List.set_cons_zero, List.set_cons_succ])
  refine wpAnyH_done (by kernel_rfl) ?_ _
  clear hH2
  have WW := hid (WW.out.kept (Kept.of_st Tb))
  replace R := hid (R.out.st Tb)
  replace S := hid (S.out.st Tb)
  replace X := hid (X.out.st Tb)
  replace T5 := hid (T5.out.st Tb)
  replace R6 := hid (R6.out.st Tb)
  replace Z := hid (Z.out.st Tb)
  replace K7 := hid (K7.out.st Tb)
  replace J7 := hid (J7.out.st Tb)
  replace G7 := hid (G7.out.st Tb)
  replace x0 := Tb.cell x0
  replace x1 := Tb.cell x1
  replace x2 := Tb.cell x2
  replace x3 := Tb.cell x3
  replace z0 := Tb.cell z0
  replace z1 := Tb.cell z1
  replace z2 := Tb.cell z2
  replace z3 := Tb.cell z3
  replace l0 := Tb.cell l0
  replace l1 := Tb.cell l1
  replace l2 := Tb.cell l2
  replace l3 := Tb.cell l3
  replace k0 := Tb.cell k0
  replace k1 := Tb.cell k1
  replace k2 := Tb.cell k2
  replace k3 := Tb.cell k3
  replace u0 := Tb.cell u0
  replace u1 := Tb.cell u1
  replace j0 := Tb.cell j0
  replace j1 := Tb.cell j1
  clear Ta ta oa tb Tb R6
  go_wp2_with fail
  refine (gr_mark WW.out HF.out).mono ?_
  rintro e w12 ⟨⟨mk, rfl, hmk⟩, kk⟩
  have hmkn : ¬ mk < 0 := by omega
  have S := hid (Turned.st S.out kk.tu (fun g hg => by have h1 := hg.1; have h2 := HS5.out; omega))
  have T5 := hid (Turned.st T5.out kk.tu (fun g hg => hg.1))
  have X := hid (Blk.turned X.out kk.tu (fun hg => by have h1 := hg.1; have h2 := HS5.out; omega))
  have G7 := hid (G7.out.turned kk.tu (fun g hg => by have h1 := hg.2; have h2 := HZ7.out; omega))
  have K7 := hid (Blk.turned K7.out kk.tu (fun hg => by have h1 := hg.2; have h2 := HZ7.out; have h3 := HB7.out; omega))
  have J7 := hid (Blk.turned J7.out kk.tu (fun hg => by have h1 := hg.2; have h2 := HZ7.out; have h3 := HB7.out; omega))
  clear kk WW R Z hmk x0 x1 x2 x3 z0 z1 z2 z3 l0 l1 l2 l3 k0 k1 k2 k3 u0 u1 j0 j1
  have x0 := X.out.cell_ (i := 0) (v := .int .i64 I) rfl
  have x1 := X.out.cell_ (i := 1) (v := .int .i64 K) rfl
  have x2 := X.out.cell_ (i := 2) (v := .slice A n c) rfl
  have x3 := X.out.cell_ (i := 3) (v := .slice B m d) rfl
  have l0 := (V5.out.st T5.out).k.cell_ (i := 0) (v := .int .i64 I') rfl
  have l1 := (V5.out.st T5.out).k.cell_ (i := 1) (v := .int .i64 K') rfl
  have l2 := (V5.out.st T5.out).k.cell_ (i := 2) (v := .slice A5 n5 c5) rfl
  have l3 := (V5.out.st T5.out).k.cell_ (i := 3) (v := .slice B5 m5 d5) rfl
  have u0 := (V5.out.st T5.out).s.cell_ (i := 0) (v := .int .i64 t) rfl
  have u1 := (V5.out.st T5.out).s.cell_ (i := 1) (v := .int .i64 g) rfl
  have k0 := K7.out.cell_ (i := 0) (v := .int .i64 I') rfl
  have k1 := K7.out.cell_ (i := 1) (v := .int .i64 K') rfl
  have k2 := K7.out.cell_ (i := 2) (v := .slice A7 n7 c7) rfl
  have k3 := K7.out.cell_ (i := 3) (v := .slice B7 m7 d7) rfl
  have j0 := J7.out.cell_ (i := 0) (v := .int .i64 t) rfl
  have j1 := J7.out.cell_ (i := 1) (v := .int .i64 g) rfl
  go_wp2_with fail
  refine (gr_same (show RdGr _ I' K' A7 n7 c7 B7 m7 d7 ps' ds' from ⟨G7.out.oi.se, G7.out.oh.se⟩) (show RdGr _ I' K' A5 n5 c5 B5 m5 d5 ps' ds' from ⟨(V5.out.st T5.out).i, (V5.out.st T5.out).j⟩) FT.out).mono ?_
  rintro e w13 ⟨rfl, s9⟩
  replace S := hid (S.out.st s9)
  replace X := hid (X.out.st s9)
  replace T5 := hid (T5.out.st s9)
  replace K7 := hid (K7.out.st s9)
  replace J7 := hid (J7.out.st s9)
  replace G7 := hid (G7.out.st s9)
  replace x0 := s9.cell x0
  replace x1 := s9.cell x1
  replace x2 := s9.cell x2
  replace x3 := s9.cell x3
  replace l0 := s9.cell l0
  replace l1 := s9.cell l1
  replace l2 := s9.cell l2
  replace l3 := s9.cell l3
  replace k0 := s9.cell k0
  replace k1 := s9.cell k1
  replace k2 := s9.cell k2
  replace k3 := s9.cell k3
  replace u0 := s9.cell u0
  replace u1 := s9.cell u1
  replace j0 := s9.cell j0
  replace j1 := s9.cell j1
  clear s9
  go_wp2_with fail
  refine (eqStamp_any t g t g _).mono ?_
  rintro e w13b ⟨rfl, s9⟩
  rw [show eqS (t, g) (t, g) = true from eqS_iff.2 rfl]
  replace S := hid (S.out.st s9)
  replace X := hid (X.out.st s9)
  replace T5 := hid (T5.out.st s9)
  replace K7 := hid (K7.out.st s9)
  replace J7 := hid (J7.out.st s9)
  replace G7 := hid (G7.out.st s9)
  replace x0 := s9.cell x0
  replace x1 := s9.cell x1
  replace x2 := s9.cell x2
  replace x3 := s9.cell x3
  replace l0 := s9.cell l0
  replace l1 := s9.cell l1
  replace l2 := s9.cell l2
  replace l3 := s9.cell l3
  replace k0 := s9.cell k0
  replace k1 := s9.cell k1
  replace k2 := s9.cell k2
  replace k3 := s9.cell k3
  replace u0 := s9.cell u0
  replace u1 := s9.cell u1
  replace j0 := s9.cell j0
  replace j1 := s9.cell j1
  clear s9
  have hn7 : n7 ≤ 1048576 := (show RdGr _ I' K' A7 n7 c7 B7 m7 d7 ps' ds' from G7.out.rd).n_ FT.out
  have hm7 : m7 ≤ 1048576 := (show RdGr _ I' K' A7 n7 c7 B7 m7 d7 ps' ds' from G7.out.rd).m_ FT.out
  go_wp2_with fail
  refine (markGroup_any I' K' A7 B7 n7 c7 m7 d7 _ 1 ps' ds' _ G7.out.oi G7.out.oh G7.out.ne hn7 hm7 (by omega) (by omega)).mono ?_
  rintro e w14 ⟨rfl, om, pm, tu⟩
  have hP : ∀ g, (blockOf A7 = some g ∨ blockOf B7 = some g) → w7.heap.size ≤ g := fun g hg => hg.elim (fun h => (G7.out.oi.lt g h).1) (fun h => (G7.out.oh.lt g h).1)
  have HLE := hid (show v5.heap.size ≤ w7.heap.size by have h1 := HZ56.out; have h2 := HZ7.out; omega)
  have hA7 : blockOf A7 ≠ some b7 := G7.out.oi.ne_blk K7.out (by decide)
  have hB7 : blockOf B7 ≠ some b7 := G7.out.oh.ne_blk K7.out (by decide)
  have S := hid (Turned.st S.out tu (fun g hg => by have h1 := hP g hg; have h2 := HLE.out; have h3 := HS5.out; omega))
  have T5 := hid (Turned.st T5.out tu (fun g hg => by have h1 := hP g hg; have h2 := HLE.out; omega))
  have X := hid (Blk.turned X.out tu (fun hg => by have h1 := hP _ hg; have h2 := HLE.out; have h3 := HS5.out; omega))
  have K7 := hid (Blk.turned K7.out tu (fun hg => hg.elim hA7 hB7))
  have OM := hid om.se
  have PM := hid pm.se
  clear J7
  clear om pm tu hP hA7 hB7 G7 x0 x1 x2 x3 l0 l1 l2 l3 k0 k1 k2 k3 u0 u1 j0 j1
  have x0 := X.out.cell_ (i := 0) (v := .int .i64 I) rfl
  have x1 := X.out.cell_ (i := 1) (v := .int .i64 K) rfl
  have x2 := X.out.cell_ (i := 2) (v := .slice A n c) rfl
  have x3 := X.out.cell_ (i := 3) (v := .slice B m d) rfl
  have k0 := K7.out.cell_ (i := 0) (v := .int .i64 I') rfl
  have k1 := K7.out.cell_ (i := 1) (v := .int .i64 K') rfl
  have k2 := K7.out.cell_ (i := 2) (v := .slice A7 n7 c7) rfl
  have k3 := K7.out.cell_ (i := 3) (v := .slice B7 m7 d7) rfl
  go_wp2_with fail
  refine (heldGroup_any I' K' A7 B7 n7 c7 m7 d7 1 _ OM.out PM.out hn7 hm7 (by omega) (by omega)).mono ?_
  rintro e w15 ⟨rfl, s15⟩
  replace S := hid (S.out.st s15)
  replace X := hid (X.out.st s15)
  replace T5 := hid (T5.out.st s15)
  replace K7 := hid (K7.out.st s15)
  replace OM := hid (OM.out.st s15)
  replace PM := hid (PM.out.st s15)
  replace x0 := s15.cell x0
  replace x1 := s15.cell x1
  replace x2 := s15.cell x2
  replace x3 := s15.cell x3
  replace k0 := s15.cell k0
  replace k1 := s15.cell k1
  replace k2 := s15.cell k2
  replace k3 := s15.cell k3
  clear s15
  have hqn : ¬ (1 : Int) + 4 * (n7 : Int) + 4 * (m7 : Int) < 0 := by omega
  have R := hid (hR0.out.st S.out)
  go_wp2_with fail
  refine (gr_to R.out HF.out).mono ?_
  rintro e w16 ⟨A8, n8, c8, B8, m8, d8, rfl, o8, s16⟩
  have R8 := hid o8.rd
  replace S := hid (S.out.st s16)
  replace T5 := hid (T5.out.st s16)
  replace K7 := hid (K7.out.st s16)
  replace OM := hid (OM.out.st s16)
  replace PM := hid (PM.out.st s16)
  replace k0 := s16.cell k0
  replace k1 := s16.cell k1
  replace k2 := s16.cell k2
  replace k3 := s16.cell k3
  clear s16 o8 R X x0 x1 x2 x3
  go_wp2_with fail
  refine (GroupPropose_any _ _ _ _ _ _ _ _ _ _ xm _ R8.out.sl R8.out.sh (R8.out.n_ HF.out) (R8.out.m_ HF.out)).mono ?_
  rintro e w17 ⟨A9, n9, c9, B9, m9, d9, rfl, C9, s17⟩
  rw [HR.out] at C9 ⊢
  simp only at C9 ⊢
  have V9 := hid (PO.new (t := t) (g := g) C9)
  have sa := ((St.refl w17).alloc (.cells (grC I' K' A9 n9 c9 B9 m9 d9) 25)).alloc (.cells #[.int .i64 t, .int .i64 g] 29)
  have ss := s17.trans sa
  replace S := hid (S.out.st ss)
  replace T5 := hid (T5.out.st ss)
  replace K7 := hid (K7.out.st ss)
  replace OM := hid (OM.out.st ss)
  replace PM := hid (PM.out.st ss)
  replace k0 := ss.cell k0
  replace k1 := ss.cell k1
  replace k2 := ss.cell k2
  replace k3 := ss.cell k3
  clear s17 sa ss C9 R8
  go_upto_region 25 with (fail)
  generalize (w17.alloc (.cells _ 25)).alloc (.cells _ 29) = v9 at *
  generalize w17.heap.size = b9 at *
  have l0 := (V5.out.st T5.out).k.cell_ (i := 0) (v := .int .i64 I') rfl
  have l1 := (V5.out.st T5.out).k.cell_ (i := 1) (v := .int .i64 K') rfl
  have l2 := (V5.out.st T5.out).k.cell_ (i := 2) (v := .slice A5 n5 c5) rfl
  have l3 := (V5.out.st T5.out).k.cell_ (i := 3) (v := .slice B5 m5 d5) rfl
  have u0 := (V5.out.st T5.out).s.cell_ (i := 0) (v := .int .i64 t) rfl
  have u1 := (V5.out.st T5.out).s.cell_ (i := 1) (v := .int .i64 g) rfl
  have h0 := V9.out.k.cell_ (i := 0) (v := .int .i64 I') rfl
  have h1 := V9.out.k.cell_ (i := 1) (v := .int .i64 K') rfl
  have h2 := V9.out.k.cell_ (i := 2) (v := .slice A9 n9 c9) rfl
  have h3 := V9.out.k.cell_ (i := 3) (v := .slice B9 m9 d9) rfl
  have j0 := V9.out.s.cell_ (i := 0) (v := .int .i64 t) rfl
  have j1 := V9.out.s.cell_ (i := 1) (v := .int .i64 g) rfl
  go_wp2_with fail
  refine (gr_same (show RdGr _ I' K' A9 n9 c9 B9 m9 d9 ps' ds' from ⟨V9.out.i, V9.out.j⟩) (show RdGr _ I' K' A5 n5 c5 B5 m5 d5 ps' ds' from ⟨(V5.out.st T5.out).i, (V5.out.st T5.out).j⟩) FT.out).mono ?_
  rintro e w18 ⟨rfl, s9⟩
  replace S := hid (S.out.st s9)
  replace T5 := hid (T5.out.st s9)
  replace K7 := hid (K7.out.st s9)
  replace OM := hid (OM.out.st s9)
  replace PM := hid (PM.out.st s9)
  replace V9 := hid (V9.out.st s9)
  replace k0 := s9.cell k0
  replace k1 := s9.cell k1
  replace k2 := s9.cell k2
  replace k3 := s9.cell k3
  replace l0 := s9.cell l0
  replace l1 := s9.cell l1
  replace l2 := s9.cell l2
  replace l3 := s9.cell l3
  replace u0 := s9.cell u0
  replace u1 := s9.cell u1
  replace h0 := s9.cell h0
  replace h1 := s9.cell h1
  replace h2 := s9.cell h2
  replace h3 := s9.cell h3
  replace j0 := s9.cell j0
  replace j1 := s9.cell j1
  clear s9
  go_wp2_with fail
  refine (eqStamp_any t g t g _).mono ?_
  rintro e w18b ⟨rfl, s9⟩
  rw [show eqS (t, g) (t, g) = true from eqS_iff.2 rfl]
  replace S := hid (S.out.st s9)
  replace T5 := hid (T5.out.st s9)
  replace K7 := hid (K7.out.st s9)
  replace OM := hid (OM.out.st s9)
  replace PM := hid (PM.out.st s9)
  replace k0 := s9.cell k0
  replace k1 := s9.cell k1
  replace k2 := s9.cell k2
  replace k3 := s9.cell k3
  clear s9
  clear l0 l1 l2 l3 u0 u1 h0 h1 h2 h3 j0 j1 V9
  go_wp2_with fail
  refine (heldGroup_any I' K' A7 B7 n7 c7 m7 d7 1 _ OM.out PM.out hn7 hm7 (by omega) (by omega)).mono ?_
  rintro e w20 ⟨rfl, s20⟩
  go_wp2_with fail
  go_ret
  exact ⟨rfl, S.out.trans s20⟩
end Go.Proofs.Ytfepegellpegdaa
