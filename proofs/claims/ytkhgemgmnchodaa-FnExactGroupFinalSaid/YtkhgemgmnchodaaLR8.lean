/- FnExactGroupFinal returns true. -/
import Derived.Test.YtkhgemgmnchodaaLawFn
namespace Go.Proofs.Ytkhgemgmnchodaa
open Go.RowKit Go.Sort
theorem fin_fit {g o : Grp} {m : Int} {s : Int × Int} {l : List Int} {ok : Bool} (h : finM g m s = (o, l, ok)) : FitGr o.pend o.done ∧ l.length ≤ 1048576 := by
  have hl := fin_len g m s
  rw [h] at hl
  cases hb : (grOk g && (isMsg m && stOk s))
  · rw [finM_bad hb] at h
    injection h with h h2
    injection h2 with h2 _
    subst h h2
    exact ⟨⟨by simp [g0], by simp [g0]⟩, by simp⟩
  · rw [Bool.and_eq_true] at hb
    have := (grOk_iff.1 hb.1).small
    simp only at hl
    exact ⟨⟨by omega, by omega⟩, by omega⟩
theorem OI.turnedN {P : Nat → Prop} {w w' : World} {base n c : Nat} {e : TypeId} {A : Option Addr} {xs : List Int} (h : OI w base e A n c xs) (k : Turned P w w') (hP : ∀ g, P g → blockOf A ≠ some g) : OI w' base e A n c xs := by
  refine ⟨h.1, ?_⟩
  rcases h.2 with h1 | ⟨g, cap, cur, h1, h2, h3, h4⟩
  · exact .inl h1
  · refine .inr ⟨g, cap, cur, h1, h2, ?_, h4⟩
    rw [k.block g (Blk.lt (t := e) (cs := cur) h3) (fun hp => hP g hp (by injection h1 with h1; rw [h1]; rfl))]
    exact h3
/-- A group and messages that a call made, in a block of the law's. -/
structure GBk (W1 W2 : World) (b : Nat) (I K : Int) (A : Option Addr) (n c : Nat) (B : Option Addr) (m d : Nat) (ps ds : List Ent) (T : Option Addr) (u : Nat) (xs : List Int) : Prop where
  kb : Blk W2 b 25 (grC I K A n c B m d)
  ow : OwGr W2 W1.heap.size I K A n c B m d ps ds
  ol : OI W2 W1.heap.size 3 T xs.length u xs
  s : St W1 W2
  le : W1.heap.size ≤ b
section
variable {W1 W2 : World} {I K : Int} {A B T : Option Addr} {n c m d u base z : Nat} {ps ds : List Ent} {xs : List Int}
theorem GBk.last (s : St W1 W2) (o : OwGr W2 base I K A n c B m d ps ds) (l : OI W2 base 3 T xs.length u xs) (hb : W1.heap.size ≤ base) : GBk W1 (W2.alloc (.cells (grC I K A n c B m d) 25)) W2.heap.size I K A n c B m d ps ds T u xs :=
  have a := (St.refl W2).alloc (.cells (grC I K A n c B m d) 25)
  ⟨Blk.new _ _ _, (o.less hb).st a, OI.st (OI.less l hb) a, s.trans a, s.le⟩
theorem GBk.sets (s : St W1 W2) (o : OwGr W2 base I K A n c B m d ps ds) (l : OI W2 base 3 T xs.length u xs) (k : Blk W2 z 25 (grC 0 0 none 0 0 none 0 0)) (hb : W1.heap.size ≤ base) (hz : z < base) (hw : W1.heap.size ≤ z) : GBk W1 (setGr W2 z I K A n c B m d) z I K A n c B m d ps ds T u xs := by
  obtain ⟨f1, f2, f3⟩ := gr_put (I := I) (K := K) k o s hw
  exact ⟨f1.out, f2.out.less hb, (OI.putGr l hz).less hb, f3.out, hw⟩
end
section
variable {w : World} {I K I' K' : Int} {A B : Option Addr} {n c m d : Nat} {ps ds ps' ds' : List Ent} {xs : List Int} {ok : Bool} {x st sg : Int}
theorem GroupFinal_r (hr : finM ⟨I, K, ps, ds⟩ x (st, sg) = (⟨I', K', ps', ds'⟩, xs, ok)) (h : RdGr w I K A n c B m d ps ds) (f : FitGr ps ds) :
    Calls Try.prog 14 #[grV I K A n c B m d, .int .i64 x, .agg #[.int .i64 st, .int .i64 sg]] w fun e w' => ∃ A n c B m d T u, e = .returned (.tuple #[grV I' K' A n c B m d, .slice T xs.length u, .bool ok]) ∧ OwGr w' w.heap.size I' K' A n c B m d ps' ds' ∧ OI w' w.heap.size 3 T xs.length u xs ∧ St w w' := by
  have := GroupFinal_any I K A B n c m d ps ds x st sg w h.sl h.sh (h.n_ f) (h.m_ f)
  unfold FnEnd at this
  rw [hr] at this
  exact this
theorem specGroupFinal_r (hr : finM ⟨I, K, ps, ds⟩ x (st, sg) = (⟨I', K', ps', ds'⟩, xs, ok)) (h : RdGr w I K A n c B m d ps ds) (f : FitGr ps ds) :
    Calls Try.prog 16 #[grV I K A n c B m d, .int .i64 x, .agg #[.int .i64 st, .int .i64 sg]] w fun e w' => ∃ A n c B m d T u, e = .returned (.tuple #[grV I' K' A n c B m d, .slice T xs.length u, .bool ok]) ∧ OwGr w' w.heap.size I' K' A n c B m d ps' ds' ∧ OI w' w.heap.size 3 T xs.length u xs ∧ St w w' := by
  have := specGroupFinal_any I K A B n c m d ps ds x st sg w h.sl h.sh (h.n_ f) (h.m_ f)
  unfold FnEnd at this
  rw [hr] at this
  exact this
end
set_option maxRecDepth 100000 in
set_option maxHeartbeats 8000000 in
theorem walkExactGroupFinal (I Kq : Int) (A : Option Addr) (n c : Nat) (B : Option Addr) (m d : Nat) (ps ds : List Ent) {w : World} (hf0 : SE w A n c ps) (hf1 : SE w B m d ds) (xm : Int) (_ : (Lit.int .i64 xm).wf = true) (st sg : Int) :
    Calls Try.prog 10 #[grV I Kq A n c B m d, .int .i64 xm, .agg #[.int .i64 st, .int .i64 sg]] w fun e w' => e = .returned (.bool true) ∧ Below w.heap.size w w' := by
  have hR0 := hid (show RdGr w I Kq A n c B m d ps ds from ⟨hf0, hf1⟩)
  clear hf0 hf1
  have s0 := ((St.refl w).alloc (.cells (grC I Kq A n c B m d) 51)).alloc (.cells #[.int .i64 st, .int .i64 sg] 52)
  have X := hid ((Blk.new w 51 (grC I Kq A n c B m d)).alloc (.cells #[.int .i64 st, .int .i64 sg] 52))
  have Y := hid (blk_second w (.cells (grC I Kq A n c B m d) 51) 52 #[.int .i64 st, .int .i64 sg])
  have R := hid (hR0.out.st s0)
  have S := hid s0
  clear s0
  obtain ⟨⟨⟨I', K', ps', ds'⟩, xs, ok⟩, hr⟩ : ∃ r, finM ⟨I, Kq, ps, ds⟩ xm (st, sg) = r := ⟨_, rfl⟩
  have HR := hid hr
  have FT := hid (show FitGr ps' ds' from (fin_fit hr).1)
  have FX := hid (show xs.length ≤ 1048576 from (fin_fit hr).2)
  clear hr
  go_enter Try.func10, Try.ntmps10
  go_upto_region 2 with (fail)
  generalize (w.alloc (.cells _ 51)).alloc (.cells _ 52) = w1 at *
  have x0 := X.out.cell_ (i := 0) (v := .int .i64 I) rfl
  have x1 := X.out.cell_ (i := 1) (v := .int .i64 Kq) rfl
  have x2 := X.out.cell_ (i := 2) (v := .slice A n c) rfl
  have x3 := X.out.cell_ (i := 3) (v := .slice B m d) rfl
  have p0 := Y.out.cell_ (i := 0) (v := .int .i64 st) rfl
  have p1 := Y.out.cell_ (i := 1) (v := .int .i64 sg) rfl
  go_wp2_with fail
  refine (gr_sz R.out).mono ?_
  rintro e w2 ⟨⟨r, rfl, hr⟩, s2⟩
  replace R := hid (R.out.st s2)
  replace S := hid (S.out.st s2)
  replace X := hid (X.out.st s2)
  replace Y := hid (Y.out.st s2)
  replace x0 := s2.cell x0
  replace x1 := s2.cell x1
  replace x2 := s2.cell x2
  replace x3 := s2.cell x3
  replace p0 := s2.cell p0
  replace p1 := s2.cell p1
  clear s2
  by_cases hz : r < 0
  · go_wp2_with fail
    go_ret
    exact ⟨rfl, S.out⟩
  have HF := hid (hr.resolve_left hz)
  clear hr
  go_upto_region 5 with (fail)
  have sA := (Dr.st ⟨1, rfl⟩ : St w2 (w2.drewN 1))
  have sB := sA.alloc (.cells (grC 0 0 none 0 0 none 0 0) 25)
  go_cut [8, 9, 10] (fun s8 s9 s10 wx => ∃ (bb : Nat) (Ab : Option Addr) (nb cb : Nat) (Bb : Option Addr) (mb db : Nat) (Tb : Option Addr) (ub : Nat), s8 = .pointer (some ⟨bb, 0, none⟩) ∧ s9 = .slice Tb xs.length ub ∧ s10 = .bool ok ∧ Hid (GBk w2 wx bb I' K' Ab nb cb Bb mb db ps' ds' Tb ub xs))
  case first =>
    refine wp_region_held_drew (S := (fun w' => w'.cell? ⟨w.heap.size, 0, none⟩ = some (.int .i64 I) ∧ w'.cell? ⟨w.heap.size, 1, none⟩ = some (.int .i64 Kq) ∧ w'.cell? ⟨w.heap.size, 2, none⟩ = some (.slice A n c) ∧ w'.cell? ⟨w.heap.size, 3, none⟩ = some (.slice B m d) ∧ w'.cell? ⟨w.heap.size + 1, 0, none⟩ = some (.int .i64 st) ∧ w'.cell? ⟨w.heap.size + 1, 1, none⟩ = some (.int .i64 sg))) (by kernel_rfl) ?_ (fun hH0 => ?_)
    · exact ⟨x0, x1, x2, x3, p0, p1⟩
    refine wpAnyH_take (i := 0) (oi := ⟨some 27, _, _, _, _, _⟩) (v := ?_) rfl (by kernel_rfl) (by kernel_rfl) (by kernel_rfl) (fun _ _ _ h => h) (Or.inl ⟨by rfl, ?_⟩) (by assumption) ?_
    rotate_left
    · (intro w hSw; (try dsimp only at hSw); go_simp; (try with_reducible rfl))
    (try simp only [Act.put, List.setIfInBounds_toArray, List.set_cons_zero, List.set_cons_succ])
    refine wpAnyH_take (i := 2) (oi := ⟨some 29, _, _, _, _, _⟩) (v := ?_) rfl (by kernel_rfl) (by kernel_rfl) (by kernel_rfl) (fun _ _ _ h => h) (Or.inl ⟨by rfl, ?_⟩) (by assumption) ?_
    rotate_left
    · (intro w hSw; (try dsimp only at hSw); go_simp; (try with_reducible rfl))
    (try simp only [Act.put, List.setIfInBounds_toArray, List.set_cons_zero, List.set_cons_succ])
    refine wpAnyH_take (i := 3) (oi := ⟨some 30, _, _, _, _, _⟩) (v := ?_) rfl (by kernel_rfl) (by kernel_rfl) (by kernel_rfl) (fun _ _ _ h => h) (Or.inl ⟨by rfl, ?_⟩) (by assumption) ?_
    rotate_left
    · (intro w hSw; (try dsimp only at hSw); go_simp; (try with_reducible rfl))
    (try simp only [Act.put, List.setIfInBounds_toArray, List.set_cons_zero, List.set_cons_succ])
    refine wpAnyH_ready (rs := [1, 10]) (by kernel_rfl) (by simp) ?_
    refine AllReadyH.cons (o := ⟨some 28, _, _, _, _, _⟩) rfl (fun K hK => ?_) ?_
    · skip
      go_simp
      (go_at_call 27; refine (gr_to (R.out.st (by first | exact sA | exact sB)) HF.out).mono ?_; rintro e wa ⟨Aa, na, ca, Ba, ma, da, rfl, oa, twa⟩; have Twa : St w2 wa := (by first | exact St.trans sA twa | exact St.trans sB twa); have RA := hid oa.rd)
      (first | (refine hK.out _ _ ?_ (fun hH1 => ?_)) | (go_wp2_with fail; refine hK.out _ _ ?_ (fun hH1 => ?_)))
      · exact ⟨(Twa).cell x0, (Twa).cell x1, (Twa).cell x2, (Twa).cell x3, (Twa).cell p0, (Twa).cell p1⟩
      clear hK K hH0
      (try simp only [Act.put, List.setIfInBounds_toArray, List.set_cons_zero, List.set_cons_succ])
      refine wpAnyH_ready (rs := [4, 10]) (by kernel_rfl) (by simp) ?_
      refine AllReadyH.cons (o := ⟨some 31, _, _, _, _, _⟩) rfl (fun K hK => ?_) ?_
      · skip
        go_simp
        (go_at_call 28; refine (toStamp_any st sg _).mono ?_; rintro e wb ⟨rfl, twb⟩; have Twb : St w2 wb := (by first | exact St.trans Twa twb | exact St.trans (St.alloc Twa (.cells (grC 0 0 none 0 0 none 0 0) 25)) twb); have RB1 := hid (show RdGr wb I Kq Aa na ca Ba ma da ps ds by first | exact RA.out.st twb | exact (RA.out.st ((St.refl wa).alloc (.cells (grC 0 0 none 0 0 none 0 0) 25))).st twb))
        (first | (refine hK.out _ _ ?_ (fun hH2 => ?_)) | (go_wp2_with fail; refine hK.out _ _ ?_ (fun hH2 => ?_)))
        · exact ⟨(Twb).cell x0, (Twb).cell x1, (Twb).cell x2, (Twb).cell x3, (Twb).cell p0, (Twb).cell p1⟩
        clear hK K hH1
        (try simp only [Act.put, List.setIfInBounds_toArray, List.set_cons_zero, List.set_cons_succ])
        refine wpAnyH_ready (rs := [5, 10]) (by kernel_rfl) (by simp) ?_
        refine AllReadyH.cons (o := ⟨some 32, _, _, _, _, _⟩) rfl (fun K hK => ?_) ?_
        · skip
          go_simp
          (go_at_call 16; refine (specGroupFinal_r HR.out (show RdGr _ I Kq Aa na ca Ba ma da ps ds by first | exact RB1.out | exact RB1.out.st ((St.refl wb).alloc (.cells (grC 0 0 none 0 0 none 0 0) 25))) HF.out).mono ?_; rintro e wc ⟨Ac, nc, cc, Bc, mc, dc, Tc, uc, rfl, oc, olc, twc⟩; have Twc : St w2 wc := (by first | exact St.trans Twb twc | exact St.trans (St.alloc Twb (.cells (grC 0 0 none 0 0 none 0 0) 25)) twc))
          (first | (refine hK.out _ _ ?_ (fun hH3 => ?_)) | (go_wp2_with fail; refine hK.out _ _ ?_ (fun hH3 => ?_)))
          · exact ⟨(Twc).cell x0, (Twc).cell x1, (Twc).cell x2, (Twc).cell x3, (Twc).cell p0, (Twc).cell p1⟩
          clear hK K hH2
          (try simp only [Act.put, List.setIfInBounds_toArray, List.set_cons_zero, List.set_cons_succ])
          refine wpAnyH_take (i := 6) (oi := ⟨some 26, _, _, _, _, _⟩) (v := ?_) rfl (by kernel_rfl) (by kernel_rfl) (by kernel_rfl) (fun _ _ _ h => h) (Or.inl ⟨by rfl, ?_⟩) (by assumption) ?_
          rotate_left
          · (intro w hSw; (try dsimp only at hSw); go_simp; (try with_reducible rfl))
          (try simp only [Act.put, List.setIfInBounds_toArray, List.set_cons_zero, List.set_cons_succ])
          refine wpAnyH_take (i := 7) (oi := ⟨some 33, _, _, _, _, _⟩) (v := ?_) rfl (by kernel_rfl) (by kernel_rfl) (by kernel_rfl) (fun _ _ _ h => h) (Or.inl ⟨by rfl, ?_⟩) (by assumption) ?_
          rotate_left
          · (intro w hSw; (try dsimp only at hSw); go_simp; (try with_reducible rfl))
          (try simp only [Act.put, List.setIfInBounds_toArray, List.set_cons_zero, List.set_cons_succ])
          refine wpAnyH_take (i := 8) (oi := ⟨some 34, _, _, _, _, _⟩) (v := ?_) rfl (by kernel_rfl) (by kernel_rfl) (by kernel_rfl) (fun _ _ _ h => h) (Or.inl ⟨by rfl, ?_⟩) (by assumption) ?_
          rotate_left
          · (intro w hSw; (try dsimp only at hSw); go_simp; (try with_reducible rfl))
          (try simp only [Act.put, List.setIfInBounds_toArray, List.set_cons_zero, List.set_cons_succ])
          refine wpAnyH_take (i := 9) (oi := ⟨some 35, _, _, _, _, _⟩) (v := ?_) rfl (by kernel_rfl) (by kernel_rfl) (by kernel_rfl) (fun _ _ _ h => h) (Or.inl ⟨by rfl, ?_⟩) (by assumption) ?_
          rotate_left
          · (intro w hSw; (try dsimp only at hSw); go_simp; (try with_reducible rfl))
          (try simp only [Act.put, List.setIfInBounds_toArray, List.set_cons_zero, List.set_cons_succ])
          refine wpAnyH_ready (rs := [10]) (by kernel_rfl) (by simp) ?_
          refine AllReadyH.cons (o := ⟨some 8, _, _, _, _, _⟩) rfl (fun K hK => ?_) AllReadyH.nil
          go_simp; have KZ := hid (Blk.new wc 25 (grC 0 0 none 0 0 none 0 0)); have zz0 := KZ.out.cell_ (i := 0) (v := .int .i64 0) rfl; have zz1 := KZ.out.cell_ (i := 1) (v := .int .i64 0) rfl; have zz2 := KZ.out.cell_ (i := 2) (v := .slice none 0 0) rfl; have zz3 := KZ.out.cell_ (i := 3) (v := .slice none 0 0) rfl; have zf0 := KZ.out.frozen 0; have zf1 := KZ.out.frozen 1; have zf2 := KZ.out.frozen 2; have zf3 := KZ.out.frozen 3; have RX := hid (GBk.last (W1 := w2) Twc oc olc Twb.le)
          (first | (refine hK.out _ _ ?_ (fun hH4 => ?_)) | (go_wp2_with fail; refine hK.out _ _ ?_ (fun hH4 => ?_)))
          · exact ⟨(Twc.alloc (.cells (grC 0 0 none 0 0 none 0 0) 25)).cell x0, (Twc.alloc (.cells (grC 0 0 none 0 0 none 0 0) 25)).cell x1, (Twc.alloc (.cells (grC 0 0 none 0 0 none 0 0) 25)).cell x2, (Twc.alloc (.cells (grC 0 0 none 0 0 none 0 0) 25)).cell x3, (Twc.alloc (.cells (grC 0 0 none 0 0 none 0 0) 25)).cell p0, (Twc.alloc (.cells (grC 0 0 none 0 0 none 0 0) 25)).cell p1⟩
          clear hK K hH3
          (try simp only [Act.put, List.setIfInBounds_toArray, List.set_cons_zero, List.set_cons_succ])
          refine wpAnyH_ready (rs := [11]) (by kernel_rfl) (by simp) ?_
          refine AllReadyH.cons (o := ⟨none, _, _, _, _, _⟩) rfl (fun K hK => ?_) AllReadyH.nil
          go_simp
          (first | (refine hK.out _ _ ?_ (fun hH5 => ?_)) | (go_wp2_with fail; refine hK.out _ _ ?_ (fun hH5 => ?_)))
          · exact ⟨RX.out.s.cell x0, RX.out.s.cell x1, RX.out.s.cell x2, RX.out.s.cell x3, RX.out.s.cell p0, RX.out.s.cell p1⟩
          clear hK K hH4
          (try simp only [Act.put, List.setIfInBounds_toArray, List.set_cons_zero, List.set_cons_succ])
          refine wpAnyH_take (i := 12) (oi := ⟨some 9, _, _, _, _, _⟩) (v := ?_) rfl (by kernel_rfl) (by kernel_rfl) (by kernel_rfl) (fun _ _ _ h => h) (Or.inl ⟨by rfl, ?_⟩) (by assumption) ?_
          rotate_left
          · (intro w hSw; (try dsimp only at hSw); go_simp; (try with_reducible rfl))
          (try simp only [Act.put, List.setIfInBounds_toArray, List.set_cons_zero, List.set_cons_succ])
          refine wpAnyH_take (i := 13) (oi := ⟨some 10, _, _, _, _, _⟩) (v := ?_) rfl (by kernel_rfl) (by kernel_rfl) (by kernel_rfl) (fun _ _ _ h => h) (Or.inl ⟨by rfl, ?_⟩) (by assumption) ?_
          rotate_left
          · (intro w hSw; (try dsimp only at hSw); go_simp; (try with_reducible rfl))
          (try simp only [Act.put, List.setIfInBounds_toArray, List.set_cons_zero, List.set_cons_succ])
          refine wpAnyH_done (by kernel_rfl) ?_ _
          clear hH5
          go_wp2_with fail
          go_meet
          exact ⟨_, _, _, _, _, _, _, _, _, rfl, rfl, rfl, hid RX.out⟩
        refine AllReadyH.cons (o := ⟨some 8, _, _, _, _, _⟩) rfl (fun K hK => ?_) ?_
        · skip
          go_simp; have KZ := hid (Blk.new wb 25 (grC 0 0 none 0 0 none 0 0)); have zz0 := KZ.out.cell_ (i := 0) (v := .int .i64 0) rfl; have zz1 := KZ.out.cell_ (i := 1) (v := .int .i64 0) rfl; have zz2 := KZ.out.cell_ (i := 2) (v := .slice none 0 0) rfl; have zz3 := KZ.out.cell_ (i := 3) (v := .slice none 0 0) rfl; have zf0 := KZ.out.frozen 0; have zf1 := KZ.out.frozen 1; have zf2 := KZ.out.frozen 2; have zf3 := KZ.out.frozen 3
          (first | (refine hK.out _ _ ?_ (fun hH3 => ?_)) | (go_wp2_with fail; refine hK.out _ _ ?_ (fun hH3 => ?_)))
          · exact ⟨(Twb.alloc (.cells (grC 0 0 none 0 0 none 0 0) 25)).cell x0, (Twb.alloc (.cells (grC 0 0 none 0 0 none 0 0) 25)).cell x1, (Twb.alloc (.cells (grC 0 0 none 0 0 none 0 0) 25)).cell x2, (Twb.alloc (.cells (grC 0 0 none 0 0 none 0 0) 25)).cell x3, (Twb.alloc (.cells (grC 0 0 none 0 0 none 0 0) 25)).cell p0, (Twb.alloc (.cells (grC 0 0 none 0 0 none 0 0) 25)).cell p1⟩
          clear hK K hH2
          (try simp only [Act.put, List.setIfInBounds_toArray, List.set_cons_zero, List.set_cons_succ])
          refine wpAnyH_ready (rs := [5]) (by kernel_rfl) (by simp) ?_
          refine AllReadyH.cons (o := ⟨some 32, _, _, _, _, _⟩) rfl (fun K hK => ?_) AllReadyH.nil
          go_simp
          (have hzl := KZ.out.lt; go_at_call 16; refine (specGroupFinal_r HR.out (show RdGr _ I Kq Aa na ca Ba ma da ps ds by first | exact RB1.out | exact RB1.out.st ((St.refl wb).alloc (.cells (grC 0 0 none 0 0 none 0 0) 25))) HF.out).mono ?_; rintro e wc ⟨Ac, nc, cc, Bc, mc, dc, Tc, uc, rfl, oc, olc, twc⟩; have Twc : St w2 wc := (by first | exact St.trans Twb twc | exact St.trans (St.alloc Twb (.cells (grC 0 0 none 0 0 none 0 0) 25)) twc); have KZ := hid (KZ.out.st twc); clear zz0 zz1 zz2 zz3 zf0 zf1 zf2 zf3; have zz0 := KZ.out.cell_ (i := 0) (v := .int .i64 0) rfl; have zz1 := KZ.out.cell_ (i := 1) (v := .int .i64 0) rfl; have zz2 := KZ.out.cell_ (i := 2) (v := .slice none 0 0) rfl; have zz3 := KZ.out.cell_ (i := 3) (v := .slice none 0 0) rfl; have zf0 := KZ.out.frozen 0; have zf1 := KZ.out.frozen 1; have zf2 := KZ.out.frozen 2; have zf3 := KZ.out.frozen 3; have RX := hid (GBk.sets (W1 := w2) Twc oc olc KZ.out (by first | exact Twb.le | exact Nat.le_trans Twb.le ((St.refl wb).alloc (.cells (grC 0 0 none 0 0 none 0 0) 25)).le) hzl (by first | exact Nat.le_refl _ | exact Twb.le | exact Twa.le)))
          (first | (refine hK.out _ _ ?_ (fun hH4 => ?_)) | (go_wp2_with fail; refine hK.out _ _ ?_ (fun hH4 => ?_)))
          · exact ⟨(Twc).cell x0, (Twc).cell x1, (Twc).cell x2, (Twc).cell x3, (Twc).cell p0, (Twc).cell p1⟩
          clear hK K hH3
          (try simp only [Act.put, List.setIfInBounds_toArray, List.set_cons_zero, List.set_cons_succ])
          refine wpAnyH_take (i := 6) (oi := ⟨some 26, _, _, _, _, _⟩) (v := ?_) rfl (by kernel_rfl) (by kernel_rfl) (by kernel_rfl) (fun _ _ _ h => h) (Or.inl ⟨by rfl, ?_⟩) (by assumption) ?_
          rotate_left
          · (intro w hSw; (try dsimp only at hSw); go_simp; (try with_reducible rfl))
          (try simp only [Act.put, List.setIfInBounds_toArray, List.set_cons_zero, List.set_cons_succ])
          refine wpAnyH_take (i := 7) (oi := ⟨some 33, _, _, _, _, _⟩) (v := ?_) rfl (by kernel_rfl) (by kernel_rfl) (by kernel_rfl) (fun _ _ _ h => h) (Or.inl ⟨by rfl, ?_⟩) (by assumption) ?_
          rotate_left
          · (intro w hSw; (try dsimp only at hSw); go_simp; (try with_reducible rfl))
          (try simp only [Act.put, List.setIfInBounds_toArray, List.set_cons_zero, List.set_cons_succ])
          refine wpAnyH_take (i := 8) (oi := ⟨some 34, _, _, _, _, _⟩) (v := ?_) rfl (by kernel_rfl) (by kernel_rfl) (by kernel_rfl) (fun _ _ _ h => h) (Or.inl ⟨by rfl, ?_⟩) (by assumption) ?_
          rotate_left
          · (intro w hSw; (try dsimp only at hSw); go_simp; (try with_reducible rfl))
          (try simp only [Act.put, List.setIfInBounds_toArray, List.set_cons_zero, List.set_cons_succ])
          refine wpAnyH_take (i := 9) (oi := ⟨some 35, _, _, _, _, _⟩) (v := ?_) rfl (by kernel_rfl) (by kernel_rfl) (by kernel_rfl) (fun _ _ _ h => h) (Or.inl ⟨by rfl, ?_⟩) (by assumption) ?_
          rotate_left
          · (intro w hSw; (try dsimp only at hSw); go_simp; (try with_reducible rfl))
          (try simp only [Act.put, List.setIfInBounds_toArray, List.set_cons_zero, List.set_cons_succ])
          refine wpAnyH_ready (rs := [11]) (by kernel_rfl) (by simp) ?_
          refine AllReadyH.cons (o := ⟨none, _, _, _, _, _⟩) rfl (fun K hK => ?_) AllReadyH.nil
          go_simp
          (first | (refine hK.out _ _ ?_ (fun hH5 => ?_)) | (go_wp2_with fail; refine hK.out _ _ ?_ (fun hH5 => ?_)))
          · exact ⟨RX.out.s.cell x0, RX.out.s.cell x1, RX.out.s.cell x2, RX.out.s.cell x3, RX.out.s.cell p0, RX.out.s.cell p1⟩
          clear hK K hH4
          (try simp only [Act.put, List.setIfInBounds_toArray, List.set_cons_zero, List.set_cons_succ])
          refine wpAnyH_take (i := 12) (oi := ⟨some 9, _, _, _, _, _⟩) (v := ?_) rfl (by kernel_rfl) (by kernel_rfl) (by kernel_rfl) (fun _ _ _ h => h) (Or.inl ⟨by rfl, ?_⟩) (by assumption) ?_
          rotate_left
          · (intro w hSw; (try dsimp only at hSw); go_simp; (try with_reducible rfl))
          (try simp only [Act.put, List.setIfInBounds_toArray, List.set_cons_zero, List.set_cons_succ])
          refine wpAnyH_take (i := 13) (oi := ⟨some 10, _, _, _, _, _⟩) (v := ?_) rfl (by kernel_rfl) (by kernel_rfl) (by kernel_rfl) (fun _ _ _ h => h) (Or.inl ⟨by rfl, ?_⟩) (by assumption) ?_
          rotate_left
          · (intro w hSw; (try dsimp only at hSw); go_simp; (try with_reducible rfl))
          (try simp only [Act.put, List.setIfInBounds_toArray, List.set_cons_zero, List.set_cons_succ])
          refine wpAnyH_done (by kernel_rfl) ?_ _
          clear hH5
          go_wp2_with fail
          go_meet
          exact ⟨_, _, _, _, _, _, _, _, _, rfl, rfl, rfl, hid RX.out⟩
        exact AllReadyH.nil
      refine AllReadyH.cons (o := ⟨some 8, _, _, _, _, _⟩) rfl (fun K hK => ?_) ?_
      · skip
        go_simp; have KZ := hid (Blk.new wa 25 (grC 0 0 none 0 0 none 0 0)); have zz0 := KZ.out.cell_ (i := 0) (v := .int .i64 0) rfl; have zz1 := KZ.out.cell_ (i := 1) (v := .int .i64 0) rfl; have zz2 := KZ.out.cell_ (i := 2) (v := .slice none 0 0) rfl; have zz3 := KZ.out.cell_ (i := 3) (v := .slice none 0 0) rfl; have zf0 := KZ.out.frozen 0; have zf1 := KZ.out.frozen 1; have zf2 := KZ.out.frozen 2; have zf3 := KZ.out.frozen 3
        (first | (refine hK.out _ _ ?_ (fun hH2 => ?_)) | (go_wp2_with fail; refine hK.out _ _ ?_ (fun hH2 => ?_)))
        · exact ⟨(Twa.alloc (.cells (grC 0 0 none 0 0 none 0 0) 25)).cell x0, (Twa.alloc (.cells (grC 0 0 none 0 0 none 0 0) 25)).cell x1, (Twa.alloc (.cells (grC 0 0 none 0 0 none 0 0) 25)).cell x2, (Twa.alloc (.cells (grC 0 0 none 0 0 none 0 0) 25)).cell x3, (Twa.alloc (.cells (grC 0 0 none 0 0 none 0 0) 25)).cell p0, (Twa.alloc (.cells (grC 0 0 none 0 0 none 0 0) 25)).cell p1⟩
        clear hK K hH1
        (try simp only [Act.put, List.setIfInBounds_toArray, List.set_cons_zero, List.set_cons_succ])
        refine wpAnyH_ready (rs := [4]) (by kernel_rfl) (by simp) ?_
        refine AllReadyH.cons (o := ⟨some 31, _, _, _, _, _⟩) rfl (fun K hK => ?_) AllReadyH.nil
        go_simp
        (have hzl := KZ.out.lt; go_at_call 28; refine (toStamp_any st sg _).mono ?_; rintro e wb ⟨rfl, twb⟩; have Twb : St w2 wb := (by first | exact St.trans Twa twb | exact St.trans (St.alloc Twa (.cells (grC 0 0 none 0 0 none 0 0) 25)) twb); have RB1 := hid (show RdGr wb I Kq Aa na ca Ba ma da ps ds by first | exact RA.out.st twb | exact (RA.out.st ((St.refl wa).alloc (.cells (grC 0 0 none 0 0 none 0 0) 25))).st twb); have KZ := hid (KZ.out.st twb); clear zz0 zz1 zz2 zz3 zf0 zf1 zf2 zf3; have zz0 := KZ.out.cell_ (i := 0) (v := .int .i64 0) rfl; have zz1 := KZ.out.cell_ (i := 1) (v := .int .i64 0) rfl; have zz2 := KZ.out.cell_ (i := 2) (v := .slice none 0 0) rfl; have zz3 := KZ.out.cell_ (i := 3) (v := .slice none 0 0) rfl; have zf0 := KZ.out.frozen 0; have zf1 := KZ.out.frozen 1; have zf2 := KZ.out.frozen 2; have zf3 := KZ.out.frozen 3)
        (first | (refine hK.out _ _ ?_ (fun hH3 => ?_)) | (go_wp2_with fail; refine hK.out _ _ ?_ (fun hH3 => ?_)))
        · exact ⟨(Twb).cell x0, (Twb).cell x1, (Twb).cell x2, (Twb).cell x3, (Twb).cell p0, (Twb).cell p1⟩
        clear hK K hH2
        (try simp only [Act.put, List.setIfInBounds_toArray, List.set_cons_zero, List.set_cons_succ])
        refine wpAnyH_ready (rs := [5]) (by kernel_rfl) (by simp) ?_
        refine AllReadyH.cons (o := ⟨some 32, _, _, _, _, _⟩) rfl (fun K hK => ?_) AllReadyH.nil
        go_simp
        (have hzl := KZ.out.lt; go_at_call 16; refine (specGroupFinal_r HR.out (show RdGr _ I Kq Aa na ca Ba ma da ps ds by first | exact RB1.out | exact RB1.out.st ((St.refl wb).alloc (.cells (grC 0 0 none 0 0 none 0 0) 25))) HF.out).mono ?_; rintro e wc ⟨Ac, nc, cc, Bc, mc, dc, Tc, uc, rfl, oc, olc, twc⟩; have Twc : St w2 wc := (by first | exact St.trans Twb twc | exact St.trans (St.alloc Twb (.cells (grC 0 0 none 0 0 none 0 0) 25)) twc); have KZ := hid (KZ.out.st twc); clear zz0 zz1 zz2 zz3 zf0 zf1 zf2 zf3; have zz0 := KZ.out.cell_ (i := 0) (v := .int .i64 0) rfl; have zz1 := KZ.out.cell_ (i := 1) (v := .int .i64 0) rfl; have zz2 := KZ.out.cell_ (i := 2) (v := .slice none 0 0) rfl; have zz3 := KZ.out.cell_ (i := 3) (v := .slice none 0 0) rfl; have zf0 := KZ.out.frozen 0; have zf1 := KZ.out.frozen 1; have zf2 := KZ.out.frozen 2; have zf3 := KZ.out.frozen 3; have RX := hid (GBk.sets (W1 := w2) Twc oc olc KZ.out (by first | exact Twb.le | exact Nat.le_trans Twb.le ((St.refl wb).alloc (.cells (grC 0 0 none 0 0 none 0 0) 25)).le) hzl (by first | exact Nat.le_refl _ | exact Twb.le | exact Twa.le)))
        (first | (refine hK.out _ _ ?_ (fun hH4 => ?_)) | (go_wp2_with fail; refine hK.out _ _ ?_ (fun hH4 => ?_)))
        · exact ⟨(Twc).cell x0, (Twc).cell x1, (Twc).cell x2, (Twc).cell x3, (Twc).cell p0, (Twc).cell p1⟩
        clear hK K hH3
        (try simp only [Act.put, List.setIfInBounds_toArray, List.set_cons_zero, List.set_cons_succ])
        refine wpAnyH_take (i := 6) (oi := ⟨some 26, _, _, _, _, _⟩) (v := ?_) rfl (by kernel_rfl) (by kernel_rfl) (by kernel_rfl) (fun _ _ _ h => h) (Or.inl ⟨by rfl, ?_⟩) (by assumption) ?_
        rotate_left
        · (intro w hSw; (try dsimp only at hSw); go_simp; (try with_reducible rfl))
        (try simp only [Act.put, List.setIfInBounds_toArray, List.set_cons_zero, List.set_cons_succ])
        refine wpAnyH_take (i := 7) (oi := ⟨some 33, _, _, _, _, _⟩) (v := ?_) rfl (by kernel_rfl) (by kernel_rfl) (by kernel_rfl) (fun _ _ _ h => h) (Or.inl ⟨by rfl, ?_⟩) (by assumption) ?_
        rotate_left
        · (intro w hSw; (try dsimp only at hSw); go_simp; (try with_reducible rfl))
        (try simp only [Act.put, List.setIfInBounds_toArray, List.set_cons_zero, List.set_cons_succ])
        refine wpAnyH_take (i := 8) (oi := ⟨some 34, _, _, _, _, _⟩) (v := ?_) rfl (by kernel_rfl) (by kernel_rfl) (by kernel_rfl) (fun _ _ _ h => h) (Or.inl ⟨by rfl, ?_⟩) (by assumption) ?_
        rotate_left
        · (intro w hSw; (try dsimp only at hSw); go_simp; (try with_reducible rfl))
        (try simp only [Act.put, List.setIfInBounds_toArray, List.set_cons_zero, List.set_cons_succ])
        refine wpAnyH_take (i := 9) (oi := ⟨some 35, _, _, _, _, _⟩) (v := ?_) rfl (by kernel_rfl) (by kernel_rfl) (by kernel_rfl) (fun _ _ _ h => h) (Or.inl ⟨by rfl, ?_⟩) (by assumption) ?_
        rotate_left
        · (intro w hSw; (try dsimp only at hSw); go_simp; (try with_reducible rfl))
        (try simp only [Act.put, List.setIfInBounds_toArray, List.set_cons_zero, List.set_cons_succ])
        refine wpAnyH_ready (rs := [11]) (by kernel_rfl) (by simp) ?_
        refine AllReadyH.cons (o := ⟨none, _, _, _, _, _⟩) rfl (fun K hK => ?_) AllReadyH.nil
        go_simp
        (first | (refine hK.out _ _ ?_ (fun hH5 => ?_)) | (go_wp2_with fail; refine hK.out _ _ ?_ (fun hH5 => ?_)))
        · exact ⟨RX.out.s.cell x0, RX.out.s.cell x1, RX.out.s.cell x2, RX.out.s.cell x3, RX.out.s.cell p0, RX.out.s.cell p1⟩
        clear hK K hH4
        (try simp only [Act.put, List.setIfInBounds_toArray, List.set_cons_zero, List.set_cons_succ])
        refine wpAnyH_take (i := 12) (oi := ⟨some 9, _, _, _, _, _⟩) (v := ?_) rfl (by kernel_rfl) (by kernel_rfl) (by kernel_rfl) (fun _ _ _ h => h) (Or.inl ⟨by rfl, ?_⟩) (by assumption) ?_
        rotate_left
        · (intro w hSw; (try dsimp only at hSw); go_simp; (try with_reducible rfl))
        (try simp only [Act.put, List.setIfInBounds_toArray, List.set_cons_zero, List.set_cons_succ])
        refine wpAnyH_take (i := 13) (oi := ⟨some 10, _, _, _, _, _⟩) (v := ?_) rfl (by kernel_rfl) (by kernel_rfl) (by kernel_rfl) (fun _ _ _ h => h) (Or.inl ⟨by rfl, ?_⟩) (by assumption) ?_
        rotate_left
        · (intro w hSw; (try dsimp only at hSw); go_simp; (try with_reducible rfl))
        (try simp only [Act.put, List.setIfInBounds_toArray, List.set_cons_zero, List.set_cons_succ])
        refine wpAnyH_done (by kernel_rfl) ?_ _
        clear hH5
        go_wp2_with fail
        go_meet
        exact ⟨_, _, _, _, _, _, _, _, _, rfl, rfl, rfl, hid RX.out⟩
      exact AllReadyH.nil
    refine AllReadyH.cons (o := ⟨some 8, _, _, _, _, _⟩) rfl (fun K hK => ?_) ?_
    · skip
      go_simp; have KZ := hid (show Blk ((w2.drewN 1).alloc (.cells (grC 0 0 none 0 0 none 0 0) 25)) w2.heap.size 25 (grC 0 0 none 0 0 none 0 0) from Blk.new (w2.drewN 1) _ _); have zz0 := KZ.out.cell_ (i := 0) (v := .int .i64 0) rfl; have zz1 := KZ.out.cell_ (i := 1) (v := .int .i64 0) rfl; have zz2 := KZ.out.cell_ (i := 2) (v := .slice none 0 0) rfl; have zz3 := KZ.out.cell_ (i := 3) (v := .slice none 0 0) rfl; have zf0 := KZ.out.frozen 0; have zf1 := KZ.out.frozen 1; have zf2 := KZ.out.frozen 2; have zf3 := KZ.out.frozen 3
      (first | (refine hK.out _ _ ?_ (fun hH1 => ?_)) | (go_wp2_with fail; refine hK.out _ _ ?_ (fun hH1 => ?_)))
      · exact ⟨(sB).cell x0, (sB).cell x1, (sB).cell x2, (sB).cell x3, (sB).cell p0, (sB).cell p1⟩
      clear hK K hH0
      (try simp only [Act.put, List.setIfInBounds_toArray, List.set_cons_zero, List.set_cons_succ])
      refine wpAnyH_ready (rs := [1]) (by kernel_rfl) (by simp) ?_
      refine AllReadyH.cons (o := ⟨some 28, _, _, _, _, _⟩) rfl (fun K hK => ?_) AllReadyH.nil
      go_simp
      (have hzl := KZ.out.lt; go_at_call 27; refine (gr_to (R.out.st (by first | exact sA | exact sB)) HF.out).mono ?_; rintro e wa ⟨Aa, na, ca, Ba, ma, da, rfl, oa, twa⟩; have Twa : St w2 wa := (by first | exact St.trans sA twa | exact St.trans sB twa); have RA := hid oa.rd; have KZ := hid (KZ.out.st twa); clear zz0 zz1 zz2 zz3 zf0 zf1 zf2 zf3; have zz0 := KZ.out.cell_ (i := 0) (v := .int .i64 0) rfl; have zz1 := KZ.out.cell_ (i := 1) (v := .int .i64 0) rfl; have zz2 := KZ.out.cell_ (i := 2) (v := .slice none 0 0) rfl; have zz3 := KZ.out.cell_ (i := 3) (v := .slice none 0 0) rfl; have zf0 := KZ.out.frozen 0; have zf1 := KZ.out.frozen 1; have zf2 := KZ.out.frozen 2; have zf3 := KZ.out.frozen 3)
      (first | (refine hK.out _ _ ?_ (fun hH2 => ?_)) | (go_wp2_with fail; refine hK.out _ _ ?_ (fun hH2 => ?_)))
      · exact ⟨(Twa).cell x0, (Twa).cell x1, (Twa).cell x2, (Twa).cell x3, (Twa).cell p0, (Twa).cell p1⟩
      clear hK K hH1
      (try simp only [Act.put, List.setIfInBounds_toArray, List.set_cons_zero, List.set_cons_succ])
      refine wpAnyH_ready (rs := [4]) (by kernel_rfl) (by simp) ?_
      refine AllReadyH.cons (o := ⟨some 31, _, _, _, _, _⟩) rfl (fun K hK => ?_) AllReadyH.nil
      go_simp
      (have hzl := KZ.out.lt; go_at_call 28; refine (toStamp_any st sg _).mono ?_; rintro e wb ⟨rfl, twb⟩; have Twb : St w2 wb := (by first | exact St.trans Twa twb | exact St.trans (St.alloc Twa (.cells (grC 0 0 none 0 0 none 0 0) 25)) twb); have RB1 := hid (show RdGr wb I Kq Aa na ca Ba ma da ps ds by first | exact RA.out.st twb | exact (RA.out.st ((St.refl wa).alloc (.cells (grC 0 0 none 0 0 none 0 0) 25))).st twb); have KZ := hid (KZ.out.st twb); clear zz0 zz1 zz2 zz3 zf0 zf1 zf2 zf3; have zz0 := KZ.out.cell_ (i := 0) (v := .int .i64 0) rfl; have zz1 := KZ.out.cell_ (i := 1) (v := .int .i64 0) rfl; have zz2 := KZ.out.cell_ (i := 2) (v := .slice none 0 0) rfl; have zz3 := KZ.out.cell_ (i := 3) (v := .slice none 0 0) rfl; have zf0 := KZ.out.frozen 0; have zf1 := KZ.out.frozen 1; have zf2 := KZ.out.frozen 2; have zf3 := KZ.out.frozen 3)
      (first | (refine hK.out _ _ ?_ (fun hH3 => ?_)) | (go_wp2_with fail; refine hK.out _ _ ?_ (fun hH3 => ?_)))
      · exact ⟨(Twb).cell x0, (Twb).cell x1, (Twb).cell x2, (Twb).cell x3, (Twb).cell p0, (Twb).cell p1⟩
      clear hK K hH2
      (try simp only [Act.put, List.setIfInBounds_toArray, List.set_cons_zero, List.set_cons_succ])
      refine wpAnyH_ready (rs := [5]) (by kernel_rfl) (by simp) ?_
      refine AllReadyH.cons (o := ⟨some 32, _, _, _, _, _⟩) rfl (fun K hK => ?_) AllReadyH.nil
      go_simp
      (have hzl := KZ.out.lt; go_at_call 16; refine (specGroupFinal_r HR.out (show RdGr _ I Kq Aa na ca Ba ma da ps ds by first | exact RB1.out | exact RB1.out.st ((St.refl wb).alloc (.cells (grC 0 0 none 0 0 none 0 0) 25))) HF.out).mono ?_; rintro e wc ⟨Ac, nc, cc, Bc, mc, dc, Tc, uc, rfl, oc, olc, twc⟩; have Twc : St w2 wc := (by first | exact St.trans Twb twc | exact St.trans (St.alloc Twb (.cells (grC 0 0 none 0 0 none 0 0) 25)) twc); have KZ := hid (KZ.out.st twc); clear zz0 zz1 zz2 zz3 zf0 zf1 zf2 zf3; have zz0 := KZ.out.cell_ (i := 0) (v := .int .i64 0) rfl; have zz1 := KZ.out.cell_ (i := 1) (v := .int .i64 0) rfl; have zz2 := KZ.out.cell_ (i := 2) (v := .slice none 0 0) rfl; have zz3 := KZ.out.cell_ (i := 3) (v := .slice none 0 0) rfl; have zf0 := KZ.out.frozen 0; have zf1 := KZ.out.frozen 1; have zf2 := KZ.out.frozen 2; have zf3 := KZ.out.frozen 3; have RX := hid (GBk.sets (W1 := w2) Twc oc olc KZ.out (by first | exact Twb.le | exact Nat.le_trans Twb.le ((St.refl wb).alloc (.cells (grC 0 0 none 0 0 none 0 0) 25)).le) hzl (by first | exact Nat.le_refl _ | exact Twb.le | exact Twa.le)))
      (first | (refine hK.out _ _ ?_ (fun hH4 => ?_)) | (go_wp2_with fail; refine hK.out _ _ ?_ (fun hH4 => ?_)))
      · exact ⟨(Twc).cell x0, (Twc).cell x1, (Twc).cell x2, (Twc).cell x3, (Twc).cell p0, (Twc).cell p1⟩
      clear hK K hH3
      (try simp only [Act.put, List.setIfInBounds_toArray, List.set_cons_zero, List.set_cons_succ])
      refine wpAnyH_take (i := 6) (oi := ⟨some 26, _, _, _, _, _⟩) (v := ?_) rfl (by kernel_rfl) (by kernel_rfl) (by kernel_rfl) (fun _ _ _ h => h) (Or.inl ⟨by rfl, ?_⟩) (by assumption) ?_
      rotate_left
      · (intro w hSw; (try dsimp only at hSw); go_simp; (try with_reducible rfl))
      (try simp only [Act.put, List.setIfInBounds_toArray, List.set_cons_zero, List.set_cons_succ])
      refine wpAnyH_take (i := 7) (oi := ⟨some 33, _, _, _, _, _⟩) (v := ?_) rfl (by kernel_rfl) (by kernel_rfl) (by kernel_rfl) (fun _ _ _ h => h) (Or.inl ⟨by rfl, ?_⟩) (by assumption) ?_
      rotate_left
      · (intro w hSw; (try dsimp only at hSw); go_simp; (try with_reducible rfl))
      (try simp only [Act.put, List.setIfInBounds_toArray, List.set_cons_zero, List.set_cons_succ])
      refine wpAnyH_take (i := 8) (oi := ⟨some 34, _, _, _, _, _⟩) (v := ?_) rfl (by kernel_rfl) (by kernel_rfl) (by kernel_rfl) (fun _ _ _ h => h) (Or.inl ⟨by rfl, ?_⟩) (by assumption) ?_
      rotate_left
      · (intro w hSw; (try dsimp only at hSw); go_simp; (try with_reducible rfl))
      (try simp only [Act.put, List.setIfInBounds_toArray, List.set_cons_zero, List.set_cons_succ])
      refine wpAnyH_take (i := 9) (oi := ⟨some 35, _, _, _, _, _⟩) (v := ?_) rfl (by kernel_rfl) (by kernel_rfl) (by kernel_rfl) (fun _ _ _ h => h) (Or.inl ⟨by rfl, ?_⟩) (by assumption) ?_
      rotate_left
      · (intro w hSw; (try dsimp only at hSw); go_simp; (try with_reducible rfl))
      (try simp only [Act.put, List.setIfInBounds_toArray, List.set_cons_zero, List.set_cons_succ])
      refine wpAnyH_ready (rs := [11]) (by kernel_rfl) (by simp) ?_
      refine AllReadyH.cons (o := ⟨none, _, _, _, _, _⟩) rfl (fun K hK => ?_) AllReadyH.nil
      go_simp
      (first | (refine hK.out _ _ ?_ (fun hH5 => ?_)) | (go_wp2_with fail; refine hK.out _ _ ?_ (fun hH5 => ?_)))
      · exact ⟨RX.out.s.cell x0, RX.out.s.cell x1, RX.out.s.cell x2, RX.out.s.cell x3, RX.out.s.cell p0, RX.out.s.cell p1⟩
      clear hK K hH4
      (try simp only [Act.put, List.setIfInBounds_toArray, List.set_cons_zero, List.set_cons_succ])
      refine wpAnyH_take (i := 12) (oi := ⟨some 9, _, _, _, _, _⟩) (v := ?_) rfl (by kernel_rfl) (by kernel_rfl) (by kernel_rfl) (fun _ _ _ h => h) (Or.inl ⟨by rfl, ?_⟩) (by assumption) ?_
      rotate_left
      · (intro w hSw; (try dsimp only at hSw); go_simp; (try with_reducible rfl))
      (try simp only [Act.put, List.setIfInBounds_toArray, List.set_cons_zero, List.set_cons_succ])
      refine wpAnyH_take (i := 13) (oi := ⟨some 10, _, _, _, _, _⟩) (v := ?_) rfl (by kernel_rfl) (by kernel_rfl) (by kernel_rfl) (fun _ _ _ h => h) (Or.inl ⟨by rfl, ?_⟩) (by assumption) ?_
      rotate_left
      · (intro w hSw; (try dsimp only at hSw); go_simp; (try with_reducible rfl))
      (try simp only [Act.put, List.setIfInBounds_toArray, List.set_cons_zero, List.set_cons_succ])
      refine wpAnyH_done (by kernel_rfl) ?_ _
      clear hH5
      go_wp2_with fail
      go_meet
      exact ⟨_, _, _, _, _, _, _, _, _, rfl, rfl, rfl, hid RX.out⟩
    exact AllReadyH.nil
  case rest =>
  obtain ⟨b5, A5, n5, c5, B5, m5, d5, T5s, u5, rfl, rfl, rfl, H5⟩ := hcut
  have s5 := H5.out.s
  obtain ⟨v5, rfl⟩ : ∃ x : World, x = wc := ⟨_, rfl⟩
  have V5 := hid (show LG v5 v5 b5 I' K' A5 n5 c5 B5 m5 d5 ps' ds' from ⟨H5.out.kb, H5.out.ow.oi.se, H5.out.ow.oh.se, St.refl _⟩)
  have L5 := hid H5.out.ol.sl
  replace R := hid (R.out.st s5)
  replace S := hid (S.out.st s5)
  replace X := hid (X.out.st s5)
  replace Y := hid (Y.out.st s5)
  replace x0 := s5.cell x0
  replace x1 := s5.cell x1
  replace x2 := s5.cell x2
  replace x3 := s5.cell x3
  replace p0 := s5.cell p0
  replace p1 := s5.cell p1
  clear s5 H5 sA sB
  have HS5 := hid (show w.heap.size < v5.heap.size from X.out.lt)
  have HS5' := hid (show w.heap.size + 1 < v5.heap.size from Y.out.lt)
  have T5 := hid (St.refl v5)
  go_wp2_with fail
  refine (gr_to R.out HF.out).mono ?_
  rintro e w6 ⟨A6, n6, c6, B6, m6, d6, rfl, o6, s6⟩
  have sa := (St.refl w6).alloc (.cells (grC I Kq A6 n6 c6 B6 m6 d6) 25)
  have WW := hid ((gr_wr (P := fun g => v5.heap.size ≤ g ∧ g < w6.heap.size) o6 HF.out (fun g h1 h2 => ⟨h1, h2⟩)).kept (Kept.of_st sa))
  have R6 := hid (o6.rd.st sa)
  have Z := hid (Blk.new w6 25 (grC I Kq A6 n6 c6 B6 m6 d6))
  have HZ56 := hid (show v5.heap.size ≤ w6.heap.size from s6.le)
  have ss := s6.trans sa
  replace S := hid (S.out.st ss)
  replace X := hid (X.out.st ss)
  replace Y := hid (Y.out.st ss)
  replace T5 := hid (T5.out.st ss)
  replace x0 := ss.cell x0
  replace x1 := ss.cell x1
  replace x2 := ss.cell x2
  replace x3 := ss.cell x3
  replace p0 := ss.cell p0
  replace p1 := ss.cell p1
  clear s6 sa ss o6 R
  go_upto_region 7 with (fail)
  generalize w6.alloc (.cells _ 25) = w7 at *
  have HZ7 := hid (show w6.heap.size < w7.heap.size from Z.out.lt)
  have z0 := Z.out.cell_ (i := 0) (v := .int .i64 I) rfl
  have z1 := Z.out.cell_ (i := 1) (v := .int .i64 Kq) rfl
  have z2 := Z.out.cell_ (i := 2) (v := .slice A6 n6 c6) rfl
  have z3 := Z.out.cell_ (i := 3) (v := .slice B6 m6 d6) rfl
  have sA := (Dr.st ⟨1, rfl⟩ : St w7 (w7.drewN 1))
  have sB := sA.alloc (.cells (grC 0 0 none 0 0 none 0 0) 25)
  go_cut [12, 13, 14] (fun s12 s13 s14 wx => ∃ (bb : Nat) (Ab : Option Addr) (nb cb : Nat) (Bb : Option Addr) (mb db : Nat) (Tb : Option Addr) (ub : Nat), s12 = .pointer (some ⟨bb, 0, none⟩) ∧ s13 = .slice Tb xs.length ub ∧ s14 = .bool ok ∧ Hid (GBk w7 wx bb I' K' Ab nb cb Bb mb db ps' ds' Tb ub xs))
  case first =>
    refine wp_region_held_drew (S := (fun w' => w'.cell? ⟨w6.heap.size, 0, none⟩ = some (.int .i64 I) ∧ w'.cell? ⟨w6.heap.size, 1, none⟩ = some (.int .i64 Kq) ∧ w'.cell? ⟨w6.heap.size, 2, none⟩ = some (.slice A6 n6 c6) ∧ w'.cell? ⟨w6.heap.size, 3, none⟩ = some (.slice B6 m6 d6) ∧ w'.cell? ⟨w.heap.size + 1, 0, none⟩ = some (.int .i64 st) ∧ w'.cell? ⟨w.heap.size + 1, 1, none⟩ = some (.int .i64 sg))) (by kernel_rfl) ?_ (fun hH0 => ?_)
    · exact ⟨z0, z1, z2, z3, p0, p1⟩
    refine wpAnyH_take (i := 0) (oi := ⟨some 39, _, _, _, _, _⟩) (v := ?_) rfl (by kernel_rfl) (by kernel_rfl) (by kernel_rfl) (fun _ _ _ h => h) (Or.inl ⟨by rfl, ?_⟩) (by assumption) ?_
    rotate_left
    · (intro w hSw; (try dsimp only at hSw); go_simp; (try with_reducible rfl))
    (try simp only [Act.put, List.setIfInBounds_toArray, List.set_cons_zero, List.set_cons_succ])
    refine wpAnyH_take (i := 1) (oi := ⟨some 40, _, _, _, _, _⟩) (v := ?_) rfl (by kernel_rfl) (by kernel_rfl) (by kernel_rfl) (fun _ _ _ h => h) (Or.inl ⟨by rfl, ?_⟩) (by assumption) ?_
    rotate_left
    · (intro w hSw; (try dsimp only at hSw); go_simp; (try with_reducible rfl))
    (try simp only [Act.put, List.setIfInBounds_toArray, List.set_cons_zero, List.set_cons_succ])
    refine wpAnyH_take (i := 2) (oi := ⟨some 41, _, _, _, _, _⟩) (v := ?_) rfl (by kernel_rfl) (by kernel_rfl) (by kernel_rfl) (fun _ _ _ h => h) (Or.inl ⟨by rfl, ?_⟩) (by assumption) ?_
    rotate_left
    · (intro w hSw; (try dsimp only at hSw); go_simp; (try with_reducible rfl))
    (try simp only [Act.put, List.setIfInBounds_toArray, List.set_cons_zero, List.set_cons_succ])
    refine wpAnyH_ready (rs := [3, 9]) (by kernel_rfl) (by simp) ?_
    refine AllReadyH.cons (o := ⟨some 42, _, _, _, _, _⟩) rfl (fun K hK => ?_) ?_
    · skip
      go_simp
      (go_at_call 28; refine (toStamp_any st sg _).mono ?_; rintro e wb ⟨rfl, twb⟩; have Twb : St w7 wb := (by first | exact St.trans sA twb | exact St.trans sB twb); have RB1 := hid (show RdGr wb I Kq A6 n6 c6 B6 m6 d6 ps ds by first | exact (R6.out.st sA).st twb | exact (R6.out.st sB).st twb))
      (first | (refine hK.out _ _ ?_ (fun hH1 => ?_)) | (go_wp2_with fail; refine hK.out _ _ ?_ (fun hH1 => ?_)))
      · exact ⟨(Twb).cell z0, (Twb).cell z1, (Twb).cell z2, (Twb).cell z3, (Twb).cell p0, (Twb).cell p1⟩
      clear hK K hH0
      (try simp only [Act.put, List.setIfInBounds_toArray, List.set_cons_zero, List.set_cons_succ])
      refine wpAnyH_ready (rs := [4, 9]) (by kernel_rfl) (by simp) ?_
      refine AllReadyH.cons (o := ⟨some 43, _, _, _, _, _⟩) rfl (fun K hK => ?_) ?_
      · skip
        go_simp
        (go_at_call 14; refine (GroupFinal_r HR.out (show RdGr _ I Kq A6 n6 c6 B6 m6 d6 ps ds by first | exact RB1.out | exact RB1.out.st ((St.refl wb).alloc (.cells (grC 0 0 none 0 0 none 0 0) 25))) HF.out).mono ?_; rintro e wc ⟨Ac, nc, cc, Bc, mc, dc, Tc, uc, rfl, oc, olc, twc⟩; have Twc : St w7 wc := (by first | exact St.trans Twb twc | exact St.trans (St.alloc Twb (.cells (grC 0 0 none 0 0 none 0 0) 25)) twc))
        (first | (refine hK.out _ _ ?_ (fun hH2 => ?_)) | (go_wp2_with fail; refine hK.out _ _ ?_ (fun hH2 => ?_)))
        · exact ⟨(Twc).cell z0, (Twc).cell z1, (Twc).cell z2, (Twc).cell z3, (Twc).cell p0, (Twc).cell p1⟩
        clear hK K hH1
        (try simp only [Act.put, List.setIfInBounds_toArray, List.set_cons_zero, List.set_cons_succ])
        refine wpAnyH_take (i := 5) (oi := ⟨some 38, _, _, _, _, _⟩) (v := ?_) rfl (by kernel_rfl) (by kernel_rfl) (by kernel_rfl) (fun _ _ _ h => h) (Or.inl ⟨by rfl, ?_⟩) (by assumption) ?_
        rotate_left
        · (intro w hSw; (try dsimp only at hSw); go_simp; (try with_reducible rfl))
        (try simp only [Act.put, List.setIfInBounds_toArray, List.set_cons_zero, List.set_cons_succ])
        refine wpAnyH_take (i := 6) (oi := ⟨some 44, _, _, _, _, _⟩) (v := ?_) rfl (by kernel_rfl) (by kernel_rfl) (by kernel_rfl) (fun _ _ _ h => h) (Or.inl ⟨by rfl, ?_⟩) (by assumption) ?_
        rotate_left
        · (intro w hSw; (try dsimp only at hSw); go_simp; (try with_reducible rfl))
        (try simp only [Act.put, List.setIfInBounds_toArray, List.set_cons_zero, List.set_cons_succ])
        refine wpAnyH_take (i := 7) (oi := ⟨some 45, _, _, _, _, _⟩) (v := ?_) rfl (by kernel_rfl) (by kernel_rfl) (by kernel_rfl) (fun _ _ _ h => h) (Or.inl ⟨by rfl, ?_⟩) (by assumption) ?_
        rotate_left
        · (intro w hSw; (try dsimp only at hSw); go_simp; (try with_reducible rfl))
        (try simp only [Act.put, List.setIfInBounds_toArray, List.set_cons_zero, List.set_cons_succ])
        refine wpAnyH_take (i := 8) (oi := ⟨some 46, _, _, _, _, _⟩) (v := ?_) rfl (by kernel_rfl) (by kernel_rfl) (by kernel_rfl) (fun _ _ _ h => h) (Or.inl ⟨by rfl, ?_⟩) (by assumption) ?_
        rotate_left
        · (intro w hSw; (try dsimp only at hSw); go_simp; (try with_reducible rfl))
        (try simp only [Act.put, List.setIfInBounds_toArray, List.set_cons_zero, List.set_cons_succ])
        refine wpAnyH_ready (rs := [9]) (by kernel_rfl) (by simp) ?_
        refine AllReadyH.cons (o := ⟨some 12, _, _, _, _, _⟩) rfl (fun K hK => ?_) AllReadyH.nil
        go_simp; have KZ := hid (Blk.new wc 25 (grC 0 0 none 0 0 none 0 0)); have zz0 := KZ.out.cell_ (i := 0) (v := .int .i64 0) rfl; have zz1 := KZ.out.cell_ (i := 1) (v := .int .i64 0) rfl; have zz2 := KZ.out.cell_ (i := 2) (v := .slice none 0 0) rfl; have zz3 := KZ.out.cell_ (i := 3) (v := .slice none 0 0) rfl; have zf0 := KZ.out.frozen 0; have zf1 := KZ.out.frozen 1; have zf2 := KZ.out.frozen 2; have zf3 := KZ.out.frozen 3; have RX := hid (GBk.last (W1 := w7) Twc oc olc Twb.le)
        (first | (refine hK.out _ _ ?_ (fun hH3 => ?_)) | (go_wp2_with fail; refine hK.out _ _ ?_ (fun hH3 => ?_)))
        · exact ⟨(Twc.alloc (.cells (grC 0 0 none 0 0 none 0 0) 25)).cell z0, (Twc.alloc (.cells (grC 0 0 none 0 0 none 0 0) 25)).cell z1, (Twc.alloc (.cells (grC 0 0 none 0 0 none 0 0) 25)).cell z2, (Twc.alloc (.cells (grC 0 0 none 0 0 none 0 0) 25)).cell z3, (Twc.alloc (.cells (grC 0 0 none 0 0 none 0 0) 25)).cell p0, (Twc.alloc (.cells (grC 0 0 none 0 0 none 0 0) 25)).cell p1⟩
        clear hK K hH2
        (try simp only [Act.put, List.setIfInBounds_toArray, List.set_cons_zero, List.set_cons_succ])
        refine wpAnyH_ready (rs := [10]) (by kernel_rfl) (by simp) ?_
        refine AllReadyH.cons (o := ⟨none, _, _, _, _, _⟩) rfl (fun K hK => ?_) AllReadyH.nil
        go_simp
        (first | (refine hK.out _ _ ?_ (fun hH4 => ?_)) | (go_wp2_with fail; refine hK.out _ _ ?_ (fun hH4 => ?_)))
        · exact ⟨RX.out.s.cell z0, RX.out.s.cell z1, RX.out.s.cell z2, RX.out.s.cell z3, RX.out.s.cell p0, RX.out.s.cell p1⟩
        clear hK K hH3
        (try simp only [Act.put, List.setIfInBounds_toArray, List.set_cons_zero, List.set_cons_succ])
        refine wpAnyH_take (i := 11) (oi := ⟨some 13, _, _, _, _, _⟩) (v := ?_) rfl (by kernel_rfl) (by kernel_rfl) (by kernel_rfl) (fun _ _ _ h => h) (Or.inl ⟨by rfl, ?_⟩) (by assumption) ?_
        rotate_left
        · (intro w hSw; (try dsimp only at hSw); go_simp; (try with_reducible rfl))
        (try simp only [Act.put, List.setIfInBounds_toArray, List.set_cons_zero, List.set_cons_succ])
        refine wpAnyH_take (i := 12) (oi := ⟨some 14, _, _, _, _, _⟩) (v := ?_) rfl (by kernel_rfl) (by kernel_rfl) (by kernel_rfl) (fun _ _ _ h => h) (Or.inl ⟨by rfl, ?_⟩) (by assumption) ?_
        rotate_left
        · (intro w hSw; (try dsimp only at hSw); go_simp; (try with_reducible rfl))
        (try simp only [Act.put, List.setIfInBounds_toArray, List.set_cons_zero, List.set_cons_succ])
        refine wpAnyH_done (by kernel_rfl) ?_ _
        clear hH4
        go_wp2_with fail
        go_meet
        exact ⟨_, _, _, _, _, _, _, _, _, rfl, rfl, rfl, hid RX.out⟩
      refine AllReadyH.cons (o := ⟨some 12, _, _, _, _, _⟩) rfl (fun K hK => ?_) ?_
      · skip
        go_simp; have KZ := hid (Blk.new wb 25 (grC 0 0 none 0 0 none 0 0)); have zz0 := KZ.out.cell_ (i := 0) (v := .int .i64 0) rfl; have zz1 := KZ.out.cell_ (i := 1) (v := .int .i64 0) rfl; have zz2 := KZ.out.cell_ (i := 2) (v := .slice none 0 0) rfl; have zz3 := KZ.out.cell_ (i := 3) (v := .slice none 0 0) rfl; have zf0 := KZ.out.frozen 0; have zf1 := KZ.out.frozen 1; have zf2 := KZ.out.frozen 2; have zf3 := KZ.out.frozen 3
        (first | (refine hK.out _ _ ?_ (fun hH2 => ?_)) | (go_wp2_with fail; refine hK.out _ _ ?_ (fun hH2 => ?_)))
        · exact ⟨(Twb.alloc (.cells (grC 0 0 none 0 0 none 0 0) 25)).cell z0, (Twb.alloc (.cells (grC 0 0 none 0 0 none 0 0) 25)).cell z1, (Twb.alloc (.cells (grC 0 0 none 0 0 none 0 0) 25)).cell z2, (Twb.alloc (.cells (grC 0 0 none 0 0 none 0 0) 25)).cell z3, (Twb.alloc (.cells (grC 0 0 none 0 0 none 0 0) 25)).cell p0, (Twb.alloc (.cells (grC 0 0 none 0 0 none 0 0) 25)).cell p1⟩
        clear hK K hH1
        (try simp only [Act.put, List.setIfInBounds_toArray, List.set_cons_zero, List.set_cons_succ])
        refine wpAnyH_ready (rs := [4]) (by kernel_rfl) (by simp) ?_
        refine AllReadyH.cons (o := ⟨some 43, _, _, _, _, _⟩) rfl (fun K hK => ?_) AllReadyH.nil
        go_simp
        (have hzl := KZ.out.lt; go_at_call 14; refine (GroupFinal_r HR.out (show RdGr _ I Kq A6 n6 c6 B6 m6 d6 ps ds by first | exact RB1.out | exact RB1.out.st ((St.refl wb).alloc (.cells (grC 0 0 none 0 0 none 0 0) 25))) HF.out).mono ?_; rintro e wc ⟨Ac, nc, cc, Bc, mc, dc, Tc, uc, rfl, oc, olc, twc⟩; have Twc : St w7 wc := (by first | exact St.trans Twb twc | exact St.trans (St.alloc Twb (.cells (grC 0 0 none 0 0 none 0 0) 25)) twc); have KZ := hid (KZ.out.st twc); clear zz0 zz1 zz2 zz3 zf0 zf1 zf2 zf3; have zz0 := KZ.out.cell_ (i := 0) (v := .int .i64 0) rfl; have zz1 := KZ.out.cell_ (i := 1) (v := .int .i64 0) rfl; have zz2 := KZ.out.cell_ (i := 2) (v := .slice none 0 0) rfl; have zz3 := KZ.out.cell_ (i := 3) (v := .slice none 0 0) rfl; have zf0 := KZ.out.frozen 0; have zf1 := KZ.out.frozen 1; have zf2 := KZ.out.frozen 2; have zf3 := KZ.out.frozen 3; have RX := hid (GBk.sets (W1 := w7) Twc oc olc KZ.out (by first | exact Twb.le | exact Nat.le_trans Twb.le ((St.refl wb).alloc (.cells (grC 0 0 none 0 0 none 0 0) 25)).le) hzl (by first | exact Nat.le_refl _ | exact Twb.le)))
        (first | (refine hK.out _ _ ?_ (fun hH3 => ?_)) | (go_wp2_with fail; refine hK.out _ _ ?_ (fun hH3 => ?_)))
        · exact ⟨(Twc).cell z0, (Twc).cell z1, (Twc).cell z2, (Twc).cell z3, (Twc).cell p0, (Twc).cell p1⟩
        clear hK K hH2
        (try simp only [Act.put, List.setIfInBounds_toArray, List.set_cons_zero, List.set_cons_succ])
        refine wpAnyH_take (i := 5) (oi := ⟨some 38, _, _, _, _, _⟩) (v := ?_) rfl (by kernel_rfl) (by kernel_rfl) (by kernel_rfl) (fun _ _ _ h => h) (Or.inl ⟨by rfl, ?_⟩) (by assumption) ?_
        rotate_left
        · (intro w hSw; (try dsimp only at hSw); go_simp; (try with_reducible rfl))
        (try simp only [Act.put, List.setIfInBounds_toArray, List.set_cons_zero, List.set_cons_succ])
        refine wpAnyH_take (i := 6) (oi := ⟨some 44, _, _, _, _, _⟩) (v := ?_) rfl (by kernel_rfl) (by kernel_rfl) (by kernel_rfl) (fun _ _ _ h => h) (Or.inl ⟨by rfl, ?_⟩) (by assumption) ?_
        rotate_left
        · (intro w hSw; (try dsimp only at hSw); go_simp; (try with_reducible rfl))
        (try simp only [Act.put, List.setIfInBounds_toArray, List.set_cons_zero, List.set_cons_succ])
        refine wpAnyH_take (i := 7) (oi := ⟨some 45, _, _, _, _, _⟩) (v := ?_) rfl (by kernel_rfl) (by kernel_rfl) (by kernel_rfl) (fun _ _ _ h => h) (Or.inl ⟨by rfl, ?_⟩) (by assumption) ?_
        rotate_left
        · (intro w hSw; (try dsimp only at hSw); go_simp; (try with_reducible rfl))
        (try simp only [Act.put, List.setIfInBounds_toArray, List.set_cons_zero, List.set_cons_succ])
        refine wpAnyH_take (i := 8) (oi := ⟨some 46, _, _, _, _, _⟩) (v := ?_) rfl (by kernel_rfl) (by kernel_rfl) (by kernel_rfl) (fun _ _ _ h => h) (Or.inl ⟨by rfl, ?_⟩) (by assumption) ?_
        rotate_left
        · (intro w hSw; (try dsimp only at hSw); go_simp; (try with_reducible rfl))
        (try simp only [Act.put, List.setIfInBounds_toArray, List.set_cons_zero, List.set_cons_succ])
        refine wpAnyH_ready (rs := [10]) (by kernel_rfl) (by simp) ?_
        refine AllReadyH.cons (o := ⟨none, _, _, _, _, _⟩) rfl (fun K hK => ?_) AllReadyH.nil
        go_simp
        (first | (refine hK.out _ _ ?_ (fun hH4 => ?_)) | (go_wp2_with fail; refine hK.out _ _ ?_ (fun hH4 => ?_)))
        · exact ⟨RX.out.s.cell z0, RX.out.s.cell z1, RX.out.s.cell z2, RX.out.s.cell z3, RX.out.s.cell p0, RX.out.s.cell p1⟩
        clear hK K hH3
        (try simp only [Act.put, List.setIfInBounds_toArray, List.set_cons_zero, List.set_cons_succ])
        refine wpAnyH_take (i := 11) (oi := ⟨some 13, _, _, _, _, _⟩) (v := ?_) rfl (by kernel_rfl) (by kernel_rfl) (by kernel_rfl) (fun _ _ _ h => h) (Or.inl ⟨by rfl, ?_⟩) (by assumption) ?_
        rotate_left
        · (intro w hSw; (try dsimp only at hSw); go_simp; (try with_reducible rfl))
        (try simp only [Act.put, List.setIfInBounds_toArray, List.set_cons_zero, List.set_cons_succ])
        refine wpAnyH_take (i := 12) (oi := ⟨some 14, _, _, _, _, _⟩) (v := ?_) rfl (by kernel_rfl) (by kernel_rfl) (by kernel_rfl) (fun _ _ _ h => h) (Or.inl ⟨by rfl, ?_⟩) (by assumption) ?_
        rotate_left
        · (intro w hSw; (try dsimp only at hSw); go_simp; (try with_reducible rfl))
        (try simp only [Act.put, List.setIfInBounds_toArray, List.set_cons_zero, List.set_cons_succ])
        refine wpAnyH_done (by kernel_rfl) ?_ _
        clear hH4
        go_wp2_with fail
        go_meet
        exact ⟨_, _, _, _, _, _, _, _, _, rfl, rfl, rfl, hid RX.out⟩
      exact AllReadyH.nil
    refine AllReadyH.cons (o := ⟨some 12, _, _, _, _, _⟩) rfl (fun K hK => ?_) ?_
    · skip
      go_simp; have KZ := hid (show Blk ((w7.drewN 1).alloc (.cells (grC 0 0 none 0 0 none 0 0) 25)) w7.heap.size 25 (grC 0 0 none 0 0 none 0 0) from Blk.new (w7.drewN 1) _ _); have zz0 := KZ.out.cell_ (i := 0) (v := .int .i64 0) rfl; have zz1 := KZ.out.cell_ (i := 1) (v := .int .i64 0) rfl; have zz2 := KZ.out.cell_ (i := 2) (v := .slice none 0 0) rfl; have zz3 := KZ.out.cell_ (i := 3) (v := .slice none 0 0) rfl; have zf0 := KZ.out.frozen 0; have zf1 := KZ.out.frozen 1; have zf2 := KZ.out.frozen 2; have zf3 := KZ.out.frozen 3
      (first | (refine hK.out _ _ ?_ (fun hH1 => ?_)) | (go_wp2_with fail; refine hK.out _ _ ?_ (fun hH1 => ?_)))
      · exact ⟨(sB).cell z0, (sB).cell z1, (sB).cell z2, (sB).cell z3, (sB).cell p0, (sB).cell p1⟩
      clear hK K hH0
      (try simp only [Act.put, List.setIfInBounds_toArray, List.set_cons_zero, List.set_cons_succ])
      refine wpAnyH_ready (rs := [3]) (by kernel_rfl) (by simp) ?_
      refine AllReadyH.cons (o := ⟨some 42, _, _, _, _, _⟩) rfl (fun K hK => ?_) AllReadyH.nil
      go_simp
      (have hzl := KZ.out.lt; go_at_call 28; refine (toStamp_any st sg _).mono ?_; rintro e wb ⟨rfl, twb⟩; have Twb : St w7 wb := (by first | exact St.trans sA twb | exact St.trans sB twb); have RB1 := hid (show RdGr wb I Kq A6 n6 c6 B6 m6 d6 ps ds by first | exact (R6.out.st sA).st twb | exact (R6.out.st sB).st twb); have KZ := hid (KZ.out.st twb); clear zz0 zz1 zz2 zz3 zf0 zf1 zf2 zf3; have zz0 := KZ.out.cell_ (i := 0) (v := .int .i64 0) rfl; have zz1 := KZ.out.cell_ (i := 1) (v := .int .i64 0) rfl; have zz2 := KZ.out.cell_ (i := 2) (v := .slice none 0 0) rfl; have zz3 := KZ.out.cell_ (i := 3) (v := .slice none 0 0) rfl; have zf0 := KZ.out.frozen 0; have zf1 := KZ.out.frozen 1; have zf2 := KZ.out.frozen 2; have zf3 := KZ.out.frozen 3)
      (first | (refine hK.out _ _ ?_ (fun hH2 => ?_)) | (go_wp2_with fail; refine hK.out _ _ ?_ (fun hH2 => ?_)))
      · exact ⟨(Twb).cell z0, (Twb).cell z1, (Twb).cell z2, (Twb).cell z3, (Twb).cell p0, (Twb).cell p1⟩
      clear hK K hH1
      (try simp only [Act.put, List.setIfInBounds_toArray, List.set_cons_zero, List.set_cons_succ])
      refine wpAnyH_ready (rs := [4]) (by kernel_rfl) (by simp) ?_
      refine AllReadyH.cons (o := ⟨some 43, _, _, _, _, _⟩) rfl (fun K hK => ?_) AllReadyH.nil
      go_simp
      (have hzl := KZ.out.lt; go_at_call 14; refine (GroupFinal_r HR.out (show RdGr _ I Kq A6 n6 c6 B6 m6 d6 ps ds by first | exact RB1.out | exact RB1.out.st ((St.refl wb).alloc (.cells (grC 0 0 none 0 0 none 0 0) 25))) HF.out).mono ?_; rintro e wc ⟨Ac, nc, cc, Bc, mc, dc, Tc, uc, rfl, oc, olc, twc⟩; have Twc : St w7 wc := (by first | exact St.trans Twb twc | exact St.trans (St.alloc Twb (.cells (grC 0 0 none 0 0 none 0 0) 25)) twc); have KZ := hid (KZ.out.st twc); clear zz0 zz1 zz2 zz3 zf0 zf1 zf2 zf3; have zz0 := KZ.out.cell_ (i := 0) (v := .int .i64 0) rfl; have zz1 := KZ.out.cell_ (i := 1) (v := .int .i64 0) rfl; have zz2 := KZ.out.cell_ (i := 2) (v := .slice none 0 0) rfl; have zz3 := KZ.out.cell_ (i := 3) (v := .slice none 0 0) rfl; have zf0 := KZ.out.frozen 0; have zf1 := KZ.out.frozen 1; have zf2 := KZ.out.frozen 2; have zf3 := KZ.out.frozen 3; have RX := hid (GBk.sets (W1 := w7) Twc oc olc KZ.out (by first | exact Twb.le | exact Nat.le_trans Twb.le ((St.refl wb).alloc (.cells (grC 0 0 none 0 0 none 0 0) 25)).le) hzl (by first | exact Nat.le_refl _ | exact Twb.le)))
      (first | (refine hK.out _ _ ?_ (fun hH3 => ?_)) | (go_wp2_with fail; refine hK.out _ _ ?_ (fun hH3 => ?_)))
      · exact ⟨(Twc).cell z0, (Twc).cell z1, (Twc).cell z2, (Twc).cell z3, (Twc).cell p0, (Twc).cell p1⟩
      clear hK K hH2
      (try simp only [Act.put, List.setIfInBounds_toArray, List.set_cons_zero, List.set_cons_succ])
      refine wpAnyH_take (i := 5) (oi := ⟨some 38, _, _, _, _, _⟩) (v := ?_) rfl (by kernel_rfl) (by kernel_rfl) (by kernel_rfl) (fun _ _ _ h => h) (Or.inl ⟨by rfl, ?_⟩) (by assumption) ?_
      rotate_left
      · (intro w hSw; (try dsimp only at hSw); go_simp; (try with_reducible rfl))
      (try simp only [Act.put, List.setIfInBounds_toArray, List.set_cons_zero, List.set_cons_succ])
      refine wpAnyH_take (i := 6) (oi := ⟨some 44, _, _, _, _, _⟩) (v := ?_) rfl (by kernel_rfl) (by kernel_rfl) (by kernel_rfl) (fun _ _ _ h => h) (Or.inl ⟨by rfl, ?_⟩) (by assumption) ?_
      rotate_left
      · (intro w hSw; (try dsimp only at hSw); go_simp; (try with_reducible rfl))
      (try simp only [Act.put, List.setIfInBounds_toArray, List.set_cons_zero, List.set_cons_succ])
      refine wpAnyH_take (i := 7) (oi := ⟨some 45, _, _, _, _, _⟩) (v := ?_) rfl (by kernel_rfl) (by kernel_rfl) (by kernel_rfl) (fun _ _ _ h => h) (Or.inl ⟨by rfl, ?_⟩) (by assumption) ?_
      rotate_left
      · (intro w hSw; (try dsimp only at hSw); go_simp; (try with_reducible rfl))
      (try simp only [Act.put, List.setIfInBounds_toArray, List.set_cons_zero, List.set_cons_succ])
      refine wpAnyH_take (i := 8) (oi := ⟨some 46, _, _, _, _, _⟩) (v := ?_) rfl (by kernel_rfl) (by kernel_rfl) (by kernel_rfl) (fun _ _ _ h => h) (Or.inl ⟨by rfl, ?_⟩) (by assumption) ?_
      rotate_left
      · (intro w hSw; (try dsimp only at hSw); go_simp; (try with_reducible rfl))
      (try simp only [Act.put, List.setIfInBounds_toArray, List.set_cons_zero, List.set_cons_succ])
      refine wpAnyH_ready (rs := [10]) (by kernel_rfl) (by simp) ?_
      refine AllReadyH.cons (o := ⟨none, _, _, _, _, _⟩) rfl (fun K hK => ?_) AllReadyH.nil
      go_simp
      (first | (refine hK.out _ _ ?_ (fun hH4 => ?_)) | (go_wp2_with fail; refine hK.out _ _ ?_ (fun hH4 => ?_)))
      · exact ⟨RX.out.s.cell z0, RX.out.s.cell z1, RX.out.s.cell z2, RX.out.s.cell z3, RX.out.s.cell p0, RX.out.s.cell p1⟩
      clear hK K hH3
      (try simp only [Act.put, List.setIfInBounds_toArray, List.set_cons_zero, List.set_cons_succ])
      refine wpAnyH_take (i := 11) (oi := ⟨some 13, _, _, _, _, _⟩) (v := ?_) rfl (by kernel_rfl) (by kernel_rfl) (by kernel_rfl) (fun _ _ _ h => h) (Or.inl ⟨by rfl, ?_⟩) (by assumption) ?_
      rotate_left
      · (intro w hSw; (try dsimp only at hSw); go_simp; (try with_reducible rfl))
      (try simp only [Act.put, List.setIfInBounds_toArray, List.set_cons_zero, List.set_cons_succ])
      refine wpAnyH_take (i := 12) (oi := ⟨some 14, _, _, _, _, _⟩) (v := ?_) rfl (by kernel_rfl) (by kernel_rfl) (by kernel_rfl) (fun _ _ _ h => h) (Or.inl ⟨by rfl, ?_⟩) (by assumption) ?_
      rotate_left
      · (intro w hSw; (try dsimp only at hSw); go_simp; (try with_reducible rfl))
      (try simp only [Act.put, List.setIfInBounds_toArray, List.set_cons_zero, List.set_cons_succ])
      refine wpAnyH_done (by kernel_rfl) ?_ _
      clear hH4
      go_wp2_with fail
      go_meet
      exact ⟨_, _, _, _, _, _, _, _, _, rfl, rfl, rfl, hid RX.out⟩
    exact AllReadyH.nil
  case rest =>
  obtain ⟨b7, A7, n7, c7, B7, m7, d7, T7s, u7, rfl, rfl, rfl, H7⟩ := hcut
  have s7 := H7.out.s
  obtain ⟨v8, rfl⟩ : ∃ x : World, x = wc := ⟨_, rfl⟩
  have K7 := hid H7.out.kb
  have G7 := hid H7.out.ow
  have J7 := hid H7.out.ol
  have HB7 := hid H7.out.le
  have WW := hid (WW.out.kept (Kept.of_st s7))
  replace S := hid (S.out.st s7)
  replace X := hid (X.out.st s7)
  replace Y := hid (Y.out.st s7)
  replace T5 := hid (T5.out.st s7)
  replace R6 := hid (R6.out.st s7)
  replace Z := hid (Z.out.st s7)
  replace x0 := s7.cell x0
  replace x1 := s7.cell x1
  replace x2 := s7.cell x2
  replace x3 := s7.cell x3
  replace p0 := s7.cell p0
  replace p1 := s7.cell p1
  replace z0 := s7.cell z0
  replace z1 := s7.cell z1
  replace z2 := s7.cell z2
  replace z3 := s7.cell z3
  clear s7 H7 sA sB
  have l0 := (V5.out.st T5.out).k.cell_ (i := 0) (v := .int .i64 I') rfl
  have l1 := (V5.out.st T5.out).k.cell_ (i := 1) (v := .int .i64 K') rfl
  have l2 := (V5.out.st T5.out).k.cell_ (i := 2) (v := .slice A5 n5 c5) rfl
  have l3 := (V5.out.st T5.out).k.cell_ (i := 3) (v := .slice B5 m5 d5) rfl
  have k0 := K7.out.cell_ (i := 0) (v := .int .i64 I') rfl
  have k1 := K7.out.cell_ (i := 1) (v := .int .i64 K') rfl
  have k2 := K7.out.cell_ (i := 2) (v := .slice A7 n7 c7) rfl
  have k3 := K7.out.cell_ (i := 3) (v := .slice B7 m7 d7) rfl
  have hoo : (ok == ok) = true := by simp
  have hon : (ok != ok) = false := by simp
  go_wp2_with fail
  refine (gr_same (show RdGr _ I' K' A7 n7 c7 B7 m7 d7 ps' ds' from ⟨G7.out.oi.se, G7.out.oh.se⟩) (show RdGr _ I' K' A5 n5 c5 B5 m5 d5 ps' ds' from ⟨(V5.out.st T5.out).i, (V5.out.st T5.out).j⟩) FT.out).mono ?_
  rintro e w9 ⟨rfl, s9⟩
  have WW := hid (WW.out.kept (Kept.of_st s9))
  replace S := hid (S.out.st s9)
  replace X := hid (X.out.st s9)
  replace Y := hid (Y.out.st s9)
  replace T5 := hid (T5.out.st s9)
  replace R6 := hid (R6.out.st s9)
  replace Z := hid (Z.out.st s9)
  replace K7 := hid (K7.out.st s9)
  replace J7 := hid (J7.out.st s9)
  replace G7 := hid (G7.out.st s9)
  replace x0 := s9.cell x0
  replace x1 := s9.cell x1
  replace x2 := s9.cell x2
  replace x3 := s9.cell x3
  replace p0 := s9.cell p0
  replace p1 := s9.cell p1
  replace z0 := s9.cell z0
  replace z1 := s9.cell z1
  replace z2 := s9.cell z2
  replace z3 := s9.cell z3
  replace l0 := s9.cell l0
  replace l1 := s9.cell l1
  replace l2 := s9.cell l2
  replace l3 := s9.cell l3
  replace k0 := s9.cell k0
  replace k1 := s9.cell k1
  replace k2 := s9.cell k2
  replace k3 := s9.cell k3
  clear s9
  go_wp2_with fail
  refine (is_same J7.out.sl (L5.out.st T5.out) FX.out).mono ?_
  rintro e w9b ⟨rfl, s9⟩
  have WW := hid (WW.out.kept (Kept.of_st s9))
  replace S := hid (S.out.st s9)
  replace X := hid (X.out.st s9)
  replace Y := hid (Y.out.st s9)
  replace T5 := hid (T5.out.st s9)
  replace R6 := hid (R6.out.st s9)
  replace Z := hid (Z.out.st s9)
  replace K7 := hid (K7.out.st s9)
  replace J7 := hid (J7.out.st s9)
  replace G7 := hid (G7.out.st s9)
  replace x0 := s9.cell x0
  replace x1 := s9.cell x1
  replace x2 := s9.cell x2
  replace x3 := s9.cell x3
  replace p0 := s9.cell p0
  replace p1 := s9.cell p1
  replace z0 := s9.cell z0
  replace z1 := s9.cell z1
  replace z2 := s9.cell z2
  replace z3 := s9.cell z3
  replace l0 := s9.cell l0
  replace l1 := s9.cell l1
  replace l2 := s9.cell l2
  replace l3 := s9.cell l3
  replace k0 := s9.cell k0
  replace k1 := s9.cell k1
  replace k2 := s9.cell k2
  replace k3 := s9.cell k3
  clear s9
  go_upto_region 10 with (fail)
  refine wp_region_held_drew (S := (fun w' => w'.cell? ⟨w6.heap.size, 0, none⟩ = some (.int .i64 I) ∧ w'.cell? ⟨w6.heap.size, 1, none⟩ = some (.int .i64 Kq) ∧ w'.cell? ⟨w6.heap.size, 2, none⟩ = some (.slice A6 n6 c6) ∧ w'.cell? ⟨w6.heap.size, 3, none⟩ = some (.slice B6 m6 d6) ∧ w'.cell? ⟨w.heap.size, 0, none⟩ = some (.int .i64 I) ∧ w'.cell? ⟨w.heap.size, 1, none⟩ = some (.int .i64 Kq) ∧ w'.cell? ⟨w.heap.size, 2, none⟩ = some (.slice A n c) ∧ w'.cell? ⟨w.heap.size, 3, none⟩ = some (.slice B m d))) (by kernel_rfl) ?_ (fun hH0 => ?_)
  · exact ⟨z0, z1, z2, z3, x0, x1, x2, x3⟩
  refine wpAnyH_take (i := 0) (oi := ⟨some 62, _, _, _, _, _⟩) (v := ?_) rfl (by kernel_rfl) (by kernel_rfl) (by kernel_rfl) (fun _ _ _ h => h) (Or.inl ⟨by rfl, ?_⟩) (by assumption) ?_
  rotate_left
  · (intro w hSw; (try dsimp only at hSw); go_simp; (try with_reducible rfl))
  (try simp only [Act.put, List.setIfInBounds_toArray, List.set_cons_zero, List.set_cons_succ])
  refine wpAnyH_take (i := 1) (oi := ⟨some 63, _, _, _, _, _⟩) (v := ?_) rfl (by kernel_rfl) (by kernel_rfl) (by kernel_rfl) (fun _ _ _ h => h) (Or.inl ⟨by rfl, ?_⟩) (by assumption) ?_
  rotate_left
  · (intro w hSw; (try dsimp only at hSw); go_simp; (try with_reducible rfl))
  (try simp only [Act.put, List.setIfInBounds_toArray, List.set_cons_zero, List.set_cons_succ])
  refine wpAnyH_ready (rs := [2]) (by kernel_rfl) (by simp) ?_
  refine AllReadyH.cons (o := ⟨some 64, _, _, _, _, _⟩) rfl (fun K hK => ?_) AllReadyH.nil
  go_simp
  (go_at_call 27; refine (gr_to (hR0.out.st (S.out.trans (Dr.st ⟨1, rfl⟩))) HF.out).mono ?_; rintro e wa ⟨Aa, na, ca, Ba, ma, da, rfl, oa, ta⟩; have Ta := St.trans (Dr.st ⟨1, rfl⟩ : St w9b (w9b.drewN 1)) ta)
  (first | (refine hK.out _ _ ?_ (fun hH1 => ?_)) | (go_wp2_with fail; refine hK.out _ _ ?_ (fun hH1 => ?_)))
  · exact ⟨Ta.cell z0, Ta.cell z1, Ta.cell z2, Ta.cell z3, Ta.cell x0, Ta.cell x1, Ta.cell x2, Ta.cell x3⟩
  clear hK K hH0
  (try simp only [Act.put, List.setIfInBounds_toArray, List.set_cons_zero, List.set_cons_succ])
  refine wpAnyH_ready (rs := [3]) (by kernel_rfl) (by simp) ?_
  refine AllReadyH.cons (o := ⟨some 65, _, _, _, _, _⟩) rfl (fun K hK => ?_) AllReadyH.nil
  go_simp
  (go_at_call 29; refine (gr_same (R6.out.st Ta) oa.rd HF.out).mono ?_; rintro e w10 ⟨rfl, tb⟩; have Tb := Ta.trans tb)
  (first | (refine hK.out _ _ ?_ (fun hH2 => ?_)) | (go_wp2_with fail; refine hK.out _ _ ?_ (fun hH2 => ?_)))
  · exact ⟨Tb.cell z0, Tb.cell z1, Tb.cell z2, Tb.cell z3, Tb.cell x0, Tb.cell x1, Tb.cell x2, Tb.cell x3⟩
  clear hK K hH1
  (try simp only [Act.put, List.setIfInBounds_toArray, List.set_cons_zero, List.set_cons_succ])
  refine wpAnyH_take (i := 4) (oi := ⟨some 66, _, _, _, _, _⟩) (v := ?_) rfl (by kernel_rfl) (by kernel_rfl) (by kernel_rfl) (fun _ _ _ h => h) (Or.inl ⟨by rfl, ?_⟩) (by assumption) ?_
  rotate_left
  · (intro w hSw; (try dsimp only at hSw); go_simp; (try with_reducible rfl))
  (try simp only [Act.put, List.setIfInBounds_toArray, List.set_cons_zero, List.set_cons_succ])
  refine wpAnyH_done (by kernel_rfl) ?_ _
  clear hH2
  have WW := hid (WW.out.kept (Kept.of_st Tb))
  replace S := hid (S.out.st Tb)
  replace X := hid (X.out.st Tb)
  replace Y := hid (Y.out.st Tb)
  replace T5 := hid (T5.out.st Tb)
  replace R6 := hid (R6.out.st Tb)
  replace Z := hid (Z.out.st Tb)
  replace K7 := hid (K7.out.st Tb)
  replace J7 := hid (J7.out.st Tb)
  replace G7 := hid (G7.out.st Tb)
  replace x0 := Tb.cell x0
  replace x1 := Tb.cell x1
  replace x2 := Tb.cell x2
  replace x3 := Tb.cell x3
  replace p0 := Tb.cell p0
  replace p1 := Tb.cell p1
  replace z0 := Tb.cell z0
  replace z1 := Tb.cell z1
  replace z2 := Tb.cell z2
  replace z3 := Tb.cell z3
  replace l0 := Tb.cell l0
  replace l1 := Tb.cell l1
  replace l2 := Tb.cell l2
  replace l3 := Tb.cell l3
  replace k0 := Tb.cell k0
  replace k1 := Tb.cell k1
  replace k2 := Tb.cell k2
  replace k3 := Tb.cell k3
  clear Ta ta oa tb Tb R6
  go_wp2_with fail
  refine (gr_mark WW.out HF.out).mono ?_
  rintro e w12 ⟨⟨mk, rfl, hmk⟩, kk⟩
  have hmkn : ¬ mk < 0 := by omega
  have S := hid (Turned.st S.out kk.tu (fun g hg => by have h1 := hg.1; have h2 := HS5.out; omega))
  have T5 := hid (Turned.st T5.out kk.tu (fun g hg => hg.1))
  have X := hid (Blk.turned X.out kk.tu (fun hg => by have h1 := hg.1; have h2 := HS5.out; omega))
  have Y := hid (Blk.turned Y.out kk.tu (fun hg => by have h1 := hg.1; have h2 := HS5'.out; omega))
  have G7 := hid (G7.out.turned kk.tu (fun g hg => by have h1 := hg.2; have h2 := HZ7.out; omega))
  have J7 := hid (OI.turned J7.out kk.tu (fun g hg => by have h1 := hg.2; have h2 := HZ7.out; omega))
  have K7 := hid (Blk.turned K7.out kk.tu (fun hg => by have h1 := hg.2; have h2 := HZ7.out; have h3 := HB7.out; omega))
  clear kk WW Z hmk x0 x1 x2 x3 p0 p1 z0 z1 z2 z3 l0 l1 l2 l3 k0 k1 k2 k3
  have l0 := (V5.out.st T5.out).k.cell_ (i := 0) (v := .int .i64 I') rfl
  have l1 := (V5.out.st T5.out).k.cell_ (i := 1) (v := .int .i64 K') rfl
  have l2 := (V5.out.st T5.out).k.cell_ (i := 2) (v := .slice A5 n5 c5) rfl
  have l3 := (V5.out.st T5.out).k.cell_ (i := 3) (v := .slice B5 m5 d5) rfl
  have k0 := K7.out.cell_ (i := 0) (v := .int .i64 I') rfl
  have k1 := K7.out.cell_ (i := 1) (v := .int .i64 K') rfl
  have k2 := K7.out.cell_ (i := 2) (v := .slice A7 n7 c7) rfl
  have k3 := K7.out.cell_ (i := 3) (v := .slice B7 m7 d7) rfl
  go_wp2_with fail
  refine (gr_same (show RdGr _ I' K' A7 n7 c7 B7 m7 d7 ps' ds' from ⟨G7.out.oi.se, G7.out.oh.se⟩) (show RdGr _ I' K' A5 n5 c5 B5 m5 d5 ps' ds' from ⟨(V5.out.st T5.out).i, (V5.out.st T5.out).j⟩) FT.out).mono ?_
  rintro e w13 ⟨rfl, s9⟩
  replace S := hid (S.out.st s9)
  replace X := hid (X.out.st s9)
  replace Y := hid (Y.out.st s9)
  replace T5 := hid (T5.out.st s9)
  replace K7 := hid (K7.out.st s9)
  replace J7 := hid (J7.out.st s9)
  replace G7 := hid (G7.out.st s9)
  replace l0 := s9.cell l0
  replace l1 := s9.cell l1
  replace l2 := s9.cell l2
  replace l3 := s9.cell l3
  replace k0 := s9.cell k0
  replace k1 := s9.cell k1
  replace k2 := s9.cell k2
  replace k3 := s9.cell k3
  clear s9
  go_wp2_with fail
  refine (is_same J7.out.sl (L5.out.st T5.out) FX.out).mono ?_
  rintro e w13b ⟨rfl, s9⟩
  replace S := hid (S.out.st s9)
  replace X := hid (X.out.st s9)
  replace Y := hid (Y.out.st s9)
  replace T5 := hid (T5.out.st s9)
  replace K7 := hid (K7.out.st s9)
  replace J7 := hid (J7.out.st s9)
  replace G7 := hid (G7.out.st s9)
  replace l0 := s9.cell l0
  replace l1 := s9.cell l1
  replace l2 := s9.cell l2
  replace l3 := s9.cell l3
  replace k0 := s9.cell k0
  replace k1 := s9.cell k1
  replace k2 := s9.cell k2
  replace k3 := s9.cell k3
  clear s9
  have hn7 : n7 ≤ 1048576 := (show RdGr _ I' K' A7 n7 c7 B7 m7 d7 ps' ds' from G7.out.rd).n_ FT.out
  have hm7 : m7 ≤ 1048576 := (show RdGr _ I' K' A7 n7 c7 B7 m7 d7 ps' ds' from G7.out.rd).m_ FT.out
  have hx7 : xs.length ≤ 1048576 := FX.out
  go_wp2_with fail
  refine (markGroup_any I' K' A7 B7 n7 c7 m7 d7 _ 1 ps' ds' _ G7.out.oi G7.out.oh G7.out.ne hn7 hm7 (by omega) (by omega)).mono ?_
  rintro e w14 ⟨rfl, om, pm, tu⟩
  have hP : ∀ g, (blockOf A7 = some g ∨ blockOf B7 = some g) → w7.heap.size ≤ g := fun g hg => hg.elim (fun h => (G7.out.oi.lt g h).1) (fun h => (G7.out.oh.lt g h).1)
  have HLE := hid (show v5.heap.size ≤ w7.heap.size by have h1 := HZ56.out; have h2 := HZ7.out; omega)
  have hA7 : blockOf A7 ≠ some b7 := G7.out.oi.ne_blk K7.out (by decide)
  have hB7 : blockOf B7 ≠ some b7 := G7.out.oh.ne_blk K7.out (by decide)
  have hNI : ∀ g, (blockOf A7 = some g ∨ blockOf B7 = some g) → blockOf T7s ≠ some g := fun g hg => hg.elim (fun h => OI_OE_ne J7.out G7.out.oi g h) (fun h => OI_OE_ne J7.out G7.out.oh g h)
  have NI := hid hNI
  have S := hid (Turned.st S.out tu (fun g hg => by have h1 := hP g hg; have h2 := HLE.out; have h3 := HS5.out; omega))
  have T5 := hid (Turned.st T5.out tu (fun g hg => by have h1 := hP g hg; have h2 := HLE.out; omega))
  have X := hid (Blk.turned X.out tu (fun hg => by have h1 := hP _ hg; have h2 := HLE.out; have h3 := HS5.out; omega))
  have Y := hid (Blk.turned Y.out tu (fun hg => by have h1 := hP _ hg; have h2 := HLE.out; have h3 := HS5'.out; omega))
  have K7 := hid (Blk.turned K7.out tu (fun hg => hg.elim hA7 hB7))
  have J7 := hid (OI.turnedN J7.out tu hNI)
  have OM := hid om
  have PM := hid pm
  clear om pm tu hP hA7 hB7 hNI G7 l0 l1 l2 l3 k0 k1 k2 k3
  have k0 := K7.out.cell_ (i := 0) (v := .int .i64 I') rfl
  have k1 := K7.out.cell_ (i := 1) (v := .int .i64 K') rfl
  have k2 := K7.out.cell_ (i := 2) (v := .slice A7 n7 c7) rfl
  have k3 := K7.out.cell_ (i := 3) (v := .slice B7 m7 d7) rfl
  go_wp2_with fail
  refine (markIntS_any T7s xs.length u7 _ (1 + 4 * (n7 : Int) + 4 * (m7 : Int)) xs _ J7.out hx7 (by omega) (by omega)).mono ?_
  rintro e w14b ⟨rfl, jm, gj⟩
  have hT : ∀ k, blockOf T7s = some k → w7.heap.size ≤ k := fun k hk => (J7.out.lt k hk).1
  have hTb : some b7 ≠ blockOf T7s := fun h => by
    have h1 := own_blk_ne (show World.ownsRow _ _ 3 1 (.slice T7s xs.length u7) xs.length _ from J7.out) K7.out (by decide)
    rw [ownBlock_slice] at h1
    exact h1 h.symm
  have S := hid (S.out.grown gj (fun k hk => by have h1 := hT k hk; have h2 := HLE.out; have h3 := HS5.out; omega))
  have T5 := hid (T5.out.grown gj (fun k hk => by have h1 := hT k hk; have h2 := HLE.out; omega))
  have X := hid (X.out.grown gj (fun h => by have h1 := hT _ h.symm; have h2 := HLE.out; have h3 := HS5.out; omega))
  have Y := hid (Y.out.grown gj (fun h => by have h1 := hT _ h.symm; have h2 := HLE.out; have h3 := HS5'.out; omega))
  have K7 := hid (K7.out.grown gj hTb)
  have OM := hid (OM.out.grown gj (fun k hk hA => NI.out k (.inl hA) hk)).se
  have PM := hid (PM.out.grown gj (fun k hk hA => NI.out k (.inr hA) hk)).se
  have JM := hid jm.sl
  clear gj jm hT hTb k0 k1 k2 k3 J7
  have x0 := X.out.cell_ (i := 0) (v := .int .i64 I) rfl
  have x1 := X.out.cell_ (i := 1) (v := .int .i64 Kq) rfl
  have x2 := X.out.cell_ (i := 2) (v := .slice A n c) rfl
  have x3 := X.out.cell_ (i := 3) (v := .slice B m d) rfl
  have p0 := Y.out.cell_ (i := 0) (v := .int .i64 st) rfl
  have p1 := Y.out.cell_ (i := 1) (v := .int .i64 sg) rfl
  have k0 := K7.out.cell_ (i := 0) (v := .int .i64 I') rfl
  have k1 := K7.out.cell_ (i := 1) (v := .int .i64 K') rfl
  have k2 := K7.out.cell_ (i := 2) (v := .slice A7 n7 c7) rfl
  have k3 := K7.out.cell_ (i := 3) (v := .slice B7 m7 d7) rfl
  go_wp2_with fail
  refine (heldGroup_any I' K' A7 B7 n7 c7 m7 d7 1 _ OM.out PM.out hn7 hm7 (by omega) (by omega)).mono ?_
  rintro e w15 ⟨rfl, s15⟩
  replace S := hid (S.out.st s15)
  replace X := hid (X.out.st s15)
  replace Y := hid (Y.out.st s15)
  replace T5 := hid (T5.out.st s15)
  replace K7 := hid (K7.out.st s15)
  replace OM := hid (OM.out.st s15)
  replace PM := hid (PM.out.st s15)
  replace JM := hid (JM.out.st s15)
  replace x0 := s15.cell x0
  replace x1 := s15.cell x1
  replace x2 := s15.cell x2
  replace x3 := s15.cell x3
  replace p0 := s15.cell p0
  replace p1 := s15.cell p1
  replace k0 := s15.cell k0
  replace k1 := s15.cell k1
  replace k2 := s15.cell k2
  replace k3 := s15.cell k3
  clear s15
  have hqn : ¬ (1 : Int) + 4 * (n7 : Int) + 4 * (m7 : Int) < 0 := by omega
  go_wp2_with fail
  refine (heldIntS_any T7s xs.length u7 _ (1 + 4 * (n7 : Int) + 4 * (m7 : Int)) _ JM.out.ri hx7 (by omega) (by omega)).mono ?_
  rintro e w15b ⟨rfl, rfl⟩
  have hqm : ¬ (1 : Int) + 4 * (n7 : Int) + 4 * (m7 : Int) + (xs.length : Int) < 0 := by omega
  have R := hid (hR0.out.st S.out)
  clear k0 k1 k2 k3
  go_upto_region 28 with (fail)
  have sA := (Dr.st ⟨1, rfl⟩ : St w15 (w15.drewN 1))
  have sB := sA.alloc (.cells (grC 0 0 none 0 0 none 0 0) 25)
  go_cut [18, 19, 20] (fun s18 s19 s20 wx => ∃ (bb : Nat) (Ab : Option Addr) (nb cb : Nat) (Bb : Option Addr) (mb db : Nat) (Tb : Option Addr) (ub : Nat), s18 = .pointer (some ⟨bb, 0, none⟩) ∧ s19 = .slice Tb xs.length ub ∧ s20 = .bool ok ∧ Hid (GBk w15 wx bb I' K' Ab nb cb Bb mb db ps' ds' Tb ub xs))
  case first =>
    refine wp_region_held_drew (S := (fun w' => w'.cell? ⟨w.heap.size, 0, none⟩ = some (.int .i64 I) ∧ w'.cell? ⟨w.heap.size, 1, none⟩ = some (.int .i64 Kq) ∧ w'.cell? ⟨w.heap.size, 2, none⟩ = some (.slice A n c) ∧ w'.cell? ⟨w.heap.size, 3, none⟩ = some (.slice B m d) ∧ w'.cell? ⟨w.heap.size + 1, 0, none⟩ = some (.int .i64 st) ∧ w'.cell? ⟨w.heap.size + 1, 1, none⟩ = some (.int .i64 sg))) (by kernel_rfl) ?_ (fun hH0 => ?_)
    · exact ⟨x0, x1, x2, x3, p0, p1⟩
    refine wpAnyH_take (i := 0) (oi := ⟨some 109, _, _, _, _, _⟩) (v := ?_) rfl (by kernel_rfl) (by kernel_rfl) (by kernel_rfl) (fun _ _ _ h => h) (Or.inl ⟨by rfl, ?_⟩) (by assumption) ?_
    rotate_left
    · (intro w hSw; (try dsimp only at hSw); go_simp; (try with_reducible rfl))
    (try simp only [Act.put, List.setIfInBounds_toArray, List.set_cons_zero, List.set_cons_succ])
    refine wpAnyH_take (i := 2) (oi := ⟨some 111, _, _, _, _, _⟩) (v := ?_) rfl (by kernel_rfl) (by kernel_rfl) (by kernel_rfl) (fun _ _ _ h => h) (Or.inl ⟨by rfl, ?_⟩) (by assumption) ?_
    rotate_left
    · (intro w hSw; (try dsimp only at hSw); go_simp; (try with_reducible rfl))
    (try simp only [Act.put, List.setIfInBounds_toArray, List.set_cons_zero, List.set_cons_succ])
    refine wpAnyH_take (i := 3) (oi := ⟨some 112, _, _, _, _, _⟩) (v := ?_) rfl (by kernel_rfl) (by kernel_rfl) (by kernel_rfl) (fun _ _ _ h => h) (Or.inl ⟨by rfl, ?_⟩) (by assumption) ?_
    rotate_left
    · (intro w hSw; (try dsimp only at hSw); go_simp; (try with_reducible rfl))
    (try simp only [Act.put, List.setIfInBounds_toArray, List.set_cons_zero, List.set_cons_succ])
    refine wpAnyH_ready (rs := [1, 10]) (by kernel_rfl) (by simp) ?_
    refine AllReadyH.cons (o := ⟨some 110, _, _, _, _, _⟩) rfl (fun K hK => ?_) ?_
    · skip
      go_simp
      (go_at_call 27; refine (gr_to (R.out.st (by first | exact sA | exact sB)) HF.out).mono ?_; rintro e wa ⟨Aa, na, ca, Ba, ma, da, rfl, oa, twa⟩; have Twa : St w15 wa := (by first | exact St.trans sA twa | exact St.trans sB twa); have RA := hid oa.rd)
      (first | (refine hK.out _ _ ?_ (fun hH1 => ?_)) | (go_wp2_with fail; refine hK.out _ _ ?_ (fun hH1 => ?_)))
      · exact ⟨(Twa).cell x0, (Twa).cell x1, (Twa).cell x2, (Twa).cell x3, (Twa).cell p0, (Twa).cell p1⟩
      clear hK K hH0
      (try simp only [Act.put, List.setIfInBounds_toArray, List.set_cons_zero, List.set_cons_succ])
      refine wpAnyH_ready (rs := [4, 10]) (by kernel_rfl) (by simp) ?_
      refine AllReadyH.cons (o := ⟨some 113, _, _, _, _, _⟩) rfl (fun K hK => ?_) ?_
      · skip
        go_simp
        (go_at_call 28; refine (toStamp_any st sg _).mono ?_; rintro e wb ⟨rfl, twb⟩; have Twb : St w15 wb := (by first | exact St.trans Twa twb | exact St.trans (St.alloc Twa (.cells (grC 0 0 none 0 0 none 0 0) 25)) twb); have RB1 := hid (show RdGr wb I Kq Aa na ca Ba ma da ps ds by first | exact RA.out.st twb | exact (RA.out.st ((St.refl wa).alloc (.cells (grC 0 0 none 0 0 none 0 0) 25))).st twb))
        (first | (refine hK.out _ _ ?_ (fun hH2 => ?_)) | (go_wp2_with fail; refine hK.out _ _ ?_ (fun hH2 => ?_)))
        · exact ⟨(Twb).cell x0, (Twb).cell x1, (Twb).cell x2, (Twb).cell x3, (Twb).cell p0, (Twb).cell p1⟩
        clear hK K hH1
        (try simp only [Act.put, List.setIfInBounds_toArray, List.set_cons_zero, List.set_cons_succ])
        refine wpAnyH_ready (rs := [5, 10]) (by kernel_rfl) (by simp) ?_
        refine AllReadyH.cons (o := ⟨some 114, _, _, _, _, _⟩) rfl (fun K hK => ?_) ?_
        · skip
          go_simp
          (go_at_call 14; refine (GroupFinal_r HR.out (show RdGr _ I Kq Aa na ca Ba ma da ps ds by first | exact RB1.out | exact RB1.out.st ((St.refl wb).alloc (.cells (grC 0 0 none 0 0 none 0 0) 25))) HF.out).mono ?_; rintro e wc ⟨Ac, nc, cc, Bc, mc, dc, Tc, uc, rfl, oc, olc, twc⟩; have Twc : St w15 wc := (by first | exact St.trans Twb twc | exact St.trans (St.alloc Twb (.cells (grC 0 0 none 0 0 none 0 0) 25)) twc))
          (first | (refine hK.out _ _ ?_ (fun hH3 => ?_)) | (go_wp2_with fail; refine hK.out _ _ ?_ (fun hH3 => ?_)))
          · exact ⟨(Twc).cell x0, (Twc).cell x1, (Twc).cell x2, (Twc).cell x3, (Twc).cell p0, (Twc).cell p1⟩
          clear hK K hH2
          (try simp only [Act.put, List.setIfInBounds_toArray, List.set_cons_zero, List.set_cons_succ])
          refine wpAnyH_take (i := 6) (oi := ⟨some 108, _, _, _, _, _⟩) (v := ?_) rfl (by kernel_rfl) (by kernel_rfl) (by kernel_rfl) (fun _ _ _ h => h) (Or.inl ⟨by rfl, ?_⟩) (by assumption) ?_
          rotate_left
          · (intro w hSw; (try dsimp only at hSw); go_simp; (try with_reducible rfl))
          (try simp only [Act.put, List.setIfInBounds_toArray, List.set_cons_zero, List.set_cons_succ])
          refine wpAnyH_take (i := 7) (oi := ⟨some 115, _, _, _, _, _⟩) (v := ?_) rfl (by kernel_rfl) (by kernel_rfl) (by kernel_rfl) (fun _ _ _ h => h) (Or.inl ⟨by rfl, ?_⟩) (by assumption) ?_
          rotate_left
          · (intro w hSw; (try dsimp only at hSw); go_simp; (try with_reducible rfl))
          (try simp only [Act.put, List.setIfInBounds_toArray, List.set_cons_zero, List.set_cons_succ])
          refine wpAnyH_take (i := 8) (oi := ⟨some 116, _, _, _, _, _⟩) (v := ?_) rfl (by kernel_rfl) (by kernel_rfl) (by kernel_rfl) (fun _ _ _ h => h) (Or.inl ⟨by rfl, ?_⟩) (by assumption) ?_
          rotate_left
          · (intro w hSw; (try dsimp only at hSw); go_simp; (try with_reducible rfl))
          (try simp only [Act.put, List.setIfInBounds_toArray, List.set_cons_zero, List.set_cons_succ])
          refine wpAnyH_take (i := 9) (oi := ⟨some 117, _, _, _, _, _⟩) (v := ?_) rfl (by kernel_rfl) (by kernel_rfl) (by kernel_rfl) (fun _ _ _ h => h) (Or.inl ⟨by rfl, ?_⟩) (by assumption) ?_
          rotate_left
          · (intro w hSw; (try dsimp only at hSw); go_simp; (try with_reducible rfl))
          (try simp only [Act.put, List.setIfInBounds_toArray, List.set_cons_zero, List.set_cons_succ])
          refine wpAnyH_ready (rs := [10]) (by kernel_rfl) (by simp) ?_
          refine AllReadyH.cons (o := ⟨some 18, _, _, _, _, _⟩) rfl (fun K hK => ?_) AllReadyH.nil
          go_simp; have KZ := hid (Blk.new wc 25 (grC 0 0 none 0 0 none 0 0)); have zz0 := KZ.out.cell_ (i := 0) (v := .int .i64 0) rfl; have zz1 := KZ.out.cell_ (i := 1) (v := .int .i64 0) rfl; have zz2 := KZ.out.cell_ (i := 2) (v := .slice none 0 0) rfl; have zz3 := KZ.out.cell_ (i := 3) (v := .slice none 0 0) rfl; have zf0 := KZ.out.frozen 0; have zf1 := KZ.out.frozen 1; have zf2 := KZ.out.frozen 2; have zf3 := KZ.out.frozen 3; have RX := hid (GBk.last (W1 := w15) Twc oc olc Twb.le)
          (first | (refine hK.out _ _ ?_ (fun hH4 => ?_)) | (go_wp2_with fail; refine hK.out _ _ ?_ (fun hH4 => ?_)))
          · exact ⟨(Twc.alloc (.cells (grC 0 0 none 0 0 none 0 0) 25)).cell x0, (Twc.alloc (.cells (grC 0 0 none 0 0 none 0 0) 25)).cell x1, (Twc.alloc (.cells (grC 0 0 none 0 0 none 0 0) 25)).cell x2, (Twc.alloc (.cells (grC 0 0 none 0 0 none 0 0) 25)).cell x3, (Twc.alloc (.cells (grC 0 0 none 0 0 none 0 0) 25)).cell p0, (Twc.alloc (.cells (grC 0 0 none 0 0 none 0 0) 25)).cell p1⟩
          clear hK K hH3
          (try simp only [Act.put, List.setIfInBounds_toArray, List.set_cons_zero, List.set_cons_succ])
          refine wpAnyH_ready (rs := [11]) (by kernel_rfl) (by simp) ?_
          refine AllReadyH.cons (o := ⟨none, _, _, _, _, _⟩) rfl (fun K hK => ?_) AllReadyH.nil
          go_simp
          (first | (refine hK.out _ _ ?_ (fun hH5 => ?_)) | (go_wp2_with fail; refine hK.out _ _ ?_ (fun hH5 => ?_)))
          · exact ⟨RX.out.s.cell x0, RX.out.s.cell x1, RX.out.s.cell x2, RX.out.s.cell x3, RX.out.s.cell p0, RX.out.s.cell p1⟩
          clear hK K hH4
          (try simp only [Act.put, List.setIfInBounds_toArray, List.set_cons_zero, List.set_cons_succ])
          refine wpAnyH_take (i := 12) (oi := ⟨some 19, _, _, _, _, _⟩) (v := ?_) rfl (by kernel_rfl) (by kernel_rfl) (by kernel_rfl) (fun _ _ _ h => h) (Or.inl ⟨by rfl, ?_⟩) (by assumption) ?_
          rotate_left
          · (intro w hSw; (try dsimp only at hSw); go_simp; (try with_reducible rfl))
          (try simp only [Act.put, List.setIfInBounds_toArray, List.set_cons_zero, List.set_cons_succ])
          refine wpAnyH_take (i := 13) (oi := ⟨some 20, _, _, _, _, _⟩) (v := ?_) rfl (by kernel_rfl) (by kernel_rfl) (by kernel_rfl) (fun _ _ _ h => h) (Or.inl ⟨by rfl, ?_⟩) (by assumption) ?_
          rotate_left
          · (intro w hSw; (try dsimp only at hSw); go_simp; (try with_reducible rfl))
          (try simp only [Act.put, List.setIfInBounds_toArray, List.set_cons_zero, List.set_cons_succ])
          refine wpAnyH_done (by kernel_rfl) ?_ _
          clear hH5
          go_wp2_with fail
          go_meet
          exact ⟨_, _, _, _, _, _, _, _, _, rfl, rfl, rfl, hid RX.out⟩
        refine AllReadyH.cons (o := ⟨some 18, _, _, _, _, _⟩) rfl (fun K hK => ?_) ?_
        · skip
          go_simp; have KZ := hid (Blk.new wb 25 (grC 0 0 none 0 0 none 0 0)); have zz0 := KZ.out.cell_ (i := 0) (v := .int .i64 0) rfl; have zz1 := KZ.out.cell_ (i := 1) (v := .int .i64 0) rfl; have zz2 := KZ.out.cell_ (i := 2) (v := .slice none 0 0) rfl; have zz3 := KZ.out.cell_ (i := 3) (v := .slice none 0 0) rfl; have zf0 := KZ.out.frozen 0; have zf1 := KZ.out.frozen 1; have zf2 := KZ.out.frozen 2; have zf3 := KZ.out.frozen 3
          (first | (refine hK.out _ _ ?_ (fun hH3 => ?_)) | (go_wp2_with fail; refine hK.out _ _ ?_ (fun hH3 => ?_)))
          · exact ⟨(Twb.alloc (.cells (grC 0 0 none 0 0 none 0 0) 25)).cell x0, (Twb.alloc (.cells (grC 0 0 none 0 0 none 0 0) 25)).cell x1, (Twb.alloc (.cells (grC 0 0 none 0 0 none 0 0) 25)).cell x2, (Twb.alloc (.cells (grC 0 0 none 0 0 none 0 0) 25)).cell x3, (Twb.alloc (.cells (grC 0 0 none 0 0 none 0 0) 25)).cell p0, (Twb.alloc (.cells (grC 0 0 none 0 0 none 0 0) 25)).cell p1⟩
          clear hK K hH2
          (try simp only [Act.put, List.setIfInBounds_toArray, List.set_cons_zero, List.set_cons_succ])
          refine wpAnyH_ready (rs := [5]) (by kernel_rfl) (by simp) ?_
          refine AllReadyH.cons (o := ⟨some 114, _, _, _, _, _⟩) rfl (fun K hK => ?_) AllReadyH.nil
          go_simp
          (have hzl := KZ.out.lt; go_at_call 14; refine (GroupFinal_r HR.out (show RdGr _ I Kq Aa na ca Ba ma da ps ds by first | exact RB1.out | exact RB1.out.st ((St.refl wb).alloc (.cells (grC 0 0 none 0 0 none 0 0) 25))) HF.out).mono ?_; rintro e wc ⟨Ac, nc, cc, Bc, mc, dc, Tc, uc, rfl, oc, olc, twc⟩; have Twc : St w15 wc := (by first | exact St.trans Twb twc | exact St.trans (St.alloc Twb (.cells (grC 0 0 none 0 0 none 0 0) 25)) twc); have KZ := hid (KZ.out.st twc); clear zz0 zz1 zz2 zz3 zf0 zf1 zf2 zf3; have zz0 := KZ.out.cell_ (i := 0) (v := .int .i64 0) rfl; have zz1 := KZ.out.cell_ (i := 1) (v := .int .i64 0) rfl; have zz2 := KZ.out.cell_ (i := 2) (v := .slice none 0 0) rfl; have zz3 := KZ.out.cell_ (i := 3) (v := .slice none 0 0) rfl; have zf0 := KZ.out.frozen 0; have zf1 := KZ.out.frozen 1; have zf2 := KZ.out.frozen 2; have zf3 := KZ.out.frozen 3; have RX := hid (GBk.sets (W1 := w15) Twc oc olc KZ.out (by first | exact Twb.le | exact Nat.le_trans Twb.le ((St.refl wb).alloc (.cells (grC 0 0 none 0 0 none 0 0) 25)).le) hzl (by first | exact Nat.le_refl _ | exact Twb.le | exact Twa.le)))
          (first | (refine hK.out _ _ ?_ (fun hH4 => ?_)) | (go_wp2_with fail; refine hK.out _ _ ?_ (fun hH4 => ?_)))
          · exact ⟨(Twc).cell x0, (Twc).cell x1, (Twc).cell x2, (Twc).cell x3, (Twc).cell p0, (Twc).cell p1⟩
          clear hK K hH3
          (try simp only [Act.put, List.setIfInBounds_toArray, List.set_cons_zero, List.set_cons_succ])
          refine wpAnyH_take (i := 6) (oi := ⟨some 108, _, _, _, _, _⟩) (v := ?_) rfl (by kernel_rfl) (by kernel_rfl) (by kernel_rfl) (fun _ _ _ h => h) (Or.inl ⟨by rfl, ?_⟩) (by assumption) ?_
          rotate_left
          · (intro w hSw; (try dsimp only at hSw); go_simp; (try with_reducible rfl))
          (try simp only [Act.put, List.setIfInBounds_toArray, List.set_cons_zero, List.set_cons_succ])
          refine wpAnyH_take (i := 7) (oi := ⟨some 115, _, _, _, _, _⟩) (v := ?_) rfl (by kernel_rfl) (by kernel_rfl) (by kernel_rfl) (fun _ _ _ h => h) (Or.inl ⟨by rfl, ?_⟩) (by assumption) ?_
          rotate_left
          · (intro w hSw; (try dsimp only at hSw); go_simp; (try with_reducible rfl))
          (try simp only [Act.put, List.setIfInBounds_toArray, List.set_cons_zero, List.set_cons_succ])
          refine wpAnyH_take (i := 8) (oi := ⟨some 116, _, _, _, _, _⟩) (v := ?_) rfl (by kernel_rfl) (by kernel_rfl) (by kernel_rfl) (fun _ _ _ h => h) (Or.inl ⟨by rfl, ?_⟩) (by assumption) ?_
          rotate_left
          · (intro w hSw; (try dsimp only at hSw); go_simp; (try with_reducible rfl))
          (try simp only [Act.put, List.setIfInBounds_toArray, List.set_cons_zero, List.set_cons_succ])
          refine wpAnyH_take (i := 9) (oi := ⟨some 117, _, _, _, _, _⟩) (v := ?_) rfl (by kernel_rfl) (by kernel_rfl) (by kernel_rfl) (fun _ _ _ h => h) (Or.inl ⟨by rfl, ?_⟩) (by assumption) ?_
          rotate_left
          · (intro w hSw; (try dsimp only at hSw); go_simp; (try with_reducible rfl))
          (try simp only [Act.put, List.setIfInBounds_toArray, List.set_cons_zero, List.set_cons_succ])
          refine wpAnyH_ready (rs := [11]) (by kernel_rfl) (by simp) ?_
          refine AllReadyH.cons (o := ⟨none, _, _, _, _, _⟩) rfl (fun K hK => ?_) AllReadyH.nil
          go_simp
          (first | (refine hK.out _ _ ?_ (fun hH5 => ?_)) | (go_wp2_with fail; refine hK.out _ _ ?_ (fun hH5 => ?_)))
          · exact ⟨RX.out.s.cell x0, RX.out.s.cell x1, RX.out.s.cell x2, RX.out.s.cell x3, RX.out.s.cell p0, RX.out.s.cell p1⟩
          clear hK K hH4
          (try simp only [Act.put, List.setIfInBounds_toArray, List.set_cons_zero, List.set_cons_succ])
          refine wpAnyH_take (i := 12) (oi := ⟨some 19, _, _, _, _, _⟩) (v := ?_) rfl (by kernel_rfl) (by kernel_rfl) (by kernel_rfl) (fun _ _ _ h => h) (Or.inl ⟨by rfl, ?_⟩) (by assumption) ?_
          rotate_left
          · (intro w hSw; (try dsimp only at hSw); go_simp; (try with_reducible rfl))
          (try simp only [Act.put, List.setIfInBounds_toArray, List.set_cons_zero, List.set_cons_succ])
          refine wpAnyH_take (i := 13) (oi := ⟨some 20, _, _, _, _, _⟩) (v := ?_) rfl (by kernel_rfl) (by kernel_rfl) (by kernel_rfl) (fun _ _ _ h => h) (Or.inl ⟨by rfl, ?_⟩) (by assumption) ?_
          rotate_left
          · (intro w hSw; (try dsimp only at hSw); go_simp; (try with_reducible rfl))
          (try simp only [Act.put, List.setIfInBounds_toArray, List.set_cons_zero, List.set_cons_succ])
          refine wpAnyH_done (by kernel_rfl) ?_ _
          clear hH5
          go_wp2_with fail
          go_meet
          exact ⟨_, _, _, _, _, _, _, _, _, rfl, rfl, rfl, hid RX.out⟩
        exact AllReadyH.nil
      refine AllReadyH.cons (o := ⟨some 18, _, _, _, _, _⟩) rfl (fun K hK => ?_) ?_
      · skip
        go_simp; have KZ := hid (Blk.new wa 25 (grC 0 0 none 0 0 none 0 0)); have zz0 := KZ.out.cell_ (i := 0) (v := .int .i64 0) rfl; have zz1 := KZ.out.cell_ (i := 1) (v := .int .i64 0) rfl; have zz2 := KZ.out.cell_ (i := 2) (v := .slice none 0 0) rfl; have zz3 := KZ.out.cell_ (i := 3) (v := .slice none 0 0) rfl; have zf0 := KZ.out.frozen 0; have zf1 := KZ.out.frozen 1; have zf2 := KZ.out.frozen 2; have zf3 := KZ.out.frozen 3
        (first | (refine hK.out _ _ ?_ (fun hH2 => ?_)) | (go_wp2_with fail; refine hK.out _ _ ?_ (fun hH2 => ?_)))
        · exact ⟨(Twa.alloc (.cells (grC 0 0 none 0 0 none 0 0) 25)).cell x0, (Twa.alloc (.cells (grC 0 0 none 0 0 none 0 0) 25)).cell x1, (Twa.alloc (.cells (grC 0 0 none 0 0 none 0 0) 25)).cell x2, (Twa.alloc (.cells (grC 0 0 none 0 0 none 0 0) 25)).cell x3, (Twa.alloc (.cells (grC 0 0 none 0 0 none 0 0) 25)).cell p0, (Twa.alloc (.cells (grC 0 0 none 0 0 none 0 0) 25)).cell p1⟩
        clear hK K hH1
        (try simp only [Act.put, List.setIfInBounds_toArray, List.set_cons_zero, List.set_cons_succ])
        refine wpAnyH_ready (rs := [4]) (by kernel_rfl) (by simp) ?_
        refine AllReadyH.cons (o := ⟨some 113, _, _, _, _, _⟩) rfl (fun K hK => ?_) AllReadyH.nil
        go_simp
        (have hzl := KZ.out.lt; go_at_call 28; refine (toStamp_any st sg _).mono ?_; rintro e wb ⟨rfl, twb⟩; have Twb : St w15 wb := (by first | exact St.trans Twa twb | exact St.trans (St.alloc Twa (.cells (grC 0 0 none 0 0 none 0 0) 25)) twb); have RB1 := hid (show RdGr wb I Kq Aa na ca Ba ma da ps ds by first | exact RA.out.st twb | exact (RA.out.st ((St.refl wa).alloc (.cells (grC 0 0 none 0 0 none 0 0) 25))).st twb); have KZ := hid (KZ.out.st twb); clear zz0 zz1 zz2 zz3 zf0 zf1 zf2 zf3; have zz0 := KZ.out.cell_ (i := 0) (v := .int .i64 0) rfl; have zz1 := KZ.out.cell_ (i := 1) (v := .int .i64 0) rfl; have zz2 := KZ.out.cell_ (i := 2) (v := .slice none 0 0) rfl; have zz3 := KZ.out.cell_ (i := 3) (v := .slice none 0 0) rfl; have zf0 := KZ.out.frozen 0; have zf1 := KZ.out.frozen 1; have zf2 := KZ.out.frozen 2; have zf3 := KZ.out.frozen 3)
        (first | (refine hK.out _ _ ?_ (fun hH3 => ?_)) | (go_wp2_with fail; refine hK.out _ _ ?_ (fun hH3 => ?_)))
        · exact ⟨(Twb).cell x0, (Twb).cell x1, (Twb).cell x2, (Twb).cell x3, (Twb).cell p0, (Twb).cell p1⟩
        clear hK K hH2
        (try simp only [Act.put, List.setIfInBounds_toArray, List.set_cons_zero, List.set_cons_succ])
        refine wpAnyH_ready (rs := [5]) (by kernel_rfl) (by simp) ?_
        refine AllReadyH.cons (o := ⟨some 114, _, _, _, _, _⟩) rfl (fun K hK => ?_) AllReadyH.nil
        go_simp
        (have hzl := KZ.out.lt; go_at_call 14; refine (GroupFinal_r HR.out (show RdGr _ I Kq Aa na ca Ba ma da ps ds by first | exact RB1.out | exact RB1.out.st ((St.refl wb).alloc (.cells (grC 0 0 none 0 0 none 0 0) 25))) HF.out).mono ?_; rintro e wc ⟨Ac, nc, cc, Bc, mc, dc, Tc, uc, rfl, oc, olc, twc⟩; have Twc : St w15 wc := (by first | exact St.trans Twb twc | exact St.trans (St.alloc Twb (.cells (grC 0 0 none 0 0 none 0 0) 25)) twc); have KZ := hid (KZ.out.st twc); clear zz0 zz1 zz2 zz3 zf0 zf1 zf2 zf3; have zz0 := KZ.out.cell_ (i := 0) (v := .int .i64 0) rfl; have zz1 := KZ.out.cell_ (i := 1) (v := .int .i64 0) rfl; have zz2 := KZ.out.cell_ (i := 2) (v := .slice none 0 0) rfl; have zz3 := KZ.out.cell_ (i := 3) (v := .slice none 0 0) rfl; have zf0 := KZ.out.frozen 0; have zf1 := KZ.out.frozen 1; have zf2 := KZ.out.frozen 2; have zf3 := KZ.out.frozen 3; have RX := hid (GBk.sets (W1 := w15) Twc oc olc KZ.out (by first | exact Twb.le | exact Nat.le_trans Twb.le ((St.refl wb).alloc (.cells (grC 0 0 none 0 0 none 0 0) 25)).le) hzl (by first | exact Nat.le_refl _ | exact Twb.le | exact Twa.le)))
        (first | (refine hK.out _ _ ?_ (fun hH4 => ?_)) | (go_wp2_with fail; refine hK.out _ _ ?_ (fun hH4 => ?_)))
        · exact ⟨(Twc).cell x0, (Twc).cell x1, (Twc).cell x2, (Twc).cell x3, (Twc).cell p0, (Twc).cell p1⟩
        clear hK K hH3
        (try simp only [Act.put, List.setIfInBounds_toArray, List.set_cons_zero, List.set_cons_succ])
        refine wpAnyH_take (i := 6) (oi := ⟨some 108, _, _, _, _, _⟩) (v := ?_) rfl (by kernel_rfl) (by kernel_rfl) (by kernel_rfl) (fun _ _ _ h => h) (Or.inl ⟨by rfl, ?_⟩) (by assumption) ?_
        rotate_left
        · (intro w hSw; (try dsimp only at hSw); go_simp; (try with_reducible rfl))
        (try simp only [Act.put, List.setIfInBounds_toArray, List.set_cons_zero, List.set_cons_succ])
        refine wpAnyH_take (i := 7) (oi := ⟨some 115, _, _, _, _, _⟩) (v := ?_) rfl (by kernel_rfl) (by kernel_rfl) (by kernel_rfl) (fun _ _ _ h => h) (Or.inl ⟨by rfl, ?_⟩) (by assumption) ?_
        rotate_left
        · (intro w hSw; (try dsimp only at hSw); go_simp; (try with_reducible rfl))
        (try simp only [Act.put, List.setIfInBounds_toArray, List.set_cons_zero, List.set_cons_succ])
        refine wpAnyH_take (i := 8) (oi := ⟨some 116, _, _, _, _, _⟩) (v := ?_) rfl (by kernel_rfl) (by kernel_rfl) (by kernel_rfl) (fun _ _ _ h => h) (Or.inl ⟨by rfl, ?_⟩) (by assumption) ?_
        rotate_left
        · (intro w hSw; (try dsimp only at hSw); go_simp; (try with_reducible rfl))
        (try simp only [Act.put, List.setIfInBounds_toArray, List.set_cons_zero, List.set_cons_succ])
        refine wpAnyH_take (i := 9) (oi := ⟨some 117, _, _, _, _, _⟩) (v := ?_) rfl (by kernel_rfl) (by kernel_rfl) (by kernel_rfl) (fun _ _ _ h => h) (Or.inl ⟨by rfl, ?_⟩) (by assumption) ?_
        rotate_left
        · (intro w hSw; (try dsimp only at hSw); go_simp; (try with_reducible rfl))
        (try simp only [Act.put, List.setIfInBounds_toArray, List.set_cons_zero, List.set_cons_succ])
        refine wpAnyH_ready (rs := [11]) (by kernel_rfl) (by simp) ?_
        refine AllReadyH.cons (o := ⟨none, _, _, _, _, _⟩) rfl (fun K hK => ?_) AllReadyH.nil
        go_simp
        (first | (refine hK.out _ _ ?_ (fun hH5 => ?_)) | (go_wp2_with fail; refine hK.out _ _ ?_ (fun hH5 => ?_)))
        · exact ⟨RX.out.s.cell x0, RX.out.s.cell x1, RX.out.s.cell x2, RX.out.s.cell x3, RX.out.s.cell p0, RX.out.s.cell p1⟩
        clear hK K hH4
        (try simp only [Act.put, List.setIfInBounds_toArray, List.set_cons_zero, List.set_cons_succ])
        refine wpAnyH_take (i := 12) (oi := ⟨some 19, _, _, _, _, _⟩) (v := ?_) rfl (by kernel_rfl) (by kernel_rfl) (by kernel_rfl) (fun _ _ _ h => h) (Or.inl ⟨by rfl, ?_⟩) (by assumption) ?_
        rotate_left
        · (intro w hSw; (try dsimp only at hSw); go_simp; (try with_reducible rfl))
        (try simp only [Act.put, List.setIfInBounds_toArray, List.set_cons_zero, List.set_cons_succ])
        refine wpAnyH_take (i := 13) (oi := ⟨some 20, _, _, _, _, _⟩) (v := ?_) rfl (by kernel_rfl) (by kernel_rfl) (by kernel_rfl) (fun _ _ _ h => h) (Or.inl ⟨by rfl, ?_⟩) (by assumption) ?_
        rotate_left
        · (intro w hSw; (try dsimp only at hSw); go_simp; (try with_reducible rfl))
        (try simp only [Act.put, List.setIfInBounds_toArray, List.set_cons_zero, List.set_cons_succ])
        refine wpAnyH_done (by kernel_rfl) ?_ _
        clear hH5
        go_wp2_with fail
        go_meet
        exact ⟨_, _, _, _, _, _, _, _, _, rfl, rfl, rfl, hid RX.out⟩
      exact AllReadyH.nil
    refine AllReadyH.cons (o := ⟨some 18, _, _, _, _, _⟩) rfl (fun K hK => ?_) ?_
    · skip
      go_simp; have KZ := hid (show Blk ((w15.drewN 1).alloc (.cells (grC 0 0 none 0 0 none 0 0) 25)) w15.heap.size 25 (grC 0 0 none 0 0 none 0 0) from Blk.new (w15.drewN 1) _ _); have zz0 := KZ.out.cell_ (i := 0) (v := .int .i64 0) rfl; have zz1 := KZ.out.cell_ (i := 1) (v := .int .i64 0) rfl; have zz2 := KZ.out.cell_ (i := 2) (v := .slice none 0 0) rfl; have zz3 := KZ.out.cell_ (i := 3) (v := .slice none 0 0) rfl; have zf0 := KZ.out.frozen 0; have zf1 := KZ.out.frozen 1; have zf2 := KZ.out.frozen 2; have zf3 := KZ.out.frozen 3
      (first | (refine hK.out _ _ ?_ (fun hH1 => ?_)) | (go_wp2_with fail; refine hK.out _ _ ?_ (fun hH1 => ?_)))
      · exact ⟨(sB).cell x0, (sB).cell x1, (sB).cell x2, (sB).cell x3, (sB).cell p0, (sB).cell p1⟩
      clear hK K hH0
      (try simp only [Act.put, List.setIfInBounds_toArray, List.set_cons_zero, List.set_cons_succ])
      refine wpAnyH_ready (rs := [1]) (by kernel_rfl) (by simp) ?_
      refine AllReadyH.cons (o := ⟨some 110, _, _, _, _, _⟩) rfl (fun K hK => ?_) AllReadyH.nil
      go_simp
      (have hzl := KZ.out.lt; go_at_call 27; refine (gr_to (R.out.st (by first | exact sA | exact sB)) HF.out).mono ?_; rintro e wa ⟨Aa, na, ca, Ba, ma, da, rfl, oa, twa⟩; have Twa : St w15 wa := (by first | exact St.trans sA twa | exact St.trans sB twa); have RA := hid oa.rd; have KZ := hid (KZ.out.st twa); clear zz0 zz1 zz2 zz3 zf0 zf1 zf2 zf3; have zz0 := KZ.out.cell_ (i := 0) (v := .int .i64 0) rfl; have zz1 := KZ.out.cell_ (i := 1) (v := .int .i64 0) rfl; have zz2 := KZ.out.cell_ (i := 2) (v := .slice none 0 0) rfl; have zz3 := KZ.out.cell_ (i := 3) (v := .slice none 0 0) rfl; have zf0 := KZ.out.frozen 0; have zf1 := KZ.out.frozen 1; have zf2 := KZ.out.frozen 2; have zf3 := KZ.out.frozen 3)
      (first | (refine hK.out _ _ ?_ (fun hH2 => ?_)) | (go_wp2_with fail; refine hK.out _ _ ?_ (fun hH2 => ?_)))
      · exact ⟨(Twa).cell x0, (Twa).cell x1, (Twa).cell x2, (Twa).cell x3, (Twa).cell p0, (Twa).cell p1⟩
      clear hK K hH1
      (try simp only [Act.put, List.setIfInBounds_toArray, List.set_cons_zero, List.set_cons_succ])
      refine wpAnyH_ready (rs := [4]) (by kernel_rfl) (by simp) ?_
      refine AllReadyH.cons (o := ⟨some 113, _, _, _, _, _⟩) rfl (fun K hK => ?_) AllReadyH.nil
      go_simp
      (have hzl := KZ.out.lt; go_at_call 28; refine (toStamp_any st sg _).mono ?_; rintro e wb ⟨rfl, twb⟩; have Twb : St w15 wb := (by first | exact St.trans Twa twb | exact St.trans (St.alloc Twa (.cells (grC 0 0 none 0 0 none 0 0) 25)) twb); have RB1 := hid (show RdGr wb I Kq Aa na ca Ba ma da ps ds by first | exact RA.out.st twb | exact (RA.out.st ((St.refl wa).alloc (.cells (grC 0 0 none 0 0 none 0 0) 25))).st twb); have KZ := hid (KZ.out.st twb); clear zz0 zz1 zz2 zz3 zf0 zf1 zf2 zf3; have zz0 := KZ.out.cell_ (i := 0) (v := .int .i64 0) rfl; have zz1 := KZ.out.cell_ (i := 1) (v := .int .i64 0) rfl; have zz2 := KZ.out.cell_ (i := 2) (v := .slice none 0 0) rfl; have zz3 := KZ.out.cell_ (i := 3) (v := .slice none 0 0) rfl; have zf0 := KZ.out.frozen 0; have zf1 := KZ.out.frozen 1; have zf2 := KZ.out.frozen 2; have zf3 := KZ.out.frozen 3)
      (first | (refine hK.out _ _ ?_ (fun hH3 => ?_)) | (go_wp2_with fail; refine hK.out _ _ ?_ (fun hH3 => ?_)))
      · exact ⟨(Twb).cell x0, (Twb).cell x1, (Twb).cell x2, (Twb).cell x3, (Twb).cell p0, (Twb).cell p1⟩
      clear hK K hH2
      (try simp only [Act.put, List.setIfInBounds_toArray, List.set_cons_zero, List.set_cons_succ])
      refine wpAnyH_ready (rs := [5]) (by kernel_rfl) (by simp) ?_
      refine AllReadyH.cons (o := ⟨some 114, _, _, _, _, _⟩) rfl (fun K hK => ?_) AllReadyH.nil
      go_simp
      (have hzl := KZ.out.lt; go_at_call 14; refine (GroupFinal_r HR.out (show RdGr _ I Kq Aa na ca Ba ma da ps ds by first | exact RB1.out | exact RB1.out.st ((St.refl wb).alloc (.cells (grC 0 0 none 0 0 none 0 0) 25))) HF.out).mono ?_; rintro e wc ⟨Ac, nc, cc, Bc, mc, dc, Tc, uc, rfl, oc, olc, twc⟩; have Twc : St w15 wc := (by first | exact St.trans Twb twc | exact St.trans (St.alloc Twb (.cells (grC 0 0 none 0 0 none 0 0) 25)) twc); have KZ := hid (KZ.out.st twc); clear zz0 zz1 zz2 zz3 zf0 zf1 zf2 zf3; have zz0 := KZ.out.cell_ (i := 0) (v := .int .i64 0) rfl; have zz1 := KZ.out.cell_ (i := 1) (v := .int .i64 0) rfl; have zz2 := KZ.out.cell_ (i := 2) (v := .slice none 0 0) rfl; have zz3 := KZ.out.cell_ (i := 3) (v := .slice none 0 0) rfl; have zf0 := KZ.out.frozen 0; have zf1 := KZ.out.frozen 1; have zf2 := KZ.out.frozen 2; have zf3 := KZ.out.frozen 3; have RX := hid (GBk.sets (W1 := w15) Twc oc olc KZ.out (by first | exact Twb.le | exact Nat.le_trans Twb.le ((St.refl wb).alloc (.cells (grC 0 0 none 0 0 none 0 0) 25)).le) hzl (by first | exact Nat.le_refl _ | exact Twb.le | exact Twa.le)))
      (first | (refine hK.out _ _ ?_ (fun hH4 => ?_)) | (go_wp2_with fail; refine hK.out _ _ ?_ (fun hH4 => ?_)))
      · exact ⟨(Twc).cell x0, (Twc).cell x1, (Twc).cell x2, (Twc).cell x3, (Twc).cell p0, (Twc).cell p1⟩
      clear hK K hH3
      (try simp only [Act.put, List.setIfInBounds_toArray, List.set_cons_zero, List.set_cons_succ])
      refine wpAnyH_take (i := 6) (oi := ⟨some 108, _, _, _, _, _⟩) (v := ?_) rfl (by kernel_rfl) (by kernel_rfl) (by kernel_rfl) (fun _ _ _ h => h) (Or.inl ⟨by rfl, ?_⟩) (by assumption) ?_
      rotate_left
      · (intro w hSw; (try dsimp only at hSw); go_simp; (try with_reducible rfl))
      (try simp only [Act.put, List.setIfInBounds_toArray, List.set_cons_zero, List.set_cons_succ])
      refine wpAnyH_take (i := 7) (oi := ⟨some 115, _, _, _, _, _⟩) (v := ?_) rfl (by kernel_rfl) (by kernel_rfl) (by kernel_rfl) (fun _ _ _ h => h) (Or.inl ⟨by rfl, ?_⟩) (by assumption) ?_
      rotate_left
      · (intro w hSw; (try dsimp only at hSw); go_simp; (try with_reducible rfl))
      (try simp only [Act.put, List.setIfInBounds_toArray, List.set_cons_zero, List.set_cons_succ])
      refine wpAnyH_take (i := 8) (oi := ⟨some 116, _, _, _, _, _⟩) (v := ?_) rfl (by kernel_rfl) (by kernel_rfl) (by kernel_rfl) (fun _ _ _ h => h) (Or.inl ⟨by rfl, ?_⟩) (by assumption) ?_
      rotate_left
      · (intro w hSw; (try dsimp only at hSw); go_simp; (try with_reducible rfl))
      (try simp only [Act.put, List.setIfInBounds_toArray, List.set_cons_zero, List.set_cons_succ])
      refine wpAnyH_take (i := 9) (oi := ⟨some 117, _, _, _, _, _⟩) (v := ?_) rfl (by kernel_rfl) (by kernel_rfl) (by kernel_rfl) (fun _ _ _ h => h) (Or.inl ⟨by rfl, ?_⟩) (by assumption) ?_
      rotate_left
      · (intro w hSw; (try dsimp only at hSw); go_simp; (try with_reducible rfl))
      (try simp only [Act.put, List.setIfInBounds_toArray, List.set_cons_zero, List.set_cons_succ])
      refine wpAnyH_ready (rs := [11]) (by kernel_rfl) (by simp) ?_
      refine AllReadyH.cons (o := ⟨none, _, _, _, _, _⟩) rfl (fun K hK => ?_) AllReadyH.nil
      go_simp
      (first | (refine hK.out _ _ ?_ (fun hH5 => ?_)) | (go_wp2_with fail; refine hK.out _ _ ?_ (fun hH5 => ?_)))
      · exact ⟨RX.out.s.cell x0, RX.out.s.cell x1, RX.out.s.cell x2, RX.out.s.cell x3, RX.out.s.cell p0, RX.out.s.cell p1⟩
      clear hK K hH4
      (try simp only [Act.put, List.setIfInBounds_toArray, List.set_cons_zero, List.set_cons_succ])
      refine wpAnyH_take (i := 12) (oi := ⟨some 19, _, _, _, _, _⟩) (v := ?_) rfl (by kernel_rfl) (by kernel_rfl) (by kernel_rfl) (fun _ _ _ h => h) (Or.inl ⟨by rfl, ?_⟩) (by assumption) ?_
      rotate_left
      · (intro w hSw; (try dsimp only at hSw); go_simp; (try with_reducible rfl))
      (try simp only [Act.put, List.setIfInBounds_toArray, List.set_cons_zero, List.set_cons_succ])
      refine wpAnyH_take (i := 13) (oi := ⟨some 20, _, _, _, _, _⟩) (v := ?_) rfl (by kernel_rfl) (by kernel_rfl) (by kernel_rfl) (fun _ _ _ h => h) (Or.inl ⟨by rfl, ?_⟩) (by assumption) ?_
      rotate_left
      · (intro w hSw; (try dsimp only at hSw); go_simp; (try with_reducible rfl))
      (try simp only [Act.put, List.setIfInBounds_toArray, List.set_cons_zero, List.set_cons_succ])
      refine wpAnyH_done (by kernel_rfl) ?_ _
      clear hH5
      go_wp2_with fail
      go_meet
      exact ⟨_, _, _, _, _, _, _, _, _, rfl, rfl, rfl, hid RX.out⟩
    exact AllReadyH.nil
  case rest =>
  obtain ⟨b9, A9, n9, c9, B9, m9, d9, T9s, u9, rfl, rfl, rfl, H9⟩ := hcut
  have s9 := H9.out.s
  obtain ⟨v9, rfl⟩ : ∃ x : World, x = wc := ⟨_, rfl⟩
  have G9 := hid H9.out.ow
  have J9 := hid H9.out.ol
  replace S := hid (S.out.st s9)
  replace T5 := hid (T5.out.st s9)
  replace K7 := hid (K7.out.st s9)
  replace OM := hid (OM.out.st s9)
  replace PM := hid (PM.out.st s9)
  replace JM := hid (JM.out.st s9)
  have h0 := H9.out.kb.cell_ (i := 0) (v := .int .i64 I') rfl
  have h1 := H9.out.kb.cell_ (i := 1) (v := .int .i64 K') rfl
  have h2 := H9.out.kb.cell_ (i := 2) (v := .slice A9 n9 c9) rfl
  have h3 := H9.out.kb.cell_ (i := 3) (v := .slice B9 m9 d9) rfl
  clear s9 H9 sA sB R X Y x0 x1 x2 x3 p0 p1
  have l0 := (V5.out.st T5.out).k.cell_ (i := 0) (v := .int .i64 I') rfl
  have l1 := (V5.out.st T5.out).k.cell_ (i := 1) (v := .int .i64 K') rfl
  have l2 := (V5.out.st T5.out).k.cell_ (i := 2) (v := .slice A5 n5 c5) rfl
  have l3 := (V5.out.st T5.out).k.cell_ (i := 3) (v := .slice B5 m5 d5) rfl
  have k0 := K7.out.cell_ (i := 0) (v := .int .i64 I') rfl
  have k1 := K7.out.cell_ (i := 1) (v := .int .i64 K') rfl
  have k2 := K7.out.cell_ (i := 2) (v := .slice A7 n7 c7) rfl
  have k3 := K7.out.cell_ (i := 3) (v := .slice B7 m7 d7) rfl
  go_wp2_with fail
  refine (gr_same (show RdGr _ I' K' A9 n9 c9 B9 m9 d9 ps' ds' from ⟨G9.out.oi.se, G9.out.oh.se⟩) (show RdGr _ I' K' A5 n5 c5 B5 m5 d5 ps' ds' from ⟨(V5.out.st T5.out).i, (V5.out.st T5.out).j⟩) FT.out).mono ?_
  rintro e w18 ⟨rfl, s9⟩
  replace S := hid (S.out.st s9)
  replace T5 := hid (T5.out.st s9)
  replace K7 := hid (K7.out.st s9)
  replace OM := hid (OM.out.st s9)
  replace PM := hid (PM.out.st s9)
  replace JM := hid (JM.out.st s9)
  replace J9 := hid (J9.out.st s9)
  replace k0 := s9.cell k0
  replace k1 := s9.cell k1
  replace k2 := s9.cell k2
  replace k3 := s9.cell k3
  clear s9
  go_wp2_with fail
  refine (is_same J9.out.sl (L5.out.st T5.out) FX.out).mono ?_
  rintro e w18b ⟨rfl, s9⟩
  replace S := hid (S.out.st s9)
  replace T5 := hid (T5.out.st s9)
  replace K7 := hid (K7.out.st s9)
  replace OM := hid (OM.out.st s9)
  replace PM := hid (PM.out.st s9)
  replace JM := hid (JM.out.st s9)
  replace k0 := s9.cell k0
  replace k1 := s9.cell k1
  replace k2 := s9.cell k2
  replace k3 := s9.cell k3
  clear s9
  clear l0 l1 l2 l3 h0 h1 h2 h3 J9 G9
  go_wp2_with fail
  refine (heldGroup_any I' K' A7 B7 n7 c7 m7 d7 1 _ OM.out PM.out hn7 hm7 (by omega) (by omega)).mono ?_
  rintro e w20 ⟨rfl, s15⟩
  replace S := hid (S.out.st s15)
  replace JM := hid (JM.out.st s15)
  clear s15
  have hqn : ¬ (1 : Int) + 4 * (n7 : Int) + 4 * (m7 : Int) < 0 := by omega
  go_wp2_with fail
  refine (heldIntS_any T7s xs.length u7 _ (1 + 4 * (n7 : Int) + 4 * (m7 : Int)) _ JM.out.ri hx7 (by omega) (by omega)).mono ?_
  rintro e w20b ⟨rfl, rfl⟩
  have hqm : ¬ (1 : Int) + 4 * (n7 : Int) + 4 * (m7 : Int) + (xs.length : Int) < 0 := by omega
  go_wp2_with fail
  go_ret
  exact ⟨rfl, S.out⟩
end Go.Proofs.Ytkhgemgmnchodaa
