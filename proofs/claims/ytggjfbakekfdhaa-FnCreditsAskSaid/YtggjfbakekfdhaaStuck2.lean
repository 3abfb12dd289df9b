/- spec.CreditsStuck. -/
import Derived.Test.YtggjfbakekfdhaaStuck1
import Derived.StillTailTactics
namespace Go.Proofs.Ytggjfbakekfdhaa
open Go.RowKit
theorem still_left {P : Program} {f : FuncId} {args : Array Value} {w : World} {v : Value} (h : Calls P f args w fun e w' => e = .returned v ∧ w = w') : Calls P f args w fun e w' => e = .returned v ∧ w' = w :=
  h.mono fun _ _ ⟨a, b⟩ => ⟨a, b.symm⟩
theorem OB.ne {w : World} {base base' G n c nl a : Nat} {X : Option Addr} {bs : List Bool} {xs : List Int} (h : OB w base (some ⟨G, 0, none⟩) n c bs) (h' : OI w base' 3 X nl a xs) : blockOf X ≠ some G := by
  rcases h.2 with ⟨h1, _⟩ | ⟨g, cap, cur, h1, _, hh, _⟩
  · cases h1
  · injection h1 with h1
    injection h1 with h1
    injection h1 with h1
    subst h1
    rw [← ownBlock_slice X nl a]
    exact own_blk_ne (t := 4) (cs := cur) h' hh (by decide)
set_option maxRecDepth 100000 in
set_option maxHeartbeats 4000000 in
theorem specCreditsStuck_any (A B : Option Addr) (n c m d : Nat) (fs : List Int) (hs : List (List Int × Int)) (w : World) (h : SL w A n c fs) (h' : SH w B m d hs) (hn : n ≤ 1048576) (hm2 : ∀ x ∈ hs, x.1.length ≤ 1048576) :
    Calls Try.prog 32 #[crV A n c B m d] w (MadeI w (crStuck fs hs)) := by
  obtain ⟨i0, hi0, hz0, hz1, hz2⟩ := info_parts boolInfo
  have HM2 := hid hm2
  clear hm2
  have s0 := ((St.refl w).alloc (.cells #[.slice A n c, .slice B m d] 25)).alloc (.cells #[] 3)
  have h1 := h.st s0
  have h1' := h'.st s0
  have HB := hid ((Blk.new w 25 #[.slice A n c, .slice B m d]).alloc (.cells #[] 3))
  have q0 := HB.out.cell_ (i := 0) (v := .slice A n c) rfl
  have q1 := HB.out.cell_ (i := 1) (v := .slice B m d) rfl
  have o0 : OI ((w.alloc (.cells #[.slice A n c, .slice B m d] 25)).alloc (.cells #[] 3)) (w.heap.size + 1) 3 (some ⟨w.heap.size + 1, 0, none⟩) 0 0 [] := by
    have := OI.lit (w := w.alloc (.cells #[.slice A n c, .slice B m d] 25)) (e := 3)
    simpa using this
  have O0 := hid o0
  have HL := hid h'.len
  have hmd := h'.nc
  have hmm := h'.cm
  unfold maxLen at hmm
  clear o0
  cases hv : crValid fs hs
  · have HF := hid (show crStuck fs hs = [] by unfold crStuck; rw [hv]; rfl)
    go_enter Try.func32, Try.ntmps32
    go_wp2_with fail
    refine (specCreditsValid_any _ _ _ _ _ _ _ _ _ h1 h1' hn HM2.out).mono ?_
    rintro e w1 ⟨rfl, s1⟩
    rw [hv]
    have O1 := hid (OI.less (own_below O0.out s1) (show w.heap.size ≤ w.heap.size + 1 by omega))
    go_wp2_with fail
    go_ret
    refine ⟨some ⟨w.heap.size + 1, 0, none⟩, 0, ?_, ?_, s0.trans s1⟩
    · rw [HF.out]; rfl
    · rw [HF.out]; exact O1.out
  have hm6 := crValid_len hv
  rw [HL.out] at hm6
  have HF := hid (show crStuck fs hs = stuckOf hs by unfold crStuck; rw [hv]; rfl)
  have HV := hid hv
  go_enter Try.func32, Try.ntmps32
  go_wp2_with fail
  refine (specCreditsValid_any _ _ _ _ _ _ _ _ _ h1 h1' hn HM2.out).mono ?_
  rintro e w1 ⟨rfl, s1⟩
  rw [HV.out]
  have S1 := hid (s0.trans s1)
  have K1 := hid (HB.out.below s1 HB.out.lt)
  have O1 := hid (own_below O0.out s1)
  clear q0 q1 s0 s1 h1 h1' HB hv O0
  have hle := S1.out.le
  have hKlt := K1.out.lt
  have hOlt := (World.ownsRow.lt O1.out _ rfl).2
  have q0 := K1.out.cell_ (i := 0) (v := .slice A n c) rfl
  have q1 := K1.out.cell_ (i := 1) (v := .slice B m d) rfl
  go_wp2_with (at_make; refine wpList_make_full _ rfl _ _ 64 rfl w1.heap.size 4 i0 (.bool false) 1 Try.underlying64 hi0 hz0 hz1 _ _ _ _ m rfl rfl rfl rfl (by rw [hz2]; omega) (by unfold maxLen; omega) (Nat.le_refl _) ?_; intro w2 hown hgrow; have q2 := (K1.out.grown hgrow (by simp)).cell_ (i := 1) (v := .slice B m d) rfl)
  have hsz : w1.heap.size < w2.heap.size := (World.ownsRow.lt hown _ rfl).2
  have HO : Hid (OB w2 w1.heap.size (some ⟨w1.heap.size, 0, none⟩) m m (bitsF hs.length (fun _ => false))) := by
    have h1 := OB.made hown
    have h2 : bitsF hs.length (fun _ => false) = List.replicate m false := by
      rw [HL.out]
      apply List.ext_getElem?
      intro j
      simp [bitsF, List.getElem?_replicate]
      split <;> simp_all
    rw [h2]; exact h1
  have S2 := hid (S1.out.grown hgrow (by simp))
  have K2 := hid (K1.out.grown hgrow (by simp))
  have O2 := hid (OI.grown O1.out hgrow (by simp))
  clear hown hgrow q0 q1 q2 K1 S1 O1
  obtain ⟨G, hG⟩ : ∃ G, w1.heap.size = G := ⟨_, rfl⟩
  rw [hG] at HO hsz hle hKlt hOlt ⊢
  clear hG
  have HHD := hid (show Head hs 0 (fun _ => false) from ⟨fun i _ hf => by simp at hf, .inl (by have := cnt_le hs.length (fun _ => false); omega)⟩)
  go_loopw [5] (fun i wb => ∃ (r : Nat) (f : Nat → Bool), r ≤ m + 1 ∧ i = .int .i64 r ∧ Hid (OB wb G (some ⟨G, 0, none⟩) m m (bitsF hs.length f)) ∧ Hid (w2.grownBy wb (some G)) ∧ Hid (Head hs r f)) (fun i _ => m + 1 - (intOf i).toNat)
  case atStart => exact ⟨0, _, Nat.zero_le _, rfl, HO, World.grownBy.refl _ _, HHD⟩
  case round =>
    obtain ⟨r, f, hrk, rfl, ho, hg, hh⟩ := hrel
    obtain ⟨wb, rfl⟩ : ∃ wo : World, wo = wr := ⟨_, rfl⟩
    have SB := hid (S2.out.grown hg.out (fun k hk => by injection hk with hk; omega))
    have KB := hid (K2.out.grown hg.out (by intro e; injection e with e; omega))
    have hGb := Nat.lt_of_lt_of_le hsz hg.out.size
    have hKb := KB.out.lt
    have q1 := KB.out.cell_ (i := 1) (v := .slice B m d) rfl
    by_cases hlt : r ≤ m
    · have hlti : (r : Int) ≤ (m : Int) := by omega
      go_wp2_with fail
      clear q1
      have HMS := hid (Mid.start hh.out)
      go_loopw [6] (fun i we => ∃ (j : Nat) (f' : Nat → Bool), j ≤ m ∧ i = .int .i64 j ∧ Hid (OB we G (some ⟨G, 0, none⟩) m m (bitsF hs.length f')) ∧ Hid (wb.grownBy we (some G)) ∧ Hid (Mid hs f f' j 0 j)) (fun i _ => m - (intOf i).toNat)
      case atStart => exact ⟨0, _, Nat.zero_le _, rfl, ho, World.grownBy.refl _ _, HMS⟩
      case round =>
        obtain ⟨j, f', hjk, rfl, ho1, hg1, hmid⟩ := hrel
        obtain ⟨we, rfl⟩ : ∃ wo : World, wo = wr := ⟨_, rfl⟩
        have SE := hid (SB.out.grown hg1.out (fun k hk => by injection hk with hk; omega))
        have KE := hid (KB.out.grown hg1.out (by intro e; injection e with e; omega))
        have hGe := Nat.lt_of_lt_of_le hGb hg1.out.size
        have hKe := KE.out.lt
        have q1 := KE.out.cell_ (i := 1) (v := .slice B m d) rfl
        by_cases hltj : j < m
        · obtain ⟨ad, Aj, nj, cj, xs, t, rfl, hb1, hc1, hc2, hx, hsk⟩ := (h'.st SE.out).at_ hltj
          obtain ⟨b, hb2, hb3, hbx, hbc, hbf, hset⟩ := ho1.out.at_ hltj
          obtain rfl : (f' j) = b := by have := hbx.out; rw [bitsF_at _ (by rw [HL.out]; exact hltj)] at this; injection this
          have hm1 := hid (Mid.idle hmid.out hx.out)
          have hji : (0 : Int) ≤ (j : Int) := by omega
          have hji2 : (j : Int) < (m : Int) := by omega
          have o2 : Hid (OB (we.setCell ⟨G, j, none⟩ (.bool (f' j || decide (t < 0)))) G (some ⟨G, 0, none⟩) m m (bitsF hs.length (upd f' j (f' j || decide (t < 0))))) := by
            have := (hset (f' j || decide (t < 0))).1.out
            rw [bitsF_set] at this; exact this
          have g2 := hid (grown_trans' hg1.out (hset (f' j || decide (t < 0))).2)
          have KC := hid (KE.out.grown (hset (f' j || decide (t < 0))).2 (by intro e; injection e with e; omega))
          have SC := hid (SE.out.grown (hset (f' j || decide (t < 0))).2 (fun k hk => by injection hk with hk; omega))
          have q2 := KC.out.cell_ (i := 1) (v := .slice (some ad) m d) rfl
          clear hset hsk hb1
          have hfin : f' j = true ∨ f' j = false := by cases f' j <;> simp
          rcases hfin with hfj | hfj
          all_goals
            rw [hfj] at hbc
            simp only [hfj, Bool.true_or, Bool.false_or] at o2 g2 KC SC q2 hm1
            clear hfj
            go_wp2_with fail
            clear q1 q2 hc1 hc2 hbc hbf
            generalize we.setCell ⟨G, j, none⟩ _ = wf at o2 g2 KC SC ⊢
            generalize upd f' j _ = f1 at o2 hm1
            have hGf : G < wf.heap.size := Nat.lt_of_lt_of_le hGb g2.out.size
            go_loopw [7] (fun i wg => ∃ (q : Nat) (f2 : Nat → Bool), q ≤ m ∧ i = .int .i64 q ∧ Hid (OB wg G (some ⟨G, 0, none⟩) m m (bitsF hs.length f2)) ∧ Hid (wf.grownBy wg (some G)) ∧ Hid (Mid hs f f2 j q (j + 1))) (fun i _ => m - (intOf i).toNat)
            case atStart => exact ⟨0, _, Nat.zero_le _, rfl, o2, World.grownBy.refl _ _, hm1⟩
            case round =>
              obtain ⟨q, f2, hqk, rfl, ho3, hg3, hmid3⟩ := hrel
              obtain ⟨wg, rfl⟩ : ∃ wo : World, wo = wr := ⟨_, rfl⟩
              have SG := hid (SC.out.grown hg3.out (fun k hk => by injection hk with hk; omega))
              have KD := hid (KC.out.grown hg3.out (by intro e; injection e with e; omega))
              have q1 := KD.out.cell_ (i := 1) (v := .slice (some ad) m d) rfl
              by_cases hltq : q < m
              · obtain ⟨ad1, Ai, ni, ci, zs, t1, he, hb1, hc1, hc2, hx1, hsk1⟩ := (h'.st SG.out).at_ hltj
                injection he with he
                subst he
                obtain ⟨rfl, rfl⟩ : zs = xs ∧ t1 = t := by
                  have h1 := hx1.out
                  rw [hx.out] at h1
                  injection h1 with h1
                  injection h1 with h1 h2
                  exact ⟨h1.symm, h2.symm⟩
                obtain ⟨ad', Aq, nq, cq, ys, t', he, hb1', hc1', hc2', hx', hsk'⟩ := (h'.st SG.out).at_ hltq
                injection he with he
                subst he
                have hnq : nq ≤ 1048576 := by have := HM2.out _ (List.mem_of_getElem? hx'.out); rw [hsk'.len] at this; exact this
                obtain ⟨b, hb2, hb3, hbx, hbc, hbf, hset⟩ := ho3.out.at_ hltj
                obtain ⟨b', _, _, hbx', hbc', hbf', _⟩ := ho3.out.at_ hltq
                obtain rfl : (f2 j) = b := by have := hbx.out; rw [bitsF_at _ (by rw [HL.out]; exact hltj)] at this; injection this
                obtain rfl : (f2 q) = b' := by have := hbx'.out; rw [bitsF_at _ (by rw [HL.out]; exact hltq)] at this; injection this
                have hm4 := hid (Mid.look hmid3.out hx.out hx'.out)
                have hqi : (0 : Int) ≤ (q : Int) := by omega
                have hqi2 : (q : Int) < (m : Int) := by omega
                have o5 : Hid (OB ((wg.setCell ⟨G, j, none⟩ (.bool (f2 j || (f2 q && has ys t1)))).drew) G (some ⟨G, 0, none⟩) m m (bitsF hs.length (upd f2 j (f2 j || (f2 q && has ys t1))))) := by
                  have := (hset (f2 j || (f2 q && has ys t1))).1.out
                  rw [bitsF_set] at this; exact World.ownsRow.dr this ⟨1, rfl⟩
                have g5 := hid (grown_dr (grown_trans' hg3.out (hset (f2 j || (f2 q && has ys t1))).2) (k := ⟨1, rfl⟩))
                clear hset
                have hfin : f2 j = true ∨ f2 j = false := by cases f2 j <;> simp
                rcases hfin with hfj | hfj
                · rw [hfj] at hbc
                  simp only [hfj, Bool.true_or] at o5 g5 hm4
                  clear hfj
                  go_wp2_with fail
                  refine wp_region_still_tail 28 (by kernel_rfl) (by kernel_rfl) ?_
                  simp only [List.take_succ_cons, List.take_zero, List.drop_succ_cons, List.drop_zero]
                  repeat (with_reducible (refine wpStill_step (fun K hK => ?_)); go_simp; (try rw [if_neg (by simp [undef])]); with_reducible (refine hK _ ?_); clear hK K)
                  with_reducible (refine wpStill_nil ?_)
                  change wpList _ _ _ _ _ (World.drew wg)
                  go_wp2
                  go_roundw
                  case rel => exact ⟨q + 1, _, by omega, by go_num, o5, g5, hm4⟩
                  case measure => simp [intOf]; omega
                · rw [hfj] at hbc
                  have hfin : f2 q = true ∨ f2 q = false := by cases f2 q <;> simp
                  rcases hfin with hfq | hfq
                  · rw [hfq] at hbc'
                    simp only [hfj, hfq, Bool.false_or, Bool.true_and] at o5 g5 hm4
                    clear hfj hfq
                    have hcall := hid (still_left (l1Has_any Aq nq cq _ ys t1 wg.drew (hsk'.ri.dr ⟨1, rfl⟩) (by omega)))
                    go_wp2_with fail
                    refine wp_region_still_tail 28 (by kernel_rfl) (by kernel_rfl) ?_
                    simp only [List.take_succ_cons, List.take_zero, List.drop_succ_cons, List.drop_zero]
                    repeat (with_reducible (refine wpStill_step (fun K hK => ?_)); go_simp; (try rw [if_neg (by simp [undef])]); with_reducible (refine hK _ ?_); clear hK K)
                    (with_reducible (refine wpStill_step (fun K hK => ?_)); go_simp; with_reducible (refine ⟨_, hcall.out, hK _ ?_⟩); clear hK K)
                    repeat (with_reducible (refine wpStill_step (fun K hK => ?_)); go_simp; (try rw [if_neg (by simp [undef])]); with_reducible (refine hK _ ?_); clear hK K)
                    with_reducible (refine wpStill_nil ?_)
                    change wpList _ _ _ _ _ (World.drew wg)
                    go_wp2
                    go_roundw
                    case rel => exact ⟨q + 1, _, by omega, by go_num, o5, g5, hm4⟩
                    case measure => simp [intOf]; omega
                  · rw [hfq] at hbc'
                    simp only [hfj, hfq, Bool.false_or, Bool.false_and] at o5 g5 hm4
                    clear hfj hfq
                    go_wp2_with fail
                    refine wp_region_still_tail 28 (by kernel_rfl) (by kernel_rfl) ?_
                    simp only [List.take_succ_cons, List.take_zero, List.drop_succ_cons, List.drop_zero]
                    repeat (with_reducible (refine wpStill_step (fun K hK => ?_)); go_simp; (try rw [if_neg (by simp [undef])]); with_reducible (refine hK _ ?_); clear hK K)
                    with_reducible (refine wpStill_nil ?_)
                    change wpList _ _ _ _ _ (World.drew wg)
                    go_wp2
                    go_roundw
                    case rel => exact ⟨q + 1, _, by omega, by go_num, o5, g5, hm4⟩
                    case measure => simp [intOf]; omega
              · obtain rfl : q = m := by omega
                have hm4 := hid (Mid.next (by have := hmid3.out; rw [← HL.out] at this; exact this))
                have g4 := hid (grown_trans' g2.out hg3.out)
                go_wp2_with fail
                go_roundw
                case rel => exact ⟨j + 1, f2, by omega, by go_num, ho3, g4, hm4⟩
                case measure => simp [intOf]; omega
        · obtain rfl : j = m := by omega
          have hm4 := hid (Mid.end_ hh.out (by have := hmid.out; rw [← HL.out] at this; exact this))
          have g4 := hid (grown_trans' hg.out hg1.out)
          go_wp2_with fail
          go_roundw
          case rel => exact ⟨r + 1, f', by omega, by go_num, ho1, g4, hm4⟩
          case measure => simp [intOf]; omega
    · obtain rfl : r = m + 1 := by omega
      have hlti : ¬ ((m : Int) + 1 ≤ (m : Int)) := by omega
      have HD := hid (head_done' (by have := hh.out; rw [← HL.out] at this; exact this))
      have HS := hid (notFree_stuck hh.out.1 HD.out)
      have OL := hid (OI.grown O2.out hg.out (fun k hk e => by injection hk with hk; simp [blockOf] at e; omega))
      clear O2
      go_wp2_with fail
      clear q1
      go_loopw [3, 8] (fun v i wy => ∃ (p nl a : Nat) (X : Option Addr), p ≤ m ∧ i = .int .i64 p ∧ v = .slice X nl a ∧ nl ≤ p ∧ Hid (OI wy (w.heap.size + 1) 3 X nl a (notFree f p)) ∧ Hid (St w wy) ∧ Hid (OB wy G (some ⟨G, 0, none⟩) m m (bitsF hs.length f)) ∧ Hid (Blk wy w.heap.size 25 #[.slice A n c, .slice B m d]) ∧ Hid (blockOf X ≠ some G) ∧ wb.heap.size ≤ wy.heap.size) (fun _ i _ => m - (intOf i).toNat)
      case atStart => exact ⟨0, 0, 0, _, Nat.zero_le _, rfl, rfl, Nat.le_refl _, OL, SB, ho, KB, hid (by simp [blockOf]; omega), Nat.le_refl _⟩
      case round =>
        obtain ⟨p, nl, a, X, hpr, rfl, rfl, hnl, hol, hst, hob, hkb, hne, hzz⟩ := hrel
        have q1 := hkb.out.cell_ (i := 1) (v := .slice B m d) rfl
        by_cases hltp : p < m
        · obtain ⟨b, _, _, hbx, hbc, _, _⟩ := hob.out.at_ hltp
          obtain rfl : (f p) = b := by have := hbx.out; rw [bitsF_at _ (by rw [HL.out]; exact hltp)] at this; injection this
          have hpi : (0 : Int) ≤ (p : Int) := by omega
          have hpi2 : (p : Int) < (m : Int) := by omega
          cases hfp : f p
          · rw [hfp] at hbc
            have HN := hid (notFree_no hfp)
            have hle2 : w.heap.size + 1 ≤ wr.heap.size := by omega
            clear hfp
            go_wp2_with (at_builtin; refine wpList_append_int _ rfl _ _ 22 rfl (w.heap.size + 1) 3 Try.underlying22 intInfo _ _ _ _ (p : Int) rfl hol.out rfl (by omega) hle2 ?_; intro X2 a2 w2' ho2 hg2)
            have ho3 : Hid (OI w2' (w.heap.size + 1) 3 X2 (nl + 1) a2 (notFree f (p + 1))) := by rw [HN.out]; exact ho2
            have hXb : ∀ g, blockOf X = some g → w.heap.size < g := fun g hg => (hol.out.lt g hg).1
            have st2 := hid (hst.out.grown hg2 (fun k hk => Nat.le_of_lt (hXb k hk)))
            have ob4 := hid (hob.out.grown hg2 hne.out)
            have kb4 := hid (hkb.out.grown hg2 (fun e => by have := hXb _ e.symm; omega))
            have ne4 := hid (OB.ne ob4.out ho3.out)
            have zz4 : wb.heap.size ≤ w2'.heap.size := Nat.le_trans hzz hg2.size
            go_roundw
            case rel => exact ⟨p + 1, nl + 1, _, _, by omega, by go_num, rfl, by omega, ho3, st2, ob4, kb4, ne4, zz4⟩
            case measure => simp [intOf]; omega
          · rw [hfp] at hbc
            have HN := hid (notFree_yes hfp)
            have ho3 : Hid (OI wr (w.heap.size + 1) 3 X nl a (notFree f (p + 1))) := by rw [HN.out]; exact hol
            clear hfp
            go_wp2_with fail
            go_roundw
            case rel => exact ⟨p + 1, nl, _, _, by omega, by go_num, rfl, by omega, ho3, hst, hob, hkb, hne, hzz⟩
            case measure => simp [intOf]; omega
        · obtain rfl : p = m := by omega
          go_wp2_with fail
          go_ret
          have e1 : notFree f p = crStuck fs hs := by have := HS.out; rw [HL.out] at this; rw [HF.out, this]
          have o5 := hol.out
          rw [e1] at o5
          have e2 := o5.len
          refine ⟨X, a, ?_, ?_, hst.out⟩
          · rw [e2]; rfl
          · rw [e2]; exact o5.less (by omega)
end Go.Proofs.Ytggjfbakekfdhaa
