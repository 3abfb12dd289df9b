/- impl.CreditsStuck. -/
import Derived.Test.YtggjfbakekfdhaaStuckL
import Derived.Test.YtggjfbakekfdhaaBools
namespace Go.Proofs.Ytggjfbakekfdhaa
open Go.RowKit
theorem set_idle (bs zs : List Bool) (k : Nat) (b : Bool) (hb : bs[k]? = some b) (hz : bs.length = zs.length) : ((bs.take k ++ zs.drop k).set k b) = bs.take (k + 1) ++ zs.drop (k + 1) := by
  have hk := (List.getElem?_eq_some_iff.1 hb).1
  rw [set_front rfl (by rw [List.length_take]; omega) (by omega), take_snoc hb]
theorem bitsN_idle (hs : List (List Int × Int)) : bitsN hs.length (idleF hs) = hs.map (fun h => h.2 != -1) := by
  apply List.ext_getElem?
  intro j
  by_cases hj : j < hs.length
  · rw [bitsN_at _ hj, List.getElem?_map, List.getElem?_eq_getElem hj, idleF_at (List.getElem?_eq_getElem hj)]
    rfl
  · rw [List.getElem?_eq_none (by simp [bitsN]; omega), List.getElem?_eq_none (by simp; omega)]
set_option maxRecDepth 100000 in
set_option maxHeartbeats 4000000 in
theorem CreditsStuck_any (A B : Option Addr) (n c m d : Nat) (fs : List Int) (hs : List (List Int × Int)) (w : World) (h : SL w A n c fs) (h' : SH w B m d hs) (hn : n ≤ 1048576) (hm2 : ∀ x ∈ hs, x.1.length ≤ 1048576) :
    Calls Try.prog 26 #[crV A n c B m d] w (MadeI w (crStuck fs hs)) := by
  obtain ⟨i0, hi0, hz0, hz1, hz2⟩ := info_parts boolInfo
  have HM2 := hid hm2
  clear hm2
  have s0 := (St.refl w).alloc (.cells #[.slice A n c, .slice B m d] 25)
  have h1 := h.st s0
  have h1' := h'.st s0
  have HB := hid (Blk.new w 25 #[.slice A n c, .slice B m d])
  have q0 := HB.out.cell_ (i := 0) (v := .slice A n c) rfl
  have q1 := HB.out.cell_ (i := 1) (v := .slice B m d) rfl
  have HL := hid h'.len
  have hmd := h'.nc
  have hmm := h'.cm
  unfold maxLen at hmm
  cases hv : crValid fs hs
  · have HF := hid (show crStuck fs hs = [] by unfold crStuck; rw [hv]; rfl)
    have HN := hid (OI.lit (w := w) (e := 3))
    go_enter Try.func26, Try.ntmps26
    go_wp2_with fail
    refine (CreditsValid_any _ _ _ _ _ _ _ _ _ h1 h1' hn HM2.out).mono ?_
    rintro e w1 ⟨rfl, s1⟩
    rw [hv]
    go_wp2_with fail
    go_ret
    refine ⟨none, 0, ?_, ?_, s0.trans s1⟩
    · rw [HF.out]; rfl
    · rw [HF.out]; exact World.ownsRow_nil _ _ _ _
  have hm6 := crValid_len hv
  rw [HL.out] at hm6
  have HF := hid (show crStuck fs hs = stuckOf hs by unfold crStuck; rw [hv]; rfl)
  have HV := hid hv
  go_enter Try.func26, Try.ntmps26
  go_wp2_with fail
  refine (CreditsValid_any _ _ _ _ _ _ _ _ _ h1 h1' hn HM2.out).mono ?_
  rintro e w1 ⟨rfl, s1⟩
  rw [HV.out]
  have S1 := hid (s0.trans s1)
  have K1 := hid (HB.out.below s1 HB.out.lt)
  clear q0 q1 s0 s1 h1 h1' HB hv
  have hle := S1.out.le
  have hKlt := K1.out.lt
  have q0 := K1.out.cell_ (i := 0) (v := .slice A n c) rfl
  have q1 := K1.out.cell_ (i := 1) (v := .slice B m d) rfl
  go_wp2_with (at_make; refine wpList_make_full _ rfl _ _ 64 rfl w1.heap.size 4 i0 (.bool false) 1 Try.underlying64 hi0 hz0 hz1 _ _ _ _ m rfl rfl rfl rfl (by rw [hz2]; omega) (by unfold maxLen; omega) (Nat.le_refl _) ?_; intro w2 hown hgrow; have q2 := (K1.out.grown hgrow (by simp)).cell_ (i := 1) (v := .slice B m d) rfl)
  have hsz : w1.heap.size < w2.heap.size := (World.ownsRow.lt hown _ rfl).2
  have HO := hid (OB.made hown)
  have S2 := hid (S1.out.grown hgrow (by simp))
  have K2 := hid (K1.out.grown hgrow (by simp))
  clear hown hgrow q0 q1 q2 K1 S1
  obtain ⟨G, hG⟩ : ∃ G, w1.heap.size = G := ⟨_, rfl⟩
  rw [hG] at HO hsz hle hKlt ⊢
  clear hG
  go_loopw [22] (fun i wr => ∃ k : Nat, k ≤ m ∧ i = .int .i64 k ∧ Hid (OB wr G (some ⟨G, 0, none⟩) m m ((hs.map (fun h => h.2 != -1)).take k ++ (List.replicate m false).drop k)) ∧ Hid (w2.grownBy wr (some G))) (fun i _ => m - (intOf i).toNat)
  case atStart => exact ⟨0, Nat.zero_le _, rfl, HO, World.grownBy.refl _ _⟩
  case round =>
    obtain ⟨k, hk, rfl, ho, hg⟩ := hrel
    have SR := hid (S2.out.grown hg.out (fun k hk => by injection hk with hk; omega))
    have hr := h'.st SR.out
    by_cases hlt : k < m
    · obtain ⟨ad, Ak, nk, ck, xs, t, rfl, hb1, hc1, hc2, hx, hsk⟩ := hr.at_ hlt
      have g1 := hid (grown_alloc hg.out (.cells #[.slice Ak nk ck, .int .i64 t] 38))
      have o1 := hid (ho.out.st ((St.refl wr).alloc (.cells #[.slice Ak nk ck, .int .i64 t] 38)))
      obtain ⟨b, hb2, hb3, hbx, hbc, hbf, hset⟩ := o1.out.at_ hlt
      have o2 := hid ((hset (t != -1)).1.out)
      have g2 := hid (grown_trans' g1.out (hset (t != -1)).2)
      have HE := hid (set_idle (hs.map (fun h => h.2 != -1)) (List.replicate m false) k (t != -1) (by rw [List.getElem?_map, hx.out]; rfl) (by rw [List.length_map, List.length_replicate, HL.out]))
      have kk := (Blk.new wr 38 #[.slice Ak nk ck, .int .i64 t]).cell_ (i := 1) (v := .int .i64 t) rfl
      clear hset g1 o1 hg ho
      go_wp2_with fail
      go_roundw
      case rel => exact ⟨k + 1, by omega, by go_num, by rw [← HE.out]; exact o2, g2⟩
      case measure => simp [intOf]; omega
    · obtain rfl : k = m := by omega
      have HO1 : Hid (OB wr G (some ⟨G, 0, none⟩) k k (bitsN hs.length (idleF hs))) := by
        have := ho.out
        rw [List.drop_of_length_le (by rw [List.length_replicate]; omega), List.append_nil, List.take_of_length_le (by rw [List.length_map, HL.out]; omega)] at this
        rw [bitsN_idle]; exact this
      have KR := hid (K2.out.grown hg.out (by intro e; injection e with e; omega))
      have hGr : G < wr.heap.size := Nat.lt_of_lt_of_le hsz hg.out.size
      have hKr := KR.out.lt
      clear hr ho hg K2 S2 HO hsz hle
      have q1 := KR.out.cell_ (i := 1) (v := .slice B k d) rfl
      go_wp2_with fail
      clear q1
      obtain ⟨wa, hwa⟩ : ∃ wa : World, wa = wr := ⟨_, rfl⟩
      rw [← hwa] at SR HO1 KR hGr hKr ⊢
      clear hwa
      have HID := hid (idle_head HV.out)
      have HIA := hid (fun i => idle_all HV.out i)
      go_loopw [37] (fun i wb => ∃ (r : Nat) (f : Nat → Bool), r ≤ k ∧ i = .int .i64 r ∧ Hid (OB wb G (some ⟨G, 0, none⟩) k k (bitsN hs.length f)) ∧ Hid (wa.grownBy wb (some G)) ∧ Hid (Head hs r f) ∧ Hid (∀ i, IdleAt hs f i)) (fun i _ => k - (intOf i).toNat)
      case atStart => exact ⟨0, _, Nat.zero_le _, rfl, HO1, World.grownBy.refl _ _, HID, HIA⟩
      case round =>
        obtain ⟨r, f, hrk, rfl, ho, hg, hh, hia⟩ := hrel
        obtain ⟨wb, rfl⟩ : ∃ wo : World, wo = wr := ⟨_, rfl⟩
        have SB := hid (SR.out.grown hg.out (fun k hk => by injection hk with hk; omega))
        have KB := hid (KR.out.grown hg.out (by intro e; injection e with e; omega))
        have hGb := Nat.lt_of_lt_of_le hGr hg.out.size
        have hKb := KB.out.lt
        have q1 := KB.out.cell_ (i := 1) (v := .slice B k d) rfl
        by_cases hlt : r < k
        · go_wp2_with fail
          clear q1
          obtain ⟨wc, hwc⟩ : ∃ wc : World, wc = wb := ⟨_, rfl⟩
          rw [← hwc] at SB KB hGb hKb ho hg ⊢
          clear hwc
          have HMS := hid (Mid.start' hh.out hia.out)
          go_loopw [42] (fun i we => ∃ (j : Nat) (f' : Nat → Bool), j ≤ k ∧ i = .int .i64 j ∧ Hid (OB we G (some ⟨G, 0, none⟩) k k (bitsN hs.length f')) ∧ Hid (wc.grownBy we (some G)) ∧ Hid (Mid hs f f' j 0 hs.length) ∧ Hid (∀ i, IdleAt hs f' i)) (fun i _ => k - (intOf i).toNat)
          case atStart => exact ⟨0, _, Nat.zero_le _, rfl, ho, World.grownBy.refl _ _, HMS, hia⟩
          case round =>
            obtain ⟨j, f', hjk, rfl, ho1, hg1, hmid, hia1⟩ := hrel
            obtain ⟨we, rfl⟩ : ∃ wo : World, wo = wr := ⟨_, rfl⟩
            have SE := hid (SB.out.grown hg1.out (fun k hk => by injection hk with hk; omega))
            have KE := hid (KB.out.grown hg1.out (by intro e; injection e with e; omega))
            have hGe := Nat.lt_of_lt_of_le hGb hg1.out.size
            have hKe := KE.out.lt
            by_cases hltj : j < k
            · obtain ⟨ad, Aj, nj, cj, xs, t, rfl, hb1, hc1, hc2, hx, hsk⟩ := (h'.st SE.out).at_ hltj
              have g2 := hid (grown_alloc hg1.out (.cells #[.slice Aj nj cj, .int .i64 t] 38))
              have o2 := hid (ho1.out.st ((St.refl we).alloc (.cells #[.slice Aj nj cj, .int .i64 t] 38)))
              have S2 := hid (SE.out.alloc (.cells #[.slice Aj nj cj, .int .i64 t] 38))
              have KC := hid (KE.out.alloc (.cells #[.slice Aj nj cj, .int .i64 t] 38))
              have KH := hid (Blk.new we 38 #[.slice Aj nj cj, .int .i64 t])
              have hGf : G < (we.alloc (.cells #[.slice Aj nj cj, .int .i64 t] 38)).heap.size := by simp; omega
              have q1 := KC.out.cell_ (i := 1) (v := .slice (some ad) k d) rfl
              clear hb1 SE KE
              go_wp2_with fail
              clear q1 hc1 hc2
              generalize we.alloc (.cells #[.slice Aj nj cj, .int .i64 t] 38) = wf at g2 o2 S2 KC KH hGf ⊢
              go_loopw [50] (fun i wg => ∃ (q : Nat) (f2 : Nat → Bool), q ≤ k ∧ i = .int .i64 q ∧ Hid (OB wg G (some ⟨G, 0, none⟩) k k (bitsN hs.length f2)) ∧ Hid (wf.grownBy wg (some G)) ∧ Hid (Mid hs f f2 j q hs.length) ∧ Hid (∀ i, IdleAt hs f2 i)) (fun i _ => k - (intOf i).toNat)
              case atStart => exact ⟨0, _, Nat.zero_le _, rfl, o2, World.grownBy.refl _ _, hmid, hia1⟩
              case round =>
                obtain ⟨q, f2, hqk, rfl, ho3, hg3, hmid3, hia3⟩ := hrel
                obtain ⟨wg, rfl⟩ : ∃ wo : World, wo = wr := ⟨_, rfl⟩
                have SG := hid (S2.out.grown hg3.out (fun k hk => by injection hk with hk; omega))
                have KD := hid (KC.out.grown hg3.out (by intro e; injection e with e; omega))
                have KI := hid (KH.out.grown hg3.out (by intro e; injection e with e; omega))
                by_cases hltq : q < k
                · obtain ⟨ad', Aq, nq, cq, ys, t', he, hb1', hc1', hc2', hx', hsk'⟩ := (h'.st SG.out).at_ hltq
                  injection he with he
                  subst he
                  have hnq : nq ≤ 1048576 := by have := HM2.out _ (List.mem_of_getElem? hx'.out); rw [hsk'.len] at this; exact this
                  have g4 := hid (grown_alloc hg3.out (.cells #[.slice Aq nq cq, .int .i64 t'] 38))
                  have o4 := hid (ho3.out.st ((St.refl wg).alloc (.cells #[.slice Aq nq cq, .int .i64 t'] 38)))
                  have KO := hid (Blk.new wg 38 #[.slice Aq nq cq, .int .i64 t'])
                  have sk4 := hsk'.st ((St.refl wg).alloc (.cells #[.slice Aq nq cq, .int .i64 t'] 38))
                  have z0 := KO.out.cell_ (i := 0) (v := .slice Aq nq cq) rfl
                  have z1 := (KI.out.alloc (.cells #[.slice Aq nq cq, .int .i64 t'] 38)).cell_ (i := 1) (v := .int .i64 t) rfl
                  obtain ⟨b, hb2, hb3, hbx, hbc, hbf, hset⟩ := o4.out.at_ hltj
                  obtain ⟨b', _, _, hbx', hbc', hbf', _⟩ := o4.out.at_ hltq
                  obtain rfl : (!f2 j) = b := by have := hbx.out; rw [bitsN_at _ (by rw [HL.out]; exact hltj)] at this; injection this
                  obtain rfl : (!f2 q) = b' := by have := hbx'.out; rw [bitsN_at _ (by rw [HL.out]; exact hltq)] at this; injection this
                  have hji : (0 : Int) ≤ (j : Int) := by omega
                  have hji2 : (j : Int) < (k : Int) := by omega
                  have hqi : (0 : Int) ≤ (q : Int) := by omega
                  have hqi2 : (q : Int) < (k : Int) := by omega
                  clear KD
                  cases hfj : f2 j
                  · rw [hfj] at hbc
                    simp only [Bool.not_false] at hbc
                    cases hfq : f2 q
                    · rw [hfq] at hbc'
                      simp only [Bool.not_false] at hbc'
                      have hm4 := hid (look_yes hmid3.out hx.out hx'.out (.inr (.inl hfq)))
                      clear hfj hfq hset
                      go_wp2_with fail
                      go_roundw
                      case rel => exact ⟨q + 1, f2, by omega, by go_num, o4, g4, hm4, hia3⟩
                      case measure => simp [intOf]; omega
                    · rw [hfq] at hbc'
                      simp only [Bool.not_true] at hbc'
                      cases hh2 : has ys t
                      · have hm4 := hid (look_yes hmid3.out hx.out hx'.out (.inr (.inr hh2)))
                        have HH := hid hh2
                        clear hfj hfq hset hh2
                        go_wp2_with fail
                        refine (hasSet_any _ _ _ _ _ _ _ sk4.ri (by omega)).mono ?_
                        rintro e wz ⟨rfl, rfl⟩
                        rw [HH.out]
                        go_wp2_with fail
                        go_roundw
                        case rel => exact ⟨q + 1, f2, by omega, by go_num, o4, g4, hm4, hia3⟩
                        case measure => simp [intOf]; omega
                      · have hm4 := hid (look_now hmid3.out hx.out hx'.out hfq hh2)
                        have HH := hid hh2
                        have o5 : Hid (OB ((wg.alloc (.cells #[.slice Aq nq cq, .int .i64 t'] 38)).setCell ⟨G, j, none⟩ (.bool false)) G (some ⟨G, 0, none⟩) k k (bitsN hs.length (upd f2 j true))) := by
                          have := (hset false).1.out
                          rw [← bitsN_set]; exact this
                        have g5 := hid (grown_trans' g4.out (hset false).2)
                        have hia5 := hid (idle_upd hia3.out j true (fun _ => rfl))
                        clear hfj hfq hset hh2
                        go_wp2_with fail
                        refine (hasSet_any _ _ _ _ _ _ _ sk4.ri (by omega)).mono ?_
                        rintro e wz ⟨rfl, rfl⟩
                        rw [HH.out]
                        go_wp2_with fail
                        go_roundw
                        case rel => exact ⟨q + 1, _, by omega, by go_num, o5, g5, hm4, hia5⟩
                        case measure => simp [intOf]; omega
                  · rw [hfj] at hbc
                    simp only [Bool.not_true] at hbc
                    have hm4 := hid (look_yes hmid3.out hx.out hx'.out (.inl hfj))
                    clear hfj hset
                    go_wp2_with fail
                    go_roundw
                    case rel => exact ⟨q + 1, f2, by omega, by go_num, o4, g4, hm4, hia3⟩
                    case measure => simp [intOf]; omega
                · obtain rfl : q = k := by omega
                  have hm4 := hid (Mid.next (by have := hmid3.out; rw [← HL.out] at this; exact this))
                  have g4 := hid (grown_trans' g2.out hg3.out)
                  go_wp2_with fail
                  go_roundw
                  case rel => exact ⟨j + 1, f2, by omega, by go_num, ho3, g4, hm4, hia3⟩
                  case measure => simp [intOf]; omega
            · obtain rfl : j = k := by omega
              have hm4 := hid (Mid.end_ hh.out (by have := hmid.out; rw [← HL.out] at this; exact this))
              have g4 := hid (grown_trans' hg.out hg1.out)
              go_wp2_with fail
              go_roundw
              case rel => exact ⟨r + 1, f', by omega, by go_num, ho1, g4, hm4, hia1⟩
              case measure => simp [intOf]; omega
        · obtain rfl : r = k := by omega
          have HD := hid (head_done (by have := hh.out; rw [← HL.out] at this; exact this) (fun i _ => hia.out i))
          have HS := hid (notFree_stuck hh.out.1 HD.out)
          have OL := hid (OI.lit (w := wb) (e := 3))
          have hs2 := (St.refl wb).alloc (.cells #[] 3)
          have ob2 := hid (ho.out.st hs2)
          have SX := hid ((St.refl wb).alloc (.cells #[] 3))
          have hGl : w.heap.size ≤ wb.heap.size := by omega
          clear hs2
          go_wp2_with fail
          clear q1
          generalize hwx : wb.alloc (.cells #[] 3) = wx at OL ob2 SX ⊢
          have hzx : wb.heap.size < wx.heap.size := by rw [← hwx]; simp
          clear hwx
          go_loopw [10, 82] (fun v i wy => ∃ (p nl a : Nat) (X : Option Addr), p ≤ r ∧ i = .int .i64 p ∧ v = .slice X nl a ∧ nl ≤ p ∧ Hid (OI wy wb.heap.size 3 X nl a (notFree f p)) ∧ Hid (St wb wy) ∧ Hid (OB wy G (some ⟨G, 0, none⟩) r r (bitsN hs.length f))) (fun _ i _ => r - (intOf i).toNat)
          case atStart => exact ⟨0, 0, 0, _, Nat.zero_le _, rfl, rfl, Nat.le_refl _, OL, SX.out, ob2⟩
          case round =>
            obtain ⟨p, nl, a, X, hpr, rfl, rfl, hnl, hol, hst, hob⟩ := hrel
            by_cases hltp : p < r
            · obtain ⟨b, _, _, hbx, hbc, _, _⟩ := hob.out.at_ hltp
              obtain rfl : (!f p) = b := by have := hbx.out; rw [bitsN_at _ (by rw [HL.out]; exact hltp)] at this; injection this
              have hpi : (0 : Int) ≤ (p : Int) := by omega
              have hpi2 : (p : Int) < (r : Int) := by omega
              cases hfp : f p
              · rw [hfp] at hbc
                simp only [Bool.not_false] at hbc
                have HN := hid (notFree_no hfp)
                have hob1 := hid (hol.out)
                have hle2 : wb.heap.size ≤ wr.heap.size := hst.out.le
                clear hfp
                go_wp2_with (at_builtin; refine wpList_append_int _ rfl _ _ 22 rfl wb.heap.size 3 Try.underlying22 intInfo _ _ _ _ (p : Int) rfl hol.out rfl (by omega) hle2 ?_; intro X2 a2 w2 ho2 hg2)
                have ho3 : Hid (OI w2 wb.heap.size 3 X2 (nl + 1) a2 (notFree f (p + 1))) := by rw [HN.out]; exact ho2
                have hXb : ∀ g, blockOf X = some g → wb.heap.size ≤ g := fun g hg => (hol.out.lt g hg).1
                have st2 := hid (hst.out.grown hg2 (fun k hk => hXb k hk))
                have ob4 := hid (hob.out.grown hg2 (fun e => by have := hXb G e; omega))
                go_roundw
                case rel => exact ⟨p + 1, nl + 1, _, _, by omega, by go_num, rfl, by omega, ho3, st2, ob4⟩
                case measure => simp [intOf]; omega
              · rw [hfp] at hbc
                simp only [Bool.not_true] at hbc
                have HN := hid (notFree_yes hfp)
                have ho3 : Hid (OI wr wb.heap.size 3 X nl a (notFree f (p + 1))) := by rw [HN.out]; exact hol
                clear hfp
                go_wp2_with fail
                go_roundw
                case rel => exact ⟨p + 1, nl, _, _, by omega, by go_num, rfl, by omega, ho3, hst, hob⟩
                case measure => simp [intOf]; omega
            · obtain rfl : p = r := by omega
              go_wp2_with fail
              go_ret
              have e1 : notFree f p = crStuck fs hs := by have := HS.out; rw [HL.out] at this; rw [HF.out, this]
              have o5 := hol.out
              rw [e1] at o5
              have e2 := o5.len
              refine ⟨X, a, ?_, ?_, SB.out.trans hst.out⟩
              · rw [e2]; rfl
              · rw [e2]; exact o5.less hGl
end Go.Proofs.Ytggjfbakekfdhaa
