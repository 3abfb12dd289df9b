/- The reference's CreditsValid. -/
import Derived.Test.YtggjfbakekfdhaaCr4
namespace Go.Proofs.Ytggjfbakekfdhaa
open Go.RowKit
set_option maxHeartbeats 2000000 in
theorem specCreditsValid_any (A B : Option Addr) (n c m d : Nat) (fs : List Int) (hs : List (List Int × Int)) (w : World) (h : SL w A n c fs) (h' : SH w B m d hs) (hn : n ≤ 1048576) (hm2 : ∀ x ∈ hs, x.1.length ≤ 1048576) :
    Calls Try.prog 28 #[crV A n c B m d] w fun e w' => e = .returned (.bool (crValid fs hs)) ∧ St w w' := by
  have HM2 := hid hm2
  clear hm2
  have s0 := (St.refl w).alloc (.cells #[.slice A n c, .slice B m d] 25)
  have h1 := h.st s0
  have h1' := h'.st s0
  have HB := hid (Blk.new w 25 #[.slice A n c, .slice B m d])
  have HLm := hid h'.len
  have hmm := h'.cm
  have hmd := h'.nc
  unfold maxLen at hmm
  cases hf : freeOk fs
  · have HF := hid (show crValid fs hs = false by unfold crValid; rw [hf]; rfl)
    go_enter Try.func28, Try.ntmps28
    go_wp2_with fail
    refine (l22Free_any _ _ _ _ _ _ h1.ri (by omega)).mono ?_
    rintro e w1 ⟨rfl, rfl⟩
    go_wp2_with fail
    go_ret
    exact ⟨ret_bool HF.out.symm, s0⟩
  have hmi : (m : Int) ≤ 9223372036854775807 := by omega
  cases hin6 : inB (m : Int) 1 6
  · have HF := hid (show crValid fs hs = false by unfold crValid; rw [HLm.out, hin6]; simp)
    go_enter Try.func28, Try.ntmps28
    go_wp2_with fail
    refine (l22Free_any _ _ _ _ _ _ h1.ri (by omega)).mono ?_
    rintro e w1 ⟨rfl, rfl⟩
    go_wp2_with fail
    refine (l6In_any _ _ _ _).mono ?_
    rintro e w1 ⟨rfl, rfl⟩
    go_wp2_with fail
    go_ret
    exact ⟨ret_bool HF.out.symm, s0⟩
  obtain ⟨hm1, hm6⟩ := inB_iff.1 hin6
  have hn5 : n = 5 := by simp [freeOk] at hf; have := h.len; omega
  subst hn5
  have HD := hid (show crValid fs hs = hs.all (holdOk fs) by
    unfold crValid
    rw [hf, HLm.out, hin6]; rfl)
  go_enter Try.func28, Try.ntmps28
  go_wp2_with fail
  refine (l22Free_any _ _ _ _ _ _ h1.ri (by omega)).mono ?_
  rintro e w1 ⟨rfl, rfl⟩
  have S0 := hid s0
  clear s0
  go_wp2_with fail
  refine (l6In_any _ _ _ _).mono ?_
  rintro e w1 ⟨rfl, rfl⟩
  go_wp2_with fail
  clear hin6
  go_loopw [3] (fun i wr => ∃ k : Nat, k ≤ m ∧ i = .int .i64 k ∧ Hid ((hs.take k).all (holdOk fs) = true) ∧ Hid (St (w.alloc (.cells #[.slice A 5 c, .slice B m d] 25)) wr)) (fun i _ => m - (intOf i).toNat)
  case atStart => exact ⟨0, Nat.zero_le _, rfl, hid rfl, St.refl _⟩
  case round =>
    obtain ⟨k, hk, rfl, hno, hd⟩ := hrel
    have i1 := h1.st hd.out
    have i1' := h1'.st hd.out
    have kb := HB.out.below hd.out HB.out.lt
    have ks := hid (S0.out.trans hd.out)
    have q0 := kb.cell_ (i := 0) (v := .slice A 5 c) rfl
    have q1 := kb.cell_ (i := 1) (v := .slice B m d) rfl
    by_cases hlt : k < m
    · obtain ⟨ad, Ak, nk, ck, xs, t, rfl, hb1, hc1, hc2, hx, hsk⟩ := i1'.at_ hlt
      have hnk : nk ≤ 1048576 := by have := HM2.out _ (List.mem_of_getElem? hx.out); rw [hsk.len] at this; exact this
      have hstep := hid (holds_take hx.out hno.out)
      have hlk := hid hsk.len
      have hki : (k : Int) < (m : Int) := by omega
      have SA := hid ((St.refl wr).alloc (.cells #[.slice Ak nk ck, .int .i64 t] 38))
      have HK := hid (Blk.new wr 38 #[.slice Ak nk ck, .int .i64 t])
      have Z0 := hid (HK.out.cell_ (i := 0) (v := .slice Ak nk ck) rfl)
      have Z1 := hid (HK.out.cell_ (i := 1) (v := .int .i64 t) rfl)
      have hz := (kb.alloc (.cells #[.slice Ak nk ck, .int .i64 t] 38)).cell_ (i := 0) (v := .slice A 5 c) rfl
      have Z2 := hid hz
      by_cases hn0 : nk = 0
      · have HE := hid (show (decide (xs.length = 0) || gset xs) = true by rw [hlk.out, hn0]; rfl)
        have hn0i : ¬ (0 : Int) < (nk : Int) := by omega
        clear hn0
        cases hin : inB t (-1) 4
        · have hw : waitOk fs (xs, t) = false := by have h1 : (t == -1) = false := by simp [inB] at hin; simp; omega
                                                    have h2 : inB t 0 4 = false := by simp [inB] at hin ⊢; omega
                                                    unfold waitOk; rw [h1, h2]; rfl
          have hbad := hid (holds_bad hx.out (by unfold holdOk; rw [hw, Bool.and_false] : holdOk fs (xs, t) = false))
          clear hw
          go_wp2_with fail
          refine (l6In_any _ _ _ _).mono ?_
          rintro e wz ⟨rfl, rfl⟩
          go_wp2_with fail
          go_ret
          exact ⟨ret_bool hbad.out.symm, ks.out.trans SA.out⟩
        by_cases ht0 : 0 ≤ t
        · obtain ⟨htl, ht4⟩ := inB_iff.1 hin
          obtain ⟨j, rfl⟩ := Int.eq_ofNat_of_zero_le ht0
          have ht1 : ((j : Int) == -1) = false := by simp
          have hi0 : inB (j : Int) 0 4 = true := inB_iff.2 ⟨by omega, by omega⟩
          have HT1 := hid ht1
          have HI0 := hid hi0
          clear ht1 hi0
          obtain ⟨af, x, rfl, hbf, hxf, hcf⟩ := RI.at_ (k := j) i1.ri (by omega)
          have hfx : fs.getD ((j : Int)).toNat 0 = x := by rw [Int.toNat_natCast, List.getD_eq_getElem?_getD, hxf.out]; rfl
          have HFX := hid hfx
          clear hfx
          have hge : decide ((0 : Int) ≤ (j : Int)) = true := by simp
          by_cases hx0 : 0 < x
          · have hw : waitOk fs (xs, (j : Int)) = false := by unfold waitOk; rw [HT1.out, HI0.out, HFX.out, decide_eq_false (by omega)]; rfl
            have hbad := hid (holds_bad hx.out (by unfold holdOk; rw [hw, Bool.and_false] : holdOk fs (xs, (j : Int)) = false))
            clear hw
            go_wp2_with fail
            refine (l6In_any _ _ _ _).mono ?_
            rintro e wz ⟨rfl, rfl⟩
            have vf := SA.out.cell hcf
            go_wp2_with fail
            go_ret
            exact ⟨ret_bool hbad.out.symm, ks.out.trans SA.out⟩
          cases hh : has xs (j : Int)
          · have hw : waitOk fs (xs, (j : Int)) = true := by unfold waitOk; rw [HT1.out, HI0.out, HFX.out, decide_eq_true (by omega), hh]; rfl
            have hok := hid (hstep.out.trans (by unfold holdOk; rw [hw, HE.out]; rfl : holdOk fs (xs, (j : Int)) = true))
            clear hw
            go_wp2_with fail
            refine (l6In_any _ _ _ _).mono ?_
            rintro e wz ⟨rfl, rfl⟩
            have vf := SA.out.cell hcf
            go_wp2_with fail
            refine (l1Has_any _ _ _ _ _ _ _ ((hsk.st SA.out).ri) (by omega)).mono ?_
            rintro e wz ⟨rfl, rfl⟩
            go_wp2_with fail
            go_roundw
            case rel => exact ⟨k + 1, by omega, by go_num, hok, hd.out.trans SA.out⟩
            case measure => simp [intOf]; omega
          · have hw : waitOk fs (xs, (j : Int)) = false := by unfold waitOk; rw [HT1.out, HI0.out, HFX.out, decide_eq_true (by omega), hh]; rfl
            have hbad := hid (holds_bad hx.out (by unfold holdOk; rw [hw, Bool.and_false] : holdOk fs (xs, (j : Int)) = false))
            clear hw
            go_wp2_with fail
            refine (l6In_any _ _ _ _).mono ?_
            rintro e wz ⟨rfl, rfl⟩
            have vf := SA.out.cell hcf
            go_wp2_with fail
            refine (l1Has_any _ _ _ _ _ _ _ ((hsk.st SA.out).ri) (by omega)).mono ?_
            rintro e wz ⟨rfl, rfl⟩
            go_wp2_with fail
            go_ret
            exact ⟨ret_bool hbad.out.symm, ks.out.trans SA.out⟩
        · obtain rfl : t = -1 := by have := inB_iff.1 hin; omega
          have hw : waitOk fs (xs, -1) = true := by unfold waitOk; rfl
          have hok := hid (hstep.out.trans (by unfold holdOk; rw [hw, HE.out]; rfl : holdOk fs (xs, -1) = true))
          clear hw
          go_wp2_with fail
          refine (l6In_any _ _ _ _).mono ?_
          rintro e wz ⟨rfl, rfl⟩
          go_wp2_with fail
          go_roundw
          case rel => exact ⟨k + 1, by omega, by go_num, hok, hd.out.trans SA.out⟩
          case measure => simp [intOf]; omega
      · have hn0i : (0 : Int) < (nk : Int) := by omega
        cases hg : gset xs
        · have hbad := hid (holds_bad hx.out (by unfold holdOk; rw [hlk.out, hg, decide_eq_false hn0]; rfl : holdOk fs (xs, t) = false))
          clear hn0
          go_wp2_with fail
          refine (specGroupsValid_any _ _ _ _ _ _ ((hsk.st SA.out).ri) (by omega)).mono ?_
          rintro e wg ⟨rfl, dg⟩
          go_wp2_with fail
          go_ret
          exact ⟨ret_bool hbad.out.symm, ks.out.trans (SA.out.dr dg)⟩
        · have HE := hid (show (decide (xs.length = 0) || gset xs) = true by rw [hg]; simp)
          clear hn0
          cases hin : inB t (-1) 4
          · have hw : waitOk fs (xs, t) = false := by have h1 : (t == -1) = false := by simp [inB] at hin; simp; omega
                                                      have h2 : inB t 0 4 = false := by simp [inB] at hin ⊢; omega
                                                      unfold waitOk; rw [h1, h2]; rfl
            have hbad := hid (holds_bad hx.out (by unfold holdOk; rw [hw, Bool.and_false] : holdOk fs (xs, t) = false))
            clear hw
            go_wp2_with fail
            refine (specGroupsValid_any _ _ _ _ _ _ ((hsk.st SA.out).ri) (by omega)).mono ?_
            rintro e wg ⟨rfl, dg⟩
            have z0 := (dg.cell _).trans Z0.out
            have z1 := (dg.cell _).trans Z1.out
            have z2 := (dg.cell _).trans Z2.out
            have sg := SA.out.dr dg
            go_wp2_with fail
            refine (l6In_any _ _ _ _).mono ?_
            rintro e wz ⟨rfl, rfl⟩
            go_wp2_with fail
            go_ret
            exact ⟨ret_bool hbad.out.symm, ks.out.trans sg⟩
          by_cases ht0 : 0 ≤ t
          · obtain ⟨htl, ht4⟩ := inB_iff.1 hin
            obtain ⟨j, rfl⟩ := Int.eq_ofNat_of_zero_le ht0
            have ht1 : ((j : Int) == -1) = false := by simp
            have hi0 : inB (j : Int) 0 4 = true := inB_iff.2 ⟨by omega, by omega⟩
            have HT1 := hid ht1
            have HI0 := hid hi0
            clear ht1 hi0
            obtain ⟨af, x, rfl, hbf, hxf, hcf⟩ := RI.at_ (k := j) i1.ri (by omega)
            have hfx : fs.getD ((j : Int)).toNat 0 = x := by rw [Int.toNat_natCast, List.getD_eq_getElem?_getD, hxf.out]; rfl
            have HFX := hid hfx
            clear hfx
            have hge : decide ((0 : Int) ≤ (j : Int)) = true := by simp
            by_cases hx0 : 0 < x
            · have hw : waitOk fs (xs, (j : Int)) = false := by unfold waitOk; rw [HT1.out, HI0.out, HFX.out, decide_eq_false (by omega)]; rfl
              have hbad := hid (holds_bad hx.out (by unfold holdOk; rw [hw, Bool.and_false] : holdOk fs (xs, (j : Int)) = false))
              clear hw
              go_wp2_with fail
              refine (specGroupsValid_any _ _ _ _ _ _ ((hsk.st SA.out).ri) (by omega)).mono ?_
              rintro e wg ⟨rfl, dg⟩
              have z0 := (dg.cell _).trans Z0.out
              have z1 := (dg.cell _).trans Z1.out
              have z2 := (dg.cell _).trans Z2.out
              have sg := SA.out.dr dg
              go_wp2_with fail
              refine (l6In_any _ _ _ _).mono ?_
              rintro e wz ⟨rfl, rfl⟩
              have vf := sg.cell hcf
              go_wp2_with fail
              go_ret
              exact ⟨ret_bool hbad.out.symm, ks.out.trans sg⟩
            cases hh : has xs (j : Int)
            · have hw : waitOk fs (xs, (j : Int)) = true := by unfold waitOk; rw [HT1.out, HI0.out, HFX.out, decide_eq_true (by omega), hh]; rfl
              have hok := hid (hstep.out.trans (by unfold holdOk; rw [hw, HE.out]; rfl : holdOk fs (xs, (j : Int)) = true))
              clear hw
              go_wp2_with fail
              refine (specGroupsValid_any _ _ _ _ _ _ ((hsk.st SA.out).ri) (by omega)).mono ?_
              rintro e wg ⟨rfl, dg⟩
              have z0 := (dg.cell _).trans Z0.out
              have z1 := (dg.cell _).trans Z1.out
              have z2 := (dg.cell _).trans Z2.out
              have sg := SA.out.dr dg
              go_wp2_with fail
              refine (l6In_any _ _ _ _).mono ?_
              rintro e wz ⟨rfl, rfl⟩
              have vf := sg.cell hcf
              go_wp2_with fail
              refine (l1Has_any _ _ _ _ _ _ _ ((hsk.st sg).ri) (by omega)).mono ?_
              rintro e wz ⟨rfl, rfl⟩
              go_wp2_with fail
              go_roundw
              case rel => exact ⟨k + 1, by omega, by go_num, hok, hd.out.trans sg⟩
              case measure => simp [intOf]; omega
            · have hw : waitOk fs (xs, (j : Int)) = false := by unfold waitOk; rw [HT1.out, HI0.out, HFX.out, decide_eq_true (by omega), hh]; rfl
              have hbad := hid (holds_bad hx.out (by unfold holdOk; rw [hw, Bool.and_false] : holdOk fs (xs, (j : Int)) = false))
              clear hw
              go_wp2_with fail
              refine (specGroupsValid_any _ _ _ _ _ _ ((hsk.st SA.out).ri) (by omega)).mono ?_
              rintro e wg ⟨rfl, dg⟩
              have z0 := (dg.cell _).trans Z0.out
              have z1 := (dg.cell _).trans Z1.out
              have z2 := (dg.cell _).trans Z2.out
              have sg := SA.out.dr dg
              go_wp2_with fail
              refine (l6In_any _ _ _ _).mono ?_
              rintro e wz ⟨rfl, rfl⟩
              have vf := sg.cell hcf
              go_wp2_with fail
              refine (l1Has_any _ _ _ _ _ _ _ ((hsk.st sg).ri) (by omega)).mono ?_
              rintro e wz ⟨rfl, rfl⟩
              go_wp2_with fail
              go_ret
              exact ⟨ret_bool hbad.out.symm, ks.out.trans sg⟩
          · obtain rfl : t = -1 := by have := inB_iff.1 hin; omega
            have hw : waitOk fs (xs, -1) = true := by unfold waitOk; rfl
            have hok := hid (hstep.out.trans (by unfold holdOk; rw [hw, HE.out]; rfl : holdOk fs (xs, -1) = true))
            clear hw
            go_wp2_with fail
            refine (specGroupsValid_any _ _ _ _ _ _ ((hsk.st SA.out).ri) (by omega)).mono ?_
            rintro e wg ⟨rfl, dg⟩
            have z0 := (dg.cell _).trans Z0.out
            have z1 := (dg.cell _).trans Z1.out
            have z2 := (dg.cell _).trans Z2.out
            have sg := SA.out.dr dg
            go_wp2_with fail
            refine (l6In_any _ _ _ _).mono ?_
            rintro e wz ⟨rfl, rfl⟩
            go_wp2_with fail
            go_roundw
            case rel => exact ⟨k + 1, by omega, by go_num, hok, hd.out.trans sg⟩
            case measure => simp [intOf]; omega
    · obtain rfl : k = m := by omega
      have hki : ¬ (k : Int) < (k : Int) := by omega
      have hfin : Hid (crValid fs hs = true) := by
        have h2 := hno.out
        rw [List.take_of_length_le (by rw [HLm.out]; omega)] at h2
        exact HD.out.trans h2
      go_wp2_with fail
      go_ret
      exact ⟨ret_bool hfin.out.symm, ks.out⟩
end Go.Proofs.Ytggjfbakekfdhaa
