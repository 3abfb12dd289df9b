/- The program: asking for a credit. -/
import Derived.Test.YtggjfbakekfdhaaCr14
namespace Go.Proofs.Ytggjfbakekfdhaa
open Go.RowKit
theorem isSender_any (A B : Option Addr) (n c m d : Nat) (s : Int) (w : World) :
    Calls Try.prog 61 #[crV A n c B m d, .int .i64 s] w fun e w' => e = .returned (.bool (inB s 0 ((m : Int) - 1))) ∧ St w w' := by
  have s0 := hid ((St.refl w).alloc (.cells #[.slice A n c, .slice B m d] 25))
  by_cases h0 : 0 ≤ s
  · by_cases h1 : s < (m : Int)
    · go_enter Try.func61, Try.ntmps61
      go_wp2_with fail
      go_ret
      exact ⟨ret_bool (by first | exact (inB_iff.2 (by omega)).symm | exact inB_iff.2 (by omega)), s0.out⟩
    · have hb : inB s 0 ((m : Int) - 1) = false := by
        cases hb : inB s 0 ((m : Int) - 1)
        · rfl
        · have := inB_iff.1 hb; omega
      rw [hb]
      go_enter Try.func61, Try.ntmps61
      go_wp2_with fail
      go_ret
      exact ⟨rfl, s0.out⟩
  · have hb : inB s 0 ((m : Int) - 1) = false := by
      cases hb : inB s 0 ((m : Int) - 1)
      · rfl
      · have := inB_iff.1 hb; omega
    rw [hb]
    go_enter Try.func61, Try.ntmps61
    go_wp2_with fail
    go_ret
    exact ⟨rfl, s0.out⟩
set_option maxRecDepth 100000 in
set_option maxHeartbeats 4000000 in
theorem CreditsAsk_any (A B : Option Addr) (n c m d : Nat) (fs : List Int) (hs : List (List Int × Int)) (s g : Int) (w : World) (h : RdCr w A n c B m d fs hs) (f : FitCr fs hs) :
    Calls Try.prog 38 #[crV A n c B m d, .int .i64 s, .int .i64 g] w (CrEnd (askM fs hs s g) (askB fs hs s g) w) := by
  have hn : n ≤ 1048576 := by have := h.sl.len; have := f.n; omega
  have hm : m ≤ 1048576 := by have := h.sh.len; have := f.m; omega
  have HL := hid h.sh.len
  have HLn := hid h.sl.len
  have F := hid f
  have s0 := ((St.refl w).alloc (.cells #[.slice A n c, .slice B m d] 25)).alloc (.cells #[.slice none 0 0, .slice none 0 0] 25)
  have K0 := hid ((Blk.new w 25 #[.slice A n c, .slice B m d]).alloc (.cells #[.slice none 0 0, .slice none 0 0] 25))
  have L0 := hid (show Blk ((w.alloc (.cells #[.slice A n c, .slice B m d] 25)).alloc (.cells #[.slice none 0 0, .slice none 0 0] 25)) (w.heap.size + 1) 25 #[.slice none 0 0, .slice none 0 0] by
    have := Blk.new (w.alloc (.cells #[.slice A n c, .slice B m d] 25)) 25 #[.slice none 0 0, .slice none 0 0]
    rwa [World.heap_alloc_size'] at this)
  have R0 := hid (h.st s0)
  have S0 := hid s0
  have HD := hid (show askOk fs hs s g = (crValid fs hs && (inB s 0 ((m : Int) - 1) && inB g 0 4)) by unfold askOk; rw [HL.out])
  clear h s0 f
  go_enter Try.func38, Try.ntmps38
  go_wp2_with fail
  generalize (w.alloc (.cells _ 25)).alloc (.cells _ 25) = w0 at *
  have k0 := K0.out.cell_ (i := 0) (v := .slice A n c) rfl
  have k1 := K0.out.cell_ (i := 1) (v := .slice B m d) rfl
  refine (CreditsValid_any _ _ _ _ _ _ _ _ _ R0.out.sl R0.out.sh hn F.out.h2).mono ?_
  rintro e w1 ⟨rfl, s1⟩
  replace K0 := hid (K0.out.st s1)
  replace L0 := hid (L0.out.st s1)
  replace R0 := hid (R0.out.st s1)
  replace k0 := s1.cell k0
  replace k1 := s1.cell k1
  have S1 := hid (S0.out.trans s1)
  clear s1 S0
  cases hv : crValid fs hs
  · have HB := askM_bad (HD.out.trans (by rw [hv]; rfl))
    have frr0 := L0.out.frozen 0
    have frr1 := L0.out.frozen 1
    have qrr0 := L0.out.cell_ (i := 0) (v := .slice none 0 0) rfl
    have qrr1 := L0.out.cell_ (i := 1) (v := .slice none 0 0) rfl
    have Fr := ((L0.out.set_ 0 (.slice none 0 0)).set_ 1 (.slice none 0 0))
    have r0 := Fr.cell_ (i := 0) (v := .slice none 0 0) rfl
    have r1 := Fr.cell_ (i := 1) (v := .slice none 0 0) rfl
    have S2 := hid ((S1.out.setCell (p := ⟨w.heap.size + 1, 0, none⟩) (by first | (simp; done) | omega | (simp; omega)) (.slice none 0 0)).setCell (p := ⟨w.heap.size + 1, 1, none⟩) (by first | (simp; done) | omega | (simp; omega)) (.slice none 0 0))
    clear Fr
    go_wp2_with fail
    refine bodyPost_ret (v := .tuple #[crV none 0 0 none 0 0, .bool false]) (by simp [results, Try.results38, go_sem, r0, r1]) rfl (CrEnd.bad HB.1 HB.2 S2.out)
  go_wp2_with fail
  refine (isSender_any _ _ _ _ _ _ _ _).mono ?_
  rintro e w2 ⟨rfl, s2⟩
  replace K0 := hid (K0.out.st s2)
  replace L0 := hid (L0.out.st s2)
  replace R0 := hid (R0.out.st s2)
  replace k0 := s2.cell k0
  replace k1 := s2.cell k1
  have S1 := hid (S1.out.trans s2)
  clear s2
  cases h1 : inB s 0 ((m : Int) - 1)
  · have HB := askM_bad (HD.out.trans (by rw [hv, h1]; rfl))
    have frr0 := L0.out.frozen 0
    have frr1 := L0.out.frozen 1
    have qrr0 := L0.out.cell_ (i := 0) (v := .slice none 0 0) rfl
    have qrr1 := L0.out.cell_ (i := 1) (v := .slice none 0 0) rfl
    have Fr := ((L0.out.set_ 0 (.slice none 0 0)).set_ 1 (.slice none 0 0))
    have r0 := Fr.cell_ (i := 0) (v := .slice none 0 0) rfl
    have r1 := Fr.cell_ (i := 1) (v := .slice none 0 0) rfl
    have S2 := hid ((S1.out.setCell (p := ⟨w.heap.size + 1, 0, none⟩) (by first | (simp; done) | omega | (simp; omega)) (.slice none 0 0)).setCell (p := ⟨w.heap.size + 1, 1, none⟩) (by first | (simp; done) | omega | (simp; omega)) (.slice none 0 0))
    clear Fr
    go_wp2_with fail
    refine bodyPost_ret (v := .tuple #[crV none 0 0 none 0 0, .bool false]) (by simp [results, Try.results38, go_sem, r0, r1]) rfl (CrEnd.bad HB.1 HB.2 S2.out)
  go_wp2_with fail
  refine (isGroup_any _ _).mono ?_
  rintro e w2 ⟨rfl, rfl⟩
  cases h2 : inB g 0 4
  · have HB := askM_bad (HD.out.trans (by rw [hv, h1, h2]; rfl))
    have frr0 := L0.out.frozen 0
    have frr1 := L0.out.frozen 1
    have qrr0 := L0.out.cell_ (i := 0) (v := .slice none 0 0) rfl
    have qrr1 := L0.out.cell_ (i := 1) (v := .slice none 0 0) rfl
    have Fr := ((L0.out.set_ 0 (.slice none 0 0)).set_ 1 (.slice none 0 0))
    have r0 := Fr.cell_ (i := 0) (v := .slice none 0 0) rfl
    have r1 := Fr.cell_ (i := 1) (v := .slice none 0 0) rfl
    have S2 := hid ((S1.out.setCell (p := ⟨w.heap.size + 1, 0, none⟩) (by first | (simp; done) | omega | (simp; omega)) (.slice none 0 0)).setCell (p := ⟨w.heap.size + 1, 1, none⟩) (by first | (simp; done) | omega | (simp; omega)) (.slice none 0 0))
    clear Fr
    go_wp2_with fail
    refine bodyPost_ret (v := .tuple #[crV none 0 0 none 0 0, .bool false]) (by simp [results, Try.results38, go_sem, r0, r1]) rfl (CrEnd.bad HB.1 HB.2 S2.out)
  have HOK := hid (HD.out.trans (by rw [hv, h1, h2]; rfl : _ = true))
  obtain ⟨v, ⟨k, x, rfl, hk⟩, hg⟩ := askOk_iff.1 HOK.out
  obtain ⟨gn, rfl⟩ : ∃ gn : Nat, g = (gn : Int) := ⟨g.toNat, by omega⟩
  obtain rfl : n = 5 := by have := v.f5; have := HLn.out; omega
  have V := hid v
  have hkm : k < m := by have := (List.getElem?_eq_some_iff.1 hk).1; have := HL.out; omega
  have hki : (0 : Int) ≤ (k : Int) := by omega
  have hki2 : (k : Int) < (m : Int) := by omega
  have hg5 : gn < 5 := by omega
  have hgi : (0 : Int) ≤ (gn : Int) := by omega
  have hgi2 : (gn : Int) < 5 := by omega
  obtain ⟨xs, t⟩ := x
  have HW := hid (v.at_ hk).wait
  have HX := hid hk
  have HBD := hid (show askBad hs (k : Int) (gn : Int) = (decide (0 ≤ t) || has xs (gn : Int)) by unfold askBad; rw [holdAt_of hk])
  clear hv h1 h2 HD v hk
  go_wp2_with fail
  refine (copyCredits_any _ _ _ _ _ _ _ _ _ R0.out F.out).mono ?_
  rintro e w3 ⟨A3, c3, B3, d3, rfl, C, s3⟩
  replace K0 := hid (K0.out.st s3)
  replace L0 := hid (L0.out.st s3)
  replace R0 := hid (R0.out.st s3)
  have S3 := hid (S1.out.trans s3)
  have C3 := hid (C.less S1.out.le)
  have s4 := (St.refl w3).alloc (.cells #[.slice A3 5 c3, .slice B3 m d3] 25)
  have G4 := hid (Blk.new w3 25 #[.slice A3 5 c3, .slice B3 m d3])
  replace K0 := hid (K0.out.st s4)
  replace L0 := hid (L0.out.st s4)
  replace R0 := hid (R0.out.st s4)
  replace C3 := hid (C3.out.st s4)
  have S4 := hid (S3.out.trans s4)

  clear s3 s4 S3 S1 C k0 k1 K0
  have g0 := G4.out.cell_ (i := 0) (v := .slice A3 5 c3) rfl
  have g1 := G4.out.cell_ (i := 1) (v := .slice B3 m d3) rfl
  obtain ⟨b2, Ak, nk, ck, xs', t', rfl, hb1, hb2, hx', d0, d1, hfz, hsl, hputW, hputH⟩ := C3.out.hold hkm
  have hxe : (xs', t') = (xs, t) := by have := hx'.out; rw [HX.out] at this; injection this with this; exact this.symm
  injection hxe with hx1 hx2
  subst hx1 hx2
  have hnk : nk ≤ 1048576 := by have h8 := F.out.h2 _ (List.mem_of_getElem? HX.out); rw [hsl.out.len] at h8; exact h8
  clear hx'
  by_cases ht : t' = -1
  rotate_left
  · have HB := askM_no HOK.out (HBD.out.trans (by rw [decide_eq_true (show 0 ≤ t' by have := HW.out; omega)]; rfl))
    obtain ⟨f1, f2, f3⟩ := cr_fin L0.out C3.out (Nat.le_refl _) S4.out
    have y0 := L0.out.frozen 0
    have y1 := L0.out.frozen 1
    have o0 := L0.out.cell_ (i := 0) (v := .slice none 0 0) rfl
    have o1 := L0.out.cell_ (i := 1) (v := .slice none 0 0) rfl
    have r0 := f1.out.cell_ (i := 0) (v := .slice A3 5 c3) rfl
    have r1 := f1.out.cell_ (i := 1) (v := .slice (some ⟨b2, 0, none⟩) m d3) rfl
    have htb : (t' == -1) = false := by simpa using ht
    have htn : (t' != -1) = true := by simpa using ht
    go_wp2_with fail
    refine bodyPost_ret (v := .tuple #[crV A3 5 c3 (some ⟨b2, 0, none⟩) m d3, .bool false]) (by simp [results, Try.results38, go_sem, r0, r1]) rfl ⟨_, _, _, _, _, _, by rw [HB.2], by rw [HB.1]; exact f2.out, f3.out⟩
  subst ht
  go_wp2_with fail
  generalize w3.alloc (.cells _ 25) = w4 at *
  refine (hasSet_any _ _ _ _ _ _ _ hsl.out.ri (by omega)).mono ?_
  rintro e w5 ⟨rfl, rfl⟩
  cases hh : has xs' (gn : Int)
  rotate_left
  · have HB := askM_no HOK.out (HBD.out.trans (by rw [hh, Bool.or_true]))
    obtain ⟨f1, f2, f3⟩ := cr_fin L0.out C3.out (Nat.le_refl _) S4.out
    have y0 := L0.out.frozen 0
    have y1 := L0.out.frozen 1
    have o0 := L0.out.cell_ (i := 0) (v := .slice none 0 0) rfl
    have o1 := L0.out.cell_ (i := 1) (v := .slice none 0 0) rfl
    have r0 := f1.out.cell_ (i := 0) (v := .slice A3 5 c3) rfl
    have r1 := f1.out.cell_ (i := 1) (v := .slice (some ⟨b2, 0, none⟩) m d3) rfl
    go_wp2_with fail
    refine bodyPost_ret (v := .tuple #[crV A3 5 c3 (some ⟨b2, 0, none⟩) m d3, .bool false]) (by simp [results, Try.results38, go_sem, r0, r1]) rfl ⟨_, _, _, _, _, _, by rw [HB.2], by rw [HB.1]; exact f2.out, f3.out⟩
  have HNB := hid (HBD.out.trans (by rw [decide_eq_false (show ¬ (0 ≤ (-1 : Int)) by omega), hh]; rfl : _ = false))
  clear hh
  obtain ⟨b, y, rfl, hb3, hb4, hy, e1, e2, hset⟩ := C3.out.free (k := gn) hg5
  have hgd := getD_of hy.out
  have hyr := V.out.fr y (List.mem_of_getElem? hy.out)
  have hLb : w.heap.size + 1 ≠ b := fun e => (C3.out.apart L0.out (by decide) (by decide)).1 (by rw [e]; rfl)
  have hGb : w3.heap.size ≠ b := fun e => (C3.out.apart G4.out (by decide) (by decide)).1 (by rw [e]; rfl)
  have hLb2 : w.heap.size + 1 ≠ b2 := fun e => (C3.out.apart L0.out (by decide) (by decide)).2 (by rw [e]; rfl)
  have hGb2 : w3.heap.size ≠ b2 := fun e => (C3.out.apart G4.out (by decide) (by decide)).2 (by rw [e]; rfl)
  by_cases hyp : 0 < y
  · have HB := askM_take HOK.out HNB.out (by rw [Int.toNat_natCast, hgd]; exact hyp)
    have hy0 : (y == 0) = false := by simp; omega
    have q1 : IntKind.i64.wrap (y - 1) = y - 1 := IntWalk.i64_in _ (by omega)
    have C5 := hset (y - 1)
    have S5 := hid (S4.out.setCell (p := ⟨b, gn, none⟩) hb3 (.int .i64 (y - 1)))
    have L5 := hid (L0.out.far (p := ⟨b, gn, none⟩) hLb (.int .i64 (y - 1)))
    have G5 := hid (G4.out.far (p := ⟨b, gn, none⟩) hGb (.int .i64 (y - 1)))
    obtain ⟨b2', Ak', nk', ck', xs'', t'', eb, _, _, hx5, d05, d15, _, hsl5, _, _⟩ := C5.out.hold hkm
    injection eb with eb
    injection eb with eb
    subst eb
    have hxe : (xs'', t'') = (xs', -1) := by have := hx5.out; rw [HX.out] at this; injection this with this; exact this.symm
    injection hxe with hx1 hx2
    subst hx1 hx2
    have hnk5 : nk' ≤ 1048576 := by have h8 := F.out.h2 _ (List.mem_of_getElem? HX.out); rw [hsl5.out.len] at h8; exact h8
    clear hset hputW hputH hfz d0 d1 hsl hx5 hnk
    go_wp2_with fail
    generalize w4.setCell ⟨b, gn, none⟩ (.int .i64 (y - 1)) = w5 at *
    refine (with_any _ _ _ _ _ _ hsl5.out hnk5).mono ?_
    rintro e w6 ⟨X, a, rfl, o6, s6⟩
    have d06 := s6.cell d05
    have C6 := hid (C5.out.st s6)
    have hf6 := C6.out.fz hkm (k * 2)
    obtain ⟨b2', Ak6, nk6, ck6, xs6, t6, eb, _, _, hx6, _, _, _, _, _, hput6⟩ := C6.out.hold hkm
    injection eb with eb
    injection eb with eb
    subst eb
    have hxe : (xs6, t6) = (xs'', -1) := by have := hx6.out; rw [HX.out] at this; injection this with this; exact this.symm
    injection hxe with hx1 hx2
    subst hx1 hx2
    have C7 := hput6 X (insC xs6 gn).length a (insC xs6 gn) (OI.less o6 S5.out.le) (fun q hq hA => by have h7 := (OI.lt o6 q hq).1; have h8 := (C5.out.bA hA).2; omega)
    have S7 := hid ((S5.out.trans s6).setCell (p := ⟨b2, k * 2, none⟩) hb1 (.slice X (insC xs6 gn).length a))
    have L7 := hid ((L5.out.st s6).far (p := ⟨b2, k * 2, none⟩) hLb2 (.slice X (insC xs6 gn).length a))
    have G7 := hid ((G5.out.st s6).far (p := ⟨b2, k * 2, none⟩) hGb2 (.slice X (insC xs6 gn).length a))
    have HE := hid (show askM fs hs (k : Int) (gn : Int) = (fs.set gn (y - 1), hs.set k (insC xs6 gn, -1)) by rw [HB.1, Int.toNat_natCast]; exact takeC_of HX.out hy.out)
    have HE2 := hid HB.2
    clear HB hput6 hx6 s6 o6 d05 e1 e2
    obtain ⟨f1, f2, f3⟩ := cr_fin L7.out C7.out (Nat.le_refl _) S7.out
    have y0 := L7.out.frozen 0
    have y1 := L7.out.frozen 1
    have o0 := L7.out.cell_ (i := 0) (v := .slice none 0 0) rfl
    have o1 := L7.out.cell_ (i := 1) (v := .slice none 0 0) rfl
    have g0' := G7.out.cell_ (i := 0) (v := .slice (some ⟨b, 0, none⟩) 5 c3) rfl
    have g1' := G7.out.cell_ (i := 1) (v := .slice (some ⟨b2, 0, none⟩) m d3) rfl
    have r0 := f1.out.cell_ (i := 0) (v := .slice (some ⟨b, 0, none⟩) 5 c3) rfl
    have r1 := f1.out.cell_ (i := 1) (v := .slice (some ⟨b2, 0, none⟩) m d3) rfl
    go_wp2_with fail
    refine bodyPost_ret (v := .tuple #[crV (some ⟨b, 0, none⟩) 5 c3 (some ⟨b2, 0, none⟩) m d3, .bool true]) (by simp [results, Try.results38, go_sem, r0, r1]) rfl ⟨_, _, _, _, _, _, by rw [HE2.out], by rw [HE.out]; exact f2.out, f3.out⟩
  · obtain rfl : y = 0 := by omega
    have HB := askM_wait HOK.out HNB.out (by rw [Int.toNat_natCast, hgd]; exact hyp)
    have C5 := hputW (gn : Int)
    have S5 := hid (S4.out.setCell (p := ⟨b2, k * 2 + 1, none⟩) hb1 (.int .i64 (gn : Int)))
    have L5 := L0.out.far (p := ⟨b2, k * 2 + 1, none⟩) hLb2 (.int .i64 (gn : Int))
    have G5 := G4.out.far (p := ⟨b2, k * 2 + 1, none⟩) hGb2 (.int .i64 (gn : Int))
    have z := hfz (k * 2 + 1)
    obtain ⟨f1, f2, f3⟩ := cr_fin L5 C5.out (Nat.le_refl _) S5.out
    have y0 := L5.frozen 0
    have y1 := L5.frozen 1
    have o0 := L5.cell_ (i := 0) (v := .slice none 0 0) rfl
    have o1 := L5.cell_ (i := 1) (v := .slice none 0 0) rfl
    have g0' := G5.cell_ (i := 0) (v := .slice (some ⟨b, 0, none⟩) 5 c3) rfl
    have g1' := G5.cell_ (i := 1) (v := .slice (some ⟨b2, 0, none⟩) m d3) rfl
    have r0 := f1.out.cell_ (i := 0) (v := .slice (some ⟨b, 0, none⟩) 5 c3) rfl
    have r1 := f1.out.cell_ (i := 1) (v := .slice (some ⟨b2, 0, none⟩) m d3) rfl
    have HE := hid (show askM fs hs (k : Int) (gn : Int) = (fs, hs.set k (xs', (gn : Int))) by rw [HB.1, Int.toNat_natCast, holdAt_of HX.out])
    have HE2 := hid HB.2
    clear HB hputW hputH hset L5 G5 hfz hLb hGb hLb2 hGb2
    go_wp2_with fail
    refine bodyPost_ret (v := .tuple #[crV (some ⟨b, 0, none⟩) 5 c3 (some ⟨b2, 0, none⟩) m d3, .bool true]) (by simp [results, Try.results38, go_sem, r0, r1]) rfl ⟨_, _, _, _, _, _, by rw [HE2.out], by rw [HE.out]; exact f2.out, f3.out⟩
end Go.Proofs.Ytggjfbakekfdhaa
