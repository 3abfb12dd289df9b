/- The reference: asking for a credit. -/
import Derived.Test.YtggjfbakekfdhaaCr10
namespace Go.Proofs.Ytggjfbakekfdhaa
open Go.RowKit
/-- Credits and a bool that a function returns: new. -/
def CrEnd (r : List Int × List (List Int × Int)) (ok : Bool) (w : World) (e : Ending) (w' : World) : Prop :=
  ∃ A n c B m d, e = .returned (.tuple #[crV A n c B m d, .bool ok]) ∧ CrS w' w.heap.size A n c B m d r.1 r.2 ∧ St w w'
theorem CrEnd.bad {r : List Int × List (List Int × Int)} {ok : Bool} {w W : World} (hr : r = ([], [])) (hok : ok = false) (s : St w W) : CrEnd r ok w (.returned (.tuple #[crV none 0 0 none 0 0, .bool false])) W := by
  subst hr hok
  exact ⟨none, 0, 0, none, 0, 0, rfl, CrS.nil (World.ownsRow_nil _ _ _ _), s⟩
/-- The result's block is written. -/
theorem cr_fin {w W : World} {base n c m d : Nat} {A B : Option Addr} {fs : List Int} {hs : List (List Int × Int)} (L : Blk W (w.heap.size + 1) 25 #[.slice none 0 0, .slice none 0 0]) (C : CrS W base A n c B m d fs hs) (hb : w.heap.size ≤ base) (S : St w W) :
    Hid (Blk ((W.setCell ⟨w.heap.size + 1, 0, none⟩ (.slice A n c)).setCell ⟨w.heap.size + 1, 1, none⟩ (.slice B m d)) (w.heap.size + 1) 25 #[.slice A n c, .slice B m d]) ∧
    Hid (CrS ((W.setCell ⟨w.heap.size + 1, 0, none⟩ (.slice A n c)).setCell ⟨w.heap.size + 1, 1, none⟩ (.slice B m d)) w.heap.size A n c B m d fs hs) ∧ Hid (St w ((W.setCell ⟨w.heap.size + 1, 0, none⟩ (.slice A n c)).setCell ⟨w.heap.size + 1, 1, none⟩ (.slice B m d))) := by
  have L1 := L.set_ 0 (.slice A n c)
  refine ⟨L1.set_ 1 (.slice B m d), ?_, (S.setCell (p := ⟨w.heap.size + 1, 0, none⟩) (show w.heap.size ≤ w.heap.size + 1 by omega) _).setCell (p := ⟨w.heap.size + 1, 1, none⟩) (show w.heap.size ≤ w.heap.size + 1 by omega) _⟩
  exact ((C.blk L (by decide) (by decide) (World.grownBy_set W (w.heap.size + 1) 0 (.slice A n c))).blk L1 (by decide) (by decide) (World.grownBy_set _ (w.heap.size + 1) 1 (.slice B m d))).less hb
theorem askM_bad {fs : List Int} {hs : List (List Int × Int)} {s g : Int} (h : askOk fs hs s g = false) : askM fs hs s g = ([], []) ∧ askB fs hs s g = false := by
  unfold askM askB
  rw [h]
  exact ⟨rfl, rfl⟩
theorem askM_no {fs : List Int} {hs : List (List Int × Int)} {s g : Int} (h : askOk fs hs s g = true) (hb : askBad hs s g = true) : askM fs hs s g = (fs, hs) ∧ askB fs hs s g = false := by
  unfold askM askB askS
  rw [h, hb]
  exact ⟨rfl, rfl⟩
theorem askM_take {fs : List Int} {hs : List (List Int × Int)} {s g : Int} (h : askOk fs hs s g = true) (hb : askBad hs s g = false) (hf : 0 < fs.getD g.toNat 0) : askM fs hs s g = takeC fs hs s.toNat g ∧ askB fs hs s g = true := by
  unfold askM askB askS
  rw [h, hb, if_pos rfl, if_pos hf]
  exact ⟨rfl, rfl⟩
theorem askM_wait {fs : List Int} {hs : List (List Int × Int)} {s g : Int} (h : askOk fs hs s g = true) (hb : askBad hs s g = false) (hf : ¬ 0 < fs.getD g.toNat 0) : askM fs hs s g = (fs, hs.set s.toNat ((holdAt hs s).1, g)) ∧ askB fs hs s g = true := by
  unfold askM askB askS
  rw [h, hb, if_pos rfl, if_neg hf]
  exact ⟨rfl, rfl⟩
set_option maxRecDepth 100000 in
set_option maxHeartbeats 4000000 in
theorem specCreditsAsk_any (A B : Option Addr) (n c m d : Nat) (fs : List Int) (hs : List (List Int × Int)) (s g : Int) (w : World) (h : RdCr w A n c B m d fs hs) (f : FitCr fs hs) :
    Calls Try.prog 39 #[crV A n c B m d, .int .i64 s, .int .i64 g] w (CrEnd (askM fs hs s g) (askB fs hs s g) w) := by
  have hn : n ≤ 1048576 := by have := h.sl.len; have := f.n; omega
  have hm : m ≤ 1048576 := by have := h.sh.len; have := f.m; omega
  have HL := hid h.sh.len
  have HLn := hid h.sl.len
  have F := hid f
  have s0 := ((St.refl w).alloc (.cells #[.slice A n c, .slice B m d] 25)).alloc (.cells #[.slice none 0 0, .slice none 0 0] 25)
  have K0 := hid ((Blk.new w 25 #[.slice A n c, .slice B m d]).alloc (.cells #[.slice none 0 0, .slice none 0 0] 25))
  have L0 := hid (show Blk ((w.alloc (.cells #[.slice A n c, .slice B m d] 25)).alloc (.cells #[.slice none 0 0, .slice none 0 0] 25)) (w.heap.size + 1) 25 #[.slice none 0 0, .slice none 0 0] by
    have := Blk.new (w.alloc (.cells #[.slice A n c, .slice B m d] 25)) 25 #[.slice none 0 0, .slice none 0 0]
    rwa [World.heap_alloc_size'] at this)
  have R0 := hid (h.st s0)
  have S0 := hid s0
  have HD := hid (show askOk fs hs s g = (crValid fs hs && (inB s 0 ((m : Int) - 1) && inB g 0 4)) by unfold askOk; rw [HL.out])
  have hm0 : -9223372036854775808 ≤ (m : Int) - 1 ∧ (m : Int) - 1 ≤ 9223372036854775807 := by omega
  clear h s0 f
  go_enter Try.func39, Try.ntmps39
  go_wp2_with fail
  generalize (w.alloc (.cells _ 25)).alloc (.cells _ 25) = w0 at *
  have k0 := K0.out.cell_ (i := 0) (v := .slice A n c) rfl
  have k1 := K0.out.cell_ (i := 1) (v := .slice B m d) rfl
  refine (specCreditsValid_any _ _ _ _ _ _ _ _ _ R0.out.sl R0.out.sh hn F.out.h2).mono ?_
  rintro e w1 ⟨rfl, s1⟩
  replace K0 := hid (K0.out.st s1)
  replace L0 := hid (L0.out.st s1)
  replace R0 := hid (R0.out.st s1)
  replace k0 := s1.cell k0
  replace k1 := s1.cell k1
  have S1 := hid (S0.out.trans s1)
  clear s1 S0
  cases hv : crValid fs hs
  · have HB := askM_bad (HD.out.trans (by rw [hv]; rfl))
    have frr0 := L0.out.frozen 0
    have frr1 := L0.out.frozen 1
    have qrr0 := L0.out.cell_ (i := 0) (v := .slice none 0 0) rfl
    have qrr1 := L0.out.cell_ (i := 1) (v := .slice none 0 0) rfl
    have Fr := ((L0.out.set_ 0 (.slice none 0 0)).set_ 1 (.slice none 0 0))
    have r0 := Fr.cell_ (i := 0) (v := .slice none 0 0) rfl
    have r1 := Fr.cell_ (i := 1) (v := .slice none 0 0) rfl
    have S2 := hid ((S1.out.setCell (p := ⟨w.heap.size + 1, 0, none⟩) (by first | (simp; done) | omega | (simp; omega)) (.slice none 0 0)).setCell (p := ⟨w.heap.size + 1, 1, none⟩) (by first | (simp; done) | omega | (simp; omega)) (.slice none 0 0))
    clear Fr
    go_wp2_with fail
    refine bodyPost_ret (v := .tuple #[crV none 0 0 none 0 0, .bool false]) (by simp [results, Try.results39, go_sem, r0, r1]) rfl (CrEnd.bad HB.1 HB.2 S2.out)
  go_wp2_with fail
  refine (l6In_any _ _ _ _).mono ?_
  rintro e w2 ⟨rfl, rfl⟩
  cases h1 : inB s 0 ((m : Int) - 1)
  · have HB := askM_bad (HD.out.trans (by rw [hv, h1]; rfl))
    have frr0 := L0.out.frozen 0
    have frr1 := L0.out.frozen 1
    have qrr0 := L0.out.cell_ (i := 0) (v := .slice none 0 0) rfl
    have qrr1 := L0.out.cell_ (i := 1) (v := .slice none 0 0) rfl
    have Fr := ((L0.out.set_ 0 (.slice none 0 0)).set_ 1 (.slice none 0 0))
    have r0 := Fr.cell_ (i := 0) (v := .slice none 0 0) rfl
    have r1 := Fr.cell_ (i := 1) (v := .slice none 0 0) rfl
    have S2 := hid ((S1.out.setCell (p := ⟨w.heap.size + 1, 0, none⟩) (by first | (simp; done) | omega | (simp; omega)) (.slice none 0 0)).setCell (p := ⟨w.heap.size + 1, 1, none⟩) (by first | (simp; done) | omega | (simp; omega)) (.slice none 0 0))
    clear Fr
    go_wp2_with fail
    refine bodyPost_ret (v := .tuple #[crV none 0 0 none 0 0, .bool false]) (by simp [results, Try.results39, go_sem, r0, r1]) rfl (CrEnd.bad HB.1 HB.2 S2.out)
  go_wp2_with fail
  refine (l1Group_any _ _).mono ?_
  rintro e w2 ⟨rfl, rfl⟩
  cases h2 : inB g 0 4
  · have HB := askM_bad (HD.out.trans (by rw [hv, h1, h2]; rfl))
    have frr0 := L0.out.frozen 0
    have frr1 := L0.out.frozen 1
    have qrr0 := L0.out.cell_ (i := 0) (v := .slice none 0 0) rfl
    have qrr1 := L0.out.cell_ (i := 1) (v := .slice none 0 0) rfl
    have Fr := ((L0.out.set_ 0 (.slice none 0 0)).set_ 1 (.slice none 0 0))
    have r0 := Fr.cell_ (i := 0) (v := .slice none 0 0) rfl
    have r1 := Fr.cell_ (i := 1) (v := .slice none 0 0) rfl
    have S2 := hid ((S1.out.setCell (p := ⟨w.heap.size + 1, 0, none⟩) (by first | (simp; done) | omega | (simp; omega)) (.slice none 0 0)).setCell (p := ⟨w.heap.size + 1, 1, none⟩) (by first | (simp; done) | omega | (simp; omega)) (.slice none 0 0))
    clear Fr
    go_wp2_with fail
    refine bodyPost_ret (v := .tuple #[crV none 0 0 none 0 0, .bool false]) (by simp [results, Try.results39, go_sem, r0, r1]) rfl (CrEnd.bad HB.1 HB.2 S2.out)
  have HOK := hid (HD.out.trans (by rw [hv, h1, h2]; rfl : _ = true))
  obtain ⟨v, ⟨k, x, rfl, hk⟩, hg⟩ := askOk_iff.1 HOK.out
  obtain ⟨gn, rfl⟩ : ∃ gn : Nat, g = (gn : Int) := ⟨g.toNat, by omega⟩
  obtain rfl : n = 5 := by have := v.f5; have := HLn.out; omega
  have V := hid v
  have hkm : k < m := by have := (List.getElem?_eq_some_iff.1 hk).1; have := HL.out; omega
  have hki : (0 : Int) ≤ (k : Int) := by omega
  have hki2 : (k : Int) < (m : Int) := by omega
  have hg5 : gn < 5 := by omega
  have hgi : (0 : Int) ≤ (gn : Int) := by omega
  have hgi2 : (gn : Int) < 5 := by omega
  clear hv h1 h2 HD v hm0
  go_wp2_with fail
  refine (l22Copy_any _ _ _ _ _ _ _ _ _ R0.out F.out).mono ?_
  rintro e w3 ⟨A3, c3, B3, d3, rfl, C, s3⟩
  replace K0 := hid (K0.out.st s3)
  replace L0 := hid (L0.out.st s3)
  replace R0 := hid (R0.out.st s3)
  have S3 := hid (S1.out.trans s3)
  have C3 := hid (C.less S1.out.le)
  have s4 := (St.refl w3).alloc (.cells #[.slice A3 5 c3, .slice B3 m d3] 25)
  have G4 := hid (Blk.new w3 25 #[.slice A3 5 c3, .slice B3 m d3])
  replace K0 := hid (K0.out.st s4)
  replace L0 := hid (L0.out.st s4)
  replace R0 := hid (R0.out.st s4)
  replace C3 := hid (C3.out.st s4)
  have S4 := hid (S3.out.trans s4)
  clear s3 s4 S3 S1 C k0 k1
  have k0 := K0.out.cell_ (i := 0) (v := .slice A 5 c) rfl
  have k1 := K0.out.cell_ (i := 1) (v := .slice B m d) rfl
  obtain ⟨ad, Ak, nk, ck, xs, t, rfl, hb1, c0, c1, hx, hsl⟩ := R0.out.sh.at_ hkm
  have hxe : x = (xs, t) := by have := hx.out; rw [hk] at this; injection this
  subst hxe
  have hnk : nk ≤ 1048576 := by have h8 := F.out.h2 _ (List.mem_of_getElem? hk); rw [hsl.len] at h8; exact h8
  have HX := hid hk
  have HBD := hid (show askBad hs (k : Int) (gn : Int) = (decide (0 ≤ t) || has xs (gn : Int)) by unfold askBad; rw [holdAt_of hk])
  have SL4 := hid hsl
  clear hk hsl
  by_cases ht : 0 ≤ t
  · have HB := askM_no HOK.out (HBD.out.trans (by rw [decide_eq_true ht]; rfl))
    obtain ⟨f1, f2, f3⟩ := cr_fin L0.out C3.out (Nat.le_refl _) S4.out
    have y0 := L0.out.frozen 0
    have y1 := L0.out.frozen 1
    have o0 := L0.out.cell_ (i := 0) (v := .slice none 0 0) rfl
    have o1 := L0.out.cell_ (i := 1) (v := .slice none 0 0) rfl
    have g0 := G4.out.cell_ (i := 0) (v := .slice A3 5 c3) rfl
    have g1 := G4.out.cell_ (i := 1) (v := .slice B3 m d3) rfl
    have r0 := f1.out.cell_ (i := 0) (v := .slice A3 5 c3) rfl
    have r1 := f1.out.cell_ (i := 1) (v := .slice B3 m d3) rfl
    go_wp2_with fail
    refine bodyPost_ret (v := .tuple #[crV A3 5 c3 B3 m d3, .bool false]) (by simp [results, Try.results39, go_sem, r0, r1]) rfl ⟨_, _, _, _, _, _, by rw [HB.2], by rw [HB.1]; exact f2.out, f3.out⟩
  go_wp2_with fail
  generalize w3.alloc (.cells _ 25) = w4 at *
  refine (l1Has_any _ _ _ _ _ _ _ SL4.out.ri (by omega)).mono ?_
  rintro e w5 ⟨rfl, rfl⟩
  cases hh : has xs (gn : Int)
  rotate_left
  · have HB := askM_no HOK.out (HBD.out.trans (by rw [hh, Bool.or_true]))
    obtain ⟨f1, f2, f3⟩ := cr_fin L0.out C3.out (Nat.le_refl _) S4.out
    have y0 := L0.out.frozen 0
    have y1 := L0.out.frozen 1
    have o0 := L0.out.cell_ (i := 0) (v := .slice none 0 0) rfl
    have o1 := L0.out.cell_ (i := 1) (v := .slice none 0 0) rfl
    have g0 := G4.out.cell_ (i := 0) (v := .slice A3 5 c3) rfl
    have g1 := G4.out.cell_ (i := 1) (v := .slice B3 m d3) rfl
    have r0 := f1.out.cell_ (i := 0) (v := .slice A3 5 c3) rfl
    have r1 := f1.out.cell_ (i := 1) (v := .slice B3 m d3) rfl
    go_wp2_with fail
    refine bodyPost_ret (v := .tuple #[crV A3 5 c3 B3 m d3, .bool false]) (by simp [results, Try.results39, go_sem, r0, r1]) rfl ⟨_, _, _, _, _, _, by rw [HB.2], by rw [HB.1]; exact f2.out, f3.out⟩
  have HNB := hid (HBD.out.trans (by rw [decide_eq_false (show ¬ (0 ≤ t) by omega), hh]; rfl : _ = false))
  clear hh k0 k1 c0 c1
  have g0 := G4.out.cell_ (i := 0) (v := .slice A3 5 c3) rfl
  have g1 := G4.out.cell_ (i := 1) (v := .slice B3 m d3) rfl
  obtain ⟨b, y, rfl, hb2, hb3, hy, e1, e2, _⟩ := C3.out.free (k := gn) hg5
  have hgd := getD_of hy.out
  by_cases hyp : 0 < y
  · have HB := askM_take HOK.out HNB.out (by rw [Int.toNat_natCast, hgd]; exact hyp)
    go_wp2_with fail
    refine (l22Take_any _ _ _ _ _ _ k gn _ _ _ C3.out S4.out.le hkm hg5 (fun z hz => by have := V.out.fr z hz; omega) F.out.h2).mono ?_
    rintro e w5 ⟨rfl, c5, t5⟩
    have hP : ∀ i, (blockOf (some (⟨b, 0, none⟩ : Addr)) = some i ∨ blockOf B3 = some i) → w.heap.size ≤ i := fun i hi => by
      rcases hi with hi | hi
      · exact (C3.out.bA hi).1
      · exact (C3.out.bB hi).1
    have S5 := Turned.st S4.out t5 hP
    have L5 := L0.out.turned t5 (fun hi => by
      obtain ⟨a1, a2⟩ := C3.out.apart L0.out (by decide) (by decide)
      rcases hi with hi | hi
      · exact a1 hi
      · exact a2 hi)
    obtain ⟨f1, f2, f3⟩ := cr_fin L5 c5 (Nat.le_refl _) S5
    have y0 := L5.frozen 0
    have y1 := L5.frozen 1
    have o0 := L5.cell_ (i := 0) (v := .slice none 0 0) rfl
    have o1 := L5.cell_ (i := 1) (v := .slice none 0 0) rfl
    have r0 := f1.out.cell_ (i := 0) (v := .slice (some ⟨b, 0, none⟩) 5 c3) rfl
    have r1 := f1.out.cell_ (i := 1) (v := .slice B3 m d3) rfl
    have HE := hid (show askM fs hs (k : Int) (gn : Int) = takeC fs hs k gn by rw [HB.1, Int.toNat_natCast])
    have HE2 := hid HB.2
    clear HB c5 t5 S5 hP
    go_wp2_with fail
    refine bodyPost_ret (v := .tuple #[crV (some ⟨b, 0, none⟩) 5 c3 B3 m d3, .bool true]) (by simp [results, Try.results39, go_sem, r0, r1]) rfl ⟨_, _, _, _, _, _, by rw [HE2.out], by rw [HE.out]; exact f2.out, f3.out⟩
  · have HB := askM_wait HOK.out HNB.out (by rw [Int.toNat_natCast, hgd]; exact hyp)
    obtain ⟨b2, Ak', nk', ck', xs', t', rfl, hb4, hb5, hx', d0, d1, hfz, _, hput, _⟩ := C3.out.hold hkm
    have hxe : (xs', t') = (xs, t) := by have := hx'.out; rw [HX.out] at this; injection this with this; exact this.symm
    injection hxe with hx1 hx2
    subst hx1 hx2
    have hne : w.heap.size + 1 ≠ b2 := fun e => (C3.out.apart L0.out (by decide) (by decide)).2 (by rw [e]; rfl)
    have hne2 : w3.heap.size ≠ b2 := fun e => (C3.out.apart G4.out (by decide) (by decide)).2 (by rw [e]; rfl)
    have C5 := hput (gn : Int)
    have S5 := hid (S4.out.setCell (p := ⟨b2, k * 2 + 1, none⟩) hb4 (.int .i64 (gn : Int)))
    have L5 := L0.out.far (p := ⟨b2, k * 2 + 1, none⟩) hne (.int .i64 (gn : Int))
    have G5 := G4.out.far (p := ⟨b2, k * 2 + 1, none⟩) hne2 (.int .i64 (gn : Int))
    have z := hfz (k * 2 + 1)
    obtain ⟨f1, f2, f3⟩ := cr_fin L5 C5.out (Nat.le_refl _) S5.out
    have y0 := L5.frozen 0
    have y1 := L5.frozen 1
    have o0 := L5.cell_ (i := 0) (v := .slice none 0 0) rfl
    have o1 := L5.cell_ (i := 1) (v := .slice none 0 0) rfl
    have g0' := G5.cell_ (i := 0) (v := .slice (some ⟨b, 0, none⟩) 5 c3) rfl
    have g1' := G5.cell_ (i := 1) (v := .slice (some ⟨b2, 0, none⟩) m d3) rfl
    have r0 := f1.out.cell_ (i := 0) (v := .slice (some ⟨b, 0, none⟩) 5 c3) rfl
    have r1 := f1.out.cell_ (i := 1) (v := .slice (some ⟨b2, 0, none⟩) m d3) rfl
    have HE := hid (show askM fs hs (k : Int) (gn : Int) = (fs, hs.set k (xs', (gn : Int))) by rw [HB.1, Int.toNat_natCast, holdAt_of HX.out])
    have HE2 := hid HB.2
    clear HB hput L5 G5 hfz hne hne2
    go_wp2_with fail
    refine bodyPost_ret (v := .tuple #[crV (some ⟨b, 0, none⟩) 5 c3 (some ⟨b2, 0, none⟩) m d3, .bool true]) (by simp [results, Try.results39, go_sem, r0, r1]) rfl ⟨_, _, _, _, _, _, by rw [HE2.out], by rw [HE.out]; exact f2.out, f3.out⟩
end Go.Proofs.Ytggjfbakekfdhaa
