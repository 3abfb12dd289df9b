/- The reference: credits given back. -/
import Derived.Test.YtggjfbakekfdhaaCr11
namespace Go.Proofs.Ytggjfbakekfdhaa
open Go.RowKit
theorem giveM_bad {fs : List Int} {hs : List (List Int × Int)} {s : Int} (h : giveOk fs hs s = false) : giveM fs hs s = ([], []) ∧ giveB fs hs s = false := by
  unfold giveM giveB
  rw [h]
  exact ⟨rfl, rfl⟩
theorem giveM_no {fs : List Int} {hs : List (List Int × Int)} {s : Int} (h : giveOk fs hs s = true) (hb : (giveIdle hs s || giveFull fs hs s) = true) : giveM fs hs s = (fs, hs) ∧ giveB fs hs s = false := by
  unfold giveM giveB giveS
  rw [h, hb]
  exact ⟨rfl, rfl⟩
theorem giveM_yes {fs : List Int} {hs : List (List Int × Int)} {k : Nat} {xs : List Int} {t : Int} (h : giveOk fs hs k = true) (hb : (giveIdle hs k || giveFull fs hs k) = false) (hk : hs[k]? = some (xs, t)) : giveM fs hs k = xs.foldl serve (fs, hs.set k ([], -1)) ∧ giveB fs hs k = true := by
  unfold giveM giveB giveS
  rw [h, hb, holdAt_of hk]
  exact ⟨rfl, rfl⟩
theorem giveFull_of {fs : List Int} {hs : List (List Int × Int)} {k : Nat} {xs : List Int} {t : Int} (hk : hs[k]? = some (xs, t)) : giveFull fs hs k = xs.any fun g => decide (9 ≤ fs.getD g.toNat 0) := by
  unfold giveFull
  rw [holdAt_of hk]
theorem giveIdle_of {hs : List (List Int × Int)} {k : Nat} {xs : List Int} {t : Int} (hk : hs[k]? = some (xs, t)) : giveIdle hs k = (decide (0 ≤ t) || decide (xs.length = 0)) := by
  unfold giveIdle
  rw [holdAt_of hk]
/-- While the first sender that waits is sought. -/
def Seek (fs : List Int) (hs : List (List Int × Int)) (g k : Nat) (fs' : List Int) (hs' : List (List Int × Int)) : Prop :=
  (fs' = fs.set g (fs.getD g 0 + 1) ∧ hs' = hs ∧ ∀ x ∈ hs.take k, x.2 ≠ (g : Int)) ∨ ((fs', hs') = serve (fs, hs) (g : Int) ∧ fs'.getD g 0 ≤ 0)
theorem getD_set_eq {fs : List Int} {g : Nat} {x y : Int} (h : fs[g]? = some x) : (fs.set g y).getD g 0 = y := by
  simp [List.getD_eq_getElem?_getD, List.getElem?_set_self (List.getElem?_eq_some_iff.1 h).1]
theorem take_serve {fs : List Int} {hs : List (List Int × Int)} {k g : Nat} {xs : List Int} {y : Int} (hk : hs[k]? = some (xs, (g : Int))) (hno : ∀ z ∈ hs.take k, z.2 ≠ (g : Int)) (hy : fs[g]? = some y) : takeC (fs.set g (y + 1)) hs k g = serve (fs, hs) (g : Int) := by
  have hw : waitIdx hs (g : Int) = some k := wait_some.2 ⟨_, hk, rfl, hno⟩
  unfold serve takeC
  rw [hw, Int.toNat_natCast, getD_set_eq hy, List.set_set, show y + 1 - 1 = y by omega, set_id hy]
theorem Seek.end_ {fs fs' : List Int} {hs hs' : List (List Int × Int)} {g k : Nat} (h : Seek fs hs g k fs' hs') (hk : hs.length ≤ k) : (fs', hs') = serve (fs, hs) (g : Int) := by
  rcases h with ⟨rfl, rfl, h⟩ | ⟨h, _⟩
  · have hw : waitIdx hs' (g : Int) = none := wait_none.2 (by rwa [List.take_of_length_le hk] at h)
    unfold serve
    rw [hw, Int.toNat_natCast]
  · exact h
theorem Seek.next {fs : List Int} {hs : List (List Int × Int)} {g k : Nat} {x : List Int × Int} (h : ∀ x ∈ hs.take k, x.2 ≠ (g : Int)) (hk : hs[k]? = some x) (hx : x.2 ≠ (g : Int)) : Seek fs hs g (k + 1) (fs.set g (fs.getD g 0 + 1)) hs := by
  refine .inl ⟨rfl, rfl, fun z hz => ?_⟩
  rw [take_snoc hk, List.mem_append, List.mem_singleton] at hz
  rcases hz with hz | rfl
  · exact h z hz
  · exact hx
theorem two_le {b c base : Nat} (h1 : base ≤ b) (h2 : base ≤ c) : ∀ i, (blockOf (some (⟨b, 0, none⟩ : Addr)) = some i ∨ blockOf (some (⟨c, 0, none⟩ : Addr)) = some i) → base ≤ i := by
  rintro i (h | h)
  · injection h with h; exact h ▸ h1
  · injection h with h; exact h ▸ h2
set_option maxRecDepth 100000 in
set_option maxHeartbeats 8000000 in
theorem specCreditsGive_any (A B : Option Addr) (n c m d : Nat) (fs : List Int) (hs : List (List Int × Int)) (s : Int) (w : World) (h : RdCr w A n c B m d fs hs) (f : FitCr fs hs) :
    Calls Try.prog 42 #[crV A n c B m d, .int .i64 s] w (CrEnd (giveM fs hs s) (giveB fs hs s) w) := by
  have hn : n ≤ 1048576 := by have := h.sl.len; have := f.n; omega
  have hm : m ≤ 1048576 := by have := h.sh.len; have := f.m; omega
  have HL := hid h.sh.len
  have HLn := hid h.sl.len
  have F := hid f
  have H0 := hid h
  have s0 := ((St.refl w).alloc (.cells #[.slice A n c, .slice B m d] 25)).alloc (.cells #[.slice none 0 0, .slice none 0 0] 25)
  have K0 := hid ((Blk.new w 25 #[.slice A n c, .slice B m d]).alloc (.cells #[.slice none 0 0, .slice none 0 0] 25))
  have L0 := hid (show Blk ((w.alloc (.cells #[.slice A n c, .slice B m d] 25)).alloc (.cells #[.slice none 0 0, .slice none 0 0] 25)) (w.heap.size + 1) 25 #[.slice none 0 0, .slice none 0 0] by
    have := Blk.new (w.alloc (.cells #[.slice A n c, .slice B m d] 25)) 25 #[.slice none 0 0, .slice none 0 0]
    rwa [World.heap_alloc_size'] at this)
  have S0 := hid s0
  have HD := hid (show giveOk fs hs s = (crValid fs hs && inB s 0 ((m : Int) - 1)) by unfold giveOk; rw [HL.out])
  have hm0 : -9223372036854775808 ≤ (m : Int) - 1 ∧ (m : Int) - 1 ≤ 9223372036854775807 := by omega
  clear h s0 f
  go_enter Try.func42, Try.ntmps42
  go_wp2_with fail
  generalize (w.alloc (.cells _ 25)).alloc (.cells _ 25) = w0 at *
  have k0 := K0.out.cell_ (i := 0) (v := .slice A n c) rfl
  have k1 := K0.out.cell_ (i := 1) (v := .slice B m d) rfl
  refine (specCreditsValid_any _ _ _ _ _ _ _ _ _ (H0.out.st S0.out).sl (H0.out.st S0.out).sh hn F.out.h2).mono ?_
  rintro e w1 ⟨rfl, s1⟩
  replace K0 := hid (K0.out.st s1)
  replace L0 := hid (L0.out.st s1)
  replace k0 := s1.cell k0
  replace k1 := s1.cell k1
  have S1 := hid (S0.out.trans s1)
  clear s1 S0
  cases hv : crValid fs hs
  · have HB := giveM_bad (HD.out.trans (by rw [hv]; rfl))
    have frr0 := L0.out.frozen 0
    have frr1 := L0.out.frozen 1
    have qrr0 := L0.out.cell_ (i := 0) (v := .slice none 0 0) rfl
    have qrr1 := L0.out.cell_ (i := 1) (v := .slice none 0 0) rfl
    have Fr := ((L0.out.set_ 0 (.slice none 0 0)).set_ 1 (.slice none 0 0))
    have r0 := Fr.cell_ (i := 0) (v := .slice none 0 0) rfl
    have r1 := Fr.cell_ (i := 1) (v := .slice none 0 0) rfl
    have S2 := hid ((S1.out.setCell (p := ⟨w.heap.size + 1, 0, none⟩) (by first | (simp; done) | omega | (simp; omega)) (.slice none 0 0)).setCell (p := ⟨w.heap.size + 1, 1, none⟩) (by first | (simp; done) | omega | (simp; omega)) (.slice none 0 0))
    clear Fr
    go_wp2_with fail
    refine bodyPost_ret (v := .tuple #[crV none 0 0 none 0 0, .bool false]) (by simp [results, Try.results42, go_sem, r0, r1]) rfl (CrEnd.bad HB.1 HB.2 S2.out)
  go_wp2_with fail
  refine (l6In_any _ _ _ _).mono ?_
  rintro e w2 ⟨rfl, rfl⟩
  cases h1 : inB s 0 ((m : Int) - 1)
  · have HB := giveM_bad (HD.out.trans (by rw [hv, h1]; rfl))
    have frr0 := L0.out.frozen 0
    have frr1 := L0.out.frozen 1
    have qrr0 := L0.out.cell_ (i := 0) (v := .slice none 0 0) rfl
    have qrr1 := L0.out.cell_ (i := 1) (v := .slice none 0 0) rfl
    have Fr := ((L0.out.set_ 0 (.slice none 0 0)).set_ 1 (.slice none 0 0))
    have r0 := Fr.cell_ (i := 0) (v := .slice none 0 0) rfl
    have r1 := Fr.cell_ (i := 1) (v := .slice none 0 0) rfl
    have S2 := hid ((S1.out.setCell (p := ⟨w.heap.size + 1, 0, none⟩) (by first | (simp; done) | omega | (simp; omega)) (.slice none 0 0)).setCell (p := ⟨w.heap.size + 1, 1, none⟩) (by first | (simp; done) | omega | (simp; omega)) (.slice none 0 0))
    clear Fr
    go_wp2_with fail
    refine bodyPost_ret (v := .tuple #[crV none 0 0 none 0 0, .bool false]) (by simp [results, Try.results42, go_sem, r0, r1]) rfl (CrEnd.bad HB.1 HB.2 S2.out)
  have HOK := hid (HD.out.trans (by rw [hv, h1]; rfl : _ = true))
  obtain ⟨v, k, x, rfl, hk⟩ := giveOk_iff.1 HOK.out
  obtain rfl : n = 5 := by have := v.f5; have := HLn.out; omega
  have V := hid v
  have hkm : k < m := by have := (List.getElem?_eq_some_iff.1 hk).1; have := HL.out; omega
  have hki : (0 : Int) ≤ (k : Int) := by omega
  have hki2 : (k : Int) < (m : Int) := by omega
  clear hv h1 HD v hm0
  go_wp2_with fail
  refine (l22Copy_any _ _ _ _ _ _ _ _ _ (H0.out.st S1.out) F.out).mono ?_
  rintro e w3 ⟨A3, c3, B3, d3, rfl, C, s3⟩
  replace K0 := hid (K0.out.st s3)
  replace L0 := hid (L0.out.st s3)
  have hL3 : w.heap.size + 1 ≠ w3.heap.size := Nat.ne_of_lt L0.out.lt
  have hL4 : w.heap.size ≤ w3.heap.size := by have := L0.out.lt; omega
  have S3 := hid (S1.out.trans s3)
  have C3 := hid (C.less S1.out.le)
  have s4 := (St.refl w3).alloc (.cells #[.slice A3 5 c3, .slice B3 m d3] 25)
  have G4 := hid (Blk.new w3 25 #[.slice A3 5 c3, .slice B3 m d3])
  replace K0 := hid (K0.out.st s4)
  replace L0 := hid (L0.out.st s4)
  replace C3 := hid (C3.out.st s4)
  have S4 := hid (S3.out.trans s4)
  clear s3 s4 S3 S1 C k0 k1
  have k0 := K0.out.cell_ (i := 0) (v := .slice A 5 c) rfl
  have k1 := K0.out.cell_ (i := 1) (v := .slice B m d) rfl
  obtain ⟨ad, Ak, nk, ck, xs, t, rfl, hb1, c0, c1, hx, hsl⟩ := H0.out.sh.at_ hkm
  have c0 := S4.out.cell c0
  have c1 := S4.out.cell c1
  have hxe : x = (xs, t) := by have := hx.out; rw [hk] at this; injection this
  subst hxe
  have hnk : nk ≤ 1048576 := by have h8 := F.out.h2 _ (List.mem_of_getElem? hk); rw [hsl.len] at h8; exact h8
  have HX := hid hk
  have HSL := hid hsl
  have HLX := hid hsl.len
  clear hk hsl hx
  by_cases ht : 0 ≤ t
  · have HB := giveM_no HOK.out (by rw [giveIdle_of HX.out, decide_eq_true ht]; rfl)
    obtain ⟨f1, f2, f3⟩ := cr_fin L0.out C3.out (Nat.le_refl _) S4.out
    have y0 := L0.out.frozen 0
    have y1 := L0.out.frozen 1
    have o0 := L0.out.cell_ (i := 0) (v := .slice none 0 0) rfl
    have o1 := L0.out.cell_ (i := 1) (v := .slice none 0 0) rfl
    have g0 := G4.out.cell_ (i := 0) (v := .slice A3 5 c3) rfl
    have g1 := G4.out.cell_ (i := 1) (v := .slice B3 m d3) rfl
    have r0 := f1.out.cell_ (i := 0) (v := .slice A3 5 c3) rfl
    have r1 := f1.out.cell_ (i := 1) (v := .slice B3 m d3) rfl
    go_wp2_with fail
    refine bodyPost_ret (v := .tuple #[crV A3 5 c3 B3 m d3, .bool false]) (by simp [results, Try.results42, go_sem, r0, r1]) rfl ⟨_, _, _, _, _, _, by rw [HB.2], by rw [HB.1]; exact f2.out, f3.out⟩
  by_cases hn0 : nk = 0
  · have HB := giveM_no HOK.out (by rw [giveIdle_of HX.out, HLX.out, decide_eq_true hn0, Bool.or_true]; rfl)
    have hnb : ((nk : Int) == 0) = true := by simp [hn0]
    obtain ⟨f1, f2, f3⟩ := cr_fin L0.out C3.out (Nat.le_refl _) S4.out
    have y0 := L0.out.frozen 0
    have y1 := L0.out.frozen 1
    have o0 := L0.out.cell_ (i := 0) (v := .slice none 0 0) rfl
    have o1 := L0.out.cell_ (i := 1) (v := .slice none 0 0) rfl
    have g0 := G4.out.cell_ (i := 0) (v := .slice A3 5 c3) rfl
    have g1 := G4.out.cell_ (i := 1) (v := .slice B3 m d3) rfl
    have r0 := f1.out.cell_ (i := 0) (v := .slice A3 5 c3) rfl
    have r1 := f1.out.cell_ (i := 1) (v := .slice B3 m d3) rfl
    go_wp2_with fail
    refine bodyPost_ret (v := .tuple #[crV A3 5 c3 B3 m d3, .bool false]) (by simp [results, Try.results42, go_sem, r0, r1]) rfl ⟨_, _, _, _, _, _, by rw [HB.2], by rw [HB.1]; exact f2.out, f3.out⟩
  have HNI := hid (show giveIdle hs k = false by rw [giveIdle_of HX.out, HLX.out, decide_eq_false ht, decide_eq_false hn0]; rfl)
  have hnb : ((nk : Int) == 0) = false := by simp [hn0]
  go_wp2_with fail
  generalize w3.alloc (.cells _ 25) = w4 at *
  clear k0 k1 c0 c1
  go_loopw [8] (fun i wr => ∃ j : Nat, j ≤ nk ∧ i = .int .i64 (j : Int) ∧ Hid (∀ g ∈ xs.take j, fs.getD g.toNat 0 ≤ 8) ∧ Hid (St w4 wr)) (fun i _ => nk - (intOf i).toNat)
  case atStart => exact ⟨0, Nat.zero_le _, rfl, hid (by simp), hid (St.refl _)⟩
  case round =>
    obtain ⟨wa, rfl⟩ : ∃ wo : World, wo = wr := ⟨_, rfl⟩
    obtain ⟨j, hj, rfl, hno, S⟩ := hrel
    have K5 := hid (K0.out.st S.out)
    have L5 := hid (L0.out.st S.out)
    have G5 := hid (G4.out.st S.out)
    have C5 := hid (C3.out.st S.out)
    have S5 := hid (S4.out.trans S.out)
    have k0 := K5.out.cell_ (i := 0) (v := .slice A 5 c) rfl
    have k1 := K5.out.cell_ (i := 1) (v := .slice (some ad) m d) rfl
    by_cases hlt : j < nk
    · have hji : (j : Int) < (nk : Int) := by omega
      have hj0 : (0 : Int) ≤ (j : Int) := by omega
      obtain ⟨ah, g, rfl, hbh, hgx, hcg⟩ := RI.at_ (k := j) (HSL.out.st S5.out).ri hlt
      have hg4 := (V.out.at_ HX.out).in_ (List.mem_of_getElem? hgx.out)
      obtain ⟨gn, rfl⟩ : ∃ gn : Nat, g = (gn : Int) := ⟨g.toNat, by omega⟩
      obtain ⟨af, y, rfl, hbf, hyx, hcf⟩ := RI.at_ (k := gn) (H0.out.st S5.out).sl.ri (by omega)
      have hgi : (0 : Int) ≤ (gn : Int) := by omega
      have hgi2 : (gn : Int) < 5 := by omega
      by_cases hy9 : 9 ≤ y
      · have HB := giveM_no HOK.out (by
          rw [giveFull_of HX.out, Bool.or_eq_true]
          refine .inr (List.any_eq_true.2 ⟨_, List.mem_of_getElem? hgx.out, ?_⟩)
          rw [Int.toNat_natCast, getD_of hyx.out]
          exact decide_eq_true hy9)
        go_wp2_with fail
        go_quiet (fail)
        have sx := (Dr.st ⟨nq, rfl⟩ : St (wa) (World.drewN (wa) nq))
        generalize World.drewN (wa) nq = wx at sx ⊢
        clear nq
        have L6 := L5.out.st sx
        have G6 := G5.out.st sx
        obtain ⟨f1, f2, f3⟩ := cr_fin L6 (C5.out.st sx) (Nat.le_refl _) (S5.out.trans sx)
        have y0 := L6.frozen 0
        have y1 := L6.frozen 1
        have o0 := L6.cell_ (i := 0) (v := .slice none 0 0) rfl
        have o1 := L6.cell_ (i := 1) (v := .slice none 0 0) rfl
        have g0 := G6.cell_ (i := 0) (v := .slice A3 5 c3) rfl
        have g1 := G6.cell_ (i := 1) (v := .slice B3 m d3) rfl
        have r0 := f1.out.cell_ (i := 0) (v := .slice A3 5 c3) rfl
        have r1 := f1.out.cell_ (i := 1) (v := .slice B3 m d3) rfl
        clear sx L6 G6
        go_wp2_with fail
        (try simp only [Exit.inBlock, Exit.then])
        refine bodyPost_ret (v := .tuple #[crV A3 5 c3 B3 m d3, .bool false]) (by simp [results, Try.results42, go_sem, r0, r1]) rfl ⟨_, _, _, _, _, _, by rw [HB.2], by rw [HB.1]; exact f2.out, f3.out⟩
      · have hno' : Hid (∀ g ∈ xs.take (j + 1), fs.getD g.toNat 0 ≤ 8) := by
          intro g hg
          rw [take_snoc hgx.out, List.mem_append, List.mem_singleton] at hg
          rcases hg with hg | rfl
          · exact hno.out g hg
          · rw [Int.toNat_natCast, getD_of hyx.out]; omega
        go_wp2_with fail
        go_quiet (fail)
        have sx := (Dr.st ⟨nq, rfl⟩ : St (wa) (World.drewN (wa) nq))
        generalize World.drewN (wa) nq = wx at sx ⊢
        clear nq
        have SD := hid (S.out.trans sx)
        clear sx
        go_wp2_with fail
        go_roundw
        case rel => exact ⟨j + 1, by omega, by go_num, hno', SD⟩
        case measure => simp [intOf]; omega
    · obtain rfl : j = nk := by omega
      have hji : ¬ ((j : Int) < (j : Int)) := by omega
      have HNF := hid (show giveFull fs hs k = false by
        rw [giveFull_of HX.out, List.any_eq_false]
        intro g hg
        have := hno.out g (by rw [List.take_of_length_le (by rw [HLX.out]; omega)]; exact hg)
        simp only [decide_eq_true_eq]
        omega)
      have HGM := hid (giveM_yes HOK.out (by rw [HNI.out, HNF.out]; rfl) HX.out)
      obtain ⟨vs0, vs1, vs2⟩ := give_start V.out HX.out HNF.out
      have VS := hid vs0
      have VP := hid vs1
      have VG := hid vs2
      clear hno K5 k0 k1 vs0 vs1 vs2 HNF HNI K0 L0 G4 C3 S4 S
      obtain ⟨b2, Ak', nk', ck', xs', t', rfl, hb4, hb5, hx', d0, d1, hfz, _, _, _⟩ := C5.out.hold hkm
      have sa := (St.refl wa).alloc (.cells #[] 3)
      have C6 := hid (C5.out.st sa)
      have L6 := hid (L5.out.st sa)
      have G6 := hid (G5.out.st sa)
      have S6 := hid (S5.out.trans sa)
      have g1 := G5.out.cell_ (i := 1) (v := .slice (some ⟨b2, 0, none⟩) m d3) rfl
      have g1' := G6.out.cell_ (i := 1) (v := .slice (some ⟨b2, 0, none⟩) m d3) rfl
      have e0 := sa.cell d0
      have e1 := sa.cell d1
      have z0 := C6.out.fz hkm (k * 2)
      have z1 := C6.out.fz hkm (k * 2 + 1)
      have z0' := C5.out.fz hkm (k * 2)
      have z1' := C5.out.fz hkm (k * 2 + 1)
      have hW7 := hid (show ((wa.alloc (.cells #[] 3)).setCell ⟨b2, k * 2, none⟩ (.slice (some ⟨wa.heap.size, 0, none⟩) 0 0)).setCell ⟨b2, k * 2 + 1, none⟩ (.int .i64 (-1)) = ((wa.setCell ⟨b2, k * 2, none⟩ (.slice (some ⟨wa.heap.size, 0, none⟩) 0 0)).setCell ⟨b2, k * 2 + 1, none⟩ (.int .i64 (-1))).alloc (.cells #[] 3) by
        rw [World.setCell_alloc_past _ _ _ _ hb5, World.setCell_alloc_past _ _ _ _ (by simpa [World.setCell] using hb5)])
      have hne : w.heap.size + 1 ≠ b2 := fun e => (C6.out.apart L6.out (by decide) (by decide)).2 (by rw [e]; rfl)
      have hne2 : w3.heap.size ≠ b2 := fun e => (C6.out.apart G6.out (by decide) (by decide)).2 (by rw [e]; rfl)
      have C7 := hid (C6.out.put hkm (-1) ((OI.lit (w := wa) (e := 3)).less (show w.heap.size ≤ wa.heap.size from S5.out.le)) (fun q hq hA => by have h7 := (C5.out.bA hA).2; simp only [blockOf, Option.map_some, Option.some.injEq] at hq; omega))
      have L7 := hid ((L6.out.far (p := ⟨b2, k * 2, none⟩) hne (.slice (some ⟨wa.heap.size, 0, none⟩) 0 0)).far (p := ⟨b2, k * 2 + 1, none⟩) hne (.int .i64 (-1)))
      have G7 := hid ((G6.out.far (p := ⟨b2, k * 2, none⟩) hne2 (.slice (some ⟨wa.heap.size, 0, none⟩) 0 0)).far (p := ⟨b2, k * 2 + 1, none⟩) hne2 (.int .i64 (-1)))
      have S7 := hid ((S6.out.setCell (p := ⟨b2, k * 2, none⟩) hb4 (.slice (some ⟨wa.heap.size, 0, none⟩) 0 0)).setCell (p := ⟨b2, k * 2 + 1, none⟩) hb4 (.int .i64 (-1)))
      clear sa C6 L6 G6 S6 C5 L5 G5 S5 hfz hne hne2
      go_wp2_with fail
      first | rw [← hW7.out] | skip
      clear hW7
      generalize ((wa.alloc (.cells #[] 3)).setCell ⟨b2, k * 2, none⟩ (.slice (some ⟨wa.heap.size, 0, none⟩) 0 0)).setCell ⟨b2, k * 2 + 1, none⟩ (.int .i64 (-1)) = w7 at *
      clear d0 d1 e0 e1 z0 z1 z0' z1' g1 g1'
      go_loopw [9] (fun i wr => ∃ (j2 : Nat) (fs1 : List Int) (hs1 : List (List Int × Int)), j2 ≤ j ∧ i = .int .i64 (j2 : Int) ∧ Hid ((xs.take j2).foldl serve (fs, hs.set k ([], -1)) = (fs1, hs1)) ∧ Hid (Blk wr (w.heap.size + 1) 25 #[.slice none 0 0, .slice none 0 0]) ∧ Hid (Blk wr w3.heap.size 25 #[.slice A3 5 c3, .slice (some ⟨b2, 0, none⟩) m d3]) ∧ Hid (CrS wr w.heap.size A3 5 c3 (some ⟨b2, 0, none⟩) m d3 fs1 hs1) ∧ Hid (St w wr)) (fun i _ => j - (intOf i).toNat)
      case atStart => exact ⟨0, _, _, Nat.zero_le _, rfl, hid rfl, L7, G7, C7, S7⟩
      case round =>
        obtain ⟨wb, rfl⟩ : ∃ wo : World, wo = wr := ⟨_, rfl⟩
        obtain ⟨j2, fs1, hs1, hj2, rfl, HF1, L, G, C, S⟩ := hrel
        clear L7 G7 C7 S7
        by_cases hlt2 : j2 < j
        · have hj2i : (j2 : Int) < (j : Int) := by omega
          have hj20 : (0 : Int) ≤ (j2 : Int) := by omega
          obtain ⟨ah, g, rfl, hbh, hgx, hcg⟩ := RI.at_ (k := j2) HSL.out.ri hlt2
          have hcb := S.out.cell hcg
          obtain ⟨u1, u2, u3, u4⟩ := serve_at VS.out VP.out VG.out hgx.out
          rw [HF1.out] at u1 u2 u3
          obtain ⟨gn, rfl⟩ : ∃ gn : Nat, g = (gn : Int) := ⟨g.toNat, by omega⟩
          have U1 := hid u1
          have V1 := hid u2
          obtain ⟨b, y, rfl, hb6, hb7, hy, e1, e2, hset⟩ := C.out.free (k := gn) (by omega)
          have hgd := getD_of hy.out
          have hy8 : y ≤ 8 := by rw [Int.toNat_natCast, hgd] at u3; exact u3
          have hyr := V1.out.fr y (List.mem_of_getElem? hy.out)
          have hgi : (0 : Int) ≤ (gn : Int) := by omega
          have hgi2 : (gn : Int) < 5 := by omega
          have hg5 : gn < 5 := by omega
          have q1 : IntKind.i64.wrap (y + 1) = y + 1 := IntWalk.i64_in _ (by omega)
          have g0 := G.out.cell_ (i := 0) (v := .slice (some ⟨b, 0, none⟩) 5 c3) rfl
          have d1 : St (wb.setCell ⟨b, gn, none⟩ (.int .i64 (y + 1))) (wb.setCell ⟨b, gn, none⟩ (.int .i64 (y + 1))).drew := Dr.st ⟨1, rfl⟩
          have C8 := hid ((hset (y + 1)).out.st d1)
          have S8 := hid ((S.out.setCell (p := ⟨b, gn, none⟩) hb6 (.int .i64 (y + 1))).trans d1)
          have hnl : w.heap.size + 1 ≠ b := fun e => (C.out.apart L.out (by decide) (by decide)).1 (by rw [e]; rfl)
          have hng : w3.heap.size ≠ b := fun e => (C.out.apart G.out (by decide) (by decide)).1 (by rw [e]; rfl)
          have L8 := hid ((L.out.far (p := ⟨b, gn, none⟩) hnl (.int .i64 (y + 1))).st d1)
          have G8 := hid ((G.out.far (p := ⟨b, gn, none⟩) hng (.int .i64 (y + 1))).st d1)
          have hcb8 := (S.out.setCell (p := ⟨b, gn, none⟩) hb6 (.int .i64 (y + 1))).cell hcg
          clear hset d1 u1 u2 u3
          go_wp2_with fail
          refine wp_region_held_drew (S := (fun w' => w'.cell? ⟨w3.heap.size, 0, none⟩ = some (.slice (some ⟨b, 0, none⟩) 5 c3) ∧ w'.cell? (ah.add j2) = some (.int .i64 (gn : Int)))) (by kernel_rfl) ?_ (fun hH0 => ?_)
          · exact ⟨g0, hcb⟩
          refine wpAnyH_take (i := 0) (oi := ⟨some 73, _, _, _, _, _⟩) (v := ?_) rfl (by kernel_rfl) (by kernel_rfl) (by kernel_rfl) (fun _ _ _ h => h) (Or.inl ⟨by rfl, ?_⟩) (by assumption) ?_
          rotate_left
          · (intro w hSw; (try dsimp only at hSw); go_simp; (try with_reducible rfl))
          (try simp only [Act.put, List.setIfInBounds_toArray, List.set_cons_zero, List.set_cons_succ])
          refine wpAnyH_take (i := 1) (oi := ⟨some 74, _, _, _, _, _⟩) (v := ?_) rfl (by kernel_rfl) (by kernel_rfl) (by kernel_rfl) (fun _ _ _ h => h) (Or.inl ⟨by rfl, ?_⟩) (by assumption) ?_
          rotate_left
          · (intro w hSw; (try dsimp only at hSw); go_simp; (try with_reducible rfl))
          (try simp only [Act.put, List.setIfInBounds_toArray, List.set_cons_zero, List.set_cons_succ])
          refine wpAnyH_take (i := 2) (oi := ⟨some 75, _, _, _, _, _⟩) (v := ?_) rfl (by kernel_rfl) (by kernel_rfl) (by kernel_rfl) (fun _ _ _ h => h) (Or.inl ⟨by rfl, ?_⟩) (by assumption) ?_
          rotate_left
          · (intro w hSw; (try dsimp only at hSw); go_simp; (try with_reducible rfl))
          (try simp only [Act.put, List.setIfInBounds_toArray, List.set_cons_zero, List.set_cons_succ])
          refine wpAnyH_take (i := 3) (oi := ⟨some 76, _, _, _, _, _⟩) (v := ?_) rfl (by kernel_rfl) (by kernel_rfl) (by kernel_rfl) (fun _ _ _ h => h) (Or.inl ⟨by rfl, ?_⟩) (by assumption) ?_
          rotate_left
          · (intro w hSw; (try dsimp only at hSw); go_simp; (try with_reducible rfl))
          (try simp only [Act.put, List.setIfInBounds_toArray, List.set_cons_zero, List.set_cons_succ])
          refine wpAnyH_take (i := 4) (oi := ⟨some 77, _, _, _, _, _⟩) (v := ?_) rfl (by kernel_rfl) (by kernel_rfl) (by kernel_rfl) (fun _ _ _ h => h) (Or.inl ⟨by rfl, ?_⟩) (by assumption) ?_
          rotate_left
          · (intro w hSw; (try dsimp only at hSw); go_simp; (try with_reducible rfl))
          (try simp only [Act.put, List.setIfInBounds_toArray, List.set_cons_zero, List.set_cons_succ])
          refine wpAnyH_take (i := 5) (oi := ⟨some 78, _, _, _, _, _⟩) (v := ?_) rfl (by kernel_rfl) (by kernel_rfl) (by kernel_rfl) (fun _ _ _ h => h) (Or.inl ⟨by rfl, ?_⟩) (by assumption) ?_
          rotate_left
          · (intro w hSw; (try dsimp only at hSw); go_simp; (try with_reducible rfl))
          (try simp only [Act.put, List.setIfInBounds_toArray, List.set_cons_zero, List.set_cons_succ])
          refine wpAnyH_take (i := 6) (oi := ⟨some 79, _, _, _, _, _⟩) (v := ?_) rfl (by kernel_rfl) (by kernel_rfl) (by kernel_rfl) (fun _ _ _ h => h) (Or.inl ⟨by rfl, ?_⟩) (by assumption) ?_
          rotate_left
          · (intro w hSw; (try dsimp only at hSw); go_simp; (try with_reducible rfl))
          (try simp only [Act.put, List.setIfInBounds_toArray, List.set_cons_zero, List.set_cons_succ])
          refine wpAnyH_take (i := 7) (oi := ⟨some 80, _, _, _, _, _⟩) (v := ?_) rfl (by kernel_rfl) (by kernel_rfl) (by kernel_rfl) (fun _ _ _ h => h) (Or.inl ⟨by rfl, ?_⟩) (by assumption) ?_
          rotate_left
          · (intro w hSw; (try dsimp only at hSw); go_simp; (try with_reducible rfl))
          (try simp only [Act.put, List.setIfInBounds_toArray, List.set_cons_zero, List.set_cons_succ])
          refine wpAnyH_take (i := 8) (oi := ⟨some 81, _, _, _, _, _⟩) (v := ?_) rfl (by kernel_rfl) (by kernel_rfl) (by kernel_rfl) (fun _ _ _ h => h) (Or.inl ⟨by rfl, ?_⟩) (by assumption) ?_
          rotate_left
          · (intro w hSw; (try dsimp only at hSw); go_simp; (try with_reducible rfl))
          (try simp only [Act.put, List.setIfInBounds_toArray, List.set_cons_zero, List.set_cons_succ])
          refine wpAnyH_take (i := 9) (oi := ⟨some 82, _, _, _, _, _⟩) (v := ?_) rfl (by kernel_rfl) (by kernel_rfl) (by kernel_rfl) (fun _ _ _ h => h) (Or.inl ⟨by rfl, ?_⟩) (by assumption) ?_
          rotate_left
          · (intro w hSw; (try dsimp only at hSw); go_simp; (try with_reducible rfl))
          (try simp only [Act.put, List.setIfInBounds_toArray, List.set_cons_zero, List.set_cons_succ])
          refine wpAnyH_take (i := 10) (oi := ⟨some 83, _, _, _, _, _⟩) (v := ?_) rfl (by kernel_rfl) (by kernel_rfl) (by kernel_rfl) (fun _ _ _ h => h) (Or.inl ⟨by rfl, ?_⟩) (by assumption) ?_
          rotate_left
          · (intro w hSw; (try dsimp only at hSw); go_simp; (try with_reducible rfl))
          (try simp only [Act.put, List.setIfInBounds_toArray, List.set_cons_zero, List.set_cons_succ])
          refine wpAnyH_take (i := 11) (oi := ⟨some 84, _, _, _, _, _⟩) (v := ?_) rfl (by kernel_rfl) (by kernel_rfl) (by kernel_rfl) (fun _ _ _ h => h) (Or.inl ⟨by rfl, ?_⟩) (by assumption) ?_
          rotate_left
          · (intro w hSw; (try dsimp only at hSw); go_simp; (try with_reducible rfl))
          (try simp only [Act.put, List.setIfInBounds_toArray, List.set_cons_zero, List.set_cons_succ])
          refine wpAnyH_take (i := 12) (oi := ⟨some 85, _, _, _, _, _⟩) (v := ?_) rfl (by kernel_rfl) (by kernel_rfl) (by kernel_rfl) (fun _ _ _ h => h) (Or.inl ⟨by rfl, ?_⟩) (by assumption) ?_
          rotate_left
          · (intro w hSw; (try dsimp only at hSw); go_simp; (try with_reducible rfl))
          (try simp only [Act.put, List.setIfInBounds_toArray, List.set_cons_zero, List.set_cons_succ])
          refine wpAnyH_ready (rs := [13]) (by kernel_rfl) (by simp) ?_
          refine AllReadyH.cons (o := ⟨some 86, _, _, _, _, _⟩) rfl (fun K hK => ?_) AllReadyH.nil
          go_simp
          (first | (refine hK.out _ _ ?_ (fun hH1 => ?_)) | (go_wp2_with fail; refine hK.out _ _ ?_ (fun hH1 => ?_)))
          · exact ⟨g0, hcb⟩
          clear hK K hH0
          (try simp only [Act.put, List.setIfInBounds_toArray, List.set_cons_zero, List.set_cons_succ])
          refine wpAnyH_take (i := 14) (oi := ⟨some 87, _, _, _, _, _⟩) (v := ?_) rfl (by kernel_rfl) (by kernel_rfl) (by kernel_rfl) (fun _ _ _ h => h) (Or.inl ⟨by rfl, ?_⟩) (by assumption) ?_
          rotate_left
          · (intro w hSw; (try dsimp only at hSw); go_simp; (try with_reducible rfl))
          (try simp only [Act.put, List.setIfInBounds_toArray, List.set_cons_zero, List.set_cons_succ])
          refine wpAnyH_take (i := 15) (oi := ⟨some 88, _, _, _, _, _⟩) (v := ?_) rfl (by kernel_rfl) (by kernel_rfl) (by kernel_rfl) (fun _ _ _ h => h) (Or.inl ⟨by rfl, ?_⟩) (by assumption) ?_
          rotate_left
          · (intro w hSw; (try dsimp only at hSw); go_simp; (try with_reducible rfl))
          (try simp only [Act.put, List.setIfInBounds_toArray, List.set_cons_zero, List.set_cons_succ])
          refine wpAnyH_ready (rs := [16]) (by kernel_rfl) (by simp) ?_
          refine AllReadyH.cons (o := ⟨none, _, _, _, _, _⟩) rfl (fun K hK => ?_) AllReadyH.nil
          go_simp
          (first | (refine hK.out _ _ ?_ (fun hH2 => ?_)) | (go_wp2_with fail; refine hK.out _ _ ?_ (fun hH2 => ?_)))
          · exact ⟨G8.out.cell_ (i := 0) (v := .slice (some ⟨b, 0, none⟩) 5 c3) rfl, hcb8⟩
          clear hK K hH1
          (try simp only [Act.put, List.setIfInBounds_toArray, List.set_cons_zero, List.set_cons_succ])
          refine wpAnyH_done (by kernel_rfl) ?_ _
          clear hH2
          go_wp2_with fail
          generalize (wb.setCell ⟨b, gn, none⟩ (.int .i64 (y + 1))).drew = w8 at *
          clear e1 e2 q1 hnl hng hb7 hcb hcb8 g0
          have hyy := hid (show fs1.set gn (y + 1) = fs1.set gn (fs1.getD gn 0 + 1) by rw [hgd])
          go_loopw [10] (fun i wr => ∃ (k3 : Nat) (fs2 : List Int) (hs2 : List (List Int × Int)), k3 ≤ m ∧ i = .int .i64 (k3 : Int) ∧ Hid (Seek fs1 hs1 gn k3 fs2 hs2) ∧ Hid (Blk wr (w.heap.size + 1) 25 #[.slice none 0 0, .slice none 0 0]) ∧ Hid (Blk wr w3.heap.size 25 #[.slice (some ⟨b, 0, none⟩) 5 c3, .slice (some ⟨b2, 0, none⟩) m d3]) ∧ Hid (CrS wr w.heap.size (some ⟨b, 0, none⟩) 5 c3 (some ⟨b2, 0, none⟩) m d3 fs2 hs2) ∧ Hid (St w wr)) (fun i _ => m - (intOf i).toNat)
          case atStart => exact ⟨0, _, _, Nat.zero_le _, rfl, hid (.inl ⟨hyy.out, rfl, by simp⟩), L8, G8, C8, S8⟩
          case round =>
            obtain ⟨wc, rfl⟩ : ∃ wo : World, wo = wr := ⟨_, rfl⟩
            obtain ⟨k3, fs2, hs2, hk3, rfl, HSK, L9, G9, C9, S9⟩ := hrel
            clear L8 G8 C8 S8 L G C S
            have HL1 := hid (show hs1.length = m by
              have h0 := (C9.out).hl
              rcases HSK.out with ⟨_, e, _⟩ | ⟨e, _⟩
              · rw [← e]; exact h0
              · have := (serve_valid V1.out (g := (gn : Int)) (by omega) (by rw [Int.toNat_natCast, hgd]; exact hy8)).2.1
                rw [← e] at this
                rw [← this]; exact h0)
            have g0 := G9.out.cell_ (i := 0) (v := .slice (some ⟨b, 0, none⟩) 5 c3) rfl
            have g1 := G9.out.cell_ (i := 1) (v := .slice (some ⟨b2, 0, none⟩) m d3) rfl
            have hcb := S9.out.cell hcg
            have hk30 : (0 : Int) ≤ (k3 : Int) := by omega
            by_cases hlt3 : k3 < m
            · have hk3i : (k3 : Int) < (m : Int) := by omega
              obtain ⟨b', y2, eb, hb6', hb7', hy2, e1, e2, _⟩ := C9.out.free (k := gn) hg5
              injection eb with eb
              injection eb with eb
              subst eb
              have hgd2 := getD_of hy2.out
              by_cases hy0 : 0 < y2
              · have HNO : Hid (fs2 = fs1.set gn (fs1.getD gn 0 + 1) ∧ hs2 = hs1 ∧ ∀ x ∈ hs1.take k3, x.2 ≠ (gn : Int)) := by
                  rcases HSK.out with h | ⟨_, h⟩
                  · exact h
                  · rw [hgd2] at h; omega
                obtain ⟨rfl, rfl, hno⟩ := HNO.out
                have HNO2 := hid hno
                obtain ⟨b2', Ak3, nk3, ck3, xs3, t3, eb2, hb8, hb9, hx3, f0, f1, hfz, _, _, _⟩ := C9.out.hold hlt3
                injection eb2 with eb2
                injection eb2 with eb2
                subst eb2
                have HY1 := hid hy.out
                go_wp2_with fail
                go_quiet (fail)
                have sx := (Dr.st ⟨nq, rfl⟩ : St (wc) (World.drewN (wc) nq))
                generalize World.drewN (wc) nq = wx at sx ⊢
                clear nq
                have L10 := hid (L9.out.st sx)
                have G10 := hid (G9.out.st sx)
                have C10 := hid (C9.out.st sx)
                have S10 := hid (S9.out.trans sx)
                have f1' := sx.cell f1
                have f1 := f1'
                have g0 := G10.out.cell_ (i := 0) (v := .slice (some ⟨b, 0, none⟩) 5 c3) rfl
                have g1 := G10.out.cell_ (i := 1) (v := .slice (some ⟨b2, 0, none⟩) m d3) rfl
                have hcb := S10.out.cell hcg
                clear sx hno HSK HNO L9 G9 S9 C9 f1'
                cases he : (t3 == (gn : Int))
                · have HQ := hid (Seek.next (fs := fs1) HNO2.out hx3.out (by simpa using he))
                  go_wp2_with fail
                  go_quiet (fail)
                  have sy := (Dr.st ⟨nq, rfl⟩ : St (wx) (World.drewN (wx) nq))
                  generalize World.drewN (wx) nq = wy at sy ⊢
                  clear nq
                  have L11 := hid (L10.out.st sy)
                  have G11 := hid (G10.out.st sy)
                  have C11 := hid (C10.out.st sy)
                  have S11 := hid (S10.out.trans sy)
                  clear sy
                  go_wp2_with fail
                  go_roundw
                  case rel => exact ⟨k3 + 1, _, _, by omega, by go_num, HQ, L11, G11, C11, S11⟩
                  case measure => simp [intOf]; omega
                · obtain rfl : t3 = (gn : Int) := by simpa using he
                  have HTS := hid (take_serve hx3.out HNO2.out HY1.out)
                  go_wp2_with fail
                  go_quiet (fail)
                  have sy := (Dr.st ⟨nq, rfl⟩ : St (wx) (World.drewN (wx) nq))
                  generalize World.drewN (wx) nq = wy at sy ⊢
                  clear nq
                  have L11 := hid (L10.out.st sy)
                  have G11 := hid (G10.out.st sy)
                  have C11 := hid (C10.out.st sy)
                  have S11 := hid (S10.out.trans sy)
                  have hcb := S11.out.cell hcg
                  have g0 := G11.out.cell_ (i := 0) (v := .slice (some ⟨b, 0, none⟩) 5 c3) rfl
                  have g1 := G11.out.cell_ (i := 1) (v := .slice (some ⟨b2, 0, none⟩) m d3) rfl
                  clear sy L10 G10 C10 S10
                  go_wp2_with fail
                  have sd3 : St wy wy.drew := Dr.st ⟨1, rfl⟩
                  have L12 := hid (L11.out.st sd3)
                  have G12 := hid (G11.out.st sd3)
                  have C12 := hid (C11.out.st sd3)
                  have S12 := hid (S11.out.trans sd3)
                  have HFB : Hid (∀ x ∈ fs1.set gn (fs1.getD gn 0 + 1), 0 ≤ x ∧ x ≤ 10) := by
                    intro x hx
                    rcases List.mem_or_eq_of_mem_set hx with h | h
                    · have := V1.out.fr x h; omega
                    · rw [hgd] at h; omega
                  have HLB : Hid (∀ x ∈ hs2, x.1.length ≤ 1048576) := by
                    intro x hx
                    have := (V1.out.ho x hx).len
                    omega
                  have hy0' : y ≤ 0 := by
                    by_cases hyp : 0 < y
                    · exact absurd rfl (V1.out.nowait (g := (gn : Int)) (by omega) (by rw [Int.toNat_natCast, hgd]; exact hyp) _ (List.mem_of_getElem? hx3.out))
                    · omega
                  have hy1 : (takeC (fs1.set gn (fs1.getD gn 0 + 1)) hs2 k3 gn).1.getD gn 0 ≤ 0 := by
                    unfold takeC
                    rw [Int.toNat_natCast, getD_set_eq hy.out, List.set_set, getD_set_eq hy.out, hgd]
                    omega
                  have HQ : Hid (Seek fs1 hs2 gn (k3 + 1) (takeC (fs1.set gn (fs1.getD gn 0 + 1)) hs2 k3 gn).1 (takeC (fs1.set gn (fs1.getD gn 0 + 1)) hs2 k3 gn).2) := by
                    refine .inr ⟨?_, hy1⟩
                    rw [← HTS.out, hgd]
                  clear sd3 L11 G11 C11 S11 hy1
                  refine wp_region_held_drew (S := (fun w' => w'.cell? (ah.add j2) = some (.int .i64 (gn : Int)))) (by kernel_rfl) ?_ (fun hH0 => ?_)
                  · exact hcb
                  refine wpAnyH_take (i := 1) (oi := ⟨some 119, _, _, _, _, _⟩) (v := ?_) rfl (by kernel_rfl) (by kernel_rfl) (by kernel_rfl) (fun _ _ _ h => h) (Or.inl ⟨by rfl, ?_⟩) (by assumption) ?_
                  rotate_left
                  · (intro w hSw; (try dsimp only at hSw); go_simp; (try with_reducible rfl))
                  (try simp only [Act.put, List.setIfInBounds_toArray, List.set_cons_zero, List.set_cons_succ])
                  refine wpAnyH_take (i := 2) (oi := ⟨some 120, _, _, _, _, _⟩) (v := ?_) rfl (by kernel_rfl) (by kernel_rfl) (by kernel_rfl) (fun _ _ _ h => h) (Or.inl ⟨by rfl, ?_⟩) (by assumption) ?_
                  rotate_left
                  · (intro w hSw; (try dsimp only at hSw); go_simp; (try with_reducible rfl))
                  (try simp only [Act.put, List.setIfInBounds_toArray, List.set_cons_zero, List.set_cons_succ])
                  refine wpAnyH_take (i := 3) (oi := ⟨some 121, _, _, _, _, _⟩) (v := ?_) rfl (by kernel_rfl) (by kernel_rfl) (by kernel_rfl) (fun _ _ _ h => h) (Or.inl ⟨by rfl, ?_⟩) (by assumption) ?_
                  rotate_left
                  · (intro w hSw; (try dsimp only at hSw); go_simp; (try with_reducible rfl))
                  (try simp only [Act.put, List.setIfInBounds_toArray, List.set_cons_zero, List.set_cons_succ])
                  refine wpAnyH_take (i := 4) (oi := ⟨some 122, _, _, _, _, _⟩) (v := ?_) rfl (by kernel_rfl) (by kernel_rfl) (by kernel_rfl) (fun _ _ _ h => h) (Or.inl ⟨by rfl, ?_⟩) (by assumption) ?_
                  rotate_left
                  · (intro w hSw; (try dsimp only at hSw); go_simp; (try with_reducible rfl))
                  (try simp only [Act.put, List.setIfInBounds_toArray, List.set_cons_zero, List.set_cons_succ])
                  refine wpAnyH_take (i := 5) (oi := ⟨some 123, _, _, _, _, _⟩) (v := ?_) rfl (by kernel_rfl) (by kernel_rfl) (by kernel_rfl) (fun _ _ _ h => h) (Or.inl ⟨by rfl, ?_⟩) (by assumption) ?_
                  rotate_left
                  · (intro w hSw; (try dsimp only at hSw); go_simp; (try with_reducible rfl))
                  (try simp only [Act.put, List.setIfInBounds_toArray, List.set_cons_zero, List.set_cons_succ])
                  refine wpAnyH_ready (rs := [0]) (by kernel_rfl) (by simp) ?_
                  refine AllReadyH.cons (o := ⟨some 118, _, _, _, _, _⟩) rfl (fun K hK => ?_) AllReadyH.nil
                  go_simp
                  (first | (refine hK.out _ _ ?_ (fun hH1 => ?_)) | (go_wp2_with fail; refine hK.out _ _ ?_ (fun hH1 => ?_)))
                  · exact hcb
                  clear hK K hH0
                  (try simp only [Act.put, List.setIfInBounds_toArray, List.set_cons_zero, List.set_cons_succ])
                  refine wpAnyH_ready (rs := [6]) (by kernel_rfl) (by simp) ?_
                  refine AllReadyH.cons (o := ⟨some 124, _, _, _, _, _⟩) rfl (fun K hK => ?_) AllReadyH.nil
                  go_simp
                  (go_at_call 66; refine (l22Take_any _ _ _ _ _ _ k3 gn _ _ _ C12.out S12.out.le hlt3 hg5 HFB.out HLB.out).mono ?_; rintro e w13 ⟨rfl, c13, t13⟩; have aL := C12.out.apart L12.out (by decide) (by decide); have aG := C12.out.apart G12.out (by decide) (by decide); have L13 := L12.out.turned t13 (fun h => h.elim aL.1 aL.2); have G13 := G12.out.turned t13 (fun h => h.elim aG.1 aG.2); have S13 := t13.st S12.out (two_le hb6 hb8); have y0 := G13.frozen 0; have y1 := G13.frozen 1; have o0 := G13.cell_ (i := 0) (v := .slice (some ⟨b, 0, none⟩) 5 c3) rfl; have o1 := G13.cell_ (i := 1) (v := .slice (some ⟨b2, 0, none⟩) m d3) rfl; have hcb13 := S13.cell hcg; have G14 := G13.set_ 0 (.slice (some ⟨b, 0, none⟩) 5 c3); have G15 := hid (show Blk ((w13.setCell ⟨w3.heap.size, 0, none⟩ (.slice (some ⟨b, 0, none⟩) 5 c3)).setCell ⟨w3.heap.size, 1, none⟩ (.slice (some ⟨b2, 0, none⟩) m d3)) w3.heap.size 25 #[.slice (some ⟨b, 0, none⟩) 5 c3, .slice (some ⟨b2, 0, none⟩) m d3] from G14.set_ 1 (.slice (some ⟨b2, 0, none⟩) m d3)); have C15 := hid ((c13.blk G13 (by decide) (by decide) (World.grownBy_set w13 w3.heap.size 0 (.slice (some ⟨b, 0, none⟩) 5 c3))).blk G14 (by decide) (by decide) (World.grownBy_set _ w3.heap.size 1 (.slice (some ⟨b2, 0, none⟩) m d3))); have L15 := hid ((L13.far (p := ⟨w3.heap.size, 0, none⟩) hL3 (.slice (some ⟨b, 0, none⟩) 5 c3)).far (p := ⟨w3.heap.size, 1, none⟩) hL3 (.slice (some ⟨b2, 0, none⟩) m d3)); have S15 := hid ((S13.setCell (p := ⟨w3.heap.size, 0, none⟩) hL4 (.slice (some ⟨b, 0, none⟩) 5 c3)).setCell (p := ⟨w3.heap.size, 1, none⟩) hL4 (.slice (some ⟨b2, 0, none⟩) m d3)); clear G14 L13 S13 c13 t13 aL aG)
                  (first | (refine hK.out _ _ ?_ (fun hH2 => ?_)) | (go_wp2_with fail; refine hK.out _ _ ?_ (fun hH2 => ?_)))
                  · exact hcb13
                  clear hK K hH1
                  (try simp only [Act.put, List.setIfInBounds_toArray, List.set_cons_zero, List.set_cons_succ])
                  refine wpAnyH_ready (rs := [7]) (by kernel_rfl) (by simp) ?_
                  refine AllReadyH.cons (o := ⟨none, _, _, _, _, _⟩) rfl (fun K hK => ?_) AllReadyH.nil
                  go_simp
                  (first | (refine hK.out _ _ ?_ (fun hH3 => ?_)) | (go_wp2_with fail; refine hK.out _ _ ?_ (fun hH3 => ?_)))
                  · exact S15.out.cell hcg
                  clear hK K hH2
                  (try simp only [Act.put, List.setIfInBounds_toArray, List.set_cons_zero, List.set_cons_succ])
                  refine wpAnyH_done (by kernel_rfl) ?_ _
                  clear hH3
                  go_wp2_with fail
                  go_roundw
                  case rel => exact ⟨k3 + 1, _, _, by omega, by go_num, HQ, L15, G15, C15, S15⟩
                  case measure => simp [intOf]; omega
              · have HE := hid (show (fs2, hs2) = serve (fs1, hs1) (gn : Int) by
                  rcases HSK.out with ⟨h, _, _⟩ | ⟨h, _⟩
                  · exfalso
                    rw [h, getD_set_eq hy.out, hgd] at hgd2
                    omega
                  · exact h)
                have HN := hid (show (xs.take (j2 + 1)).foldl serve (fs, hs.set k ([], -1)) = (fs2, hs2) by rw [U1.out, HE.out])
                go_wp2_with fail
                go_quiet (fail)
                have sx := (Dr.st ⟨nq, rfl⟩ : St (wc) (World.drewN (wc) nq))
                generalize World.drewN (wc) nq = wx at sx ⊢
                clear nq
                have L10 := hid (L9.out.st sx)
                have G10 := hid (G9.out.st sx)
                have C10 := hid (C9.out.st sx)
                have S10 := hid (S9.out.trans sx)
                clear sx
                go_wp2_with fail
                go_roundw
                case rel => exact ⟨j2 + 1, _, _, by omega, by go_num, HN, L10, G10, C10, S10⟩
                case measure => simp [intOf]; omega
            · obtain rfl : k3 = m := by omega
              have hk3i : ¬ ((k3 : Int) < (k3 : Int)) := by omega
              have HE := hid (HSK.out.end_ (by rw [HL1.out]; exact Nat.le_refl _))
              have HN := hid (show (xs.take (j2 + 1)).foldl serve (fs, hs.set k ([], -1)) = (fs2, hs2) by rw [U1.out, HE.out])
              go_wp2_with fail
              go_quiet (fail)
              have sx := (Dr.st ⟨nq, rfl⟩ : St (wc) (World.drewN (wc) nq))
              generalize World.drewN (wc) nq = wx at sx ⊢
              clear nq
              have L10 := hid (L9.out.st sx)
              have G10 := hid (G9.out.st sx)
              have C10 := hid (C9.out.st sx)
              have S10 := hid (S9.out.trans sx)
              clear sx
              go_wp2_with fail
              go_roundw
              case rel => exact ⟨j2 + 1, _, _, by omega, by go_num, HN, L10, G10, C10, S10⟩
              case measure => simp [intOf]; omega
        · obtain rfl : j2 = j := by omega
          have hj2i : ¬ ((j2 : Int) < (j2 : Int)) := by omega
          obtain ⟨f1, f2, f3⟩ := cr_fin L.out C.out (Nat.le_refl _) S.out
          have y0 := L.out.frozen 0
          have y1 := L.out.frozen 1
          have o0 := L.out.cell_ (i := 0) (v := .slice none 0 0) rfl
          have o1 := L.out.cell_ (i := 1) (v := .slice none 0 0) rfl
          have g0 := G.out.cell_ (i := 0) (v := .slice A3 5 c3) rfl
          have g1 := G.out.cell_ (i := 1) (v := .slice (some ⟨b2, 0, none⟩) m d3) rfl
          have r0 := f1.out.cell_ (i := 0) (v := .slice A3 5 c3) rfl
          have r1 := f1.out.cell_ (i := 1) (v := .slice (some ⟨b2, 0, none⟩) m d3) rfl
          have HQ := hid (show giveM fs hs k = (fs1, hs1) by rw [HGM.out.1, ← HF1.out, List.take_of_length_le (by rw [HLX.out]; exact Nat.le_refl _)])
          have HQ2 := hid HGM.out.2
          clear HGM
          go_wp2_with fail
          refine bodyPost_ret (v := .tuple #[crV A3 5 c3 (some ⟨b2, 0, none⟩) m d3, .bool true]) (by simp [results, Try.results42, go_sem, r0, r1]) rfl ⟨_, _, _, _, _, _, by rw [HQ2.out], by rw [HQ.out]; exact f2.out, f3.out⟩
end Go.Proofs.Ytggjfbakekfdhaa
