/- The program: giving credits back. -/
import Derived.Test.YtggjfbakekfdhaaCr15
namespace Go.Proofs.Ytggjfbakekfdhaa
open Go.RowKit
theorem serve_none {fs : List Int} {hs : List (List Int × Int)} {g : Int} (h : waitIdx hs g = none) : serve (fs, hs) g = (fs.set g.toNat (fs.getD g.toNat 0 + 1), hs) := by unfold serve; rw [h]
theorem serve_some {fs : List Int} {hs : List (List Int × Int)} {g : Int} {k : Nat} {x : List Int × Int} (h : waitIdx hs g = some k) (hk : hs[k]? = some x) : serve (fs, hs) g = (fs, hs.set k (insC x.1 g, -1)) := by
  unfold serve; rw [h]; simp only; rw [holdAt_of hk]
set_option maxRecDepth 100000 in
set_option maxHeartbeats 8000000 in
theorem CreditsGive_any (A B : Option Addr) (n c m d : Nat) (fs : List Int) (hs : List (List Int × Int)) (s : Int) (w : World) (h : RdCr w A n c B m d fs hs) (f : FitCr fs hs) :
    Calls Try.prog 41 #[crV A n c B m d, .int .i64 s] w (CrEnd (giveM fs hs s) (giveB fs hs s) w) := by
  have hn : n ≤ 1048576 := by have := h.sl.len; have := f.n; omega
  have hm : m ≤ 1048576 := by have := h.sh.len; have := f.m; omega
  have HL := hid h.sh.len
  have HLn := hid h.sl.len
  have F := hid f
  have H0 := hid h
  have s0 := ((St.refl w).alloc (.cells #[.slice A n c, .slice B m d] 25)).alloc (.cells #[.slice none 0 0, .slice none 0 0] 25)
  have K0 := hid ((Blk.new w 25 #[.slice A n c, .slice B m d]).alloc (.cells #[.slice none 0 0, .slice none 0 0] 25))
  have L0 := hid (show Blk ((w.alloc (.cells #[.slice A n c, .slice B m d] 25)).alloc (.cells #[.slice none 0 0, .slice none 0 0] 25)) (w.heap.size + 1) 25 #[.slice none 0 0, .slice none 0 0] by
    have := Blk.new (w.alloc (.cells #[.slice A n c, .slice B m d] 25)) 25 #[.slice none 0 0, .slice none 0 0]
    rwa [World.heap_alloc_size'] at this)
  have S0 := hid s0
  have HD := hid (show giveOk fs hs s = (crValid fs hs && inB s 0 ((m : Int) - 1)) by unfold giveOk; rw [HL.out])
  clear h s0 f
  go_enter Try.func41, Try.ntmps41
  go_wp2_with fail
  generalize (w.alloc (.cells _ 25)).alloc (.cells _ 25) = w0 at *
  have k0 := K0.out.cell_ (i := 0) (v := .slice A n c) rfl
  have k1 := K0.out.cell_ (i := 1) (v := .slice B m d) rfl
  refine (CreditsValid_any _ _ _ _ _ _ _ _ _ (H0.out.st S0.out).sl (H0.out.st S0.out).sh hn F.out.h2).mono ?_
  rintro e w1 ⟨rfl, s1⟩
  replace K0 := hid (K0.out.st s1)
  replace L0 := hid (L0.out.st s1)
  replace k0 := s1.cell k0
  replace k1 := s1.cell k1
  have S1 := hid (S0.out.trans s1)
  clear s1 S0
  cases hv : crValid fs hs
  · have HB := giveM_bad (HD.out.trans (by rw [hv]; rfl))
    have frr0 := L0.out.frozen 0
    have frr1 := L0.out.frozen 1
    have qrr0 := L0.out.cell_ (i := 0) (v := .slice none 0 0) rfl
    have qrr1 := L0.out.cell_ (i := 1) (v := .slice none 0 0) rfl
    have Fr := ((L0.out.set_ 0 (.slice none 0 0)).set_ 1 (.slice none 0 0))
    have r0 := Fr.cell_ (i := 0) (v := .slice none 0 0) rfl
    have r1 := Fr.cell_ (i := 1) (v := .slice none 0 0) rfl
    have S2 := hid ((S1.out.setCell (p := ⟨w.heap.size + 1, 0, none⟩) (by first | (simp; done) | omega | (simp; omega)) (.slice none 0 0)).setCell (p := ⟨w.heap.size + 1, 1, none⟩) (by first | (simp; done) | omega | (simp; omega)) (.slice none 0 0))
    clear Fr
    go_wp2_with fail
    refine bodyPost_ret (v := .tuple #[crV none 0 0 none 0 0, .bool false]) (by simp [results, Try.results41, go_sem, r0, r1]) rfl (CrEnd.bad HB.1 HB.2 S2.out)
  go_wp2_with fail
  refine (isSender_any _ _ _ _ _ _ _ _).mono ?_
  rintro e w2 ⟨rfl, s2⟩
  replace K0 := hid (K0.out.st s2)
  replace L0 := hid (L0.out.st s2)
  replace k0 := s2.cell k0
  replace k1 := s2.cell k1
  have S1 := hid (S1.out.trans s2)
  clear s2
  cases h1 : inB s 0 ((m : Int) - 1)
  · have HB := giveM_bad (HD.out.trans (by rw [hv, h1]; rfl))
    have frr0 := L0.out.frozen 0
    have frr1 := L0.out.frozen 1
    have qrr0 := L0.out.cell_ (i := 0) (v := .slice none 0 0) rfl
    have qrr1 := L0.out.cell_ (i := 1) (v := .slice none 0 0) rfl
    have Fr := ((L0.out.set_ 0 (.slice none 0 0)).set_ 1 (.slice none 0 0))
    have r0 := Fr.cell_ (i := 0) (v := .slice none 0 0) rfl
    have r1 := Fr.cell_ (i := 1) (v := .slice none 0 0) rfl
    have S2 := hid ((S1.out.setCell (p := ⟨w.heap.size + 1, 0, none⟩) (by first | (simp; done) | omega | (simp; omega)) (.slice none 0 0)).setCell (p := ⟨w.heap.size + 1, 1, none⟩) (by first | (simp; done) | omega | (simp; omega)) (.slice none 0 0))
    clear Fr
    go_wp2_with fail
    refine bodyPost_ret (v := .tuple #[crV none 0 0 none 0 0, .bool false]) (by simp [results, Try.results41, go_sem, r0, r1]) rfl (CrEnd.bad HB.1 HB.2 S2.out)
  have HOK := hid (HD.out.trans (by rw [hv, h1]; rfl : _ = true))
  obtain ⟨v, k, x, rfl, hk⟩ := giveOk_iff.1 HOK.out
  obtain rfl : n = 5 := by have := v.f5; have := HLn.out; omega
  have V := hid v
  have hkm : k < m := by have := (List.getElem?_eq_some_iff.1 hk).1; have := HL.out; omega
  have hki : (0 : Int) ≤ (k : Int) := by omega
  have hki2 : (k : Int) < (m : Int) := by omega
  obtain ⟨xs, t⟩ := x
  have HW := hid (v.at_ hk).wait
  have HX := hid hk
  clear hv h1 HD v
  go_wp2_with fail
  refine (copyCredits_any _ _ _ _ _ _ _ _ _ (H0.out.st S1.out) F.out).mono ?_
  rintro e w3 ⟨A3, c3, B3, d3, rfl, C, s3⟩
  replace K0 := hid (K0.out.st s3)
  replace L0 := hid (L0.out.st s3)
  have hL3 : w.heap.size + 1 ≠ w3.heap.size := Nat.ne_of_lt L0.out.lt
  have hL4 : w.heap.size ≤ w3.heap.size := by have := L0.out.lt; omega
  have S3 := hid (S1.out.trans s3)
  have C3 := hid (C.less S1.out.le)
  have s4 := (St.refl w3).alloc (.cells #[.slice A3 5 c3, .slice B3 m d3] 25)
  have G4 := hid (Blk.new w3 25 #[.slice A3 5 c3, .slice B3 m d3])
  replace K0 := hid (K0.out.st s4)
  replace L0 := hid (L0.out.st s4)
  replace C3 := hid (C3.out.st s4)
  have S4 := hid (S3.out.trans s4)
  clear s3 s4 S3 S1 C k0 k1
  have k0 := K0.out.cell_ (i := 0) (v := .slice A 5 c) rfl
  have k1 := K0.out.cell_ (i := 1) (v := .slice B m d) rfl
  have g0 := G4.out.cell_ (i := 0) (v := .slice A3 5 c3) rfl
  have g1 := G4.out.cell_ (i := 1) (v := .slice B3 m d3) rfl
  obtain ⟨ad, Ak, nk, ck, xs', t', rfl, hb1, c0, c1, hx, hsl⟩ := H0.out.sh.at_ hkm
  have c0 := S4.out.cell c0
  have c1 := S4.out.cell c1
  have hxe : (xs', t') = (xs, t) := by have := hx.out; rw [hk] at this; injection this with this; exact this.symm
  injection hxe with hx1 hx2
  subst hx1 hx2
  have hnk : nk ≤ 1048576 := by have h8 := F.out.h2 _ (List.mem_of_getElem? hk); rw [hsl.len] at h8; exact h8
  have HSL := hid hsl
  have HLX := hid hsl.len
  clear hk hsl hx
  by_cases ht : t' = -1
  rotate_left
  · have HB := giveM_no HOK.out (by rw [giveIdle_of HX.out, decide_eq_true (show 0 ≤ t' by have := HW.out; omega)]; rfl)
    obtain ⟨f1, f2, f3⟩ := cr_fin L0.out C3.out (Nat.le_refl _) S4.out
    have y0 := L0.out.frozen 0
    have y1 := L0.out.frozen 1
    have o0 := L0.out.cell_ (i := 0) (v := .slice none 0 0) rfl
    have o1 := L0.out.cell_ (i := 1) (v := .slice none 0 0) rfl
    have r0 := f1.out.cell_ (i := 0) (v := .slice A3 5 c3) rfl
    have r1 := f1.out.cell_ (i := 1) (v := .slice B3 m d3) rfl
    have htb : (t' == -1) = false := by simpa using ht
    have htn : (t' != -1) = true := by simpa using ht
    go_wp2_with fail
    refine bodyPost_ret (v := .tuple #[crV A3 5 c3 B3 m d3, .bool false]) (by simp [results, Try.results41, go_sem, r0, r1]) rfl ⟨_, _, _, _, _, _, by rw [HB.2], by rw [HB.1]; exact f2.out, f3.out⟩
  subst ht
  by_cases hn0 : nk = 0
  · have HB := giveM_no HOK.out (by rw [giveIdle_of HX.out, HLX.out, decide_eq_true hn0, Bool.or_true]; rfl)
    subst hn0
    obtain ⟨f1, f2, f3⟩ := cr_fin L0.out C3.out (Nat.le_refl _) S4.out
    have y0 := L0.out.frozen 0
    have y1 := L0.out.frozen 1
    have o0 := L0.out.cell_ (i := 0) (v := .slice none 0 0) rfl
    have o1 := L0.out.cell_ (i := 1) (v := .slice none 0 0) rfl
    have r0 := f1.out.cell_ (i := 0) (v := .slice A3 5 c3) rfl
    have r1 := f1.out.cell_ (i := 1) (v := .slice B3 m d3) rfl
    go_wp2_with fail
    refine bodyPost_ret (v := .tuple #[crV A3 5 c3 B3 m d3, .bool false]) (by simp [results, Try.results41, go_sem, r0, r1]) rfl ⟨_, _, _, _, _, _, by rw [HB.2], by rw [HB.1]; exact f2.out, f3.out⟩
  have HNI := hid (show giveIdle hs k = false by rw [giveIdle_of HX.out, HLX.out, decide_eq_false (show ¬ (0 ≤ (-1 : Int)) by omega), decide_eq_false hn0]; rfl)
  have hnb : ((nk : Int) == 0) = false := by simp [hn0]
  have hnz : ¬ (nk : Int) = 0 := by omega
  go_wp2_with fail
  generalize w3.alloc (.cells _ 25) = w4 at *
  clear k0 k1 c0 c1
  go_loopw [47] (fun i wr => ∃ j : Nat, j ≤ nk ∧ i = .int .i64 (j : Int) ∧ Hid (∀ g ∈ xs'.take j, fs.getD g.toNat 0 ≤ 8) ∧ Hid (w4 = wr)) (fun i _ => nk - (intOf i).toNat)
  case atStart => exact ⟨0, Nat.zero_le _, rfl, hid (by simp), by first | exact hid rfl | exact hid trivial⟩
  case round =>
    obtain ⟨j, hj, rfl, hno, hd⟩ := hrel
    obtain rfl := hd.out
    clear hd
    have k0 := K0.out.cell_ (i := 0) (v := .slice A 5 c) rfl
    have k1 := K0.out.cell_ (i := 1) (v := .slice (some ad) m d) rfl
    by_cases hlt : j < nk
    · have hji : (j : Int) < (nk : Int) := by omega
      have hj0 : (0 : Int) ≤ (j : Int) := by omega
      obtain ⟨ah, g, rfl, hbh, hgx, hcg⟩ := RI.at_ (k := j) (HSL.out.st S4.out).ri hlt
      have hg4 := (V.out.at_ HX.out).in_ (List.mem_of_getElem? hgx.out)
      obtain ⟨gn, rfl⟩ : ∃ gn : Nat, g = (gn : Int) := ⟨g.toNat, by omega⟩
      obtain ⟨af, y, rfl, hbf, hyx, hcf⟩ := RI.at_ (k := gn) (H0.out.st S4.out).sl.ri (by omega)
      have hyr := V.out.fr y (List.mem_of_getElem? hyx.out)
      have hgi : (0 : Int) ≤ (gn : Int) := by omega
      have hgi2 : (gn : Int) < 5 := by omega
      by_cases hy9 : y = 9
      · have HB := giveM_no HOK.out (by
          rw [giveFull_of HX.out, Bool.or_eq_true]
          refine .inr (List.any_eq_true.2 ⟨_, List.mem_of_getElem? hgx.out, ?_⟩)
          rw [Int.toNat_natCast, getD_of hyx.out]
          exact decide_eq_true (by omega))
        subst hy9
        obtain ⟨f1, f2, f3⟩ := cr_fin L0.out C3.out (Nat.le_refl _) S4.out
        have y0 := L0.out.frozen 0
        have y1 := L0.out.frozen 1
        have o0 := L0.out.cell_ (i := 0) (v := .slice none 0 0) rfl
        have o1 := L0.out.cell_ (i := 1) (v := .slice none 0 0) rfl
        have r0 := f1.out.cell_ (i := 0) (v := .slice A3 5 c3) rfl
        have r1 := f1.out.cell_ (i := 1) (v := .slice B3 m d3) rfl
        go_wp2_with fail
        (try simp only [Exit.inBlock, Exit.then])
        refine bodyPost_ret (v := .tuple #[crV A3 5 c3 B3 m d3, .bool false]) (by simp [results, Try.results41, go_sem, r0, r1]) rfl ⟨_, _, _, _, _, _, by rw [HB.2], by rw [HB.1]; exact f2.out, f3.out⟩
      · have hno' : Hid (∀ g ∈ xs'.take (j + 1), fs.getD g.toNat 0 ≤ 8) := by
          intro g hg
          rw [take_snoc hgx.out, List.mem_append, List.mem_singleton] at hg
          rcases hg with hg | rfl
          · exact hno.out g hg
          · rw [Int.toNat_natCast, getD_of hyx.out]; omega
        have hyb : (y == 9) = false := by simpa using hy9
        go_wp2_with fail
        go_roundw
        case rel => exact ⟨j + 1, by omega, by go_num, hno', by first | exact hid rfl | exact hid trivial⟩
        case measure => simp [intOf]; omega
    · obtain rfl : j = nk := by omega
      have hji : ¬ ((j : Int) < (j : Int)) := by omega
      have HNF := hid (show giveFull fs hs k = false by
        rw [giveFull_of HX.out, List.any_eq_false]
        intro g hg
        have := hno.out g (by rw [List.take_of_length_le (by rw [HLX.out]; omega)]; exact hg)
        simp only [decide_eq_true_eq]
        omega)
      have HGM := hid (giveM_yes HOK.out (by rw [HNI.out, HNF.out]; rfl) HX.out)
      obtain ⟨vs0, vs1, vs2⟩ := give_start V.out HX.out HNF.out
      have VS := hid vs0
      have VP := hid vs1
      have VG := hid vs2
      clear hno k0 k1 vs0 vs1 vs2 HNF HNI K0
      obtain ⟨b2, Ak', nk', ck', xs'', t', rfl, hb4, hb5, hx', d0, d1, hfz, _, _, hputH⟩ := C3.out.hold hkm
      have hxe : (xs'', t') = (xs', -1) := by have := hx'.out; rw [HX.out] at this; injection this with this; exact this.symm
      injection hxe with hx1 hx2
      subst hx1 hx2
      have C7 := hputH none 0 0 [] (World.ownsRow_nil _ _ _ _) (fun q hq => by cases hq)
      have hne : w.heap.size + 1 ≠ b2 := fun e => (C3.out.apart L0.out (by decide) (by decide)).2 (by rw [e]; rfl)
      have hne2 : w3.heap.size ≠ b2 := fun e => (C3.out.apart G4.out (by decide) (by decide)).2 (by rw [e]; rfl)
      have L7 := hid (L0.out.far (p := ⟨b2, k * 2, none⟩) hne (.slice none 0 0))
      have G7 := hid (G4.out.far (p := ⟨b2, k * 2, none⟩) hne2 (.slice none 0 0))
      have S7 := hid (S4.out.setCell (p := ⟨b2, k * 2, none⟩) hb4 (.slice none 0 0))
      have z0 := hfz (k * 2)
      clear hputH hfz hne hne2 hx' C3 L0 S4 d1
      go_wp2_with fail
      generalize w4.setCell ⟨b2, k * 2, none⟩ (.slice none 0 0) = w7 at *
      clear G4 g0 g1 d0 z0
      go_loopw [66] (fun i wr => ∃ (j2 : Nat) (fs1 : List Int) (hs1 : List (List Int × Int)), j2 ≤ j ∧ i = .int .i64 (j2 : Int) ∧ Hid ((xs''.take j2).foldl serve (fs, hs.set k ([], -1)) = (fs1, hs1)) ∧ Hid (Blk wr (w.heap.size + 1) 25 #[.slice none 0 0, .slice none 0 0]) ∧ Hid (Blk wr w3.heap.size 25 #[.slice A3 5 c3, .slice (some ⟨b2, 0, none⟩) m d3]) ∧ Hid (CrS wr w.heap.size A3 5 c3 (some ⟨b2, 0, none⟩) m d3 fs1 hs1) ∧ Hid (St w wr)) (fun i _ => j - (intOf i).toNat)
      case atStart => exact ⟨0, _, _, Nat.zero_le _, rfl, hid rfl, L7, G7, C7, S7⟩
      case round =>
        obtain ⟨wb, rfl⟩ : ∃ wo : World, wo = wr := ⟨_, rfl⟩
        obtain ⟨j2, fs1, hs1, hj2, rfl, HF1, L, G, C, S⟩ := hrel
        clear L7 G7 C7 S7
        have g0 := G.out.cell_ (i := 0) (v := .slice A3 5 c3) rfl
        have g1 := G.out.cell_ (i := 1) (v := .slice (some ⟨b2, 0, none⟩) m d3) rfl
        by_cases hlt2 : j2 < j
        · have hj2i : (j2 : Int) < (j : Int) := by omega
          have hj20 : (0 : Int) ≤ (j2 : Int) := by omega
          obtain ⟨ah, g, rfl, hbh, hgx, hcg⟩ := RI.at_ (k := j2) HSL.out.ri hlt2
          have hcb := S.out.cell hcg
          obtain ⟨u1, u2, u3, u4⟩ := serve_at VS.out VP.out VG.out hgx.out
          rw [HF1.out] at u1 u2 u3
          obtain ⟨gn, rfl⟩ : ∃ gn : Nat, g = (gn : Int) := ⟨g.toNat, by omega⟩
          have U1 := hid u1
          have V1 := hid u2
          have hgi : (0 : Int) ≤ (gn : Int) := by omega
          have hgi2 : (gn : Int) < 5 := by omega
          have hg5 : gn < 5 := by omega
          have HU3 := hid u3
          have HLE1 := hid (show ∀ x ∈ hs1, x.1.length ≤ 1048576 from fun x hx => by have := (V1.out.ho x hx).len; omega)
          clear u1 u2 u3
          go_wp2_with fail
          refine (waiters_any _ _ _ _ _ _ _ _ _ C.out.sh hm).mono ?_
          rintro e w8 ⟨hw8, s8⟩
          replace L := hid (L.out.st s8)
          replace G := hid (G.out.st s8)
          replace C := hid (C.out.st s8)
          replace S := hid (S.out.st s8)
          replace g0 := s8.cell g0
          replace g1 := s8.cell g1
          clear s8
          rcases hw8 with ⟨hwn, rfl⟩ | ⟨k3, b3, q, x, hws, hx3, hxg, rfl, hb3, hbw⟩
          · have HS := hid (serve_none (fs := fs1) hwn)
            obtain ⟨b, y, rfl, hb6, hb7, hy, e1, e2, hset⟩ := C.out.free (k := gn) hg5
            have hgd := getD_of hy.out
            have hyr := V1.out.fr y (List.mem_of_getElem? hy.out)
            have q1 : IntKind.i64.wrap (y + 1) = y + 1 := IntWalk.i64_in _ (by omega)
            have C9 := hset (y + 1)
            have hnl : w.heap.size + 1 ≠ b := fun e => (C.out.apart L.out (by decide) (by decide)).1 (by rw [e]; rfl)
            have hng : w3.heap.size ≠ b := fun e => (C.out.apart G.out (by decide) (by decide)).1 (by rw [e]; rfl)
            have L9 := hid (L.out.far (p := ⟨b, gn, none⟩) hnl (.int .i64 (y + 1)))
            have G9 := hid (G.out.far (p := ⟨b, gn, none⟩) hng (.int .i64 (y + 1)))
            have S9 := hid (S.out.setCell (p := ⟨b, gn, none⟩) hb6 (.int .i64 (y + 1)))
            have HN := hid (show (xs''.take (j2 + 1)).foldl serve (fs, hs.set k ([], -1)) = (fs1.set gn (y + 1), hs1) by rw [U1.out, HS.out, Int.toNat_natCast, hgd])
            clear hset hwn HS hnl hng
            go_wp2_with fail
            go_roundw
            case rel => exact ⟨j2 + 1, _, _, by omega, by go_num, HN, L9, G9, C9, S9⟩
            case measure => simp [intOf]; omega
          · have HL1 := C.out.hl
            have hk3m : k3 < m := by have := (List.getElem?_eq_some_iff.1 hx3).1; omega
            have hk30 : (0 : Int) ≤ (k3 : Int) := by omega
            have hk3i : (k3 : Int) < (m : Int) := by omega
            have HN := hid (show (xs''.take (j2 + 1)).foldl serve (fs, hs.set k ([], -1)) = (fs1, hs1.set k3 (insC x.1 (gn : Int), -1)) by rw [U1.out, serve_some hws hx3])
            obtain ⟨x1, x2⟩ := x
            have HX3 := hid hx3
            have p0 := hbw.cell_ (i := 0) (v := .int .i64 (k3 : Int)) rfl
            obtain ⟨b2', Ak3, nk3, ck3, xs3, t3, eb, _, _, hx4, d0, d1, hfz, hsl3, _, _⟩ := C.out.hold hk3m
            injection eb with eb
            injection eb with eb
            subst eb
            have hxe : (xs3, t3) = (x1, x2) := by have := hx4.out; rw [HX3.out] at this; injection this with this; exact this.symm
            injection hxe with hx1 hx2
            subst hx1 hx2
            have hnk3 : nk3 ≤ 1048576 := by have h8 := HLE1.out _ (List.mem_of_getElem? HX3.out); rw [hsl3.out.len] at h8; exact h8
            clear hws hx3 hbw hx4 hfz HL1 hxg d1
            go_wp2_with fail
            go_quiet (fail)
            have sx := (Dr.st ⟨nq, rfl⟩ : St (w8) (World.drewN (w8) nq))
            generalize World.drewN (w8) nq = wx at sx ⊢
            clear nq
            replace L := hid (L.out.st sx)
            replace G := hid (G.out.st sx)
            replace C := hid (C.out.st sx)
            replace S := hid (S.out.st sx)
            replace hsl3 := hid (hsl3.out.st sx)
            replace d0 := sx.cell d0
            clear sx g0 g1 p0
            go_wp2_with fail
            refine (with_any _ _ _ _ _ _ hsl3.out hnk3).mono ?_
            rintro e w9 ⟨X, a, rfl, o9, s9⟩
            have NE9 := hid (show ∀ q, blockOf X = some q → blockOf A3 ≠ some q from fun q hq hA => by have h7 := (OI.lt o9 q hq).1; have h8 := (C.out.bA hA).2; omega)
            have O9 := hid (OI.less o9 S.out.le)
            have f0 := s9.cell d0
            replace L := hid (L.out.st s9)
            replace G := hid (G.out.st s9)
            replace C := hid (C.out.st s9)
            replace S := hid (S.out.st s9)
            clear s9 o9 d0
            have hf0 := C.out.fz hk3m (k3 * 2)
            have hf1 := C.out.fz hk3m (k3 * 2 + 1)
            obtain ⟨b2', Ak6, nk6, ck6, xs6, t6, eb, _, _, hx6, _, f1, _, _, _, _⟩ := C.out.hold hk3m
            injection eb with eb
            injection eb with eb
            subst eb
            clear hx6
            have C9 := hid (C.out.put hk3m (-1) O9.out NE9.out)
            have hnl : w.heap.size + 1 ≠ b2 := fun e => (C.out.apart L.out (by decide) (by decide)).2 (by rw [e]; rfl)
            have hng : w3.heap.size ≠ b2 := fun e => (C.out.apart G.out (by decide) (by decide)).2 (by rw [e]; rfl)
            have L9 := hid ((L.out.far (p := ⟨b2, k3 * 2, none⟩) hnl (.slice X (insC xs3 gn).length a)).far (p := ⟨b2, k3 * 2 + 1, none⟩) hnl (.int .i64 (-1)))
            have G9 := hid ((G.out.far (p := ⟨b2, k3 * 2, none⟩) hng (.slice X (insC xs3 gn).length a)).far (p := ⟨b2, k3 * 2 + 1, none⟩) hng (.int .i64 (-1)))
            have S9 := hid ((S.out.setCell (p := ⟨b2, k3 * 2, none⟩) hb4 (.slice X (insC xs3 gn).length a)).setCell (p := ⟨b2, k3 * 2 + 1, none⟩) hb4 (.int .i64 (-1)))
            clear NE9 O9 hnl hng
            go_wp2_with fail
            go_roundw
            case rel => exact ⟨j2 + 1, _, _, by omega, by go_num, HN, L9, G9, C9, S9⟩
            case measure => simp [intOf]; omega
        · obtain rfl : j2 = j := by omega
          have hj2i : ¬ ((j2 : Int) < (j2 : Int)) := by omega
          obtain ⟨f1, f2, f3⟩ := cr_fin L.out C.out (Nat.le_refl _) S.out
          have y0 := L.out.frozen 0
          have y1 := L.out.frozen 1
          have o0 := L.out.cell_ (i := 0) (v := .slice none 0 0) rfl
          have o1 := L.out.cell_ (i := 1) (v := .slice none 0 0) rfl
          have r0 := f1.out.cell_ (i := 0) (v := .slice A3 5 c3) rfl
          have r1 := f1.out.cell_ (i := 1) (v := .slice (some ⟨b2, 0, none⟩) m d3) rfl
          have HQ := hid (show giveM fs hs k = (fs1, hs1) by rw [HGM.out.1, ← HF1.out, List.take_of_length_le (by rw [HLX.out]; exact Nat.le_refl _)])
          have HQ2 := hid HGM.out.2
          clear HGM
          go_wp2_with fail
          refine bodyPost_ret (v := .tuple #[crV A3 5 c3 (some ⟨b2, 0, none⟩) m d3, .bool true]) (by simp [results, Try.results41, go_sem, r0, r1]) rfl ⟨_, _, _, _, _, _, by rw [HQ2.out], by rw [HQ.out]; exact f2.out, f3.out⟩
end Go.Proofs.Ytggjfbakekfdhaa
