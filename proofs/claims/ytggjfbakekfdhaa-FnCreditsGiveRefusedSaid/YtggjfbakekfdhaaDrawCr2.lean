/- The drawing of credits: l92Credits. Printed by gen_drawcr2.py. -/
import Derived.Test.YtggjfbakekfdhaaDrawCr
namespace Go.Proofs.Ytggjfbakekfdhaa
open Go.RowKit Go.Sort
theorem crNew_valid {xs : List Int} {m : Nat} (h5 : xs.length = 5) (hb : ∀ x ∈ xs, 0 ≤ x ∧ x ≤ 9) (h1 : 1 ≤ m) (h6 : m ≤ 6) : CrV xs (List.replicate m ([], -1)) :=
  ⟨h5, hb, by simpa using h1, by simpa using h6, fun h hh => by rw [List.eq_of_mem_replicate hh]; exact HoV.none_ (.inl rfl)⟩
theorem freeOk_of {xs : List Int} (h5 : xs.length = 5) (hb : ∀ x ∈ xs, 0 ≤ x ∧ x ≤ 9) : freeOk xs = true := by
  simp only [freeOk, Bool.and_eq_true, decide_eq_true_eq, List.all_eq_true, inB_iff]
  exact ⟨h5, hb⟩
theorem DC.hold0 {w wr : World} {R L G c m d : Nat} {A B : Option Addr} {fs : List Int} {hs : List (List Int × Int)} (h : DC w wr R L G A c B m d fs hs) (k : Nat) (hk : k < m) : ∃ x, hs[k]? = some x := ⟨_, List.getElem?_eq_getElem (by rw [h.c.hl]; exact hk)⟩
/-- Behind a step: what it made is stored in a variable, and from there in the other. -/
theorem DC.store {w wr : World} {R L G y c c' m d m' d' : Nat} {A B A' B' : Option Addr} {fs fs' : List Int} {hs hs' : List (List Int × Int)} {cs : Array Value} (h : DC w wr R L G A c B m d fs hs) (hy : Blk wr y 25 cs) (hyG : y ≠ G) (hyw : w.heap.size < y) (hc : CrS wr w.heap.size A' 5 c' B' m' d' fs' hs') (hv : CrV fs' hs') :
    DC w ((((wr.setCell ⟨y, 0, none⟩ (.slice A' 5 c')).setCell ⟨y, 1, none⟩ (.slice B' m' d')).setCell ⟨G, 0, none⟩ (.slice A' 5 c')).setCell ⟨G, 1, none⟩ (.slice B' m' d')) R L G A' c' B' m' d' fs' hs' := by
  have Y1 := hy.set_ 0 (.slice A' 5 c')
  have h2 := (h.blk1 hy hyG hyw 0 (.slice A' 5 c')).blk1 Y1 hyG hyw 1 (.slice B' m' d')
  have c2 := (hc.blk hy (by decide) (by decide) (World.grownBy_set wr y 0 (.slice A' 5 c'))).blk Y1 (by decide) (by decide) (World.grownBy_set _ y 1 (.slice B' m' d'))
  exact h2.over c2 hv
set_option maxRecDepth 100000 in
set_option maxHeartbeats 8000000 in
theorem l92Credits_any (R M : Nat) (w : World) (hr : Rd w R M) (hM : M ≤ 1099511620000) :
    Calls Try.prog 60 #[.pointer (some ⟨R, 0, none⟩)] w (DrawnCr w R (M + 200)) := by
  have hRlt := hr.lt
  obtain ⟨W0, hW0⟩ : ∃ W0, W0 = w.alloc (.cells #[.slice none 0 0, .slice none 0 0] 25) := ⟨_, rfl⟩
  have HW := hid hW0
  have Z0 := hid (show Blk W0 w.heap.size 25 #[.slice none 0 0, .slice none 0 0] by rw [hW0]; exact Blk.new w 25 #[.slice none 0 0, .slice none 0 0])
  have HZ := hid (show W0.heap.size = w.heap.size + 1 by rw [hW0]; simp)
  have R0 := hid (show Rd W0 R M by rw [hW0]; exact hr.alloc _)
  have G0 := hid (show w.grownBy W0 (some R) by rw [hW0]; exact World.grownBy_alloc w _ (some R))
  have O1 : Hid (OI (W0.alloc (.cells #[] 3)) w.heap.size 3 (some ⟨w.heap.size + 1, 0, none⟩) 0 0 []) := by
    have := (OI.lit (w := W0) (e := 3)).less (show w.heap.size ≤ W0.heap.size by have := HZ.out; omega)
    rwa [HZ.out] at this
  have Z1 := hid (Z0.out.alloc (.cells #[] 3))
  have R1 := hid (R0.out.alloc (.cells #[] 3))
  have G1 := hid (grown_alloc G0.out (.cells #[] 3))
  clear hW0 hr R0 Z0 G0
  go_enter Try.func60, Try.ntmps60
  go_wp2_with fail
  rw [← HW.out]
  go_loopw [3, 4] (fun v i wr => ∃ (k a : Nat) (X : Option Addr) (ys : List Int), k ≤ 5 ∧ i = .int .i64 k ∧ v = .slice X k a ∧ OI wr w.heap.size 3 X k a ys ∧ Hid (∀ x ∈ ys, 0 ≤ x ∧ x ≤ 9) ∧ Hid (Blk wr w.heap.size 25 #[.slice none 0 0, .slice none 0 0]) ∧ Rd wr R (M + k) ∧ w.grownBy wr (some R)) (fun _ i _ => 5 - (intOf i).toNat)
  case atStart => exact ⟨0, 0, _, [], Nat.zero_le _, rfl, rfl, O1.out, hid (by simp), Z1, R1.out, G1.out⟩
  case round =>
    obtain ⟨k, a, X, ys, hk, rfl, rfl, ho, hbd, hz, hrd, hg⟩ := hrel
    clear O1 Z1 R1 G1
    by_cases hlt : k < 5
    · have hki : (k : Int) < 5 := by omega
      go_wp2_with fail
      refine (pick_any _ _ _ _ hrd (by omega) (by omega) (by omega)).mono ?_
      rintro e w2 ⟨x, rfl, hp, hrd2, hg2⟩
      have hp1 := hp.1
      have hp2 := hp.2.1 (by omega)
      have ho2 := ho.row hg2 hRlt
      have hgg := grown_trans' hg hg2
      have hz2 := hid (hz.out.grown hg2 (fun e => by injection e with e; omega))
      have hbd2 : Hid (∀ z ∈ ys ++ [x], 0 ≤ z ∧ z ≤ 9) := by
        intro z hz
        rw [List.mem_append, List.mem_singleton] at hz
        rcases hz with hz | rfl
        · exact hbd.out z hz
        · omega
      clear hp hg2 hg ho hz hp1 hp2
      go_wp2_with (at_builtin; refine wpList_append_int _ rfl _ _ 22 rfl w.heap.size 3 Try.underlying22 intInfo _ _ _ _ x rfl ho2 rfl (by omega) hgg.size ?_; intro X2 a2 w3 ho3 hg3)
      have hR2 : ∀ g, blockOf X = some g → R < g := fun g hg => by have := (ho2.lt g hg).1; omega
      have hB2 : ∀ g, blockOf X = some g → w.heap.size ≤ g := fun g hg => (ho2.lt g hg).1
      have hz3 := hid (hz2.out.grown hg3 (fun e => by have h7 := own_blk_ne ho2 hz2.out (by decide); rw [ownBlock_slice] at h7; exact h7 e.symm))
      go_roundw
      case rel => exact ⟨k + 1, _, _, _, by omega, by go_num, rfl, ho3, hbd2, hz3, hrd2.grown hg3 hR2, grown_new hgg hg3 hB2⟩
      case measure => simp [intOf]; omega
    · obtain rfl : k = 5 := by omega
      have h5 : ¬ (5 : Int) < 5 := by omega
      go_wp2_with fail
      refine (pick_any _ _ _ _ hrd (by omega) (by omega) (by omega)).mono ?_
      rintro e w2 ⟨x, rfl, hp, hrd2, hg2⟩
      have hp1 := hp.1
      have hp2 := hp.2.1 (by omega)
      have ho2 := ho.row hg2 hRlt
      have hgg := hid (grown_trans' hg hg2)
      have hz2 := hid (hz.out.grown hg2 (fun e => by injection e with e; omega))
      have hl5 := ho2.len
      have q1 : IntKind.i64.wrap (1 + x) = 1 + x := IntWalk.i64_in _ (by omega)
      clear hp hg2 hg ho hz
      go_wp2_with fail
      refine (specCreditsNew_own _ _ _ _ _ _ ho2.sl (by omega) (by rw [freeOk_of hl5 hbd.out, Bool.true_and]; exact inB_iff.2 (by omega))).mono ?_
      rintro e w3 ⟨A, c, B, m, d, rfl, hms, C3, s3⟩
      have hv3 := crNew_valid (m := m) hl5 hbd.out (by omega) (by omega)
      have sa := s3.alloc (.cells #[.slice A 5 c, .slice B m d] 25)
      have sb := (St.refl w3).alloc (.cells #[.slice A 5 c, .slice B m d] 25)
      have HG := hid (show w.heap.size < w3.heap.size by have := hz2.out.lt; have := s3.le; omega)
      have D4 := hid (show DC w (w3.alloc (.cells #[.slice A 5 c, .slice B m d] 25)) R (M + 7) w3.heap.size A c B m d ys (List.replicate m ([], -1)) from
        ⟨hz2.out.st sa, Blk.new w3 25 #[.slice A 5 c, .slice B m d], (C3.less hgg.out.size).st sb, hv3, (hrd2.below sa hrd2.lt).le (by omega), grown_st hgg.out sa, hRlt, HG.out⟩)
      clear sa sb s3 C3 hv3 hz2 ho2 hrd2 hgg q1 hms
      go_wp2_with fail
      generalize w3.alloc (.cells #[.slice A 5 c, .slice B m d] 25) = w4 at *
      refine (pick_any _ _ _ _ D4.out.r (by omega) (by omega) (by omega)).mono ?_
      rintro e w5 ⟨xo, rfl, _, hrd5, hg5⟩
      have D5 := hid (D4.out.pick hrd5 hg5)
      clear D4 hrd5 hg5
      go_wp2_with fail
      generalize (xo == 0) = ord at *
      generalize w3.heap.size = G at *
      go_loopw [8] (fun i wr => ∃ (k : Nat) (A : Option Addr) (c : Nat) (B : Option Addr) (m d : Nat) (fs : List Int) (hs : List (List Int × Int)), k ≤ 20 ∧ i = .int .i64 k ∧ Hid (DC w wr R (M + 8 + 4 * k) G A c B m d fs hs)) (fun i _ => 20 - (intOf i).toNat)
      case atStart => exact ⟨0, _, _, _, _, _, _, _, Nat.zero_le _, rfl, hid (D5.out.le (by omega))⟩
      case round =>
        obtain ⟨wa, rfl⟩ : ∃ wo : World, wo = wr := ⟨_, rfl⟩
        clear D5 HZ HW
        obtain ⟨k, A, c, B, m, d, fs, hs, hk, rfl, D⟩ := hrel
        go_wp2_with fail
        refine (pick_any _ _ _ _ D.out.r (by omega) (by omega) (by omega)).mono ?_
        rintro e w1 ⟨x, rfl, hp, hrd1, hg1⟩
        have hx2 := hp.2.1 (by omega)
        have D1 := hid (D.out.pick hrd1 hg1)
        obtain ⟨hm1, hm6⟩ := D1.out.m1
        clear D hrd1 hg1 hp
        have g0 := D1.out.g.cell_ (i := 0) (v := .slice A 5 c) rfl
        have g1 := D1.out.g.cell_ (i := 1) (v := .slice B m d) rfl
        by_cases hlt : (k : Int) < x
        · go_wp2_with fail
          refine (pick_any _ _ _ _ D1.out.r (by omega) (by omega) (by omega)).mono ?_
          rintro e w2 ⟨s, rfl, hp, hrd2, hg2⟩
          have hs1 := hp.1
          have hs2 := hp.2.1 (by omega)
          obtain ⟨sn, rfl⟩ := Int.eq_ofNat_of_zero_le hs1
          have D2 := hid (D1.out.pick hrd2 hg2)
          clear D1 hrd2 hg2 hp g0 g1
          go_wp2_with fail
          refine (pick_any _ _ _ _ D2.out.r (by omega) (by omega) (by omega)).mono ?_
          rintro e w3 ⟨q, rfl, hp, hrd3, hg3⟩
          have hq1 := hp.1
          have hq2 := hp.2.1 (by omega)
          have D3 := hid (D2.out.pick hrd3 hg3)
          clear D2 hrd3 hg3 hp
          have hsm : sn < m := by omega
          have hs3 : (sn : Int) < (m : Int) := by omega
          obtain ⟨ad, Ak, nk, ck, xs, t, rfl, hb1, c0, c1, hx, hsl⟩ := D3.out.c.sh.at_ hsm
          have HX := hid hx.out
          have hxl := (D3.out.v.at_ hx.out).len
          have hnk : nk ≤ 5 := by have := hsl.len; simp only at hxl; omega
          have g0 := D3.out.g.cell_ (i := 0) (v := .slice A 5 c) rfl
          have g1 := D3.out.g.cell_ (i := 1) (v := .slice (some ad) m d) rfl
          cases ord
          · have HQ := hid (show 0 ≤ q ∧ q ≤ 4 by omega)
            go_wp2_with fail
            have D5 := hid (D3.out.st ((St.refl w3).alloc (.cells #[.slice A 5 c, .slice (some ad) m d] 25)))
            have Y5 := hid (Blk.new w3 25 #[.slice A 5 c, .slice (some ad) m d])
            have hyG : w3.heap.size ≠ G := by have := D3.out.g.lt; omega
            have hyw : w.heap.size < w3.heap.size := by have := D3.out.g.lt; have := D3.out.gz; omega
            generalize w3.alloc (.cells #[.slice A 5 c, .slice (some ad) m d] 25) = w4 at *
            refine (pick_any _ _ _ _ D5.out.r (by omega) (by omega) (by omega)).mono ?_
            rintro e w6 ⟨z, rfl, _, hrd6, hg6⟩
            have D6 := hid (D5.out.pick hrd6 hg6)
            have Y6 := hid (Y5.out.grown hg6 (fun e => by injection e with e; omega))
            have HSZ := hid D6.out.gr.size
            clear D5 Y5 hrd6 hg6 g0 g1 D3
            have g0 := D6.out.g.cell_ (i := 0) (v := .slice A 5 c) rfl
            have g1 := D6.out.g.cell_ (i := 1) (v := .slice (some ad) m d) rfl
            cases hz : (z == 0)
            · go_wp2_with fail
              refine (specCreditsAsk_any _ _ _ _ _ _ _ _ _ q _ D6.out.c.rd D6.out.v.fit).mono ?_
              rintro e w7 ⟨A7, n7, c7, B7, m7, d7, rfl, hc, s7⟩
              have hc := hc.less HSZ.out
              have hv := ask_valid (askOk_iff.2 ⟨D6.out.v, ⟨_, _, rfl, HX.out⟩, HQ.out⟩)
              obtain rfl : n7 = 5 := by have := hv.f5; have := hc.fr.len; omega
              have D7 := hid (D6.out.st s7)
              have Y7 := hid (Y6.out.st s7)
              have D9 := hid ((D7.out.store Y7.out hyG hyw hc hv).le (show M + 8 + 4 * k + 1 + 1 + 1 + 1 ≤ M + 8 + 4 * (k + 1) by omega))
              have D8 := hid ((D7.out.blk1 Y7.out hyG hyw 0 (.slice A7 5 c7)).blk1 (Y7.out.set_ 0 (.slice A7 5 c7)) hyG hyw 1 (.slice B7 m7 d7))
              have Y8 := hid ((Y7.out.set_ 0 (.slice A7 5 c7)).set_ 1 (.slice B7 m7 d7))
              have p0 := Y7.out.frozen 0
              have p1 := Y7.out.frozen 1
              have o0 := Y7.out.cell_ (i := 0) (v := .slice A 5 c) rfl
              have o1 := Y7.out.cell_ (i := 1) (v := .slice (some ad) m d) rfl
              have r0 := Y8.out.cell_ (i := 0) (v := .slice A7 5 c7) rfl
              have r1 := Y8.out.cell_ (i := 1) (v := .slice B7 m7 d7) rfl
              have u0 := D8.out.g.frozen 0
              have u1 := D8.out.g.frozen 1
              have v0 := D8.out.g.cell_ (i := 0) (v := .slice A 5 c) rfl
              have v1 := D8.out.g.cell_ (i := 1) (v := .slice (some ad) m d) rfl
              clear s7 hc hv D8 Y8 D7 Y7
              go_wp2_with fail
              go_roundw
              case rel => exact ⟨k + 1, _, _, _, _, _, _, _, by omega, by go_num, D9⟩
              case measure => simp [intOf]; omega
            · go_wp2_with fail
              refine (specCreditsGive_any _ _ _ _ _ _ _ _ _ _ D6.out.c.rd D6.out.v.fit).mono ?_
              rintro e w7 ⟨A7, n7, c7, B7, m7, d7, rfl, hc, s7⟩
              have hc := hc.less HSZ.out
              have hv := give_valid (giveOk_iff.2 ⟨D6.out.v, _, _, rfl, HX.out⟩)
              obtain rfl : n7 = 5 := by have := hv.f5; have := hc.fr.len; omega
              have D7 := hid (D6.out.st s7)
              have Y7 := hid (Y6.out.st s7)
              have D9 := hid ((D7.out.store Y7.out hyG hyw hc hv).le (show M + 8 + 4 * k + 1 + 1 + 1 + 1 ≤ M + 8 + 4 * (k + 1) by omega))
              have D8 := hid ((D7.out.blk1 Y7.out hyG hyw 0 (.slice A7 5 c7)).blk1 (Y7.out.set_ 0 (.slice A7 5 c7)) hyG hyw 1 (.slice B7 m7 d7))
              have Y8 := hid ((Y7.out.set_ 0 (.slice A7 5 c7)).set_ 1 (.slice B7 m7 d7))
              have p0 := Y7.out.frozen 0
              have p1 := Y7.out.frozen 1
              have o0 := Y7.out.cell_ (i := 0) (v := .slice A 5 c) rfl
              have o1 := Y7.out.cell_ (i := 1) (v := .slice (some ad) m d) rfl
              have r0 := Y8.out.cell_ (i := 0) (v := .slice A7 5 c7) rfl
              have r1 := Y8.out.cell_ (i := 1) (v := .slice B7 m7 d7) rfl
              have u0 := D8.out.g.frozen 0
              have u1 := D8.out.g.frozen 1
              have v0 := D8.out.g.cell_ (i := 0) (v := .slice A 5 c) rfl
              have v1 := D8.out.g.cell_ (i := 1) (v := .slice (some ad) m d) rfl
              clear s7 hc hv D8 Y8 D7 Y7
              go_wp2_with fail
              go_roundw
              case rel => exact ⟨k + 1, _, _, _, _, _, _, _, by omega, by go_num, D9⟩
              case measure => simp [intOf]; omega
          · by_cases hn0 : 0 < nk
            · have hnk0 : (0 : Int) < (nk : Int) := by omega
              obtain ⟨ah, g, rfl, hbh, hgx, hcg⟩ := RI.at_ (k := nk - 1) hsl.ri (by omega)
              have hgi := (D3.out.v.at_ hx.out).in_ (List.mem_of_getElem? hgx.out)
              have q1 : IntKind.i64.wrap ((nk : Int) - 1) = ((nk - 1 : Nat) : Int) := by rw [IntWalk.i64_in _ (by omega)]; omega
              have q2 : (0 : Int) ≤ ((nk - 1 : Nat) : Int) := by omega
              have q3 : ((nk - 1 : Nat) : Int) < (nk : Int) := by omega
              go_wp2_with fail
              go_quiet (fail)
              have sx := (Dr.st ⟨nq, rfl⟩ : St (w3) (World.drewN (w3) nq))
              generalize World.drewN (w3) nq = wx at sx ⊢
              clear nq
              have HQQ := hid (show 0 ≤ (if q < g then g else q) ∧ (if q < g then g else q) ≤ 4 by split <;> omega)
              generalize (if q < g then g else q) = v at *
              have D3 := hid (D3.out.st sx)
              clear sx c0 c1 g0 g1
              have g0 := D3.out.g.cell_ (i := 0) (v := .slice A 5 c) rfl
              have g1 := D3.out.g.cell_ (i := 1) (v := .slice (some ad) m d) rfl
              have HQ := hid (show 0 ≤ v ∧ v ≤ 4 by exact HQQ.out)
              go_wp2_with fail
              have D5 := hid (D3.out.st ((St.refl wx).alloc (.cells #[.slice A 5 c, .slice (some ad) m d] 25)))
              have Y5 := hid (Blk.new wx 25 #[.slice A 5 c, .slice (some ad) m d])
              have hyG : wx.heap.size ≠ G := by have := D3.out.g.lt; omega
              have hyw : w.heap.size < wx.heap.size := by have := D3.out.g.lt; have := D3.out.gz; omega
              generalize wx.alloc (.cells #[.slice A 5 c, .slice (some ad) m d] 25) = w4 at *
              refine (pick_any _ _ _ _ D5.out.r (by omega) (by omega) (by omega)).mono ?_
              rintro e w6 ⟨z, rfl, _, hrd6, hg6⟩
              have D6 := hid (D5.out.pick hrd6 hg6)
              have Y6 := hid (Y5.out.grown hg6 (fun e => by injection e with e; omega))
              have HSZ := hid D6.out.gr.size
              clear D5 Y5 hrd6 hg6 g0 g1 D3
              have g0 := D6.out.g.cell_ (i := 0) (v := .slice A 5 c) rfl
              have g1 := D6.out.g.cell_ (i := 1) (v := .slice (some ad) m d) rfl
              cases hz : (z == 0)
              · go_wp2_with fail
                refine (specCreditsAsk_any _ _ _ _ _ _ _ _ _ v _ D6.out.c.rd D6.out.v.fit).mono ?_
                rintro e w7 ⟨A7, n7, c7, B7, m7, d7, rfl, hc, s7⟩
                have hc := hc.less HSZ.out
                have hv := ask_valid (askOk_iff.2 ⟨D6.out.v, ⟨_, _, rfl, HX.out⟩, HQ.out⟩)
                obtain rfl : n7 = 5 := by have := hv.f5; have := hc.fr.len; omega
                have D7 := hid (D6.out.st s7)
                have Y7 := hid (Y6.out.st s7)
                have D9 := hid ((D7.out.store Y7.out hyG hyw hc hv).le (show M + 8 + 4 * k + 1 + 1 + 1 + 1 ≤ M + 8 + 4 * (k + 1) by omega))
                have D8 := hid ((D7.out.blk1 Y7.out hyG hyw 0 (.slice A7 5 c7)).blk1 (Y7.out.set_ 0 (.slice A7 5 c7)) hyG hyw 1 (.slice B7 m7 d7))
                have Y8 := hid ((Y7.out.set_ 0 (.slice A7 5 c7)).set_ 1 (.slice B7 m7 d7))
                have p0 := Y7.out.frozen 0
                have p1 := Y7.out.frozen 1
                have o0 := Y7.out.cell_ (i := 0) (v := .slice A 5 c) rfl
                have o1 := Y7.out.cell_ (i := 1) (v := .slice (some ad) m d) rfl
                have r0 := Y8.out.cell_ (i := 0) (v := .slice A7 5 c7) rfl
                have r1 := Y8.out.cell_ (i := 1) (v := .slice B7 m7 d7) rfl
                have u0 := D8.out.g.frozen 0
                have u1 := D8.out.g.frozen 1
                have v0 := D8.out.g.cell_ (i := 0) (v := .slice A 5 c) rfl
                have v1 := D8.out.g.cell_ (i := 1) (v := .slice (some ad) m d) rfl
                clear s7 hc hv D8 Y8 D7 Y7
                go_wp2_with fail
                go_roundw
                case rel => exact ⟨k + 1, _, _, _, _, _, _, _, by omega, by go_num, D9⟩
                case measure => simp [intOf]; omega
              · go_wp2_with fail
                refine (specCreditsGive_any _ _ _ _ _ _ _ _ _ _ D6.out.c.rd D6.out.v.fit).mono ?_
                rintro e w7 ⟨A7, n7, c7, B7, m7, d7, rfl, hc, s7⟩
                have hc := hc.less HSZ.out
                have hv := give_valid (giveOk_iff.2 ⟨D6.out.v, _, _, rfl, HX.out⟩)
                obtain rfl : n7 = 5 := by have := hv.f5; have := hc.fr.len; omega
                have D7 := hid (D6.out.st s7)
                have Y7 := hid (Y6.out.st s7)
                have D9 := hid ((D7.out.store Y7.out hyG hyw hc hv).le (show M + 8 + 4 * k + 1 + 1 + 1 + 1 ≤ M + 8 + 4 * (k + 1) by omega))
                have D8 := hid ((D7.out.blk1 Y7.out hyG hyw 0 (.slice A7 5 c7)).blk1 (Y7.out.set_ 0 (.slice A7 5 c7)) hyG hyw 1 (.slice B7 m7 d7))
                have Y8 := hid ((Y7.out.set_ 0 (.slice A7 5 c7)).set_ 1 (.slice B7 m7 d7))
                have p0 := Y7.out.frozen 0
                have p1 := Y7.out.frozen 1
                have o0 := Y7.out.cell_ (i := 0) (v := .slice A 5 c) rfl
                have o1 := Y7.out.cell_ (i := 1) (v := .slice (some ad) m d) rfl
                have r0 := Y8.out.cell_ (i := 0) (v := .slice A7 5 c7) rfl
                have r1 := Y8.out.cell_ (i := 1) (v := .slice B7 m7 d7) rfl
                have u0 := D8.out.g.frozen 0
                have u1 := D8.out.g.frozen 1
                have v0 := D8.out.g.cell_ (i := 0) (v := .slice A 5 c) rfl
                have v1 := D8.out.g.cell_ (i := 1) (v := .slice (some ad) m d) rfl
                clear s7 hc hv D8 Y8 D7 Y7
                go_wp2_with fail
                go_roundw
                case rel => exact ⟨k + 1, _, _, _, _, _, _, _, by omega, by go_num, D9⟩
                case measure => simp [intOf]; omega
            · obtain rfl : nk = 0 := by omega
              have HQ := hid (show 0 ≤ q ∧ q ≤ 4 by omega)
              go_wp2_with fail
              have D5 := hid (D3.out.st ((St.refl w3).alloc (.cells #[.slice A 5 c, .slice (some ad) m d] 25)))
              have Y5 := hid (Blk.new w3 25 #[.slice A 5 c, .slice (some ad) m d])
              have hyG : w3.heap.size ≠ G := by have := D3.out.g.lt; omega
              have hyw : w.heap.size < w3.heap.size := by have := D3.out.g.lt; have := D3.out.gz; omega
              generalize w3.alloc (.cells #[.slice A 5 c, .slice (some ad) m d] 25) = w4 at *
              refine (pick_any _ _ _ _ D5.out.r (by omega) (by omega) (by omega)).mono ?_
              rintro e w6 ⟨z, rfl, _, hrd6, hg6⟩
              have D6 := hid (D5.out.pick hrd6 hg6)
              have Y6 := hid (Y5.out.grown hg6 (fun e => by injection e with e; omega))
              have HSZ := hid D6.out.gr.size
              clear D5 Y5 hrd6 hg6 g0 g1 D3
              have g0 := D6.out.g.cell_ (i := 0) (v := .slice A 5 c) rfl
              have g1 := D6.out.g.cell_ (i := 1) (v := .slice (some ad) m d) rfl
              cases hz : (z == 0)
              · go_wp2_with fail
                refine (specCreditsAsk_any _ _ _ _ _ _ _ _ _ q _ D6.out.c.rd D6.out.v.fit).mono ?_
                rintro e w7 ⟨A7, n7, c7, B7, m7, d7, rfl, hc, s7⟩
                have hc := hc.less HSZ.out
                have hv := ask_valid (askOk_iff.2 ⟨D6.out.v, ⟨_, _, rfl, HX.out⟩, HQ.out⟩)
                obtain rfl : n7 = 5 := by have := hv.f5; have := hc.fr.len; omega
                have D7 := hid (D6.out.st s7)
                have Y7 := hid (Y6.out.st s7)
                have D9 := hid ((D7.out.store Y7.out hyG hyw hc hv).le (show M + 8 + 4 * k + 1 + 1 + 1 + 1 ≤ M + 8 + 4 * (k + 1) by omega))
                have D8 := hid ((D7.out.blk1 Y7.out hyG hyw 0 (.slice A7 5 c7)).blk1 (Y7.out.set_ 0 (.slice A7 5 c7)) hyG hyw 1 (.slice B7 m7 d7))
                have Y8 := hid ((Y7.out.set_ 0 (.slice A7 5 c7)).set_ 1 (.slice B7 m7 d7))
                have p0 := Y7.out.frozen 0
                have p1 := Y7.out.frozen 1
                have o0 := Y7.out.cell_ (i := 0) (v := .slice A 5 c) rfl
                have o1 := Y7.out.cell_ (i := 1) (v := .slice (some ad) m d) rfl
                have r0 := Y8.out.cell_ (i := 0) (v := .slice A7 5 c7) rfl
                have r1 := Y8.out.cell_ (i := 1) (v := .slice B7 m7 d7) rfl
                have u0 := D8.out.g.frozen 0
                have u1 := D8.out.g.frozen 1
                have v0 := D8.out.g.cell_ (i := 0) (v := .slice A 5 c) rfl
                have v1 := D8.out.g.cell_ (i := 1) (v := .slice (some ad) m d) rfl
                clear s7 hc hv D8 Y8 D7 Y7
                go_wp2_with fail
                go_roundw
                case rel => exact ⟨k + 1, _, _, _, _, _, _, _, by omega, by go_num, D9⟩
                case measure => simp [intOf]; omega
              · go_wp2_with fail
                refine (specCreditsGive_any _ _ _ _ _ _ _ _ _ _ D6.out.c.rd D6.out.v.fit).mono ?_
                rintro e w7 ⟨A7, n7, c7, B7, m7, d7, rfl, hc, s7⟩
                have hc := hc.less HSZ.out
                have hv := give_valid (giveOk_iff.2 ⟨D6.out.v, _, _, rfl, HX.out⟩)
                obtain rfl : n7 = 5 := by have := hv.f5; have := hc.fr.len; omega
                have D7 := hid (D6.out.st s7)
                have Y7 := hid (Y6.out.st s7)
                have D9 := hid ((D7.out.store Y7.out hyG hyw hc hv).le (show M + 8 + 4 * k + 1 + 1 + 1 + 1 ≤ M + 8 + 4 * (k + 1) by omega))
                have D8 := hid ((D7.out.blk1 Y7.out hyG hyw 0 (.slice A7 5 c7)).blk1 (Y7.out.set_ 0 (.slice A7 5 c7)) hyG hyw 1 (.slice B7 m7 d7))
                have Y8 := hid ((Y7.out.set_ 0 (.slice A7 5 c7)).set_ 1 (.slice B7 m7 d7))
                have p0 := Y7.out.frozen 0
                have p1 := Y7.out.frozen 1
                have o0 := Y7.out.cell_ (i := 0) (v := .slice A 5 c) rfl
                have o1 := Y7.out.cell_ (i := 1) (v := .slice (some ad) m d) rfl
                have r0 := Y8.out.cell_ (i := 0) (v := .slice A7 5 c7) rfl
                have r1 := Y8.out.cell_ (i := 1) (v := .slice B7 m7 d7) rfl
                have u0 := D8.out.g.frozen 0
                have u1 := D8.out.g.frozen 1
                have v0 := D8.out.g.cell_ (i := 0) (v := .slice A 5 c) rfl
                have v1 := D8.out.g.cell_ (i := 1) (v := .slice (some ad) m d) rfl
                clear s7 hc hv D8 Y8 D7 Y7
                go_wp2_with fail
                go_roundw
                case rel => exact ⟨k + 1, _, _, _, _, _, _, _, by omega, by go_num, D9⟩
                case measure => simp [intOf]; omega
        · have hx20 := hx2
          go_wp2_with fail
          refine (pick_any _ _ _ _ D1.out.r (by omega) (by omega) (by omega)).mono ?_
          rintro e w2 ⟨s, rfl, hp, hrd2, hg2⟩
          have hs1 := hp.1
          have hs2 := hp.2.1 (by omega)
          obtain ⟨sn, rfl⟩ := Int.eq_ofNat_of_zero_le hs1
          have hsm : sn < m := by omega
          have D2 := hid (D1.out.pick hrd2 hg2)
          clear D1 hrd2 hg2 hp g0 g1
          go_wp2_with fail
          refine (pick_any _ _ _ _ D2.out.r (by omega) (by omega) (by omega)).mono ?_
          rintro e w3 ⟨q, rfl, _, hrd3, hg3⟩
          have D3 := hid (D2.out.pick hrd3 hg3)
          clear D2 hrd3 hg3
          have g0 := D3.out.g.cell_ (i := 0) (v := .slice A 5 c) rfl
          have g1 := D3.out.g.cell_ (i := 1) (v := .slice B m d) rfl
          cases h0 : (q == 0)
          · cases h1 : (q == 1)
            · cases h2 : (q == 2)
              · cases h3 : (q == 3)
                · have E := hid D3.out.de
                  obtain ⟨F, HQ⟩ := E.out.fin (M := M + 200) (by omega)
                  have p0 := E.out.z.frozen 0
                  have p1 := E.out.z.frozen 1
                  have o0 := E.out.z.cell_ (i := 0) (v := .slice none 0 0) rfl
                  have o1 := E.out.z.cell_ (i := 1) (v := .slice none 0 0) rfl
                  have e0 := E.out.g.cell_ (i := 0) (v := .slice A 5 c) rfl
                  have e1 := E.out.g.cell_ (i := 1) (v := .slice B m d) rfl
                  have r0 := F.out.cell_ (i := 0) (v := .slice A 5 c) rfl
                  have r1 := F.out.cell_ (i := 1) (v := .slice B m d) rfl
                  go_wp2_with fail
                  refine bodyPost_ret (v := crV A 5 c B m d) (by simp [results, Try.results60, go_sem, r0, r1]) rfl HQ.out
                · obtain ⟨b, Ak, nk, ck, xs, t, rfl, _⟩ := D3.out.c.hold hsm
                  have E := hid D3.out.de.cut
                  have k1 := D3.out.g.frozen 1
                  obtain ⟨F, HQ⟩ := E.out.fin (M := M + 200) (by omega)
                  have p0 := E.out.z.frozen 0
                  have p1 := E.out.z.frozen 1
                  have o0 := E.out.z.cell_ (i := 0) (v := .slice none 0 0) rfl
                  have o1 := E.out.z.cell_ (i := 1) (v := .slice none 0 0) rfl
                  have e0 := E.out.g.cell_ (i := 0) (v := .slice A 5 c) rfl
                  have e1 := E.out.g.cell_ (i := 1) (v := .slice (some ⟨b, 0, none⟩) 0 d) rfl
                  have r0 := F.out.cell_ (i := 0) (v := .slice A 5 c) rfl
                  have r1 := F.out.cell_ (i := 1) (v := .slice (some ⟨b, 0, none⟩) 0 d) rfl
                  go_wp2_with fail
                  refine bodyPost_ret (v := crV A 5 c (some ⟨b, 0, none⟩) 0 d) (by simp [results, Try.results60, go_sem, r0, r1]) rfl HQ.out
              · have hb0 := D3.out.c.hold hsm
                obtain ⟨b, Ak, nk, ck, xs, t, rfl, _⟩ := hb0
                have D4 := hid (D3.out.st (Dr.st ⟨1, rfl⟩ : St w3 w3.drew))
                clear D3
                go_wp2_with fail
                refine wp_region_held_drew (S := (fun w' => w'.cell? ⟨G, 1, none⟩ = some (.slice (some ⟨b, 0, none⟩) m d))) (by kernel_rfl) ?_ (fun hH0 => ?_)
                · exact g1
                refine wpAnyH_take (i := 0) (oi := ⟨some 123, _, _, _, _, _⟩) (v := ?_) rfl (by kernel_rfl) (by kernel_rfl) (by kernel_rfl) (fun _ _ _ h => h) (Or.inl ⟨by rfl, ?_⟩) (by assumption) ?_
                rotate_left
                · (intro w hSw; (try dsimp only at hSw); go_simp; (try with_reducible rfl))
                (try simp only [Act.put, List.setIfInBounds_toArray, List.set_cons_zero, List.set_cons_succ])
                refine wpAnyH_take (i := 1) (oi := ⟨some 124, _, _, _, _, _⟩) (v := ?_) rfl (by kernel_rfl) (by kernel_rfl) (by kernel_rfl) (fun _ _ _ h => h) (Or.inl ⟨by rfl, ?_⟩) (by assumption) ?_
                rotate_left
                · (intro w hSw; (try dsimp only at hSw); go_simp; (try with_reducible rfl))
                (try simp only [Act.put, List.setIfInBounds_toArray, List.set_cons_zero, List.set_cons_succ])
                refine wpAnyH_take (i := 2) (oi := ⟨some 125, _, _, _, _, _⟩) (v := ?_) rfl (by kernel_rfl) (by kernel_rfl) (by kernel_rfl) (fun _ _ _ h => h) (Or.inl ⟨by rfl, ?_⟩) (by assumption) ?_
                rotate_left
                · (intro w hSw; (try dsimp only at hSw); go_simp; (try with_reducible rfl))
                (try simp only [Act.put, List.setIfInBounds_toArray, List.set_cons_zero, List.set_cons_succ])
                refine wpAnyH_take (i := 3) (oi := ⟨some 126, _, _, _, _, _⟩) (v := ?_) rfl (by kernel_rfl) (by kernel_rfl) (by kernel_rfl) (fun _ _ _ h => h) (Or.inl ⟨by rfl, ?_⟩) (by assumption) ?_
                rotate_left
                · (intro w hSw; (try dsimp only at hSw); go_simp; (try with_reducible rfl))
                (try simp only [Act.put, List.setIfInBounds_toArray, List.set_cons_zero, List.set_cons_succ])
                refine wpAnyH_ready (rs := [4]) (by kernel_rfl) (by simp) ?_
                refine AllReadyH.cons (o := ⟨some 127, _, _, _, _, _⟩) rfl (fun K hK => ?_) AllReadyH.nil
                go_simp
                (go_at_call 73; refine (l91Set_any _ _ _ D4.out.r (by omega)).mono ?_; rintro e w5 ⟨A5, n5, c5, ys, rfl, o5, hn5, hrd5, hg5⟩; have D5 := hid (D4.out.pick hrd5 hg5); have HH := D5.out.c.hold hsm; obtain ⟨b', Aj, nj, cj, xj, tj, eb, hb1, hb2, hx, f0, f1, hfz, _, _, hset⟩ := HH; injection eb with eb; injection eb with eb; subst eb; have f2 := hfz (sn * 2); have E := hid (D5.out.to (g := b) (i := sn * 2) (.slice A5 n5 c5) hb1 (.inr rfl) (hset A5 n5 c5 ys (o5.less D4.out.gr.size) (fun g hg hA => by have h7 := (o5.lt g hg).1; have h8 := (D4.out.c.bA hA).2; omega)).out ⟨by have := D5.out.v.f5; omega, by rw [List.length_set]; have := D5.out.v.h6; omega, fun y hy => by rcases List.mem_or_eq_of_mem_set hy with hy | rfl <;> first | exact D5.out.v.fit.h2 _ hy | (have := o5.len; simp only; omega)⟩))
                (first | (refine hK.out _ _ ?_ (fun hH1 => ?_)) | (go_wp2_with fail; refine hK.out _ _ ?_ (fun hH1 => ?_)))
                · exact D5.out.g.cell_ (i := 1) (v := .slice (some ⟨b, 0, none⟩) m d) rfl
                clear hK K hH0
                (try simp only [Act.put, List.setIfInBounds_toArray, List.set_cons_zero, List.set_cons_succ])
                refine wpAnyH_take (i := 5) (oi := ⟨some 128, _, _, _, _, _⟩) (v := ?_) rfl (by kernel_rfl) (by kernel_rfl) (by kernel_rfl) (fun _ _ _ h => h) (Or.inl ⟨by rfl, ?_⟩) (by assumption) ?_
                rotate_left
                · (intro w hSw; (try dsimp only at hSw); go_simp; (try with_reducible rfl))
                (try simp only [Act.put, List.setIfInBounds_toArray, List.set_cons_zero, List.set_cons_succ])
                refine wpAnyH_take (i := 6) (oi := ⟨some 129, _, _, _, _, _⟩) (v := ?_) rfl (by kernel_rfl) (by kernel_rfl) (by kernel_rfl) (fun _ _ _ h => h) (Or.inl ⟨by rfl, ?_⟩) (by assumption) ?_
                rotate_left
                · (intro w hSw; (try dsimp only at hSw); go_simp; (try with_reducible rfl))
                (try simp only [Act.put, List.setIfInBounds_toArray, List.set_cons_zero, List.set_cons_succ])
                refine wpAnyH_ready (rs := [7]) (by kernel_rfl) (by simp) ?_
                refine AllReadyH.cons (o := ⟨none, _, _, _, _, _⟩) rfl (fun K hK => ?_) AllReadyH.nil
                go_simp
                (first | (refine hK.out _ _ ?_ (fun hH2 => ?_)) | (go_wp2_with fail; refine hK.out _ _ ?_ (fun hH2 => ?_)))
                · exact E.out.g.cell_ (i := 1) (v := .slice (some ⟨b, 0, none⟩) m d) rfl
                clear hK K hH1
                (try simp only [Act.put, List.setIfInBounds_toArray, List.set_cons_zero, List.set_cons_succ])
                refine wpAnyH_done (by kernel_rfl) ?_ _
                clear hH2
                obtain ⟨F, HQ⟩ := E.out.fin (M := M + 200) (by omega)
                have p0 := E.out.z.frozen 0
                have p1 := E.out.z.frozen 1
                have o0 := E.out.z.cell_ (i := 0) (v := .slice none 0 0) rfl
                have o1 := E.out.z.cell_ (i := 1) (v := .slice none 0 0) rfl
                have e0 := E.out.g.cell_ (i := 0) (v := .slice A 5 c) rfl
                have e1 := E.out.g.cell_ (i := 1) (v := .slice (some ⟨b, 0, none⟩) m d) rfl
                have r0 := F.out.cell_ (i := 0) (v := .slice A 5 c) rfl
                have r1 := F.out.cell_ (i := 1) (v := .slice (some ⟨b, 0, none⟩) m d) rfl
                go_wp2_with fail
                refine bodyPost_ret (v := crV A 5 c (some ⟨b, 0, none⟩) m d) (by simp [results, Try.results60, go_sem, r0, r1]) rfl HQ.out
            · have hb0 := D3.out.c.hold hsm
              obtain ⟨b, Ak, nk, ck, xs, t, rfl, _⟩ := hb0
              have D4 := hid (D3.out.st (Dr.st ⟨1, rfl⟩ : St w3 w3.drew))
              clear D3
              go_wp2_with fail
              refine wp_region_held_drew (S := (fun w' => w'.cell? ⟨G, 1, none⟩ = some (.slice (some ⟨b, 0, none⟩) m d))) (by kernel_rfl) ?_ (fun hH0 => ?_)
              · exact g1
              refine wpAnyH_take (i := 0) (oi := ⟨some 113, _, _, _, _, _⟩) (v := ?_) rfl (by kernel_rfl) (by kernel_rfl) (by kernel_rfl) (fun _ _ _ h => h) (Or.inl ⟨by rfl, ?_⟩) (by assumption) ?_
              rotate_left
              · (intro w hSw; (try dsimp only at hSw); go_simp; (try with_reducible rfl))
              (try simp only [Act.put, List.setIfInBounds_toArray, List.set_cons_zero, List.set_cons_succ])
              refine wpAnyH_take (i := 1) (oi := ⟨some 114, _, _, _, _, _⟩) (v := ?_) rfl (by kernel_rfl) (by kernel_rfl) (by kernel_rfl) (fun _ _ _ h => h) (Or.inl ⟨by rfl, ?_⟩) (by assumption) ?_
              rotate_left
              · (intro w hSw; (try dsimp only at hSw); go_simp; (try with_reducible rfl))
              (try simp only [Act.put, List.setIfInBounds_toArray, List.set_cons_zero, List.set_cons_succ])
              refine wpAnyH_take (i := 2) (oi := ⟨some 115, _, _, _, _, _⟩) (v := ?_) rfl (by kernel_rfl) (by kernel_rfl) (by kernel_rfl) (fun _ _ _ h => h) (Or.inl ⟨by rfl, ?_⟩) (by assumption) ?_
              rotate_left
              · (intro w hSw; (try dsimp only at hSw); go_simp; (try with_reducible rfl))
              (try simp only [Act.put, List.setIfInBounds_toArray, List.set_cons_zero, List.set_cons_succ])
              refine wpAnyH_take (i := 3) (oi := ⟨some 116, _, _, _, _, _⟩) (v := ?_) rfl (by kernel_rfl) (by kernel_rfl) (by kernel_rfl) (fun _ _ _ h => h) (Or.inl ⟨by rfl, ?_⟩) (by assumption) ?_
              rotate_left
              · (intro w hSw; (try dsimp only at hSw); go_simp; (try with_reducible rfl))
              (try simp only [Act.put, List.setIfInBounds_toArray, List.set_cons_zero, List.set_cons_succ])
              refine wpAnyH_ready (rs := [4]) (by kernel_rfl) (by simp) ?_
              refine AllReadyH.cons (o := ⟨some 117, _, _, _, _, _⟩) rfl (fun K hK => ?_) AllReadyH.nil
              go_simp
              (refine (pick_any _ _ _ _ D4.out.r (by omega) (by omega) (by omega)).mono ?_; rintro e w5 ⟨x5, rfl, hp5, hrd5, hg5⟩; have hp51 := hp5.1; have hp52 := hp5.2.1 (by omega); have q5 : IntKind.i64.wrap (x5 - 2) = x5 - 2 := IntWalk.i64_in _ (by omega); have D5 := hid (D4.out.pick hrd5 hg5); have HH := D5.out.c.hold hsm; obtain ⟨b', Aj, nj, cj, xj, tj, eb, hb1, hb2, hx, f0, f1, hfz, _, hset, _⟩ := HH; injection eb with eb; injection eb with eb; subst eb; have f2 := hfz (sn * 2 + 1); have E := hid (D5.out.to (g := b) (i := sn * 2 + 1) (.int .i64 (x5 - 2)) hb1 (.inr rfl) (hset (x5 - 2)).out ⟨by have := D5.out.v.f5; omega, by rw [List.length_set]; have := D5.out.v.h6; omega, fun y hy => by rcases List.mem_or_eq_of_mem_set hy with hy | rfl <;> first | exact D5.out.v.fit.h2 _ hy | exact (D5.out.v.fit.h2 (xj, tj) (List.mem_of_getElem? hx.out) : xj.length ≤ 1048576)⟩))
              (first | (refine hK.out _ _ ?_ (fun hH1 => ?_)) | (go_wp2_with fail; refine hK.out _ _ ?_ (fun hH1 => ?_)))
              · exact D5.out.g.cell_ (i := 1) (v := .slice (some ⟨b, 0, none⟩) m d) rfl
              clear hK K hH0
              (try simp only [Act.put, List.setIfInBounds_toArray, List.set_cons_zero, List.set_cons_succ])
              refine wpAnyH_take (i := 5) (oi := ⟨some 118, _, _, _, _, _⟩) (v := ?_) rfl (by kernel_rfl) (by kernel_rfl) (by kernel_rfl) (fun _ _ _ h => h) (Or.inl ⟨by rfl, ?_⟩) (by assumption) ?_
              rotate_left
              · (intro w hSw; (try dsimp only at hSw); go_simp; (try with_reducible rfl))
              (try simp only [Act.put, List.setIfInBounds_toArray, List.set_cons_zero, List.set_cons_succ])
              refine wpAnyH_take (i := 6) (oi := ⟨some 119, _, _, _, _, _⟩) (v := ?_) rfl (by kernel_rfl) (by kernel_rfl) (by kernel_rfl) (fun _ _ _ h => h) (Or.inl ⟨by rfl, ?_⟩) (by assumption) ?_
              rotate_left
              · (intro w hSw; (try dsimp only at hSw); go_simp; (try with_reducible rfl))
              (try simp only [Act.put, List.setIfInBounds_toArray, List.set_cons_zero, List.set_cons_succ])
              refine wpAnyH_take (i := 7) (oi := ⟨some 120, _, _, _, _, _⟩) (v := ?_) rfl (by kernel_rfl) (by kernel_rfl) (by kernel_rfl) (fun _ _ _ h => h) (Or.inl ⟨by rfl, ?_⟩) (by assumption) ?_
              rotate_left
              · (intro w hSw; (try dsimp only at hSw); go_simp; (try with_reducible rfl))
              (try simp only [Act.put, List.setIfInBounds_toArray, List.set_cons_zero, List.set_cons_succ])
              refine wpAnyH_ready (rs := [8]) (by kernel_rfl) (by simp) ?_
              refine AllReadyH.cons (o := ⟨none, _, _, _, _, _⟩) rfl (fun K hK => ?_) AllReadyH.nil
              go_simp
              (first | (refine hK.out _ _ ?_ (fun hH2 => ?_)) | (go_wp2_with fail; refine hK.out _ _ ?_ (fun hH2 => ?_)))
              · exact E.out.g.cell_ (i := 1) (v := .slice (some ⟨b, 0, none⟩) m d) rfl
              clear hK K hH1
              (try simp only [Act.put, List.setIfInBounds_toArray, List.set_cons_zero, List.set_cons_succ])
              refine wpAnyH_done (by kernel_rfl) ?_ _
              clear hH2
              obtain ⟨F, HQ⟩ := E.out.fin (M := M + 200) (by omega)
              have p0 := E.out.z.frozen 0
              have p1 := E.out.z.frozen 1
              have o0 := E.out.z.cell_ (i := 0) (v := .slice none 0 0) rfl
              have o1 := E.out.z.cell_ (i := 1) (v := .slice none 0 0) rfl
              have e0 := E.out.g.cell_ (i := 0) (v := .slice A 5 c) rfl
              have e1 := E.out.g.cell_ (i := 1) (v := .slice (some ⟨b, 0, none⟩) m d) rfl
              have r0 := F.out.cell_ (i := 0) (v := .slice A 5 c) rfl
              have r1 := F.out.cell_ (i := 1) (v := .slice (some ⟨b, 0, none⟩) m d) rfl
              go_wp2_with fail
              refine bodyPost_ret (v := crV A 5 c (some ⟨b, 0, none⟩) m d) (by simp [results, Try.results60, go_sem, r0, r1]) rfl HQ.out
          · have hb0 := D3.out.c.free (k := 0) (by omega)
            obtain ⟨b, x0, rfl, _⟩ := hb0
            have D4 := hid (D3.out.st (Dr.st ⟨1, rfl⟩ : St w3 w3.drew))
            clear D3
            go_wp2_with fail
            refine wp_region_held_drew (S := (fun w' => w'.cell? ⟨G, 0, none⟩ = some (.slice (some ⟨b, 0, none⟩) 5 c))) (by kernel_rfl) ?_ (fun hH0 => ?_)
            · exact g0
            refine wpAnyH_take (i := 0) (oi := ⟨some 103, _, _, _, _, _⟩) (v := ?_) rfl (by kernel_rfl) (by kernel_rfl) (by kernel_rfl) (fun _ _ _ h => h) (Or.inl ⟨by rfl, ?_⟩) (by assumption) ?_
            rotate_left
            · (intro w hSw; (try dsimp only at hSw); go_simp; (try with_reducible rfl))
            (try simp only [Act.put, List.setIfInBounds_toArray, List.set_cons_zero, List.set_cons_succ])
            refine wpAnyH_take (i := 1) (oi := ⟨some 104, _, _, _, _, _⟩) (v := ?_) rfl (by kernel_rfl) (by kernel_rfl) (by kernel_rfl) (fun _ _ _ h => h) (Or.inl ⟨by rfl, ?_⟩) (by assumption) ?_
            rotate_left
            · (intro w hSw; (try dsimp only at hSw); go_simp; (try with_reducible rfl))
            (try simp only [Act.put, List.setIfInBounds_toArray, List.set_cons_zero, List.set_cons_succ])
            refine wpAnyH_take (i := 2) (oi := ⟨some 105, _, _, _, _, _⟩) (v := ?_) rfl (by kernel_rfl) (by kernel_rfl) (by kernel_rfl) (fun _ _ _ h => h) (Or.inl ⟨by rfl, ?_⟩) (by assumption) ?_
            rotate_left
            · (intro w hSw; (try dsimp only at hSw); go_simp; (try with_reducible rfl))
            (try simp only [Act.put, List.setIfInBounds_toArray, List.set_cons_zero, List.set_cons_succ])
            refine wpAnyH_take (i := 4) (oi := ⟨some 107, _, _, _, _, _⟩) (v := ?_) rfl (by kernel_rfl) (by kernel_rfl) (by kernel_rfl) (fun _ _ _ h => h) (Or.inl ⟨by rfl, ?_⟩) (by assumption) ?_
            rotate_left
            · (intro w hSw; (try dsimp only at hSw); go_simp; (try with_reducible rfl))
            (try simp only [Act.put, List.setIfInBounds_toArray, List.set_cons_zero, List.set_cons_succ])
            refine wpAnyH_ready (rs := [3]) (by kernel_rfl) (by simp) ?_
            refine AllReadyH.cons (o := ⟨some 106, _, _, _, _, _⟩) rfl (fun K hK => ?_) AllReadyH.nil
            go_simp
            (refine (pick_any _ _ _ _ D4.out.r (by omega) (by omega) (by omega)).mono ?_; rintro e w5 ⟨xi, rfl, hpi, hrdi, hgi⟩; have hpi1 := hpi.1; have hpi2 := hpi.2.1 (by omega); obtain ⟨xn, rfl⟩ := Int.eq_ofNat_of_zero_le hpi1; have D5 := hid (D4.out.pick hrdi hgi))
            (first | (refine hK.out _ _ ?_ (fun hH1 => ?_)) | (go_wp2_with fail; refine hK.out _ _ ?_ (fun hH1 => ?_)))
            · exact D5.out.g.cell_ (i := 0) (v := .slice (some ⟨b, 0, none⟩) 5 c) rfl
            clear hK K hH0
            (try simp only [Act.put, List.setIfInBounds_toArray, List.set_cons_zero, List.set_cons_succ])
            refine wpAnyH_ready (rs := [5]) (by kernel_rfl) (by simp) ?_
            refine AllReadyH.cons (o := ⟨some 108, _, _, _, _, _⟩) rfl (fun K hK => ?_) AllReadyH.nil
            go_simp
            (refine (pick_any _ _ _ _ D5.out.r (by omega) (by omega) (by omega)).mono ?_; rintro e w6 ⟨xj, rfl, hpj, hrdj, hgj⟩; have hpj1 := hpj.1; have hpj2 := hpj.2.1 (by omega); have q5 : IntKind.i64.wrap (xj - 1) = xj - 1 := IntWalk.i64_in _ (by omega); have D6 := hid (D5.out.pick hrdj hgj); have HH := D6.out.c.free (k := xn) (by omega); obtain ⟨b', y, eb, hb1, hb2, hx, f0, f2, hset⟩ := HH; injection eb with eb; injection eb with eb; subst eb; have E := hid (D6.out.to (g := b) (i := xn) (.int .i64 (xj - 1)) hb1 (.inl rfl) (hset (xj - 1)).out ⟨by rw [List.length_set]; have := D6.out.v.f5; omega, by have := D6.out.v.h6; omega, fun y hy => D6.out.v.fit.h2 y hy⟩))
            (first | (refine hK.out _ _ ?_ (fun hH2 => ?_)) | (go_wp2_with fail; refine hK.out _ _ ?_ (fun hH2 => ?_)))
            · exact D6.out.g.cell_ (i := 0) (v := .slice (some ⟨b, 0, none⟩) 5 c) rfl
            clear hK K hH1
            (try simp only [Act.put, List.setIfInBounds_toArray, List.set_cons_zero, List.set_cons_succ])
            refine wpAnyH_take (i := 6) (oi := ⟨some 109, _, _, _, _, _⟩) (v := ?_) rfl (by kernel_rfl) (by kernel_rfl) (by kernel_rfl) (fun _ _ _ h => h) (Or.inl ⟨by rfl, ?_⟩) (by assumption) ?_
            rotate_left
            · (intro w hSw; (try dsimp only at hSw); go_simp; (try with_reducible rfl))
            (try simp only [Act.put, List.setIfInBounds_toArray, List.set_cons_zero, List.set_cons_succ])
            refine wpAnyH_take (i := 7) (oi := ⟨some 110, _, _, _, _, _⟩) (v := ?_) rfl (by kernel_rfl) (by kernel_rfl) (by kernel_rfl) (fun _ _ _ h => h) (Or.inl ⟨by rfl, ?_⟩) (by assumption) ?_
            rotate_left
            · (intro w hSw; (try dsimp only at hSw); go_simp; (try with_reducible rfl))
            (try simp only [Act.put, List.setIfInBounds_toArray, List.set_cons_zero, List.set_cons_succ])
            refine wpAnyH_ready (rs := [8]) (by kernel_rfl) (by simp) ?_
            refine AllReadyH.cons (o := ⟨none, _, _, _, _, _⟩) rfl (fun K hK => ?_) AllReadyH.nil
            go_simp
            (first | (refine hK.out _ _ ?_ (fun hH3 => ?_)) | (go_wp2_with fail; refine hK.out _ _ ?_ (fun hH3 => ?_)))
            · exact E.out.g.cell_ (i := 0) (v := .slice (some ⟨b, 0, none⟩) 5 c) rfl
            clear hK K hH2
            (try simp only [Act.put, List.setIfInBounds_toArray, List.set_cons_zero, List.set_cons_succ])
            refine wpAnyH_done (by kernel_rfl) ?_ _
            clear hH3
            obtain ⟨F, HQ⟩ := E.out.fin (M := M + 200) (by omega)
            have p0 := E.out.z.frozen 0
            have p1 := E.out.z.frozen 1
            have o0 := E.out.z.cell_ (i := 0) (v := .slice none 0 0) rfl
            have o1 := E.out.z.cell_ (i := 1) (v := .slice none 0 0) rfl
            have e0 := E.out.g.cell_ (i := 0) (v := .slice (some ⟨b, 0, none⟩) 5 c) rfl
            have e1 := E.out.g.cell_ (i := 1) (v := .slice B m d) rfl
            have r0 := F.out.cell_ (i := 0) (v := .slice (some ⟨b, 0, none⟩) 5 c) rfl
            have r1 := F.out.cell_ (i := 1) (v := .slice B m d) rfl
            go_wp2_with fail
            refine bodyPost_ret (v := crV (some ⟨b, 0, none⟩) 5 c B m d) (by simp [results, Try.results60, go_sem, r0, r1]) rfl HQ.out
end Go.Proofs.Ytggjfbakekfdhaa
