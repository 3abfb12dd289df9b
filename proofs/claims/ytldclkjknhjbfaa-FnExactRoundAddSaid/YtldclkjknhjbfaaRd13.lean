/- impl.RoundAdd. -/
import Derived.Test.YtldclkjknhjbfaaRd12
namespace Go.Proofs.Ytldclkjknhjbfaa
open Go.RowKit Go.Sort
set_option maxRecDepth 100000 in
set_option maxHeartbeats 8000000 in
theorem RoundAdd_any (M : Int) (A B : Option Addr) (n c q d : Nat) (xs : List Int) (ss : List (Int × Int)) (t g : Int) (w : World) (h : SL w A n c xs) (h' : SS w B q d ss) (hn : n ≤ 1048576) (hq : q ≤ 1048576) :
    Calls Try.prog 37 #[rdV M A n c B q d, .agg #[.int .i64 t, .int .i64 g]] w (RAEnd M xs ss (t, g) w) := by
  have s0 := (((St.refl w).alloc (.cells #[.int .i64 M, .slice A n c, .slice B q d] 25)).alloc (.cells #[.int .i64 t, .int .i64 g] 45)).alloc (.cells #[.int .i64 0, .slice none 0 0, .slice none 0 0] 25)
  have K0 := hid (((Blk.new w 25 #[.int .i64 M, .slice A n c, .slice B q d]).alloc (.cells #[.int .i64 t, .int .i64 g] 45)).alloc (.cells #[.int .i64 0, .slice none 0 0, .slice none 0 0] 25))
  have K1 := hid ((blk_second w (.cells #[.int .i64 M, .slice A n c, .slice B q d] 25) 45 #[.int .i64 t, .int .i64 g]).alloc (.cells #[.int .i64 0, .slice none 0 0, .slice none 0 0] 25))
  have K2 := hid (blk_third w (.cells #[.int .i64 M, .slice A n c, .slice B q d] 25) (.cells #[.int .i64 t, .int .i64 g] 45) 25 #[.int .i64 0, .slice none 0 0, .slice none 0 0])
  have S0 := hid s0
  have I0 := hid (h.st s0)
  have J0 := hid (h'.st s0)
  have q0 := K0.out.cell_ (i := 0) (v := .int .i64 M) rfl
  have q1 := K0.out.cell_ (i := 1) (v := .slice A n c) rfl
  have q2 := K0.out.cell_ (i := 2) (v := .slice B q d) rfl
  have hxl := h.len
  have HXL := hid hxl
  clear s0 hxl
  go_enter Try.func37, Try.ntmps37
  go_wp2_with fail
  generalize ((w.alloc (.cells #[.int .i64 M, .slice A n c, .slice B q d] 25)).alloc (.cells #[.int .i64 t, .int .i64 g] 45)).alloc (.cells #[.int .i64 0, .slice none 0 0, .slice none 0 0] 25) = w0 at K0 K1 K2 S0 I0 J0 q0 q1 q2 ⊢
  refine (RoundValid_any M A B n c q d xs ss _ I0.out J0.out hn).mono ?_
  rintro e w1 ⟨rfl, s1⟩
  have L0 := hid (K0.out.below s1 K0.out.lt)
  have L1 := hid (K1.out.below s1 K1.out.lt)
  have L2 := hid (K2.out.below s1 K2.out.lt)
  have S1 := hid (S0.out.trans s1)
  have I1 := hid (I0.out.st s1)
  have J1 := hid (J0.out.st s1)
  clear q0 q1 q2 K0 K1 K2 S0 I0 J0 s1
  have y0 := L2.out.cell_ (i := 0) (v := .int .i64 0) rfl
  have y1 := L2.out.cell_ (i := 1) (v := .slice none 0 0) rfl
  have y2 := L2.out.cell_ (i := 2) (v := .slice none 0 0) rfl
  have x0 := L2.out.frozen 0
  have x1 := L2.out.frozen 1
  have x2 := L2.out.frozen 2
  have z0 := L1.out.cell_ (i := 0) (v := .int .i64 t) rfl
  have z1 := L1.out.cell_ (i := 1) (v := .int .i64 g) rfl
  cases hv : rdValid M xs ss
  · have HG := hid (show raGood M xs ss (t, g) = false by unfold raGood; rw [hv]; rfl)
    have HE := raFin (A := none) (n := 0) (c := 0) (B := none) (q := 0) (d := 0) (base := w.heap.size + 3) (xs := []) (ss := []) 0 L2.out (World.ownsRow_nil _ _ _ _) (OS.nil _ _) S1.out (by omega) (by omega) rfl
    have e0 := HE.out.1.cell_ (i := 0) (v := .int .i64 0) rfl
    have e1 := HE.out.1.cell_ (i := 1) (v := .slice none 0 0) rfl
    have e2 := HE.out.1.cell_ (i := 2) (v := .slice none 0 0) rfl
    clear hv
    go_wp2_with fail
    refine bodyPost_ret (v := .tuple #[.agg #[.int .i64 0, .slice none 0 0, .slice none 0 0], .bool false]) (by simp [results, Try.results37, go_sem, e0, e1, e2]) rfl (RAEnd.bad HG.out HE.out.2.2.2)
  go_wp2_with fail
  refine (StampValid_any _ _ _).mono ?_
  rintro e w2 ⟨rfl, s2⟩
  have N0 := hid (L0.out.below s2 L0.out.lt)
  have N1 := hid (L1.out.below s2 L1.out.lt)
  have N2 := hid (L2.out.below s2 L2.out.lt)
  have S2 := hid (S1.out.trans s2)
  have I2 := hid (I1.out.st s2)
  have J2 := hid (J1.out.st s2)
  clear y0 y1 y2 x0 x1 x2 z0 z1 L0 L1 L2 S1 I1 J1 s2
  cases hs : stOk (t, g)
  · have HG := hid (show raGood M xs ss (t, g) = false by unfold raGood; rw [hs, Bool.and_false])
    have y0 := N2.out.cell_ (i := 0) (v := .int .i64 0) rfl
    have y1 := N2.out.cell_ (i := 1) (v := .slice none 0 0) rfl
    have y2 := N2.out.cell_ (i := 2) (v := .slice none 0 0) rfl
    have x0 := N2.out.frozen 0
    have x1 := N2.out.frozen 1
    have x2 := N2.out.frozen 2
    have HE := raFin (A := none) (n := 0) (c := 0) (B := none) (q := 0) (d := 0) (base := w.heap.size + 3) (xs := []) (ss := []) 0 N2.out (World.ownsRow_nil _ _ _ _) (OS.nil _ _) S2.out (by omega) (by omega) rfl
    have e0 := HE.out.1.cell_ (i := 0) (v := .int .i64 0) rfl
    have e1 := HE.out.1.cell_ (i := 1) (v := .slice none 0 0) rfl
    have e2 := HE.out.1.cell_ (i := 2) (v := .slice none 0 0) rfl
    clear hv hs
    go_wp2_with fail
    refine bodyPost_ret (v := .tuple #[.agg #[.int .i64 0, .slice none 0 0, .slice none 0 0], .bool false]) (by simp [results, Try.results37, go_sem, e0, e1, e2]) rfl (RAEnd.bad HG.out HE.out.2.2.2)
  have HG := hid (show raGood M xs ss (t, g) = true by unfold raGood; rw [hv, hs]; rfl)
  have q0 := N0.out.cell_ (i := 0) (v := .int .i64 M) rfl
  have q1 := N0.out.cell_ (i := 1) (v := .slice A n c) rfl
  have q2 := N0.out.cell_ (i := 2) (v := .slice B q d) rfl
  have HW := hid (addGot_way (s := (t, g)) hv)
  clear hs hv
  go_wp2_with fail
  refine (copyRound_any M A B n c q d xs ss w2 I2.out J2.out hn hq).mono ?_
  rintro e w3 ⟨A5, c5, B6, d6, rfl, o5, p5, s3⟩
  have hb : w.heap.size + 3 ≤ w2.heap.size := N2.out.lt
  have hb3 : w2.heap.size ≤ w3.heap.size := s3.size
  have a3 := s3.alloc (.cells #[.int .i64 M, .slice A5 xs.length c5, .slice B6 ss.length d6] 25)
  have a33 := (St.refl w3).alloc (.cells #[.int .i64 M, .slice A5 xs.length c5, .slice B6 ss.length d6] 25)
  have X4 := hid (show AR w (w3.alloc (.cells #[.int .i64 M, .slice A5 xs.length c5, .slice B6 ss.length d6] 25)) w3.heap.size #[.int .i64 M, .slice A5 xs.length c5, .slice B6 ss.length d6] M A n c B q d t g A5 xs.length c5 xs B6 ss.length d6 ss from
    ⟨N0.out.below a3 N0.out.lt, N1.out.below a3 N1.out.lt, N2.out.below a3 N2.out.lt, Blk.new _ _ _, own_below (OI.less o5 hb) a33, (p5.less hb).st a33, S2.out.trans a3, by omega⟩)
  clear q0 q1 q2 o5 p5 s3 a3 a33 N0 N1 N2 S2 I2 J2
  have q0 := X4.out.k0.cell_ (i := 0) (v := .int .i64 M) rfl
  have q1 := X4.out.k0.cell_ (i := 1) (v := .slice A n c) rfl
  have q2 := X4.out.k0.cell_ (i := 2) (v := .slice B q d) rfl
  go_wp2_with fail
  generalize w3.alloc (.cells #[.int .i64 M, .slice A5 xs.length c5, .slice B6 ss.length d6] 25) = w4 at X4 q0 q1 q2 ⊢
  generalize hbo : w3.heap.size = bo at X4 ⊢
  clear hbo hb3 hb
  refine (roundOf_any M A B n c q d _).mono ?_
  rintro e w5 ⟨rfl, s5⟩
  have a5 := s5.alloc (.cells #[.slice A n c, .slice B q d] 70)
  have X6 := hid (X4.out.st a5)
  have C6 := hid (Blk.new w5 70 #[.slice A n c, .slice B q d])
  clear q0 q1 q2 s5 a5 X4
  have z1 := X6.out.k1.cell_ (i := 1) (v := .int .i64 g) rfl
  have d0 := C6.out.cell_ (i := 0) (v := .slice A n c) rfl
  go_wp2_with fail
  generalize w5.alloc (.cells #[.slice A n c, .slice B q d] 70) = w6 at X6 C6 z1 d0 ⊢
  refine (hasSet_any _ _ _ _ _ _ _ (h.st X6.out.s).ri (by omega)).mono ?_
  rintro e w7 ⟨rfl, rfl⟩
  have d1 := C6.out.cell_ (i := 1) (v := .slice B q d) rfl
  cases hh : has xs g
  · have HO := hid (show addOk xs ss g = false by rw [HW.out.1, hh]; rfl)
    have HR := hid (show ∀ A c B d W, OI W w.heap.size 3 A xs.length c xs → OS W w.heap.size B ss.length d ss → St w W → RAEnd M xs ss (t, g) w (.returned (.tuple #[.agg #[.int .i64 M, .slice A xs.length c, .slice B ss.length d], .bool false])) W from fun A c B d W o p s => by
      have hg2 : addGot xs ss (t, g) = ss := by unfold addGot; rw [HO.out]; rfl
      have := RAEnd.good (A := A) (B := B) (c := c) (d := d) HG.out HO.out o (by rw [hg2]; exact p) s
      rw [hg2] at this
      exact this)
    clear hh
    have b0 := X6.out.ko.cell_ (i := 0) (v := .int .i64 M) rfl
    have b1 := X6.out.ko.cell_ (i := 1) (v := .slice A5 xs.length c5) rfl
    have b2 := X6.out.ko.cell_ (i := 2) (v := .slice B6 ss.length d6) rfl
    have y0 := X6.out.k2.cell_ (i := 0) (v := .int .i64 0) rfl
    have y1 := X6.out.k2.cell_ (i := 1) (v := .slice none 0 0) rfl
    have y2 := X6.out.k2.cell_ (i := 2) (v := .slice none 0 0) rfl
    have x0 := X6.out.k2.frozen 0
    have x1 := X6.out.k2.frozen 1
    have x2 := X6.out.k2.frozen 2
    have HE := raFin M X6.out.k2 X6.out.oa X6.out.ob X6.out.s (by omega) (by omega) rfl
    have e0 := HE.out.1.cell_ (i := 0) (v := .int .i64 M) rfl
    have e1 := HE.out.1.cell_ (i := 1) (v := .slice A5 xs.length c5) rfl
    have e2 := HE.out.1.cell_ (i := 2) (v := .slice B6 ss.length d6) rfl
    have hbo := X6.out.lt
    have hbn : bo ≠ w.heap.size + 2 := by omega
    go_wp2_with fail
    refine bodyPost_ret (v := .tuple #[.agg #[.int .i64 M, .slice A5 xs.length c5, .slice B6 ss.length d6], .bool false]) (by simp [results, Try.results37, go_sem, e0, e1, e2]) rfl (HR.out _ _ _ _ _ HE.out.2.1 HE.out.2.2.1 HE.out.2.2.2)
  go_wp2_with fail
  refine (answered_any A B n c q d ss g _ (h'.st X6.out.s)).mono ?_
  rintro e w8 ⟨rfl, s8⟩
  have X8 := hid (X6.out.st s8)
  clear X6 C6 z1 d0 d1 s8
  cases ha : answered ss g
  rotate_left
  · have HO := hid (show addOk xs ss g = false by rw [HW.out.1, hh, ha]; rfl)
    have HR := hid (show ∀ A c B d W, OI W w.heap.size 3 A xs.length c xs → OS W w.heap.size B ss.length d ss → St w W → RAEnd M xs ss (t, g) w (.returned (.tuple #[.agg #[.int .i64 M, .slice A xs.length c, .slice B ss.length d], .bool false])) W from fun A c B d W o p s => by
      have hg2 : addGot xs ss (t, g) = ss := by unfold addGot; rw [HO.out]; rfl
      have := RAEnd.good (A := A) (B := B) (c := c) (d := d) HG.out HO.out o (by rw [hg2]; exact p) s
      rw [hg2] at this
      exact this)
    clear hh ha
    have b0 := X8.out.ko.cell_ (i := 0) (v := .int .i64 M) rfl
    have b1 := X8.out.ko.cell_ (i := 1) (v := .slice A5 xs.length c5) rfl
    have b2 := X8.out.ko.cell_ (i := 2) (v := .slice B6 ss.length d6) rfl
    have y0 := X8.out.k2.cell_ (i := 0) (v := .int .i64 0) rfl
    have y1 := X8.out.k2.cell_ (i := 1) (v := .slice none 0 0) rfl
    have y2 := X8.out.k2.cell_ (i := 2) (v := .slice none 0 0) rfl
    have x0 := X8.out.k2.frozen 0
    have x1 := X8.out.k2.frozen 1
    have x2 := X8.out.k2.frozen 2
    have HE := raFin M X8.out.k2 X8.out.oa X8.out.ob X8.out.s (by omega) (by omega) rfl
    have e0 := HE.out.1.cell_ (i := 0) (v := .int .i64 M) rfl
    have e1 := HE.out.1.cell_ (i := 1) (v := .slice A5 xs.length c5) rfl
    have e2 := HE.out.1.cell_ (i := 2) (v := .slice B6 ss.length d6) rfl
    have hbo := X8.out.lt
    have hbn : bo ≠ w.heap.size + 2 := by omega
    go_wp2_with fail
    refine bodyPost_ret (v := .tuple #[.agg #[.int .i64 M, .slice A5 xs.length c5, .slice B6 ss.length d6], .bool false]) (by simp [results, Try.results37, go_sem, e0, e1, e2]) rfl (HR.out _ _ _ _ _ HE.out.2.1 HE.out.2.2.1 HE.out.2.2.2)
  have HO := hid (show addOk xs ss g = true by rw [HW.out.1, hh, ha]; rfl)
  have HGT := hid (HW.out.2 HO.out)
  have HL' := hid h'.len
  have hqd := h'.nc
  have hbo := X8.out.lt
  have c2 := X8.out.ko.cell_ (i := 2) (v := .slice B6 ss.length d6) rfl
  have f2 := X8.out.ko.frozen 2
  have X9 := hid (X8.out.none_.set 2 (.slice none 0 0))
  have q2' := X9.out.k0.cell_ (i := 2) (v := .slice B q d) rfl
  clear hh ha HW X8
  go_wp2_with fail
  generalize w8.setCell ⟨bo, 2, none⟩ (.slice none 0 0) = w9 at X9 q2' ⊢
  go_loopw [40] (fun i wr => ∃ (k m a : Nat) (X : Option Addr), k ≤ q ∧ i = .int .i64 (k : Int) ∧ m ≤ k ∧ Hid (AR w wr bo #[.int .i64 M, .slice A5 xs.length c5, .slice X m a] M A n c B q d t g A5 xs.length c5 xs X m a ((ss.take k).filter fun x => decide (x.2 < g)))) (fun i _ => q - (intOf i).toNat)
  case atStart => exact ⟨0, 0, 0, none, Nat.zero_le _, rfl, Nat.le_refl _, X9⟩
  case round =>
    obtain ⟨k, m, a, X, hk, rfl, hm, hx⟩ := hrel
    clear c2 f2 q2'
    by_cases hlt : k < q
    · obtain ⟨ad, t', g', rfl, hb1, hc1, hc2, hxx⟩ := (h'.st hx.out.s).at_ hlt
      have hki : (0 : Int) ≤ (k : Int) := by omega
      have hki2 : (k : Int) < (q : Int) := by omega
      have HN := hid (filter_take (p := fun x => decide (x.2 < g)) hxx.out)
      have X1 := hid (hx.out.st ((St.refl _).alloc (.cells #[.int .i64 t', .int .i64 g'] 45)))
      have E1 := hid (Blk.new wr 45 #[.int .i64 t', .int .i64 g'])
      have z1 := X1.out.k1.cell_ (i := 1) (v := .int .i64 g) rfl
      have e0 := E1.out.cell_ (i := 0) (v := .int .i64 t') rfl
      have e1 := E1.out.cell_ (i := 1) (v := .int .i64 g') rfl
      by_cases hgg : g' < g
      · have HN2 := hid (show ((ss.take (k + 1)).filter fun x => decide (x.2 < g)) = ((ss.take k).filter fun x => decide (x.2 < g)) ++ [(t', g')] by rw [HN.out, if_pos (by simpa using hgg)])
        have X2 := hid (X1.out.st ((St.refl _).alloc (.cells #[.int .i64 t', .int .i64 g'] 45)))
        have c2 := X1.out.ko.cell_ (i := 2) (v := .slice X m a) rfl
        have R2 := hid (show Reads ((wr.alloc (.cells #[.int .i64 t', .int .i64 g'] 45)).alloc (.cells #[.int .i64 t', .int .i64 g'] 45)) (wr.heap.size + 1 + 1) 2 (some ⟨wr.heap.size + 1, 0, none⟩) 1 (stampCells [(t', g')]) by have := Reads.one (wr.alloc (.cells #[.int .i64 t', .int .i64 g'] 45)) 45 #[.int .i64 t', .int .i64 g'] 2 rfl; rw [World.heap_alloc_size'] at this; exact this)
        have HB2 := hid X2.out.s.size
        have HB3 := hid (show w.heap.size + 3 ≤ ((wr.alloc (.cells #[.int .i64 t', .int .i64 g'] 45)).alloc (.cells #[.int .i64 t', .int .i64 g'] 45)).heap.size by have := X2.out.ko.lt; have := X2.out.lt; omega)
        have HM := hid (show m + 1 ≤ 1099511627776 by omega)
        have HM2 := hid (show (m + 1) * 16 ≤ 140737488355328 by omega)
        have HS2 := hid (show (Value.agg #[.int .i64 0, .int .i64 0]).cells.size = 2 from rfl)
        have hbo := X1.out.lt
        go_wp2_with (at_builtin; refine wpList_append_rows _ rfl _ _ 23 rfl (w.heap.size + 3) 45 2 16 (.agg #[.int .i64 0, .int .i64 0]) Try.underlying23 stampInfo rfl (by omega) X m a (stampCells ((ss.take k).filter fun x => decide (x.2 < g))) rfl X2.out.ob.2 _ (some ⟨wr.heap.size + 1, 0, none⟩) 1 1 (stampCells [(t', g')]) rfl R2.out (stampCells_one _) HM.out HM2.out HB3.out ?_; intro X5 a5 w5 ho5 hg5; rw [← stampCells_append, ← HN2.out] at ho5; have X6 := hid (X2.out.grow hg5 ⟨by rw [HN2.out, List.length_append, X2.out.ob.1]; rfl, ho5⟩); have c6 := X6.out.ko.cell_ (i := 2) (v := .slice X m a) rfl; have f6 := X6.out.ko.frozen 2)
        have X7 := hid (X6.out.set 2 (.slice X5 (m + 1) a5))
        go_roundw
        case rel => exact ⟨k + 1, m + 1, a5, X5, by omega, by go_num, by omega, X7⟩
        case measure => simp [intOf]; omega
      · have HN2 := hid (show ((ss.take (k + 1)).filter fun x => decide (x.2 < g)) = (ss.take k).filter fun x => decide (x.2 < g) by rw [HN.out, if_neg (by simpa using hgg), List.append_nil])
        have X2 := X1.out
        rw [← HN2.out] at X2
        go_wp2_with fail
        go_roundw
        case rel => exact ⟨k + 1, m, a, X, by omega, by go_num, by omega, hid X2⟩
        case measure => simp [intOf]; omega
    · obtain rfl : k = q := by omega
      have hfl := hid (show ((ss.take k).filter fun x => decide (x.2 < g)) = ss.filter fun x => decide (x.2 < g) by rw [List.take_of_length_le (by rw [HL'.out]; omega)])
      rw [hfl.out] at hx
      obtain ⟨ps, hps⟩ : ∃ ps, (ss.filter fun x => decide (x.2 < g)) = ps := ⟨_, rfl⟩
      rw [hps] at hx HGT
      have HPL := hid hx.out.ob.1
      have X1 := hid (hx.out.st ((St.refl _).alloc (.cells #[.int .i64 t, .int .i64 g] 45)))
      have c2 := hx.out.ko.cell_ (i := 2) (v := .slice X m a) rfl
      have z0 := hx.out.k1.cell_ (i := 0) (v := .int .i64 t) rfl
      have z1 := hx.out.k1.cell_ (i := 1) (v := .int .i64 g) rfl
      have R2 := hid (Reads.one wr 45 #[.int .i64 t, .int .i64 g] 2 rfl)
      have HB3 := hid (show w.heap.size + 3 ≤ (wr.alloc (.cells #[.int .i64 t, .int .i64 g] 45)).heap.size by have := X1.out.ko.lt; have := X1.out.lt; omega)
      have HM := hid (show m + 1 ≤ 1099511627776 by omega)
      have HM2 := hid (show (m + 1) * 16 ≤ 140737488355328 by omega)
      clear hfl hps
      go_wp2_with (at_builtin; refine wpList_append_rows _ rfl _ _ 23 rfl (w.heap.size + 3) 45 2 16 (.agg #[.int .i64 0, .int .i64 0]) Try.underlying23 stampInfo rfl (by omega) X m a (stampCells ps) rfl X1.out.ob.2 _ (some ⟨wr.heap.size, 0, none⟩) 1 1 (stampCells [(t, g)]) rfl R2.out (stampCells_one _) HM.out HM2.out HB3.out ?_; intro X5 a5 w5 ho5 hg5; rw [← stampCells_append] at ho5; have X6 := hid (X1.out.grow hg5 ⟨by rw [List.length_append, X1.out.ob.1]; rfl, ho5⟩); have c6 := X6.out.ko.cell_ (i := 2) (v := .slice X m a) rfl; have f6 := X6.out.ko.frozen 2)
      have X7 := hid (X6.out.set 2 (.slice X5 (m + 1) a5))
      clear c2 z0 z1 R2 c6 f6 X6 X1 hg5 ho5
      generalize w5.setCell ⟨bo, 2, none⟩ (.slice X5 (m + 1) a5) = w6 at X7 ⊢
      have X8 := hid (X7.out.st (Dr.st ⟨1, rfl⟩ : St w6 w6.drew))
      have hmk : m ≤ k := hm
      have hrd := (h'.st X8.out.s).reads
      obtain ⟨XC, hrun, hcut⟩ := cut_stamps hrd (c := d) m hmk hqd
      rw [stampCells_drop] at hcut
      have RX := hid hcut
      have u2 : w6.drew.cell? ⟨bo, 2, none⟩ = some (.slice X5 (m + 1) a5) := X8.out.ko.cell_ (i := 2) (v := .slice X5 (m + 1) a5) rfl
      have v2 : w6.drew.cell? ⟨w.heap.size, 2, none⟩ = some (.slice B k d) := X8.out.k0.cell_ (i := 2) (v := .slice B k d) rfl
      have HS2 := hid (show (Value.agg #[.int .i64 0, .int .i64 0]).cells.size = 2 from rfl)
      have HS3 := hid (show 0 < 2 by omega)
      have G3 := hid (show m + 1 + (k - m) ≤ 1099511627776 by omega)
      have G4 := hid (show (m + 1 + (k - m)) * 16 ≤ 140737488355328 by omega)
      have HB4 := hid (show w.heap.size + 3 ≤ w6.drew.heap.size by have := X8.out.ko.lt; have := X8.out.lt; omega)
      have HDL := hid (show (ss.drop m).length = k - m by rw [List.length_drop, HL'.out])
      have hw1 : IntKind.i64.wrap (((m + 1 : Nat) : Int) - 1) = (m : Int) := by rw [IntKind.wrap_i64] <;> omega
      have hw2 : IntKind.i64.wrap ((m : Int) + 1 - 1) = (m : Int) := by rw [IntKind.wrap_i64] <;> omega
      have hw3 : IntKind.i64.wrap (m : Int) = (m : Int) := by rw [IntKind.wrap_i64] <;> omega
      have HR := hid (show ∀ A c B d W, OI W w.heap.size 3 A xs.length c xs → OS W w.heap.size B (m + 1 + (k - m)) d (ps ++ [(t, g)] ++ ss.drop m) → St w W → RAEnd M xs ss (t, g) w (.returned (.tuple #[.agg #[.int .i64 M, .slice A xs.length c, .slice B (m + 1 + (k - m)) d], .bool true])) W from fun A c B d W o p s => by
        have hg2 : addGot xs ss (t, g) = ps ++ [(t, g)] ++ ss.drop m := by rw [HGT.out, HPL.out]
        have hl2 : (addGot xs ss (t, g)).length = m + 1 + (k - m) := by rw [hg2]; exact p.1
        have := RAEnd.good (A := A) (B := B) (c := c) (d := d) HG.out HO.out o (by rw [hg2]; rw [hg2] at hl2; rw [hl2]; exact p) s
        rw [hl2] at this
        exact this)
      clear hx
      go_wp2_with fail
      refine wp_region_any (by kernel_rfl) ?_
      (try (change wpAny _ _ _ _ _ _ _ (World.drew _)))
      refine wpAny_take (i := 0) (v := ?_) rfl (by kernel_rfl) (by kernel_rfl) (by kernel_rfl) (fun _ _ _ h => h) (Or.inl ⟨by rfl, ?_⟩) ?_
      rotate_left
      · (intro wq; go_simp; (try with_reducible rfl))
      refine wpAny_take (i := 2) (v := ?_) rfl (by kernel_rfl) (by kernel_rfl) (by kernel_rfl) (fun _ _ _ h => h) (Or.inl ⟨by rfl, ?_⟩) ?_
      rotate_left
      · (intro wq; go_simp; (try with_reducible rfl))
      refine wpAny_take (i := 4) (v := ?_) rfl (by kernel_rfl) (by kernel_rfl) (by kernel_rfl) (fun _ _ _ h => h) (Or.inl ⟨by rfl, ?_⟩) ?_
      rotate_left
      · (intro wq; go_simp; (try with_reducible rfl))
      refine wpAny_ready (rs := [1, 3, 5]) (by kernel_rfl) (by simp) ?_
      refine AllReady.cons rfl (fun K hK => ?_) ?_
      · go_simp
        (first | (refine hK _ _ ?_; clear hK K) | skip)
        refine wpAny_ready (rs := [3, 5]) (by kernel_rfl) (by simp) ?_
        refine AllReady.cons rfl (fun K hK => ?_) ?_
        · go_simp
          (first | (refine hK _ _ ?_; clear hK K) | skip)
          refine wpAny_ready (rs := [5]) (by kernel_rfl) (by simp) ?_
          refine AllReady.cons rfl (fun K hK => ?_) ?_
          · go_simp
            (first | (refine hK _ _ ?_; clear hK K) | skip)
            refine wpAny_take (i := 6) (v := ?_) rfl (by kernel_rfl) (by kernel_rfl) (by kernel_rfl) (fun _ _ _ h => h) (Or.inl ⟨by rfl, ?_⟩) ?_
            rotate_left
            · (intro wq; go_simp; (try with_reducible rfl))
            refine wpAny_take (i := 7) (v := ?_) rfl (by kernel_rfl) (by kernel_rfl) (by kernel_rfl) (fun _ _ _ h => h) (Or.inl ⟨by rfl, ?_⟩) ?_
            rotate_left
            · (intro wq; go_simp; (try with_reducible rfl))
            refine wpAny_take (i := 8) (v := ?_) rfl (by kernel_rfl) (by kernel_rfl) (by kernel_rfl) (fun _ _ _ h => h) (Or.inl ⟨by rfl, ?_⟩) ?_
            rotate_left
            · (intro wq; go_simp; (try with_reducible rfl))
            refine wpAny_ready (rs := [9]) (by kernel_rfl) (by simp) ?_
            refine AllReady.cons rfl (fun K hK => ?_) ?_
            · (refine step_append_rows w6.drew (by rfl) (.tmp 63) (.tmp 70) 23 (by rfl) (w.heap.size + 3) 45 2 16 (.agg #[.int .i64 0, .int .i64 0]) Try.underlying23 stampInfo HS2.out HS3.out X5 (m + 1) a5 (stampCells (ps ++ [(t, g)])) (by rfl) X8.out.ob.2 _ XC (k - m) (d - m) (stampCells (ss.drop m)) (by rfl) RX.out (stampCells_one _) G3.out G4.out HB4.out ?_; intro X9 a9 w9 ho9 hg9; rw [← stampCells_append] at ho9; have Y9 := hid (X8.out.grow hg9 ⟨by rw [List.length_append, X8.out.ob.1, HDL.out], ho9⟩); have t2 := Y9.out.ko.cell_ (i := 2) (v := .slice X5 (m + 1) a5) rfl; have h2 := Y9.out.ko.frozen 2; clear ho9 hg9)
              (first | (refine hK _ _ ?_; clear hK K) | skip)
              refine wpAny_take (i := 10) (v := ?_) rfl (by kernel_rfl) (by kernel_rfl) (by kernel_rfl) (fun _ _ _ h => h) (Or.inl ⟨by rfl, ?_⟩) ?_
              rotate_left
              · (intro wq; go_simp; (try with_reducible rfl))
              refine wpAny_ready (rs := [11]) (by kernel_rfl) (by simp) ?_
              refine AllReady.cons rfl (fun K hK => ?_) ?_
              · go_simp
                (first | (refine hK _ _ ?_; clear hK K) | skip)
                refine wpAny_done (by kernel_rfl) ?_ _
                have Y10 := hid (Y9.out.set 2 (.slice X9 (m + 1 + (k - m)) a9))
                have b0 := Y10.out.ko.cell_ (i := 0) (v := .int .i64 M) rfl
                have b1 := Y10.out.ko.cell_ (i := 1) (v := .slice A5 xs.length c5) rfl
                have b2 := Y10.out.ko.cell_ (i := 2) (v := .slice X9 (m + 1 + (k - m)) a9) rfl
                have y0 := Y10.out.k2.cell_ (i := 0) (v := .int .i64 0) rfl
                have y1 := Y10.out.k2.cell_ (i := 1) (v := .slice none 0 0) rfl
                have y2 := Y10.out.k2.cell_ (i := 2) (v := .slice none 0 0) rfl
                have x0 := Y10.out.k2.frozen 0
                have x1 := Y10.out.k2.frozen 1
                have x2 := Y10.out.k2.frozen 2
                have HE := raFin M Y10.out.k2 Y10.out.oa Y10.out.ob Y10.out.s (by omega) (by omega) rfl
                have e0 := HE.out.1.cell_ (i := 0) (v := .int .i64 M) rfl
                have e1 := HE.out.1.cell_ (i := 1) (v := .slice A5 xs.length c5) rfl
                have e2 := HE.out.1.cell_ (i := 2) (v := .slice X9 (m + 1 + (k - m)) a9) rfl
                have hbo := Y10.out.lt
                have hbn : bo ≠ w.heap.size + 2 := by omega
                go_wp2_with fail
                refine bodyPost_ret (v := .tuple #[.agg #[.int .i64 M, .slice A5 xs.length c5, .slice X9 (m + 1 + (k - m)) a9], .bool true]) (by simp [results, Try.results37, go_sem, e0, e1, e2]) rfl (HR.out _ _ _ _ _ HE.out.2.1 HE.out.2.2.1 HE.out.2.2.2)
              exact AllReady.nil
            exact AllReady.nil
          exact AllReady.nil
        refine AllReady.cons rfl (fun K hK => ?_) ?_
        · go_simp
          (first | (refine hK _ _ ?_; clear hK K) | skip)
          refine wpAny_take (i := 6) (v := ?_) rfl (by kernel_rfl) (by kernel_rfl) (by kernel_rfl) (fun _ _ _ h => h) (Or.inl ⟨by rfl, ?_⟩) ?_
          rotate_left
          · (intro wq; go_simp; (try with_reducible rfl))
          refine wpAny_take (i := 7) (v := ?_) rfl (by kernel_rfl) (by kernel_rfl) (by kernel_rfl) (fun _ _ _ h => h) (Or.inl ⟨by rfl, ?_⟩) ?_
          rotate_left
          · (intro wq; go_simp; (try with_reducible rfl))
          refine wpAny_ready (rs := [3]) (by kernel_rfl) (by simp) ?_
          refine AllReady.cons rfl (fun K hK => ?_) ?_
          · go_simp
            (first | (refine hK _ _ ?_; clear hK K) | skip)
            refine wpAny_take (i := 8) (v := ?_) rfl (by kernel_rfl) (by kernel_rfl) (by kernel_rfl) (fun _ _ _ h => h) (Or.inl ⟨by rfl, ?_⟩) ?_
            rotate_left
            · (intro wq; go_simp; (try with_reducible rfl))
            refine wpAny_ready (rs := [9]) (by kernel_rfl) (by simp) ?_
            refine AllReady.cons rfl (fun K hK => ?_) ?_
            · (refine step_append_rows w6.drew (by rfl) (.tmp 63) (.tmp 70) 23 (by rfl) (w.heap.size + 3) 45 2 16 (.agg #[.int .i64 0, .int .i64 0]) Try.underlying23 stampInfo HS2.out HS3.out X5 (m + 1) a5 (stampCells (ps ++ [(t, g)])) (by rfl) X8.out.ob.2 _ XC (k - m) (d - m) (stampCells (ss.drop m)) (by rfl) RX.out (stampCells_one _) G3.out G4.out HB4.out ?_; intro X9 a9 w9 ho9 hg9; rw [← stampCells_append] at ho9; have Y9 := hid (X8.out.grow hg9 ⟨by rw [List.length_append, X8.out.ob.1, HDL.out], ho9⟩); have t2 := Y9.out.ko.cell_ (i := 2) (v := .slice X5 (m + 1) a5) rfl; have h2 := Y9.out.ko.frozen 2; clear ho9 hg9)
              (first | (refine hK _ _ ?_; clear hK K) | skip)
              refine wpAny_take (i := 10) (v := ?_) rfl (by kernel_rfl) (by kernel_rfl) (by kernel_rfl) (fun _ _ _ h => h) (Or.inl ⟨by rfl, ?_⟩) ?_
              rotate_left
              · (intro wq; go_simp; (try with_reducible rfl))
              refine wpAny_ready (rs := [11]) (by kernel_rfl) (by simp) ?_
              refine AllReady.cons rfl (fun K hK => ?_) ?_
              · go_simp
                (first | (refine hK _ _ ?_; clear hK K) | skip)
                refine wpAny_done (by kernel_rfl) ?_ _
                have Y10 := hid (Y9.out.set 2 (.slice X9 (m + 1 + (k - m)) a9))
                have b0 := Y10.out.ko.cell_ (i := 0) (v := .int .i64 M) rfl
                have b1 := Y10.out.ko.cell_ (i := 1) (v := .slice A5 xs.length c5) rfl
                have b2 := Y10.out.ko.cell_ (i := 2) (v := .slice X9 (m + 1 + (k - m)) a9) rfl
                have y0 := Y10.out.k2.cell_ (i := 0) (v := .int .i64 0) rfl
                have y1 := Y10.out.k2.cell_ (i := 1) (v := .slice none 0 0) rfl
                have y2 := Y10.out.k2.cell_ (i := 2) (v := .slice none 0 0) rfl
                have x0 := Y10.out.k2.frozen 0
                have x1 := Y10.out.k2.frozen 1
                have x2 := Y10.out.k2.frozen 2
                have HE := raFin M Y10.out.k2 Y10.out.oa Y10.out.ob Y10.out.s (by omega) (by omega) rfl
                have e0 := HE.out.1.cell_ (i := 0) (v := .int .i64 M) rfl
                have e1 := HE.out.1.cell_ (i := 1) (v := .slice A5 xs.length c5) rfl
                have e2 := HE.out.1.cell_ (i := 2) (v := .slice X9 (m + 1 + (k - m)) a9) rfl
                have hbo := Y10.out.lt
                have hbn : bo ≠ w.heap.size + 2 := by omega
                go_wp2_with fail
                refine bodyPost_ret (v := .tuple #[.agg #[.int .i64 M, .slice A5 xs.length c5, .slice X9 (m + 1 + (k - m)) a9], .bool true]) (by simp [results, Try.results37, go_sem, e0, e1, e2]) rfl (HR.out _ _ _ _ _ HE.out.2.1 HE.out.2.2.1 HE.out.2.2.2)
              exact AllReady.nil
            exact AllReady.nil
          exact AllReady.nil
        exact AllReady.nil
      refine AllReady.cons rfl (fun K hK => ?_) ?_
      · go_simp
        (first | (refine hK _ _ ?_; clear hK K) | skip)
        refine wpAny_ready (rs := [1, 5]) (by kernel_rfl) (by simp) ?_
        refine AllReady.cons rfl (fun K hK => ?_) ?_
        · go_simp
          (first | (refine hK _ _ ?_; clear hK K) | skip)
          refine wpAny_ready (rs := [5]) (by kernel_rfl) (by simp) ?_
          refine AllReady.cons rfl (fun K hK => ?_) ?_
          · go_simp
            (first | (refine hK _ _ ?_; clear hK K) | skip)
            refine wpAny_take (i := 6) (v := ?_) rfl (by kernel_rfl) (by kernel_rfl) (by kernel_rfl) (fun _ _ _ h => h) (Or.inl ⟨by rfl, ?_⟩) ?_
            rotate_left
            · (intro wq; go_simp; (try with_reducible rfl))
            refine wpAny_take (i := 7) (v := ?_) rfl (by kernel_rfl) (by kernel_rfl) (by kernel_rfl) (fun _ _ _ h => h) (Or.inl ⟨by rfl, ?_⟩) ?_
            rotate_left
            · (intro wq; go_simp; (try with_reducible rfl))
            refine wpAny_take (i := 8) (v := ?_) rfl (by kernel_rfl) (by kernel_rfl) (by kernel_rfl) (fun _ _ _ h => h) (Or.inl ⟨by rfl, ?_⟩) ?_
            rotate_left
            · (intro wq; go_simp; (try with_reducible rfl))
            refine wpAny_ready (rs := [9]) (by kernel_rfl) (by simp) ?_
            refine AllReady.cons rfl (fun K hK => ?_) ?_
            · (refine step_append_rows w6.drew (by rfl) (.tmp 63) (.tmp 70) 23 (by rfl) (w.heap.size + 3) 45 2 16 (.agg #[.int .i64 0, .int .i64 0]) Try.underlying23 stampInfo HS2.out HS3.out X5 (m + 1) a5 (stampCells (ps ++ [(t, g)])) (by rfl) X8.out.ob.2 _ XC (k - m) (d - m) (stampCells (ss.drop m)) (by rfl) RX.out (stampCells_one _) G3.out G4.out HB4.out ?_; intro X9 a9 w9 ho9 hg9; rw [← stampCells_append] at ho9; have Y9 := hid (X8.out.grow hg9 ⟨by rw [List.length_append, X8.out.ob.1, HDL.out], ho9⟩); have t2 := Y9.out.ko.cell_ (i := 2) (v := .slice X5 (m + 1) a5) rfl; have h2 := Y9.out.ko.frozen 2; clear ho9 hg9)
              (first | (refine hK _ _ ?_; clear hK K) | skip)
              refine wpAny_take (i := 10) (v := ?_) rfl (by kernel_rfl) (by kernel_rfl) (by kernel_rfl) (fun _ _ _ h => h) (Or.inl ⟨by rfl, ?_⟩) ?_
              rotate_left
              · (intro wq; go_simp; (try with_reducible rfl))
              refine wpAny_ready (rs := [11]) (by kernel_rfl) (by simp) ?_
              refine AllReady.cons rfl (fun K hK => ?_) ?_
              · go_simp
                (first | (refine hK _ _ ?_; clear hK K) | skip)
                refine wpAny_done (by kernel_rfl) ?_ _
                have Y10 := hid (Y9.out.set 2 (.slice X9 (m + 1 + (k - m)) a9))
                have b0 := Y10.out.ko.cell_ (i := 0) (v := .int .i64 M) rfl
                have b1 := Y10.out.ko.cell_ (i := 1) (v := .slice A5 xs.length c5) rfl
                have b2 := Y10.out.ko.cell_ (i := 2) (v := .slice X9 (m + 1 + (k - m)) a9) rfl
                have y0 := Y10.out.k2.cell_ (i := 0) (v := .int .i64 0) rfl
                have y1 := Y10.out.k2.cell_ (i := 1) (v := .slice none 0 0) rfl
                have y2 := Y10.out.k2.cell_ (i := 2) (v := .slice none 0 0) rfl
                have x0 := Y10.out.k2.frozen 0
                have x1 := Y10.out.k2.frozen 1
                have x2 := Y10.out.k2.frozen 2
                have HE := raFin M Y10.out.k2 Y10.out.oa Y10.out.ob Y10.out.s (by omega) (by omega) rfl
                have e0 := HE.out.1.cell_ (i := 0) (v := .int .i64 M) rfl
                have e1 := HE.out.1.cell_ (i := 1) (v := .slice A5 xs.length c5) rfl
                have e2 := HE.out.1.cell_ (i := 2) (v := .slice X9 (m + 1 + (k - m)) a9) rfl
                have hbo := Y10.out.lt
                have hbn : bo ≠ w.heap.size + 2 := by omega
                go_wp2_with fail
                refine bodyPost_ret (v := .tuple #[.agg #[.int .i64 M, .slice A5 xs.length c5, .slice X9 (m + 1 + (k - m)) a9], .bool true]) (by simp [results, Try.results37, go_sem, e0, e1, e2]) rfl (HR.out _ _ _ _ _ HE.out.2.1 HE.out.2.2.1 HE.out.2.2.2)
              exact AllReady.nil
            exact AllReady.nil
          exact AllReady.nil
        refine AllReady.cons rfl (fun K hK => ?_) ?_
        · go_simp
          (first | (refine hK _ _ ?_; clear hK K) | skip)
          refine wpAny_take (i := 6) (v := ?_) rfl (by kernel_rfl) (by kernel_rfl) (by kernel_rfl) (fun _ _ _ h => h) (Or.inl ⟨by rfl, ?_⟩) ?_
          rotate_left
          · (intro wq; go_simp; (try with_reducible rfl))
          refine wpAny_take (i := 7) (v := ?_) rfl (by kernel_rfl) (by kernel_rfl) (by kernel_rfl) (fun _ _ _ h => h) (Or.inl ⟨by rfl, ?_⟩) ?_
          rotate_left
          · (intro wq; go_simp; (try with_reducible rfl))
          refine wpAny_take (i := 8) (v := ?_) rfl (by kernel_rfl) (by kernel_rfl) (by kernel_rfl) (fun _ _ _ h => h) (Or.inl ⟨by rfl, ?_⟩) ?_
          rotate_left
          · (intro wq; go_simp; (try with_reducible rfl))
          refine wpAny_ready (rs := [1]) (by kernel_rfl) (by simp) ?_
          refine AllReady.cons rfl (fun K hK => ?_) ?_
          · go_simp
            (first | (refine hK _ _ ?_; clear hK K) | skip)
            refine wpAny_ready (rs := [9]) (by kernel_rfl) (by simp) ?_
            refine AllReady.cons rfl (fun K hK => ?_) ?_
            · (refine step_append_rows w6.drew (by rfl) (.tmp 63) (.tmp 70) 23 (by rfl) (w.heap.size + 3) 45 2 16 (.agg #[.int .i64 0, .int .i64 0]) Try.underlying23 stampInfo HS2.out HS3.out X5 (m + 1) a5 (stampCells (ps ++ [(t, g)])) (by rfl) X8.out.ob.2 _ XC (k - m) (d - m) (stampCells (ss.drop m)) (by rfl) RX.out (stampCells_one _) G3.out G4.out HB4.out ?_; intro X9 a9 w9 ho9 hg9; rw [← stampCells_append] at ho9; have Y9 := hid (X8.out.grow hg9 ⟨by rw [List.length_append, X8.out.ob.1, HDL.out], ho9⟩); have t2 := Y9.out.ko.cell_ (i := 2) (v := .slice X5 (m + 1) a5) rfl; have h2 := Y9.out.ko.frozen 2; clear ho9 hg9)
              (first | (refine hK _ _ ?_; clear hK K) | skip)
              refine wpAny_take (i := 10) (v := ?_) rfl (by kernel_rfl) (by kernel_rfl) (by kernel_rfl) (fun _ _ _ h => h) (Or.inl ⟨by rfl, ?_⟩) ?_
              rotate_left
              · (intro wq; go_simp; (try with_reducible rfl))
              refine wpAny_ready (rs := [11]) (by kernel_rfl) (by simp) ?_
              refine AllReady.cons rfl (fun K hK => ?_) ?_
              · go_simp
                (first | (refine hK _ _ ?_; clear hK K) | skip)
                refine wpAny_done (by kernel_rfl) ?_ _
                have Y10 := hid (Y9.out.set 2 (.slice X9 (m + 1 + (k - m)) a9))
                have b0 := Y10.out.ko.cell_ (i := 0) (v := .int .i64 M) rfl
                have b1 := Y10.out.ko.cell_ (i := 1) (v := .slice A5 xs.length c5) rfl
                have b2 := Y10.out.ko.cell_ (i := 2) (v := .slice X9 (m + 1 + (k - m)) a9) rfl
                have y0 := Y10.out.k2.cell_ (i := 0) (v := .int .i64 0) rfl
                have y1 := Y10.out.k2.cell_ (i := 1) (v := .slice none 0 0) rfl
                have y2 := Y10.out.k2.cell_ (i := 2) (v := .slice none 0 0) rfl
                have x0 := Y10.out.k2.frozen 0
                have x1 := Y10.out.k2.frozen 1
                have x2 := Y10.out.k2.frozen 2
                have HE := raFin M Y10.out.k2 Y10.out.oa Y10.out.ob Y10.out.s (by omega) (by omega) rfl
                have e0 := HE.out.1.cell_ (i := 0) (v := .int .i64 M) rfl
                have e1 := HE.out.1.cell_ (i := 1) (v := .slice A5 xs.length c5) rfl
                have e2 := HE.out.1.cell_ (i := 2) (v := .slice X9 (m + 1 + (k - m)) a9) rfl
                have hbo := Y10.out.lt
                have hbn : bo ≠ w.heap.size + 2 := by omega
                go_wp2_with fail
                refine bodyPost_ret (v := .tuple #[.agg #[.int .i64 M, .slice A5 xs.length c5, .slice X9 (m + 1 + (k - m)) a9], .bool true]) (by simp [results, Try.results37, go_sem, e0, e1, e2]) rfl (HR.out _ _ _ _ _ HE.out.2.1 HE.out.2.2.1 HE.out.2.2.2)
              exact AllReady.nil
            exact AllReady.nil
          exact AllReady.nil
        exact AllReady.nil
      refine AllReady.cons rfl (fun K hK => ?_) ?_
      · go_simp
        (first | (refine hK _ _ ?_; clear hK K) | skip)
        refine wpAny_take (i := 6) (v := ?_) rfl (by kernel_rfl) (by kernel_rfl) (by kernel_rfl) (fun _ _ _ h => h) (Or.inl ⟨by rfl, ?_⟩) ?_
        rotate_left
        · (intro wq; go_simp; (try with_reducible rfl))
        refine wpAny_take (i := 7) (v := ?_) rfl (by kernel_rfl) (by kernel_rfl) (by kernel_rfl) (fun _ _ _ h => h) (Or.inl ⟨by rfl, ?_⟩) ?_
        rotate_left
        · (intro wq; go_simp; (try with_reducible rfl))
        refine wpAny_ready (rs := [1, 3]) (by kernel_rfl) (by simp) ?_
        refine AllReady.cons rfl (fun K hK => ?_) ?_
        · go_simp
          (first | (refine hK _ _ ?_; clear hK K) | skip)
          refine wpAny_ready (rs := [3]) (by kernel_rfl) (by simp) ?_
          refine AllReady.cons rfl (fun K hK => ?_) ?_
          · go_simp
            (first | (refine hK _ _ ?_; clear hK K) | skip)
            refine wpAny_take (i := 8) (v := ?_) rfl (by kernel_rfl) (by kernel_rfl) (by kernel_rfl) (fun _ _ _ h => h) (Or.inl ⟨by rfl, ?_⟩) ?_
            rotate_left
            · (intro wq; go_simp; (try with_reducible rfl))
            refine wpAny_ready (rs := [9]) (by kernel_rfl) (by simp) ?_
            refine AllReady.cons rfl (fun K hK => ?_) ?_
            · (refine step_append_rows w6.drew (by rfl) (.tmp 63) (.tmp 70) 23 (by rfl) (w.heap.size + 3) 45 2 16 (.agg #[.int .i64 0, .int .i64 0]) Try.underlying23 stampInfo HS2.out HS3.out X5 (m + 1) a5 (stampCells (ps ++ [(t, g)])) (by rfl) X8.out.ob.2 _ XC (k - m) (d - m) (stampCells (ss.drop m)) (by rfl) RX.out (stampCells_one _) G3.out G4.out HB4.out ?_; intro X9 a9 w9 ho9 hg9; rw [← stampCells_append] at ho9; have Y9 := hid (X8.out.grow hg9 ⟨by rw [List.length_append, X8.out.ob.1, HDL.out], ho9⟩); have t2 := Y9.out.ko.cell_ (i := 2) (v := .slice X5 (m + 1) a5) rfl; have h2 := Y9.out.ko.frozen 2; clear ho9 hg9)
              (first | (refine hK _ _ ?_; clear hK K) | skip)
              refine wpAny_take (i := 10) (v := ?_) rfl (by kernel_rfl) (by kernel_rfl) (by kernel_rfl) (fun _ _ _ h => h) (Or.inl ⟨by rfl, ?_⟩) ?_
              rotate_left
              · (intro wq; go_simp; (try with_reducible rfl))
              refine wpAny_ready (rs := [11]) (by kernel_rfl) (by simp) ?_
              refine AllReady.cons rfl (fun K hK => ?_) ?_
              · go_simp
                (first | (refine hK _ _ ?_; clear hK K) | skip)
                refine wpAny_done (by kernel_rfl) ?_ _
                have Y10 := hid (Y9.out.set 2 (.slice X9 (m + 1 + (k - m)) a9))
                have b0 := Y10.out.ko.cell_ (i := 0) (v := .int .i64 M) rfl
                have b1 := Y10.out.ko.cell_ (i := 1) (v := .slice A5 xs.length c5) rfl
                have b2 := Y10.out.ko.cell_ (i := 2) (v := .slice X9 (m + 1 + (k - m)) a9) rfl
                have y0 := Y10.out.k2.cell_ (i := 0) (v := .int .i64 0) rfl
                have y1 := Y10.out.k2.cell_ (i := 1) (v := .slice none 0 0) rfl
                have y2 := Y10.out.k2.cell_ (i := 2) (v := .slice none 0 0) rfl
                have x0 := Y10.out.k2.frozen 0
                have x1 := Y10.out.k2.frozen 1
                have x2 := Y10.out.k2.frozen 2
                have HE := raFin M Y10.out.k2 Y10.out.oa Y10.out.ob Y10.out.s (by omega) (by omega) rfl
                have e0 := HE.out.1.cell_ (i := 0) (v := .int .i64 M) rfl
                have e1 := HE.out.1.cell_ (i := 1) (v := .slice A5 xs.length c5) rfl
                have e2 := HE.out.1.cell_ (i := 2) (v := .slice X9 (m + 1 + (k - m)) a9) rfl
                have hbo := Y10.out.lt
                have hbn : bo ≠ w.heap.size + 2 := by omega
                go_wp2_with fail
                refine bodyPost_ret (v := .tuple #[.agg #[.int .i64 M, .slice A5 xs.length c5, .slice X9 (m + 1 + (k - m)) a9], .bool true]) (by simp [results, Try.results37, go_sem, e0, e1, e2]) rfl (HR.out _ _ _ _ _ HE.out.2.1 HE.out.2.2.1 HE.out.2.2.2)
              exact AllReady.nil
            exact AllReady.nil
          exact AllReady.nil
        refine AllReady.cons rfl (fun K hK => ?_) ?_
        · go_simp
          (first | (refine hK _ _ ?_; clear hK K) | skip)
          refine wpAny_take (i := 8) (v := ?_) rfl (by kernel_rfl) (by kernel_rfl) (by kernel_rfl) (fun _ _ _ h => h) (Or.inl ⟨by rfl, ?_⟩) ?_
          rotate_left
          · (intro wq; go_simp; (try with_reducible rfl))
          refine wpAny_ready (rs := [1]) (by kernel_rfl) (by simp) ?_
          refine AllReady.cons rfl (fun K hK => ?_) ?_
          · go_simp
            (first | (refine hK _ _ ?_; clear hK K) | skip)
            refine wpAny_ready (rs := [9]) (by kernel_rfl) (by simp) ?_
            refine AllReady.cons rfl (fun K hK => ?_) ?_
            · (refine step_append_rows w6.drew (by rfl) (.tmp 63) (.tmp 70) 23 (by rfl) (w.heap.size + 3) 45 2 16 (.agg #[.int .i64 0, .int .i64 0]) Try.underlying23 stampInfo HS2.out HS3.out X5 (m + 1) a5 (stampCells (ps ++ [(t, g)])) (by rfl) X8.out.ob.2 _ XC (k - m) (d - m) (stampCells (ss.drop m)) (by rfl) RX.out (stampCells_one _) G3.out G4.out HB4.out ?_; intro X9 a9 w9 ho9 hg9; rw [← stampCells_append] at ho9; have Y9 := hid (X8.out.grow hg9 ⟨by rw [List.length_append, X8.out.ob.1, HDL.out], ho9⟩); have t2 := Y9.out.ko.cell_ (i := 2) (v := .slice X5 (m + 1) a5) rfl; have h2 := Y9.out.ko.frozen 2; clear ho9 hg9)
              (first | (refine hK _ _ ?_; clear hK K) | skip)
              refine wpAny_take (i := 10) (v := ?_) rfl (by kernel_rfl) (by kernel_rfl) (by kernel_rfl) (fun _ _ _ h => h) (Or.inl ⟨by rfl, ?_⟩) ?_
              rotate_left
              · (intro wq; go_simp; (try with_reducible rfl))
              refine wpAny_ready (rs := [11]) (by kernel_rfl) (by simp) ?_
              refine AllReady.cons rfl (fun K hK => ?_) ?_
              · go_simp
                (first | (refine hK _ _ ?_; clear hK K) | skip)
                refine wpAny_done (by kernel_rfl) ?_ _
                have Y10 := hid (Y9.out.set 2 (.slice X9 (m + 1 + (k - m)) a9))
                have b0 := Y10.out.ko.cell_ (i := 0) (v := .int .i64 M) rfl
                have b1 := Y10.out.ko.cell_ (i := 1) (v := .slice A5 xs.length c5) rfl
                have b2 := Y10.out.ko.cell_ (i := 2) (v := .slice X9 (m + 1 + (k - m)) a9) rfl
                have y0 := Y10.out.k2.cell_ (i := 0) (v := .int .i64 0) rfl
                have y1 := Y10.out.k2.cell_ (i := 1) (v := .slice none 0 0) rfl
                have y2 := Y10.out.k2.cell_ (i := 2) (v := .slice none 0 0) rfl
                have x0 := Y10.out.k2.frozen 0
                have x1 := Y10.out.k2.frozen 1
                have x2 := Y10.out.k2.frozen 2
                have HE := raFin M Y10.out.k2 Y10.out.oa Y10.out.ob Y10.out.s (by omega) (by omega) rfl
                have e0 := HE.out.1.cell_ (i := 0) (v := .int .i64 M) rfl
                have e1 := HE.out.1.cell_ (i := 1) (v := .slice A5 xs.length c5) rfl
                have e2 := HE.out.1.cell_ (i := 2) (v := .slice X9 (m + 1 + (k - m)) a9) rfl
                have hbo := Y10.out.lt
                have hbn : bo ≠ w.heap.size + 2 := by omega
                go_wp2_with fail
                refine bodyPost_ret (v := .tuple #[.agg #[.int .i64 M, .slice A5 xs.length c5, .slice X9 (m + 1 + (k - m)) a9], .bool true]) (by simp [results, Try.results37, go_sem, e0, e1, e2]) rfl (HR.out _ _ _ _ _ HE.out.2.1 HE.out.2.2.1 HE.out.2.2.2)
              exact AllReady.nil
            exact AllReady.nil
          exact AllReady.nil
        exact AllReady.nil
      exact AllReady.nil
end Go.Proofs.Ytldclkjknhjbfaa
