/- The reference on groups: the entry of a message, the delivered messages, the first pending one. -/
import Derived.Test.YtfepegellpegdaaGr6
namespace Go.Proofs.Ytfepegellpegdaa
open Go.RowKit Go.Sort
set_option maxRecDepth 100000 in
set_option maxHeartbeats 2000000 in
theorem l11Stamp_any (I K : Int) (A B : Option Addr) (n c m d : Nat) (ps ds : List Ent) (x : Int) (w : World) (h : SE w A n c ps) (h' : SE w B m d ds) :
    Calls Try.prog 52 #[grV I K A n c B m d, .int .i64 x] w fun e w' => e = .returned (stRes ((findE ps x).or (findE ds x))) ∧ St w w' := by
  have s0 := ((St.refl w).alloc (.cells (grC I K A n c B m d) 25)).alloc (.cells ez 31)
  have K0 := hid ((Blk.new w 25 (grC I K A n c B m d)).alloc (.cells ez 31))
  have B0 := hid (blk_second w (.cells (grC I K A n c B m d) 25) 31 ez)
  have H0 := hid (h.st s0)
  have H0' := hid (h'.st s0)
  have S0 := hid s0
  have hcm := h.cm
  have hnc := h.nc
  have hcm' := h'.cm
  have hnc' := h'.nc
  unfold maxLen at hcm hcm'
  clear s0 h h'
  go_enter Try.func52, Try.ntmps52
  go_wp2_with fail
  generalize (w.alloc (.cells _ 25)).alloc (.cells _ 31) = w0 at *
  have g0 := K0.out.cell_ (i := 0) (v := .int .i64 I) rfl
  have g1 := K0.out.cell_ (i := 1) (v := .int .i64 K) rfl
  have g2 := K0.out.cell_ (i := 2) (v := .slice A n c) rfl
  have g3 := K0.out.cell_ (i := 3) (v := .slice B m d) rfl
  refine (l11Find_any _ _ _ _ _ _ H0.out).mono ?_
  rintro e w1 ⟨rfl, s1⟩
  replace K0 := hid (K0.out.st s1)
  replace B0 := hid (B0.out.st s1)
  replace H0 := hid (H0.out.st s1)
  replace H0' := hid (H0'.out.st s1)
  replace g0 := s1.cell g0
  replace g1 := s1.cell g1
  replace g2 := s1.cell g2
  replace g3 := s1.cell g3
  have S1 := hid (S0.out.trans s1)
  clear s1 S0
  rcases idx_cases ps x with ⟨h1, h2, _⟩ | ⟨j, e, hj, he, hem, h1, h2⟩
  · rw [h1]
    have HN := hid h2
    clear h1 h2
    go_wp2_with fail
    refine (l11Find_any _ _ _ _ _ _ H0'.out).mono ?_
    rintro e w2 ⟨rfl, s2⟩
    replace K0 := hid (K0.out.st s2)
    replace B0 := hid (B0.out.st s2)
    replace H0' := hid (H0'.out.st s2)
    replace g0 := s2.cell g0
    replace g1 := s2.cell g1
    replace g2 := s2.cell g2
    replace g3 := s2.cell g3
    have S2 := hid (S1.out.trans s2)
    clear s2 S1 H0
    rcases idx_cases ds x with ⟨h1, h2, _⟩ | ⟨j, e, hj, he, hem, h1, h2⟩
    · rw [h1]
      have HF := hid (show (findE ps x).or (findE ds x) = none by rw [HN.out, h2]; rfl)
      have frr0 := B0.out.frozen 0
      have frr1 := B0.out.frozen 1
      have frr2 := B0.out.frozen 2
      have frr3 := B0.out.frozen 3
      have qrr0 := B0.out.cell_ (i := 0) (v := .int .i64 0) rfl
      have qrr1 := B0.out.cell_ (i := 1) (v := .int .i64 0) rfl
      have qrr2 := B0.out.cell_ (i := 2) (v := .int .i64 0) rfl
      have qrr3 := B0.out.cell_ (i := 3) (v := .bool false) rfl
      have Fr := ((((B0.out.set_ 0 (.int .i64 0)).set_ 1 (.int .i64 0)).set_ 2 (.int .i64 0)).set_ 3 (.bool false))
      have r0 := Fr.cell_ (i := 0) (v := .int .i64 0) rfl
      have r1 := Fr.cell_ (i := 1) (v := .int .i64 0) rfl
      have r2 := Fr.cell_ (i := 2) (v := .int .i64 0) rfl
      have r3 := Fr.cell_ (i := 3) (v := .bool false) rfl
      have S3 := hid ((((S2.out.setCell (p := ⟨w.heap.size + 1, 0, none⟩) (by first | (simp; done) | omega | (simp; omega)) (.int .i64 0)).setCell (p := ⟨w.heap.size + 1, 1, none⟩) (by first | (simp; done) | omega | (simp; omega)) (.int .i64 0)).setCell (p := ⟨w.heap.size + 1, 2, none⟩) (by first | (simp; done) | omega | (simp; omega)) (.int .i64 0)).setCell (p := ⟨w.heap.size + 1, 3, none⟩) (by first | (simp; done) | omega | (simp; omega)) (.bool false))
      clear Fr
      clear h1 h2
      go_wp2_with fail
      refine bodyPost_ret (v := .tuple #[.agg ez, .bool false]) (by simp [results, Try.results52, go_sem, r0, r1, r2, r3]) rfl ⟨stRes_none HF.out, S3.out⟩
    · rw [h1]
      rw [H0'.out.len] at hj
      obtain ⟨ad, m1, t1, g1', f1, rfl, hb1, hx, c0, c1, c2, c3⟩ := H0'.out.at_ hj
      have HF := hid (show (findE ps x).or (findE ds x) = some (m1, (t1, g1'), f1) by rw [HN.out, h2]; rw [← he, hx.out]; rfl)
      have hji : ¬ (j : Int) < 0 := by omega
      have hji1 : (0 : Int) ≤ (j : Int) := by omega
      have hji2 : (j : Int) < (m : Int) := by omega
      have frr0 := B0.out.frozen 0
      have frr1 := B0.out.frozen 1
      have frr2 := B0.out.frozen 2
      have frr3 := B0.out.frozen 3
      have qrr0 := B0.out.cell_ (i := 0) (v := .int .i64 0) rfl
      have qrr1 := B0.out.cell_ (i := 1) (v := .int .i64 0) rfl
      have qrr2 := B0.out.cell_ (i := 2) (v := .int .i64 0) rfl
      have qrr3 := B0.out.cell_ (i := 3) (v := .bool false) rfl
      have Fr := ((((B0.out.set_ 0 (.int .i64 m1)).set_ 1 (.int .i64 t1)).set_ 2 (.int .i64 g1')).set_ 3 (.bool f1))
      have r0 := Fr.cell_ (i := 0) (v := .int .i64 m1) rfl
      have r1 := Fr.cell_ (i := 1) (v := .int .i64 t1) rfl
      have r2 := Fr.cell_ (i := 2) (v := .int .i64 g1') rfl
      have r3 := Fr.cell_ (i := 3) (v := .bool f1) rfl
      have S3 := hid ((((S2.out.setCell (p := ⟨w.heap.size + 1, 0, none⟩) (by first | (simp; done) | omega | (simp; omega)) (.int .i64 m1)).setCell (p := ⟨w.heap.size + 1, 1, none⟩) (by first | (simp; done) | omega | (simp; omega)) (.int .i64 t1)).setCell (p := ⟨w.heap.size + 1, 2, none⟩) (by first | (simp; done) | omega | (simp; omega)) (.int .i64 g1')).setCell (p := ⟨w.heap.size + 1, 3, none⟩) (by first | (simp; done) | omega | (simp; omega)) (.bool f1))
      clear Fr
      clear h1 h2 he hem
      go_wp2_with fail
      refine bodyPost_ret (v := .tuple #[enV m1 t1 g1' f1, .bool true]) (by simp [results, Try.results52, go_sem, r0, r1, r2, r3]) rfl ⟨stRes_some HF.out, S3.out⟩
  · rw [h1]
    rw [H0.out.len] at hj
    obtain ⟨ad, m1, t1, g1', f1, rfl, hb1, hx, c0, c1, c2, c3⟩ := H0.out.at_ hj
    have HF := hid (show (findE ps x).or (findE ds x) = some (m1, (t1, g1'), f1) by rw [h2]; rw [← he, hx.out]; rfl)
    have hji : ¬ (j : Int) < 0 := by omega
    have hji1 : (0 : Int) ≤ (j : Int) := by omega
    have hji2 : (j : Int) < (n : Int) := by omega
    have frr0 := B0.out.frozen 0
    have frr1 := B0.out.frozen 1
    have frr2 := B0.out.frozen 2
    have frr3 := B0.out.frozen 3
    have qrr0 := B0.out.cell_ (i := 0) (v := .int .i64 0) rfl
    have qrr1 := B0.out.cell_ (i := 1) (v := .int .i64 0) rfl
    have qrr2 := B0.out.cell_ (i := 2) (v := .int .i64 0) rfl
    have qrr3 := B0.out.cell_ (i := 3) (v := .bool false) rfl
    have Fr := ((((B0.out.set_ 0 (.int .i64 m1)).set_ 1 (.int .i64 t1)).set_ 2 (.int .i64 g1')).set_ 3 (.bool f1))
    have r0 := Fr.cell_ (i := 0) (v := .int .i64 m1) rfl
    have r1 := Fr.cell_ (i := 1) (v := .int .i64 t1) rfl
    have r2 := Fr.cell_ (i := 2) (v := .int .i64 g1') rfl
    have r3 := Fr.cell_ (i := 3) (v := .bool f1) rfl
    have S3 := hid ((((S1.out.setCell (p := ⟨w.heap.size + 1, 0, none⟩) (by first | (simp; done) | omega | (simp; omega)) (.int .i64 m1)).setCell (p := ⟨w.heap.size + 1, 1, none⟩) (by first | (simp; done) | omega | (simp; omega)) (.int .i64 t1)).setCell (p := ⟨w.heap.size + 1, 2, none⟩) (by first | (simp; done) | omega | (simp; omega)) (.int .i64 g1')).setCell (p := ⟨w.heap.size + 1, 3, none⟩) (by first | (simp; done) | omega | (simp; omega)) (.bool f1))
    clear Fr
    clear h1 h2 he hem
    go_wp2_with fail
    refine bodyPost_ret (v := .tuple #[enV m1 t1 g1' f1, .bool true]) (by simp [results, Try.results52, go_sem, r0, r1, r2, r3]) rfl ⟨stRes_some HF.out, S3.out⟩
set_option maxRecDepth 100000 in
set_option maxHeartbeats 2000000 in
theorem specGroupStamp_any (I K : Int) (A B : Option Addr) (n c m d : Nat) (ps ds : List Ent) (x : Int) (w : World) (h : SE w A n c ps) (h' : SE w B m d ds) :
    Calls Try.prog 32 #[grV I K A n c B m d, .int .i64 x] w fun e w' => e = .returned (stRes (stampG ⟨I, K, ps, ds⟩ x)) ∧ St w w' := by
  have s0 := ((St.refl w).alloc (.cells (grC I K A n c B m d) 25)).alloc (.cells ez 31)
  have K0 := hid ((Blk.new w 25 (grC I K A n c B m d)).alloc (.cells ez 31))
  have B0 := hid (blk_second w (.cells (grC I K A n c B m d) 25) 31 ez)
  have H0 := hid (h.st s0)
  have H0' := hid (h'.st s0)
  have S0 := hid s0
  clear s0 h h'
  go_enter Try.func32, Try.ntmps32
  go_wp2_with fail
  generalize (w.alloc (.cells _ 25)).alloc (.cells _ 31) = w0 at *
  have g0 := K0.out.cell_ (i := 0) (v := .int .i64 I) rfl
  have g1 := K0.out.cell_ (i := 1) (v := .int .i64 K) rfl
  have g2 := K0.out.cell_ (i := 2) (v := .slice A n c) rfl
  have g3 := K0.out.cell_ (i := 3) (v := .slice B m d) rfl
  refine (specGroupValid_any _ _ _ _ _ _ _ _ _ _ _ H0.out H0'.out).mono ?_
  rintro e w1 ⟨rfl, s1⟩
  replace K0 := hid (K0.out.st s1)
  replace B0 := hid (B0.out.st s1)
  replace H0 := hid (H0.out.st s1)
  replace H0' := hid (H0'.out.st s1)
  replace g0 := s1.cell g0
  replace g1 := s1.cell g1
  replace g2 := s1.cell g2
  replace g3 := s1.cell g3
  have S1 := hid (S0.out.trans s1)
  clear s1 S0
  cases hv : grOk ⟨I, K, ps, ds⟩
  · have HB := hid (stampG_bad hv x)
    have frr0 := B0.out.frozen 0
    have frr1 := B0.out.frozen 1
    have frr2 := B0.out.frozen 2
    have frr3 := B0.out.frozen 3
    have qrr0 := B0.out.cell_ (i := 0) (v := .int .i64 0) rfl
    have qrr1 := B0.out.cell_ (i := 1) (v := .int .i64 0) rfl
    have qrr2 := B0.out.cell_ (i := 2) (v := .int .i64 0) rfl
    have qrr3 := B0.out.cell_ (i := 3) (v := .bool false) rfl
    have Fr := ((((B0.out.set_ 0 (.int .i64 0)).set_ 1 (.int .i64 0)).set_ 2 (.int .i64 0)).set_ 3 (.bool false))
    have r0 := Fr.cell_ (i := 0) (v := .int .i64 0) rfl
    have r1 := Fr.cell_ (i := 1) (v := .int .i64 0) rfl
    have r2 := Fr.cell_ (i := 2) (v := .int .i64 0) rfl
    have r3 := Fr.cell_ (i := 3) (v := .bool false) rfl
    have S2 := hid ((((S1.out.setCell (p := ⟨w.heap.size + 1, 0, none⟩) (by first | (simp; done) | omega | (simp; omega)) (.int .i64 0)).setCell (p := ⟨w.heap.size + 1, 1, none⟩) (by first | (simp; done) | omega | (simp; omega)) (.int .i64 0)).setCell (p := ⟨w.heap.size + 1, 2, none⟩) (by first | (simp; done) | omega | (simp; omega)) (.int .i64 0)).setCell (p := ⟨w.heap.size + 1, 3, none⟩) (by first | (simp; done) | omega | (simp; omega)) (.bool false))
    clear Fr
    go_wp2_with fail
    refine bodyPost_ret (v := .tuple #[.agg ez, .bool false]) (by simp [results, Try.results32, go_sem, r0, r1, r2, r3]) rfl ⟨stRes_none HB.out, S2.out⟩
  · have HV := hid (show stampG ⟨I, K, ps, ds⟩ x = (findE ps x).or (findE ds x) by unfold stampG; rw [hv]; rfl)
    clear hv
    go_wp2_with fail
    refine (l11Stamp_any _ _ _ _ _ _ _ _ _ _ _ _ H0.out H0'.out).mono ?_
    rintro e w2 ⟨rfl, s2⟩
    replace K0 := hid (K0.out.st s2)
    replace B0 := hid (B0.out.st s2)
    have S2 := hid (S1.out.trans s2)
    clear s2 S1
    rcases ho : (findE ps x).or (findE ds x) with _ | ⟨m1, ⟨t1, g1'⟩, f1⟩
    · have HF := hid (HV.out.trans ho)
      rw [show stRes none = .tuple #[.agg ez, .bool false] from rfl]
      have frr0 := B0.out.frozen 0
      have frr1 := B0.out.frozen 1
      have frr2 := B0.out.frozen 2
      have frr3 := B0.out.frozen 3
      have qrr0 := B0.out.cell_ (i := 0) (v := .int .i64 0) rfl
      have qrr1 := B0.out.cell_ (i := 1) (v := .int .i64 0) rfl
      have qrr2 := B0.out.cell_ (i := 2) (v := .int .i64 0) rfl
      have qrr3 := B0.out.cell_ (i := 3) (v := .bool false) rfl
      have Fr := ((((B0.out.set_ 0 (.int .i64 0)).set_ 1 (.int .i64 0)).set_ 2 (.int .i64 0)).set_ 3 (.bool false))
      have r0 := Fr.cell_ (i := 0) (v := .int .i64 0) rfl
      have r1 := Fr.cell_ (i := 1) (v := .int .i64 0) rfl
      have r2 := Fr.cell_ (i := 2) (v := .int .i64 0) rfl
      have r3 := Fr.cell_ (i := 3) (v := .bool false) rfl
      have S3 := hid ((((S2.out.setCell (p := ⟨w.heap.size + 1, 0, none⟩) (by first | (simp; done) | omega | (simp; omega)) (.int .i64 0)).setCell (p := ⟨w.heap.size + 1, 1, none⟩) (by first | (simp; done) | omega | (simp; omega)) (.int .i64 0)).setCell (p := ⟨w.heap.size + 1, 2, none⟩) (by first | (simp; done) | omega | (simp; omega)) (.int .i64 0)).setCell (p := ⟨w.heap.size + 1, 3, none⟩) (by first | (simp; done) | omega | (simp; omega)) (.bool false))
      clear Fr
      go_wp2_with fail
      refine bodyPost_ret (v := .tuple #[.agg ez, .bool false]) (by simp [results, Try.results32, go_sem, r0, r1, r2, r3]) rfl ⟨stRes_none HF.out, S3.out⟩
    · have HF := hid (HV.out.trans ho)
      rw [show stRes (some (m1, (t1, g1'), f1)) = .tuple #[enV m1 t1 g1' f1, .bool true] from rfl]
      have frr0 := B0.out.frozen 0
      have frr1 := B0.out.frozen 1
      have frr2 := B0.out.frozen 2
      have frr3 := B0.out.frozen 3
      have qrr0 := B0.out.cell_ (i := 0) (v := .int .i64 0) rfl
      have qrr1 := B0.out.cell_ (i := 1) (v := .int .i64 0) rfl
      have qrr2 := B0.out.cell_ (i := 2) (v := .int .i64 0) rfl
      have qrr3 := B0.out.cell_ (i := 3) (v := .bool false) rfl
      have Fr := ((((B0.out.set_ 0 (.int .i64 m1)).set_ 1 (.int .i64 t1)).set_ 2 (.int .i64 g1')).set_ 3 (.bool f1))
      have r0 := Fr.cell_ (i := 0) (v := .int .i64 m1) rfl
      have r1 := Fr.cell_ (i := 1) (v := .int .i64 t1) rfl
      have r2 := Fr.cell_ (i := 2) (v := .int .i64 g1') rfl
      have r3 := Fr.cell_ (i := 3) (v := .bool f1) rfl
      have S3 := hid ((((S2.out.setCell (p := ⟨w.heap.size + 1, 0, none⟩) (by first | (simp; done) | omega | (simp; omega)) (.int .i64 m1)).setCell (p := ⟨w.heap.size + 1, 1, none⟩) (by first | (simp; done) | omega | (simp; omega)) (.int .i64 t1)).setCell (p := ⟨w.heap.size + 1, 2, none⟩) (by first | (simp; done) | omega | (simp; omega)) (.int .i64 g1')).setCell (p := ⟨w.heap.size + 1, 3, none⟩) (by first | (simp; done) | omega | (simp; omega)) (.bool f1))
      clear Fr
      go_wp2_with fail
      refine bodyPost_ret (v := .tuple #[enV m1 t1 g1' f1, .bool true]) (by simp [results, Try.results32, go_sem, r0, r1, r2, r3]) rfl ⟨stRes_some HF.out, S3.out⟩
set_option maxRecDepth 100000 in
set_option maxHeartbeats 2000000 in
theorem l11Trace_any (A : Option Addr) (n c : Nat) (es : List Ent) (w : World) (h : SE w A n c es) (hn : n ≤ 1048576) :
    Calls Try.prog 47 #[.slice A n c] w (MadeI w (msgs es)) := by
  have HL := hid h.len
  have hnc := h.nc
  have hcm := h.cm
  unfold maxLen at hcm
  have O1 := hid (OI.lit (w := w) (e := 3))
  have T1 := hid ((St.refl w).alloc (.cells #[] 3))
  go_enter Try.func47, Try.ntmps47
  go_wp2_with fail
  generalize w.alloc (.cells #[] 3) = w2 at *
  go_loopw [4, 3] (fun i v wr => ∃ (k a : Nat) (X : Option Addr), k ≤ n ∧ i = .int .i64 (k : Int) ∧ v = .slice X k a ∧ Hid (OI wr w.heap.size 3 X k a ((msgs es).take k)) ∧ Hid (St w wr)) (fun i _ _ => n - (intOf i).toNat)
  case atStart => exact ⟨0, 0, _, Nat.zero_le _, rfl, rfl, O1, T1⟩
  case round =>
    obtain ⟨wa, rfl⟩ : ∃ wo : World, wo = wr := ⟨_, rfl⟩
    obtain ⟨k, a, X, hk, rfl, rfl, ho, hd⟩ := hrel
    have R := hid (h.st hd.out)
    by_cases hlt : k < n
    · obtain ⟨ad, m1, t1, g1', f1, rfl, hb1, hx, c0, c1, c2, c3⟩ := R.out.at_ hlt
      have HM := hid (msgs_at hx.out)
      have oa := ho.out
      have hle := hd.out.le
      have hki : (0 : Int) ≤ (k : Int) := by omega
      have hki2 : (k : Int) < (n : Int) := by omega
      go_wp2_with (at_builtin; refine wpList_append_int _ rfl _ _ 35 rfl w.heap.size 3 Try.underlying35 intInfo _ _ _ _ m1 rfl oa rfl (by omega) hle ?_; intro X2 a2 w3 ho3 hg3)
      have o3 : Hid (OI w3 w.heap.size 3 X2 (k + 1) a2 ((msgs es).take (k + 1))) := by rw [take_snoc HM.out]; exact ho3
      have S3 := hid (hd.out.grown hg3 (fun g hg => (oa.lt g hg).1))
      go_roundw
      case rel => exact ⟨k + 1, _, _, by omega, by go_num, rfl, o3, S3⟩
      case measure => simp [intOf]; omega
    · obtain rfl : k = n := by omega
      have HF := hid (show msgs es = (msgs es).take k by rw [List.take_of_length_le (by rw [msgs_len, HL.out]; omega)])
      go_wp2_with fail
      go_ret
      have e2 := ho.out.len
      refine ⟨X, a, ?_, ?_, hd.out⟩
      · rw [HF.out, e2]; rfl
      · rw [HF.out, e2]; exact ho.out
set_option maxRecDepth 100000 in
set_option maxHeartbeats 2000000 in
theorem specGroupTrace_any (I K : Int) (A B : Option Addr) (n c m d : Nat) (ps ds : List Ent) (w : World) (h : SE w A n c ps) (h' : SE w B m d ds) (hm : m ≤ 1048576) :
    Calls Try.prog 21 #[grV I K A n c B m d] w (MadeI w (traceG ⟨I, K, ps, ds⟩)) := by
  have s0 := (St.refl w).alloc (.cells (grC I K A n c B m d) 25)
  have K0 := hid (Blk.new w 25 (grC I K A n c B m d))
  have H0 := hid (h.st s0)
  have H0' := hid (h'.st s0)
  have S0 := hid s0
  clear s0 h h'
  go_enter Try.func21, Try.ntmps21
  go_wp2_with fail
  generalize w.alloc (.cells _ 25) = w0 at *
  have g0 := K0.out.cell_ (i := 0) (v := .int .i64 I) rfl
  have g1 := K0.out.cell_ (i := 1) (v := .int .i64 K) rfl
  have g2 := K0.out.cell_ (i := 2) (v := .slice A n c) rfl
  have g3 := K0.out.cell_ (i := 3) (v := .slice B m d) rfl
  refine (specGroupValid_any _ _ _ _ _ _ _ _ _ _ _ H0.out H0'.out).mono ?_
  rintro e w1 ⟨rfl, s1⟩
  replace K0 := hid (K0.out.st s1)
  replace H0' := hid (H0'.out.st s1)
  replace g0 := s1.cell g0
  replace g1 := s1.cell g1
  replace g2 := s1.cell g2
  replace g3 := s1.cell g3
  have S1 := hid (S0.out.trans s1)
  clear s1 S0 H0
  have z1 := S1.out.le
  cases hv : grOk ⟨I, K, ps, ds⟩
  · have HB := hid (show traceG ⟨I, K, ps, ds⟩ = [] by unfold traceG; rw [hv]; rfl)
    have O1 := hid (OI.lit (w := w1) (e := 3))
    have T1 := hid (S1.out.alloc (.cells #[] 3))
    go_wp2_with fail
    go_ret
    refine ⟨some ⟨w1.heap.size, 0, none⟩, 0, ?_, ?_, T1.out⟩
    · rw [HB.out]; rfl
    · rw [HB.out]; exact O1.out.less z1
  · have HV := hid (show traceG ⟨I, K, ps, ds⟩ = msgs ds by unfold traceG; rw [hv]; rfl)
    clear hv
    go_wp2_with fail
    refine (l11Trace_any _ _ _ _ _ H0'.out hm).mono ?_
    rintro e w2 ⟨X, a, rfl, o2, s2⟩
    go_wp2_with fail
    go_ret
    refine ⟨X, a, ?_, ?_, S1.out.trans s2⟩
    · rw [HV.out]; rfl
    · rw [HV.out]; exact o2.less z1
set_option maxRecDepth 100000 in
set_option maxHeartbeats 2000000 in
theorem specGroupBlocked_any (I K : Int) (A B : Option Addr) (n c m d : Nat) (ps ds : List Ent) (w : World) (h : SE w A n c ps) (h' : SE w B m d ds) :
    Calls Try.prog 17 #[grV I K A n c B m d] w fun e w' => e = .returned (.int .i64 (blockedG ⟨I, K, ps, ds⟩)) ∧ St w w' := by
  have s0 := (St.refl w).alloc (.cells (grC I K A n c B m d) 25)
  have K0 := hid (Blk.new w 25 (grC I K A n c B m d))
  have H0 := hid (h.st s0)
  have H0' := hid (h'.st s0)
  have S0 := hid s0
  have HL := hid h.len
  clear s0 h h'
  go_enter Try.func17, Try.ntmps17
  go_wp2_with fail
  generalize w.alloc (.cells _ 25) = w0 at *
  have g0 := K0.out.cell_ (i := 0) (v := .int .i64 I) rfl
  have g1 := K0.out.cell_ (i := 1) (v := .int .i64 K) rfl
  have g2 := K0.out.cell_ (i := 2) (v := .slice A n c) rfl
  have g3 := K0.out.cell_ (i := 3) (v := .slice B m d) rfl
  refine (specGroupValid_any _ _ _ _ _ _ _ _ _ _ _ H0.out H0'.out).mono ?_
  rintro e w1 ⟨rfl, s1⟩
  replace K0 := hid (K0.out.st s1)
  replace H0 := hid (H0.out.st s1)
  replace g0 := s1.cell g0
  replace g1 := s1.cell g1
  replace g2 := s1.cell g2
  replace g3 := s1.cell g3
  have S1 := hid (S0.out.trans s1)
  clear s1 S0 H0'
  cases hv : grOk ⟨I, K, ps, ds⟩
  · have HB := hid (show blockedG ⟨I, K, ps, ds⟩ = -1 by unfold blockedG; rw [hv]; rfl)
    go_wp2_with fail
    go_ret
    exact ⟨ret_int HB.out.symm, S1.out⟩
  · by_cases hn0 : n = 0
    · subst hn0
      have HB := hid (show blockedG ⟨I, K, ps, ds⟩ = -1 by rw [List.eq_nil_of_length_eq_zero HL.out]; unfold blockedG; split <;> rfl)
      clear hv
      go_wp2_with fail
      go_ret
      exact ⟨ret_int HB.out.symm, S1.out⟩
    · obtain ⟨ad, m1, t1, g1', f1, rfl, hb1, hx, c0, c1, c2, c3⟩ := H0.out.at_ (k := 0) (by omega)
      have HB := hid (blocked_at hv hx.out)
      rw [Nat.zero_mul, add_zero] at c0
      have hn1 : (0 : Int) < (n : Int) := by omega
      have hn2 : ¬ ((n : Int) = 0) := by omega
      clear hv
      go_wp2_with fail
      go_ret
      exact ⟨ret_int HB.out.symm, S1.out⟩
end Go.Proofs.Ytfepegellpegdaa
