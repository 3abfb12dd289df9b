/- The reference: GroupFinal. -/
import Derived.Test.YtkhgemgmnchodaaGr12
import Derived.Test.YtkhgemgmnchodaaGr6
namespace Go.Proofs.Ytkhgemgmnchodaa
open Go.RowKit Go.Sort
theorem setGr_alloc {W : World} {G n c m d : Nat} {I K : Int} {A B : Option Addr} {o : Obj} (h : G < W.heap.size) : setGr (W.alloc o) G I K A n c B m d = (setGr W G I K A n c B m d).alloc o := by
  unfold setGr
  rw [World.setCell_alloc_past _ _ _ _ h, World.setCell_alloc_past _ _ _ _ (by simpa [World.setCell] using h), World.setCell_alloc_past _ _ _ _ (by simpa [World.setCell] using h), World.setCell_alloc_past _ _ _ _ (by simpa [World.setCell] using h)]
set_option maxRecDepth 100000 in
set_option maxHeartbeats 2000000 in
theorem specGroupFinal_any (I K : Int) (A B : Option Addr) (n c m d : Nat) (ps ds : List Ent) (x st sg : Int) (w : World) (h : SE w A n c ps) (h' : SE w B m d ds) (hn : n ≤ 1048576) (hm : m ≤ 1048576) :
    Calls Try.prog 16 #[grV I K A n c B m d, .int .i64 x, .agg #[.int .i64 st, .int .i64 sg]] w (FnEnd (finM ⟨I, K, ps, ds⟩ x (st, sg)) w) := by
  have HL := hid h.len
  have HL' := hid h'.len
  have s0 := (((St.refl w).alloc (.cells (grC I K A n c B m d) 25)).alloc (.cells #[.int .i64 st, .int .i64 sg] 32)).alloc (.cells (grC 0 0 none 0 0 none 0 0) 25)
  have K0 := hid (((Blk.new w 25 (grC I K A n c B m d)).alloc (.cells #[.int .i64 st, .int .i64 sg] 32)).alloc (.cells (grC 0 0 none 0 0 none 0 0) 25))
  have T0 := hid ((blk_second w (.cells (grC I K A n c B m d) 25) 32 #[.int .i64 st, .int .i64 sg]).alloc (.cells (grC 0 0 none 0 0 none 0 0) 25))
  have L0 := hid (blk_third w (.cells (grC I K A n c B m d) 25) (.cells #[.int .i64 st, .int .i64 sg] 32) 25 (grC 0 0 none 0 0 none 0 0))
  have H0 := hid (h.st s0)
  have H0' := hid (h'.st s0)
  have S0 := hid s0
  clear s0 h h'
  go_enter Try.func16, Try.ntmps16
  go_upto_region 1 with (fail)
  generalize ((w.alloc (.cells _ 25)).alloc (.cells _ 32)).alloc (.cells _ 25) = w0 at *
  have k0 := K0.out.cell_ (i := 0) (v := .int .i64 I) rfl
  have k1 := K0.out.cell_ (i := 1) (v := .int .i64 K) rfl
  have k2 := K0.out.cell_ (i := 2) (v := .slice A n c) rfl
  have k3 := K0.out.cell_ (i := 3) (v := .slice B m d) rfl
  have t0 := T0.out.cell_ (i := 0) (v := .int .i64 st) rfl
  have t1 := T0.out.cell_ (i := 1) (v := .int .i64 sg) rfl
  go_wp2_with fail
  refine (specGroupValid_any _ _ _ _ _ _ _ _ _ _ _ H0.out H0'.out).mono ?_
  rintro e w1 ⟨rfl, s1⟩
  replace K0 := hid (K0.out.st s1)
  replace L0 := hid (L0.out.st s1)
  replace T0 := hid (T0.out.st s1)
  replace H0 := hid (H0.out.st s1)
  replace H0' := hid (H0'.out.st s1)
  replace k0 := s1.cell k0
  replace k1 := s1.cell k1
  replace k2 := s1.cell k2
  replace k3 := s1.cell k3
  replace t0 := s1.cell t0
  replace t1 := s1.cell t1
  have S1 := hid (S0.out.trans s1)
  clear s1 S0
  cases hv : grOk ⟨I, K, ps, ds⟩
  · skip
    have HR := hid (finM_bad (g := ⟨I, K, ps, ds⟩) (m := x) (s := (st, sg)) (by rw [hv]; rfl))
    have hb : w.heap.size + 1 + 1 < w1.heap.size := L0.out.lt
    have OL := hid (OI.lit (w := w1) (e := 3))
    have sl := (St.refl w1).alloc (.cells #[] 3)
    have LL := hid (L0.out.st sl)
    obtain ⟨f1, HQ⟩ := fn_fin (I := 0) (K' := 0) (P := none) (D := none) (p := 0) (q := 0) (r := 0) (x := 0) (ps := []) (ds := []) (ok := false) HR.out LL.out (show OwGr _ w.heap.size 0 0 none 0 0 none 0 0 [] [] from ⟨OE.nil _ _, OE.nil _ _, fun g hg => by cases hg⟩) OL.out (S1.out.trans sl) hb
    rw [setGr_alloc (by omega)] at f1 HQ
    have l0 := L0.out.cell_ (i := 0) (v := .int .i64 0) rfl
    have l1 := L0.out.cell_ (i := 1) (v := .int .i64 0) rfl
    have l2 := L0.out.cell_ (i := 2) (v := .slice none 0 0) rfl
    have l3 := L0.out.cell_ (i := 3) (v := .slice none 0 0) rfl
    have lf0 := L0.out.frozen 0
    have lf1 := L0.out.frozen 1
    have lf2 := L0.out.frozen 2
    have lf3 := L0.out.frozen 3
    have r0 := f1.out.cell_ (i := 0) (v := .int .i64 0) rfl
    have r1 := f1.out.cell_ (i := 1) (v := .int .i64 0) rfl
    have r2 := f1.out.cell_ (i := 2) (v := .slice none 0 0) rfl
    have r3 := f1.out.cell_ (i := 3) (v := .slice none 0 0) rfl
    clear sl LL OL
    go_wp2_with fail
    refine bodyPost_ret (v := .tuple #[grV 0 0 none 0 0 none 0 0, .slice (some ⟨w1.heap.size, 0, none⟩) 0 0, .bool false]) (by simp [results, Try.results16, go_sem, r0, r1, r2, r3]) rfl HQ.out
  have V := hid (grOk_iff.1 hv)
  have hn12 : n ≤ 12 := by have h1 := V.out.small.1; have h2 := HL.out; simp only at h1; omega
  have hm12 : m ≤ 12 := by have h1 := V.out.small.2; have h2 := HL'.out; simp only at h1; omega
  go_wp2_with fail
  refine (l11Message_any _ _).mono ?_
  rintro e w2x ⟨rfl, rfl⟩
  cases hx : isMsg x
  · skip
    have HR := hid (finM_bad (g := ⟨I, K, ps, ds⟩) (m := x) (s := (st, sg)) (by rw [hx]; simp))
    have hb : w.heap.size + 1 + 1 < w1.heap.size := L0.out.lt
    have OL := hid (OI.lit (w := w1) (e := 3))
    have sl := (St.refl w1).alloc (.cells #[] 3)
    have LL := hid (L0.out.st sl)
    obtain ⟨f1, HQ⟩ := fn_fin (I := 0) (K' := 0) (P := none) (D := none) (p := 0) (q := 0) (r := 0) (x := 0) (ps := []) (ds := []) (ok := false) HR.out LL.out (show OwGr _ w.heap.size 0 0 none 0 0 none 0 0 [] [] from ⟨OE.nil _ _, OE.nil _ _, fun g hg => by cases hg⟩) OL.out (S1.out.trans sl) hb
    rw [setGr_alloc (by omega)] at f1 HQ
    have l0 := L0.out.cell_ (i := 0) (v := .int .i64 0) rfl
    have l1 := L0.out.cell_ (i := 1) (v := .int .i64 0) rfl
    have l2 := L0.out.cell_ (i := 2) (v := .slice none 0 0) rfl
    have l3 := L0.out.cell_ (i := 3) (v := .slice none 0 0) rfl
    have lf0 := L0.out.frozen 0
    have lf1 := L0.out.frozen 1
    have lf2 := L0.out.frozen 2
    have lf3 := L0.out.frozen 3
    have r0 := f1.out.cell_ (i := 0) (v := .int .i64 0) rfl
    have r1 := f1.out.cell_ (i := 1) (v := .int .i64 0) rfl
    have r2 := f1.out.cell_ (i := 2) (v := .slice none 0 0) rfl
    have r3 := f1.out.cell_ (i := 3) (v := .slice none 0 0) rfl
    clear sl LL OL
    go_wp2_with fail
    refine bodyPost_ret (v := .tuple #[grV 0 0 none 0 0 none 0 0, .slice (some ⟨w1.heap.size, 0, none⟩) 0 0, .bool false]) (by simp [results, Try.results16, go_sem, r0, r1, r2, r3]) rfl HQ.out
  go_wp2_with fail
  refine (specStampValid_any _ _ _).mono ?_
  rintro e w2 ⟨rfl, s2⟩
  replace K0 := hid (K0.out.st s2)
  replace L0 := hid (L0.out.st s2)
  replace T0 := hid (T0.out.st s2)
  replace H0 := hid (H0.out.st s2)
  replace H0' := hid (H0'.out.st s2)
  replace k0 := s2.cell k0
  replace k1 := s2.cell k1
  replace k2 := s2.cell k2
  replace k3 := s2.cell k3
  replace t0 := s2.cell t0
  replace t1 := s2.cell t1
  have S2 := hid (S1.out.trans s2)
  clear s2 S1
  cases hs : stOk (st, sg)
  · skip
    have HR := hid (finM_bad (g := ⟨I, K, ps, ds⟩) (m := x) (s := (st, sg)) (by rw [hs]; simp))
    have hb : w.heap.size + 1 + 1 < w2.heap.size := L0.out.lt
    have OL := hid (OI.lit (w := w2) (e := 3))
    have sl := (St.refl w2).alloc (.cells #[] 3)
    have LL := hid (L0.out.st sl)
    obtain ⟨f1, HQ⟩ := fn_fin (I := 0) (K' := 0) (P := none) (D := none) (p := 0) (q := 0) (r := 0) (x := 0) (ps := []) (ds := []) (ok := false) HR.out LL.out (show OwGr _ w.heap.size 0 0 none 0 0 none 0 0 [] [] from ⟨OE.nil _ _, OE.nil _ _, fun g hg => by cases hg⟩) OL.out (S2.out.trans sl) hb
    rw [setGr_alloc (by omega)] at f1 HQ
    have l0 := L0.out.cell_ (i := 0) (v := .int .i64 0) rfl
    have l1 := L0.out.cell_ (i := 1) (v := .int .i64 0) rfl
    have l2 := L0.out.cell_ (i := 2) (v := .slice none 0 0) rfl
    have l3 := L0.out.cell_ (i := 3) (v := .slice none 0 0) rfl
    have lf0 := L0.out.frozen 0
    have lf1 := L0.out.frozen 1
    have lf2 := L0.out.frozen 2
    have lf3 := L0.out.frozen 3
    have r0 := f1.out.cell_ (i := 0) (v := .int .i64 0) rfl
    have r1 := f1.out.cell_ (i := 1) (v := .int .i64 0) rfl
    have r2 := f1.out.cell_ (i := 2) (v := .slice none 0 0) rfl
    have r3 := f1.out.cell_ (i := 3) (v := .slice none 0 0) rfl
    clear sl LL OL
    go_wp2_with fail
    refine bodyPost_ret (v := .tuple #[grV 0 0 none 0 0 none 0 0, .slice (some ⟨w2.heap.size, 0, none⟩) 0 0, .bool false]) (by simp [results, Try.results16, go_sem, r0, r1, r2, r3]) rfl HQ.out
  have HFM := hid (finM_ok V.out hx hs)
  have HND := hid V.out.ndp
  have HAS := hid V.out.pa
  clear hv hx hs
  go_wp2_with fail
  have hb2 : w.heap.size + 1 + 1 < w2.heap.size := L0.out.lt
  refine (l11Final_any I K A B n c m d ps ds x st sg _ H0.out H0'.out (by omega) (by omega) HND.out HAS.out).mono ?_
  rintro e w3 ⟨A1, n1, c1, B1, m1, d1, T1, t1_, rfl, C3, O3, s3⟩
  replace L0 := hid (L0.out.st s3)
  have S3 := hid (S2.out.trans s3)
  have C4 := hid (C3.less S2.out.le)
  obtain ⟨⟨⟨I', K', ps', ds'⟩, xs, ok⟩, hr⟩ : ∃ r, finS ⟨I, K, ps, ds⟩ x (st, sg) = r := ⟨_, rfl⟩
  rw [hr] at HFM C4 O3 ⊢
  simp only at C4 O3 ⊢
  have O4 := hid O3
  clear hr C3 O3 s3 S2 H0 H0' K0 T0 k0 k1 k2 k3 t0 t1
  obtain ⟨f1, HQ⟩ := fn_fin (I := I') (K' := K') HFM.out L0.out C4.out O4.out S3.out hb2
  have l0 := L0.out.cell_ (i := 0) (v := .int .i64 0) rfl
  have l1 := L0.out.cell_ (i := 1) (v := .int .i64 0) rfl
  have l2 := L0.out.cell_ (i := 2) (v := .slice none 0 0) rfl
  have l3 := L0.out.cell_ (i := 3) (v := .slice none 0 0) rfl
  have lf0 := L0.out.frozen 0
  have lf1 := L0.out.frozen 1
  have lf2 := L0.out.frozen 2
  have lf3 := L0.out.frozen 3
  have r0 := f1.out.cell_ (i := 0) (v := .int .i64 I') rfl
  have r1 := f1.out.cell_ (i := 1) (v := .int .i64 K') rfl
  have r2 := f1.out.cell_ (i := 2) (v := .slice A1 n1 c1) rfl
  have r3 := f1.out.cell_ (i := 3) (v := .slice B1 m1 d1) rfl
  go_wp2_with fail
  refine bodyPost_ret (v := .tuple #[grV I' K' A1 n1 c1 B1 m1 d1, .slice T1 xs.length t1_, .bool ok]) (by simp [results, Try.results16, go_sem, r0, r1, r2, r3]) rfl HQ.out
end Go.Proofs.Ytkhgemgmnchodaa
