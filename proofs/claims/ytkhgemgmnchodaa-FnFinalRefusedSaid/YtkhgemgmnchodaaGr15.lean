/- The program: setting a final stamp. -/
import Derived.Test.YtkhgemgmnchodaaGr11
import Derived.Test.YtkhgemgmnchodaaGr4
import Derived.Test.YtkhgemgmnchodaaHeap4
import Derived.Deep.DeepCutAuto
namespace Go.Proofs.Ytkhgemgmnchodaa
open Go.RowKit Go.Sort
theorem fin_sort {es : List Ent} {j : Nat} {e : Ent} {s : Int × Int} (hn : (msgs es).Nodup) (ha : ascE es) (h : es[j]? = some e) (hf : (restE es e.1).any (fun y => y.2.1 == s) = false) :
    sortL ltE (es.set j (e.1, s, true)) = insE (e.1, s, true) (restE es e.1) :=
  sortL_eq ltS_SLt ((ins_perm _ _).trans (set_perm hn h).symm) (ins_asc (asc_rest ha) (fun x hx => by
    have := List.any_eq_false.1 hf x hx
    simpa using this))
theorem free_of {es : List Ent} {j : Nat} {e : Ent} {s : Int × Int} (h : es[j]? = some e) (hall : ∀ a y, a < es.length → a ≠ j → es[a]? = some y → y.2.1 ≠ s) : (restE es e.1).any (fun y => y.2.1 == s) = false := by
  rw [List.any_eq_false]
  intro y hy
  obtain ⟨h1, h2⟩ := mem_rest.1 hy
  obtain ⟨a, ha, rfl⟩ := List.mem_iff_getElem.1 h1
  have := hall a _ ha (fun e' => by subst e'; rw [List.getElem?_eq_getElem ha] at h; injection h with h; rw [h] at h2; exact h2 rfl) (List.getElem?_eq_getElem ha)
  simpa using this
theorem taken_of {es : List Ent} {i j : Nat} {e y : Ent} {s : Int × Int} (hn : (msgs es).Nodup) (h : es[j]? = some e) (hy : es[i]? = some y) (hne : i ≠ j) (hs : y.2.1 = s) : (restE es e.1).any (fun y => y.2.1 == s) = true := by
  obtain ⟨h1, e1⟩ := List.getElem?_eq_some_iff.1 h
  obtain ⟨h2, e2⟩ := List.getElem?_eq_some_iff.1 hy
  refine List.any_eq_true.2 ⟨y, mem_rest.2 ⟨List.mem_of_getElem? hy, fun hm => ?_⟩, by simpa using hs⟩
  have hp := List.pairwise_iff_getElem.1 hn
  have l1 : i < (msgs es).length := by simpa [msgs] using h2
  have l2 : j < (msgs es).length := by simpa [msgs] using h1
  have q1 : (msgs es)[i] = y.1 := by simp [msgs, e2]
  have q2 : (msgs es)[j] = e.1 := by simp [msgs, e1]
  rcases Nat.lt_or_gt_of_ne hne with hl | hl
  · exact hp i j l1 l2 hl (by rw [q1, q2]; exact hm)
  · exact hp j i l2 l1 hl (by rw [q1, q2]; exact hm.symm)
set_option maxRecDepth 100000 in
set_option maxHeartbeats 8000000 in
theorem GroupFinal_any (I K : Int) (A B : Option Addr) (n c m d : Nat) (ps ds : List Ent) (x st sg : Int) (w : World) (h : SE w A n c ps) (h' : SE w B m d ds) (hn : n ≤ 1048576) (hm : m ≤ 1048576) :
    Calls Try.prog 14 #[grV I K A n c B m d, .int .i64 x, .agg #[.int .i64 st, .int .i64 sg]] w (FnEnd (finM ⟨I, K, ps, ds⟩ x (st, sg)) w) := by
  have HL := hid h.len
  have HL' := hid h'.len
  have s0 := (((St.refl w).alloc (.cells (grC I K A n c B m d) 25)).alloc (.cells #[.int .i64 st, .int .i64 sg] 32)).alloc (.cells (grC 0 0 none 0 0 none 0 0) 25)
  have K0 := hid (((Blk.new w 25 (grC I K A n c B m d)).alloc (.cells #[.int .i64 st, .int .i64 sg] 32)).alloc (.cells (grC 0 0 none 0 0 none 0 0) 25))
  have T0 := hid ((blk_second w (.cells (grC I K A n c B m d) 25) 32 #[.int .i64 st, .int .i64 sg]).alloc (.cells (grC 0 0 none 0 0 none 0 0) 25))
  have L0 := hid (blk_third w (.cells (grC I K A n c B m d) 25) (.cells #[.int .i64 st, .int .i64 sg] 32) 25 (grC 0 0 none 0 0 none 0 0))
  have H0 := hid (h.st s0)
  have H0' := hid (h'.st s0)
  have S0 := hid s0
  have hcm := h.cm
  have hnc := h.nc
  unfold maxLen at hcm
  have HAD := hid (show ∀ ad, A = some ad → 0 < n → ad.block < w.heap.size from fun ad ha hn => by
    obtain ⟨ad', h1, h2, _⟩ := h.rd hn
    rw [h1] at ha
    injection ha with ha
    exact ha ▸ h2)
  have HP := hid (h.st (St.refl w))
  clear s0 h h'
  go_enter Try.func14, Try.ntmps14
  go_upto_region 1 with (fail)
  generalize ((w.alloc (.cells _ 25)).alloc (.cells _ 32)).alloc (.cells _ 25) = w0 at *
  have k0 := K0.out.cell_ (i := 0) (v := .int .i64 I) rfl
  have k1 := K0.out.cell_ (i := 1) (v := .int .i64 K) rfl
  have k2 := K0.out.cell_ (i := 2) (v := .slice A n c) rfl
  have k3 := K0.out.cell_ (i := 3) (v := .slice B m d) rfl
  have t0 := T0.out.cell_ (i := 0) (v := .int .i64 st) rfl
  have t1 := T0.out.cell_ (i := 1) (v := .int .i64 sg) rfl
  go_wp2_with fail
  refine (GroupValid_any _ _ _ _ _ _ _ _ _ _ _ H0.out H0'.out hn hm).mono ?_
  rintro e w1 ⟨rfl, s1⟩
  replace K0 := hid (K0.out.st s1)
  replace L0 := hid (L0.out.st s1)
  replace T0 := hid (T0.out.st s1)
  replace H0 := hid (H0.out.st s1)
  replace H0' := hid (H0'.out.st s1)
  replace k0 := s1.cell k0
  replace k1 := s1.cell k1
  replace k2 := s1.cell k2
  replace k3 := s1.cell k3
  replace t0 := s1.cell t0
  replace t1 := s1.cell t1
  have S1 := hid (S0.out.trans s1)
  clear s1 S0
  cases hv : grOk ⟨I, K, ps, ds⟩
  · skip
    have HR := hid (finM_bad (g := ⟨I, K, ps, ds⟩) (m := x) (s := (st, sg)) (by rw [hv]; rfl))
    obtain ⟨f1, HQ⟩ := fn_fin (I := 0) (K' := 0) (P := none) (D := none) (T := none) (p := 0) (q := 0) (r := 0) (x := 0) (t := 0) (u := 0) (b := w.heap.size + 3) (ps := []) (ds := []) (xs := []) (ok := false) HR.out L0.out (show OwGr w1 w.heap.size 0 0 none 0 0 none 0 0 [] [] from ⟨OE.nil _ _, OE.nil _ _, fun g hg => by cases hg⟩) (World.ownsRow_nil _ _ _ _) S1.out (by omega)
    have l0 := L0.out.cell_ (i := 0) (v := .int .i64 0) rfl
    have l1 := L0.out.cell_ (i := 1) (v := .int .i64 0) rfl
    have l2 := L0.out.cell_ (i := 2) (v := .slice none 0 0) rfl
    have l3 := L0.out.cell_ (i := 3) (v := .slice none 0 0) rfl
    have lf0 := L0.out.frozen 0
    have lf1 := L0.out.frozen 1
    have lf2 := L0.out.frozen 2
    have lf3 := L0.out.frozen 3
    have r0 := f1.out.cell_ (i := 0) (v := .int .i64 0) rfl
    have r1 := f1.out.cell_ (i := 1) (v := .int .i64 0) rfl
    have r2 := f1.out.cell_ (i := 2) (v := .slice none 0 0) rfl
    have r3 := f1.out.cell_ (i := 3) (v := .slice none 0 0) rfl
    go_wp2_with fail
    refine bodyPost_ret (v := .tuple #[grV 0 0 none 0 0 none 0 0, .slice none 0 0, .bool false]) (by simp [results, Try.results14, go_sem, r0, r1, r2, r3]) rfl HQ.out
  have V := hid (grOk_iff.1 hv)
  have hn12 : n ≤ 12 := by have h1 := V.out.small.1; have h2 := HL.out; simp only at h1; omega
  have hm12 : m ≤ 12 := by have h1 := V.out.small.2; have h2 := HL'.out; simp only at h1; omega
  go_wp2_with fail
  refine (StampValid_any _ _ _).mono ?_
  rintro e w2 ⟨rfl, s2⟩
  replace K0 := hid (K0.out.st s2)
  replace L0 := hid (L0.out.st s2)
  replace T0 := hid (T0.out.st s2)
  replace H0 := hid (H0.out.st s2)
  replace H0' := hid (H0'.out.st s2)
  replace k0 := s2.cell k0
  replace k1 := s2.cell k1
  replace k2 := s2.cell k2
  replace k3 := s2.cell k3
  replace t0 := s2.cell t0
  replace t1 := s2.cell t1
  have S2 := hid (S1.out.trans s2)
  clear s2 S1
  cases hs : stOk (st, sg)
  · skip
    have HR := hid (finM_bad (g := ⟨I, K, ps, ds⟩) (m := x) (s := (st, sg)) (by rw [hs]; simp))
    obtain ⟨f1, HQ⟩ := fn_fin (I := 0) (K' := 0) (P := none) (D := none) (T := none) (p := 0) (q := 0) (r := 0) (x := 0) (t := 0) (u := 0) (b := w.heap.size + 3) (ps := []) (ds := []) (xs := []) (ok := false) HR.out L0.out (show OwGr w2 w.heap.size 0 0 none 0 0 none 0 0 [] [] from ⟨OE.nil _ _, OE.nil _ _, fun g hg => by cases hg⟩) (World.ownsRow_nil _ _ _ _) S2.out (by omega)
    have l0 := L0.out.cell_ (i := 0) (v := .int .i64 0) rfl
    have l1 := L0.out.cell_ (i := 1) (v := .int .i64 0) rfl
    have l2 := L0.out.cell_ (i := 2) (v := .slice none 0 0) rfl
    have l3 := L0.out.cell_ (i := 3) (v := .slice none 0 0) rfl
    have lf0 := L0.out.frozen 0
    have lf1 := L0.out.frozen 1
    have lf2 := L0.out.frozen 2
    have lf3 := L0.out.frozen 3
    have r0 := f1.out.cell_ (i := 0) (v := .int .i64 0) rfl
    have r1 := f1.out.cell_ (i := 1) (v := .int .i64 0) rfl
    have r2 := f1.out.cell_ (i := 2) (v := .slice none 0 0) rfl
    have r3 := f1.out.cell_ (i := 3) (v := .slice none 0 0) rfl
    go_wp2_with fail
    refine bodyPost_ret (v := .tuple #[grV 0 0 none 0 0 none 0 0, .slice none 0 0, .bool false]) (by simp [results, Try.results14, go_sem, r0, r1, r2, r3]) rfl HQ.out
  go_wp2_with fail
  refine (isMessage_any _ _).mono ?_
  rintro e w2x ⟨rfl, rfl⟩
  cases hx : isMsg x
  · skip
    have HR := hid (finM_bad (g := ⟨I, K, ps, ds⟩) (m := x) (s := (st, sg)) (by rw [hx]; simp))
    obtain ⟨f1, HQ⟩ := fn_fin (I := 0) (K' := 0) (P := none) (D := none) (T := none) (p := 0) (q := 0) (r := 0) (x := 0) (t := 0) (u := 0) (b := w.heap.size + 3) (ps := []) (ds := []) (xs := []) (ok := false) HR.out L0.out (show OwGr w2 w.heap.size 0 0 none 0 0 none 0 0 [] [] from ⟨OE.nil _ _, OE.nil _ _, fun g hg => by cases hg⟩) (World.ownsRow_nil _ _ _ _) S2.out (by omega)
    have l0 := L0.out.cell_ (i := 0) (v := .int .i64 0) rfl
    have l1 := L0.out.cell_ (i := 1) (v := .int .i64 0) rfl
    have l2 := L0.out.cell_ (i := 2) (v := .slice none 0 0) rfl
    have l3 := L0.out.cell_ (i := 3) (v := .slice none 0 0) rfl
    have lf0 := L0.out.frozen 0
    have lf1 := L0.out.frozen 1
    have lf2 := L0.out.frozen 2
    have lf3 := L0.out.frozen 3
    have r0 := f1.out.cell_ (i := 0) (v := .int .i64 0) rfl
    have r1 := f1.out.cell_ (i := 1) (v := .int .i64 0) rfl
    have r2 := f1.out.cell_ (i := 2) (v := .slice none 0 0) rfl
    have r3 := f1.out.cell_ (i := 3) (v := .slice none 0 0) rfl
    go_wp2_with fail
    refine bodyPost_ret (v := .tuple #[grV 0 0 none 0 0 none 0 0, .slice none 0 0, .bool false]) (by simp [results, Try.results14, go_sem, r0, r1, r2, r3]) rfl HQ.out
  have HFM := hid (finM_ok V.out hx hs)
  have HND := hid V.out.ndp
  have HAS := hid V.out.pa
  simp only at HND HAS
  clear hv hx hs t0 t1
  go_wp2_with fail
  refine (copyGroup_any _ _ _ _ _ _ _ _ _ _ _ H0.out H0'.out (by omega) (by omega)).mono ?_
  rintro e w3 ⟨A1, c1, B1, d1, rfl, C, s1⟩
  replace K0 := hid (K0.out.st s1)
  replace L0 := hid (L0.out.st s1)
  replace T0 := hid (T0.out.st s1)
  have S1 := hid (S2.out.trans s1)
  have C1 := hid (C.less S2.out.le)
  have hG : w.heap.size + 1 + 1 < w3.heap.size := L0.out.lt
  have G1 := hid (Blk.new w3 25 (grC I K A1 n c1 B1 m d1))
  have s2 := (St.refl w3).alloc (.cells (grC I K A1 n c1 B1 m d1) 25)
  replace K0 := hid (K0.out.st s2)
  replace L0 := hid (L0.out.st s2)
  replace T0 := hid (T0.out.st s2)
  replace C1 := hid (C1.out.st s2)
  replace S1 := hid (S1.out.st s2)
  have F2 := hid (show FS w (w3.alloc (.cells (grC I K A1 n c1 B1 m d1) 25)) w3.heap.size I K A n c B m d st sg K A1 n c1 B1 m d1 from ⟨K0.out, T0.out, L0.out, G1.out, S1.out, hG⟩)
  clear s1 s2 S1 S2 C k0 k1 k2 k3 K0 L0 T0 G1 H0 H0'
  go_upto_region 4 with (fail)
  generalize w3.alloc (.cells _ 25) = w4 at *
  generalize w3.heap.size = G at *
  have k0 := F2.out.k.cell_ (i := 0) (v := .int .i64 I) rfl
  have k1 := F2.out.k.cell_ (i := 1) (v := .int .i64 K) rfl
  have k2 := F2.out.k.cell_ (i := 2) (v := .slice A n c) rfl
  have k3 := F2.out.k.cell_ (i := 3) (v := .slice B m d) rfl
  have HP3 := hid (HP.out.st F2.out.s)
  go_wp2_with fail
  refine (indexOf_any _ _ _ _ _ _ HP3.out).mono ?_
  rintro e w5 ⟨rfl, s4⟩
  replace F2 := hid (F2.out.st s4)
  replace C1 := hid (C1.out.st s4)
  replace HP3 := hid (HP3.out.st s4)
  replace k0 := s4.cell k0
  replace k1 := s4.cell k1
  replace k2 := s4.cell k2
  replace k3 := s4.cell k3
  clear s4
  have t0 := F2.out.t.cell_ (i := 0) (v := .int .i64 st) rfl
  have t1_ := F2.out.t.cell_ (i := 1) (v := .int .i64 sg) rfl
  rcases idx_cases ps x with ⟨h1, h2, _⟩ | ⟨j, e, hj, he, hem, h1, h2⟩
  · rw [h1]
    have HR := hid (finS_none (g := ⟨I, K, ps, ds⟩) (s := (st, sg)) h2)
    clear h1 h2
    go_wp2_with fail
    go_quiet (fail)
    have sx := (Dr.st ⟨nq, rfl⟩ : St (w5) (World.drewN (w5) nq))
    generalize World.drewN (w5) nq = wx at sx ⊢
    clear nq
    replace F2 := hid (F2.out.st sx)
    replace C1 := hid (C1.out.st sx)
    clear sx
    clear k0 k1 k2 k3 t0 t1_
    have g0 := F2.out.g.cell_ (i := 0) (v := .int .i64 I) rfl
    have g1 := F2.out.g.cell_ (i := 1) (v := .int .i64 K) rfl
    have g2 := F2.out.g.cell_ (i := 2) (v := .slice A1 n c1) rfl
    have g3 := F2.out.g.cell_ (i := 3) (v := .slice B1 m d1) rfl
    have l0 := F2.out.l.cell_ (i := 0) (v := .int .i64 0) rfl
    have l1 := F2.out.l.cell_ (i := 1) (v := .int .i64 0) rfl
    have l2 := F2.out.l.cell_ (i := 2) (v := .slice none 0 0) rfl
    have l3 := F2.out.l.cell_ (i := 3) (v := .slice none 0 0) rfl
    have lf0 := F2.out.l.frozen 0
    have lf1 := F2.out.l.frozen 1
    have lf2 := F2.out.l.frozen 2
    have lf3 := F2.out.l.frozen 3
    obtain ⟨f1, HQ⟩ := fn_fin (T := none) (t := 0) (u := 0) (b := w.heap.size + 3) (xs := []) (ok := false) (HFM.out.trans HR.out) F2.out.l C1.out (World.ownsRow_nil _ _ _ _) F2.out.s (by omega)
    have r0 := f1.out.cell_ (i := 0) (v := .int .i64 I) rfl
    have r1 := f1.out.cell_ (i := 1) (v := .int .i64 K) rfl
    have r2 := f1.out.cell_ (i := 2) (v := .slice A1 n c1) rfl
    have r3 := f1.out.cell_ (i := 3) (v := .slice B1 m d1) rfl
    go_wp2_with fail
    refine bodyPost_ret (v := .tuple #[grV I K A1 n c1 B1 m d1, .slice none 0 0, .bool false]) (by simp [results, Try.results14, go_sem, r0, r1, r2, r3]) rfl HQ.out
  · rw [h1]
    rw [HL.out] at hj
    obtain ⟨ad, m1, p1, g1', f1', rfl, hb1, hx, c0, c1', c2, c3⟩ := HP3.out.at_ hj
    have hee : e = (m1, (p1, g1'), f1') := by have := hx.out; rw [he] at this; injection this
    subst hee
    have hxm : m1 = x := hem
    subst hxm
    have hadb := HAD.out ad rfl (by omega)
    have HFO := hid (finOk_of (g := ⟨I, K, ps, ds⟩) (s := (st, sg)) h2)
    have HX := hid he
    have hji : (0 : Int) ≤ (j : Int) := by omega
    have hji2 : (j : Int) < (n : Int) := by omega
    have hji3 : ¬ (j : Int) < 0 := by omega
    have hjb : decide ((j : Int) < 0) = false := decide_eq_false hji3
    clear h1 h2 he hem hx
    cases f1'
    rotate_left
    · have HR := hid (finS_no (HFO.out.trans (by rfl : _ = false)))
      go_wp2_with fail
      go_quiet (fail)
      have sx := (Dr.st ⟨nq, rfl⟩ : St (w5) (World.drewN (w5) nq))
      generalize World.drewN (w5) nq = wx at sx ⊢
      clear nq
      replace F2 := hid (F2.out.st sx)
      replace C1 := hid (C1.out.st sx)
      clear sx
      clear k0 k1 k2 k3 t0 t1_
      have g0 := F2.out.g.cell_ (i := 0) (v := .int .i64 I) rfl
      have g1 := F2.out.g.cell_ (i := 1) (v := .int .i64 K) rfl
      have g2 := F2.out.g.cell_ (i := 2) (v := .slice A1 n c1) rfl
      have g3 := F2.out.g.cell_ (i := 3) (v := .slice B1 m d1) rfl
      have l0 := F2.out.l.cell_ (i := 0) (v := .int .i64 0) rfl
      have l1 := F2.out.l.cell_ (i := 1) (v := .int .i64 0) rfl
      have l2 := F2.out.l.cell_ (i := 2) (v := .slice none 0 0) rfl
      have l3 := F2.out.l.cell_ (i := 3) (v := .slice none 0 0) rfl
      have lf0 := F2.out.l.frozen 0
      have lf1 := F2.out.l.frozen 1
      have lf2 := F2.out.l.frozen 2
      have lf3 := F2.out.l.frozen 3
      obtain ⟨f1, HQ⟩ := fn_fin (T := none) (t := 0) (u := 0) (b := w.heap.size + 3) (xs := []) (ok := false) (HFM.out.trans HR.out) F2.out.l C1.out (World.ownsRow_nil _ _ _ _) F2.out.s (by omega)
      have r0 := f1.out.cell_ (i := 0) (v := .int .i64 I) rfl
      have r1 := f1.out.cell_ (i := 1) (v := .int .i64 K) rfl
      have r2 := f1.out.cell_ (i := 2) (v := .slice A1 n c1) rfl
      have r3 := f1.out.cell_ (i := 3) (v := .slice B1 m d1) rfl
      go_wp2_with fail
      refine bodyPost_ret (v := .tuple #[grV I K A1 n c1 B1 m d1, .slice none 0 0, .bool false]) (by simp [results, Try.results14, go_sem, r0, r1, r2, r3]) rfl HQ.out
    have HFO2 := hid (HFO.out.trans (by rfl : _ = (!ltS (st, sg) (p1, g1') && !(restE ps m1).any (fun y => y.2.1 == (st, sg)))))
    go_wp2_with fail
    refine wp_region_held_drew (S := (fun w' => w'.cell? ⟨w.heap.size, 2, none⟩ = some (.slice (some ad) n c) ∧ w'.cell? ⟨w.heap.size + 1, 0, none⟩ = some (.int .i64 st) ∧ w'.cell? ⟨w.heap.size + 1, 1, none⟩ = some (.int .i64 sg) ∧ w'.cell? ⟨(ad.add (j * 4)).block, (ad.add (j * 4)).off + 1, none⟩ = some (.int .i64 p1) ∧ w'.cell? ⟨(ad.add (j * 4)).block, (ad.add (j * 4)).off + 1 + 1, none⟩ = some (.int .i64 g1') ∧ w'.cell? ⟨(ad.add (j * 4)).block, (ad.add (j * 4)).off + 3, none⟩ = some (.bool false))) (by kernel_rfl) ?_ (fun hH0 => ?_)
    · exact ⟨k2, t0, t1_, c1', c2, c3⟩
    refine wpAnyH_take (i := 0) (oi := ⟨some 34, _, _, _, _, _⟩) (v := ?_) rfl (by kernel_rfl) (by kernel_rfl) (by kernel_rfl) (fun _ _ _ h => h) (Or.inl ⟨by rfl, ?_⟩) (by assumption) ?_
    rotate_left
    · (intro w hSw; (try dsimp only at hSw); go_simp; (try with_reducible rfl))
    (try simp only [Act.put, List.setIfInBounds_toArray, List.set_cons_zero, List.set_cons_succ])
    refine wpAnyH_take (i := 1) (oi := ⟨some 35, _, _, _, _, _⟩) (v := ?_) rfl (by kernel_rfl) (by kernel_rfl) (by kernel_rfl) (fun _ _ _ h => h) (Or.inl ⟨by rfl, ?_⟩) (by assumption) ?_
    rotate_left
    · (intro w hSw; (try dsimp only at hSw); go_simp; (try with_reducible rfl))
    (try simp only [Act.put, List.setIfInBounds_toArray, List.set_cons_zero, List.set_cons_succ])
    refine wpAnyH_take (i := 2) (oi := ⟨some 36, _, _, _, _, _⟩) (v := ?_) rfl (by kernel_rfl) (by kernel_rfl) (by kernel_rfl) (fun _ _ _ h => h) (Or.inl ⟨by rfl, ?_⟩) (by assumption) ?_
    rotate_left
    · (intro w hSw; (try dsimp only at hSw); go_simp; (try with_reducible rfl))
    (try simp only [Act.put, List.setIfInBounds_toArray, List.set_cons_zero, List.set_cons_succ])
    refine wpAnyH_take (i := 3) (oi := ⟨some 37, _, _, _, _, _⟩) (v := ?_) rfl (by kernel_rfl) (by kernel_rfl) (by kernel_rfl) (fun _ _ _ h => h) (Or.inl ⟨by rfl, ?_⟩) (by assumption) ?_
    rotate_left
    · (intro w hSw; (try dsimp only at hSw); go_simp; (try with_reducible rfl))
    (try simp only [Act.put, List.setIfInBounds_toArray, List.set_cons_zero, List.set_cons_succ])
    refine wpAnyH_take (i := 4) (oi := ⟨some 38, _, _, _, _, _⟩) (v := ?_) rfl (by kernel_rfl) (by kernel_rfl) (by kernel_rfl) (fun _ _ _ h => h) (Or.inl ⟨by rfl, ?_⟩) (by assumption) ?_
    rotate_left
    · (intro w hSw; (try dsimp only at hSw); go_simp; (try with_reducible rfl))
    (try simp only [Act.put, List.setIfInBounds_toArray, List.set_cons_zero, List.set_cons_succ])
    refine wpAnyH_take (i := 5) (oi := ⟨some 39, _, _, _, _, _⟩) (v := ?_) rfl (by kernel_rfl) (by kernel_rfl) (by kernel_rfl) (fun _ _ _ h => h) (Or.inl ⟨by rfl, ?_⟩) (by assumption) ?_
    rotate_left
    · (intro w hSw; (try dsimp only at hSw); go_simp; (try with_reducible rfl))
    (try simp only [Act.put, List.setIfInBounds_toArray, List.set_cons_zero, List.set_cons_succ])
    refine wpAnyH_take (i := 6) (oi := ⟨some 40, _, _, _, _, _⟩) (v := ?_) rfl (by kernel_rfl) (by kernel_rfl) (by kernel_rfl) (fun _ _ _ h => h) (Or.inl ⟨by rfl, ?_⟩) (by assumption) ?_
    rotate_left
    · (intro w hSw; (try dsimp only at hSw); go_simp; (try with_reducible rfl))
    (try simp only [Act.put, List.setIfInBounds_toArray, List.set_cons_zero, List.set_cons_succ])
    refine wpAnyH_take (i := 7) (oi := ⟨some 41, _, _, _, _, _⟩) (v := ?_) rfl (by kernel_rfl) (by kernel_rfl) (by kernel_rfl) (fun _ _ _ h => h) (Or.inl ⟨by rfl, ?_⟩) (by assumption) ?_
    rotate_left
    · (intro w hSw; (try dsimp only at hSw); go_simp; (try with_reducible rfl))
    (try simp only [Act.put, List.setIfInBounds_toArray, List.set_cons_zero, List.set_cons_succ])
    refine wpAnyH_take (i := 8) (oi := ⟨some 42, _, _, _, _, _⟩) (v := ?_) rfl (by kernel_rfl) (by kernel_rfl) (by kernel_rfl) (fun _ _ _ h => h) (Or.inl ⟨by rfl, ?_⟩) (by assumption) ?_
    rotate_left
    · (intro w hSw; (try dsimp only at hSw); go_simp; (try with_reducible rfl))
    (try simp only [Act.put, List.setIfInBounds_toArray, List.set_cons_zero, List.set_cons_succ])
    refine wpAnyH_take (i := 9) (oi := ⟨some 43, _, _, _, _, _⟩) (v := ?_) rfl (by kernel_rfl) (by kernel_rfl) (by kernel_rfl) (fun _ _ _ h => h) (Or.inl ⟨by rfl, ?_⟩) (by assumption) ?_
    rotate_left
    · (intro w hSw; (try dsimp only at hSw); go_simp; (try with_reducible rfl))
    (try simp only [Act.put, List.setIfInBounds_toArray, List.set_cons_zero, List.set_cons_succ])
    refine wpAnyH_take (i := 10) (oi := ⟨some 44, _, _, _, _, _⟩) (v := ?_) rfl (by kernel_rfl) (by kernel_rfl) (by kernel_rfl) (fun _ _ _ h => h) (Or.inl ⟨by rfl, ?_⟩) (by assumption) ?_
    rotate_left
    · (intro w hSw; (try dsimp only at hSw); go_simp; (try with_reducible rfl))
    (try simp only [Act.put, List.setIfInBounds_toArray, List.set_cons_zero, List.set_cons_succ])
    refine wpAnyH_take (i := 11) (oi := ⟨some 45, _, _, _, _, _⟩) (v := ?_) rfl (by kernel_rfl) (by kernel_rfl) (by kernel_rfl) (fun _ _ _ h => h) (Or.inl ⟨by rfl, ?_⟩) (by assumption) ?_
    rotate_left
    · (intro w hSw; (try dsimp only at hSw); go_simp; (try with_reducible rfl))
    (try simp only [Act.put, List.setIfInBounds_toArray, List.set_cons_zero, List.set_cons_succ])
    refine wpAnyH_take (i := 12) (oi := ⟨some 46, _, _, _, _, _⟩) (v := ?_) rfl (by kernel_rfl) (by kernel_rfl) (by kernel_rfl) (fun _ _ _ h => h) (Or.inl ⟨by rfl, ?_⟩) (by assumption) ?_
    rotate_left
    · (intro w hSw; (try dsimp only at hSw); go_simp; (try with_reducible rfl))
    (try simp only [Act.put, List.setIfInBounds_toArray, List.set_cons_zero, List.set_cons_succ])
    refine wpAnyH_take (i := 13) (oi := ⟨some 47, _, _, _, _, _⟩) (v := ?_) rfl (by kernel_rfl) (by kernel_rfl) (by kernel_rfl) (fun _ _ _ h => h) (Or.inl ⟨by rfl, ?_⟩) (by assumption) ?_
    rotate_left
    · (intro w hSw; (try dsimp only at hSw); go_simp; (try with_reducible rfl))
    (try simp only [Act.put, List.setIfInBounds_toArray, List.set_cons_zero, List.set_cons_succ])
    refine wpAnyH_take (i := 14) (oi := ⟨some 48, _, _, _, _, _⟩) (v := ?_) rfl (by kernel_rfl) (by kernel_rfl) (by kernel_rfl) (fun _ _ _ h => h) (Or.inl ⟨by rfl, ?_⟩) (by assumption) ?_
    rotate_left
    · (intro w hSw; (try dsimp only at hSw); go_simp; (try with_reducible rfl))
    (try simp only [Act.put, List.setIfInBounds_toArray, List.set_cons_zero, List.set_cons_succ])
    refine wpAnyH_take (i := 15) (oi := ⟨some 49, _, _, _, _, _⟩) (v := ?_) rfl (by kernel_rfl) (by kernel_rfl) (by kernel_rfl) (fun _ _ _ h => h) (Or.inl ⟨by rfl, ?_⟩) (by assumption) ?_
    rotate_left
    · (intro w hSw; (try dsimp only at hSw); go_simp; (try with_reducible rfl))
    (try simp only [Act.put, List.setIfInBounds_toArray, List.set_cons_zero, List.set_cons_succ])
    refine wpAnyH_take (i := 16) (oi := ⟨some 50, _, _, _, _, _⟩) (v := ?_) rfl (by kernel_rfl) (by kernel_rfl) (by kernel_rfl) (fun _ _ _ h => h) (Or.inl ⟨by rfl, ?_⟩) (by assumption) ?_
    rotate_left
    · (intro w hSw; (try dsimp only at hSw); go_simp; (try with_reducible rfl))
    (try simp only [Act.put, List.setIfInBounds_toArray, List.set_cons_zero, List.set_cons_succ])
    refine wpAnyH_take (i := 17) (oi := ⟨some 51, _, _, _, _, _⟩) (v := ?_) rfl (by kernel_rfl) (by kernel_rfl) (by kernel_rfl) (fun _ _ _ h => h) (Or.inl ⟨by rfl, ?_⟩) (by assumption) ?_
    rotate_left
    · (intro w hSw; (try dsimp only at hSw); go_simp; (try with_reducible rfl))
    (try simp only [Act.put, List.setIfInBounds_toArray, List.set_cons_zero, List.set_cons_succ])
    refine wpAnyH_ready (rs := [18]) (by kernel_rfl) (by simp) ?_
    refine AllReadyH.cons (o := ⟨some 52, _, _, _, _, _⟩) rfl (fun K hK => ?_) AllReadyH.nil
    go_simp
    (go_at_call 41; refine (less_any _ _ _ _ _).mono ?_; rintro e w9 ⟨rfl, s9⟩; have U9 := (Dr.st ⟨1, rfl⟩ : St w5 (w5.drewN 1)).trans s9)
    (first | (refine hK.out _ _ ?_ (fun hH1 => ?_)) | (go_wp2_with fail; refine hK.out _ _ ?_ (fun hH1 => ?_)))
    · exact ⟨U9.cell k2, U9.cell t0, U9.cell t1_, U9.cell c1', U9.cell c2, U9.cell c3⟩
    clear hK K hH0
    (try simp only [Act.put, List.setIfInBounds_toArray, List.set_cons_zero, List.set_cons_succ])
    refine wpAnyH_take (i := 19) (oi := ⟨some 53, _, _, _, _, _⟩) (v := ?_) rfl (by kernel_rfl) (by kernel_rfl) (by kernel_rfl) (fun _ _ _ h => h) (Or.inl ⟨by rfl, ?_⟩) (by assumption) ?_
    rotate_left
    · (intro w hSw; (try dsimp only at hSw); go_simp; (try with_reducible rfl))
    (try simp only [Act.put, List.setIfInBounds_toArray, List.set_cons_zero, List.set_cons_succ])
    refine wpAnyH_done (by kernel_rfl) ?_ _
    clear hH1
    replace F2 := hid (F2.out.st U9)
    replace C1 := hid (C1.out.st U9)
    replace HP3 := hid (HP3.out.st U9)
    replace k0 := U9.cell k0
    replace k1 := U9.cell k1
    replace k2 := U9.cell k2
    replace k3 := U9.cell k3
    replace t0 := U9.cell t0
    replace t1_ := U9.cell t1_
    clear U9 s9 c0 c1' c2 c3
    cases hl : ltS (st, sg) (p1, g1')
    rotate_left
    · have HR := hid (finS_no (HFO2.out.trans (by rw [hl]; rfl : _ = false)))
      clear k0 k1 k2 k3 t0 t1_
      have g0 := F2.out.g.cell_ (i := 0) (v := .int .i64 I) rfl
      have g1 := F2.out.g.cell_ (i := 1) (v := .int .i64 K) rfl
      have g2 := F2.out.g.cell_ (i := 2) (v := .slice A1 n c1) rfl
      have g3 := F2.out.g.cell_ (i := 3) (v := .slice B1 m d1) rfl
      have l0 := F2.out.l.cell_ (i := 0) (v := .int .i64 0) rfl
      have l1 := F2.out.l.cell_ (i := 1) (v := .int .i64 0) rfl
      have l2 := F2.out.l.cell_ (i := 2) (v := .slice none 0 0) rfl
      have l3 := F2.out.l.cell_ (i := 3) (v := .slice none 0 0) rfl
      have lf0 := F2.out.l.frozen 0
      have lf1 := F2.out.l.frozen 1
      have lf2 := F2.out.l.frozen 2
      have lf3 := F2.out.l.frozen 3
      obtain ⟨f1, HQ⟩ := fn_fin (T := none) (t := 0) (u := 0) (b := w.heap.size + 3) (xs := []) (ok := false) (HFM.out.trans HR.out) F2.out.l C1.out (World.ownsRow_nil _ _ _ _) F2.out.s (by omega)
      have r0 := f1.out.cell_ (i := 0) (v := .int .i64 I) rfl
      have r1 := f1.out.cell_ (i := 1) (v := .int .i64 K) rfl
      have r2 := f1.out.cell_ (i := 2) (v := .slice A1 n c1) rfl
      have r3 := f1.out.cell_ (i := 3) (v := .slice B1 m d1) rfl
      go_wp2_with fail
      refine bodyPost_ret (v := .tuple #[grV I K A1 n c1 B1 m d1, .slice none 0 0, .bool false]) (by simp [results, Try.results14, go_sem, r0, r1, r2, r3]) rfl HQ.out
    have HFO3 := hid (HFO2.out.trans (by rw [hl]; rfl : _ = !(restE ps m1).any (fun y => y.2.1 == (st, sg))))
    clear hl HFO HFO2
    go_wp2_with fail
    clear k0 k1 k2 k3 t0 t1_
    go_loopw [58] (fun v wr => ∃ i : Nat, i ≤ n ∧ v = .int .i64 (i : Int) ∧ Hid (∀ a y, a < i → a ≠ j → ps[a]? = some y → y.2.1 ≠ (st, sg)) ∧ Hid (St w9 wr)) (fun v _ => n - (intOf v).toNat)
    case atStart => exact ⟨0, Nat.zero_le _, rfl, hid (fun a y h => absurd h (Nat.not_lt_zero _)), St.refl _⟩
    case round =>
      obtain ⟨wa, rfl⟩ : ∃ wo : World, wo = wr := ⟨_, rfl⟩
      obtain ⟨i, hi, rfl, hfr, hd⟩ := hrel
      have F := hid (F2.out.st hd.out)
      have CG := hid (C1.out.st hd.out)
      have HI := hid (HP3.out.st hd.out)
      have hi0 : (0 : Int) ≤ (i : Int) := by omega
      by_cases hlt : i < n
      · have hir : (i : Int) < (n : Int) := by omega
        obtain ⟨ay, my, ty, gy, fy, hay, hby, hy, e0, e1, e2, e3⟩ := HI.out.at_ hlt
        injection hay with hay
        subst hay
        have HY := hid hy.out
        have sa := (St.refl wa).alloc (.cells #[.int .i64 my, .int .i64 ty, .int .i64 gy, .bool fy] 34)
        have EB := hid (Blk.new wa 34 #[.int .i64 my, .int .i64 ty, .int .i64 gy, .bool fy])
        replace F := hid (F.out.st sa)
        replace CG := hid (CG.out.st sa)
        have hd2 := hid (hd.out.trans sa)
        clear sa hy
        go_upto_region 10 with (fail)
        generalize wa.alloc (.cells _ 34) = wq at *
        generalize wa.heap.size = be at *
        have y0 := EB.out.cell_ (i := 0) (v := .int .i64 my) rfl
        have y1 := EB.out.cell_ (i := 1) (v := .int .i64 ty) rfl
        have y2 := EB.out.cell_ (i := 2) (v := .int .i64 gy) rfl
        have y3 := EB.out.cell_ (i := 3) (v := .bool fy) rfl
        have t0 := F.out.t.cell_ (i := 0) (v := .int .i64 st) rfl
        have t1_ := F.out.t.cell_ (i := 1) (v := .int .i64 sg) rfl
        clear e0 e1 e2 e3
        by_cases hij : i = j
        · have hfr2 : Hid (∀ a y, a < i + 1 → a ≠ j → ps[a]? = some y → y.2.1 ≠ (st, sg)) := fun a y h1 h2 h3 => hfr.out a y (by omega) h2 h3
          have hij2 : (i : Int) = (j : Int) := by omega
          go_wp2_with fail
          go_roundw
          case rel => exact ⟨i + 1, by omega, by go_num, hfr2, hd2⟩
          case measure => simp [intOf]; omega
        · have hij2 : ¬ (i : Int) = (j : Int) := by omega
          by_cases heq : ty = st ∧ gy = sg
          · obtain ⟨rfl, rfl⟩ := heq
            have HR := hid (finS_no (g := ⟨I, K, ps, ds⟩) (HFO3.out.trans (by rw [taken_of HND.out HX.out HY.out hij rfl]; rfl : _ = false)))
            go_upto_region 11 with (fail)
            clear t0 t1_ y0 y1 y2 y3
            have g0 := F.out.g.cell_ (i := 0) (v := .int .i64 I) rfl
            have g1 := F.out.g.cell_ (i := 1) (v := .int .i64 K) rfl
            have g2 := F.out.g.cell_ (i := 2) (v := .slice A1 n c1) rfl
            have g3 := F.out.g.cell_ (i := 3) (v := .slice B1 m d1) rfl
            have l0 := F.out.l.cell_ (i := 0) (v := .int .i64 0) rfl
            have l1 := F.out.l.cell_ (i := 1) (v := .int .i64 0) rfl
            have l2 := F.out.l.cell_ (i := 2) (v := .slice none 0 0) rfl
            have l3 := F.out.l.cell_ (i := 3) (v := .slice none 0 0) rfl
            have lf0 := F.out.l.frozen 0
            have lf1 := F.out.l.frozen 1
            have lf2 := F.out.l.frozen 2
            have lf3 := F.out.l.frozen 3
            obtain ⟨f1, HQ⟩ := fn_fin (T := none) (t := 0) (u := 0) (b := w.heap.size + 3) (xs := []) (ok := false) (HFM.out.trans HR.out) F.out.l CG.out (World.ownsRow_nil _ _ _ _) F.out.s (by omega)
            have r0 := f1.out.cell_ (i := 0) (v := .int .i64 I) rfl
            have r1 := f1.out.cell_ (i := 1) (v := .int .i64 K) rfl
            have r2 := f1.out.cell_ (i := 2) (v := .slice A1 n c1) rfl
            have r3 := f1.out.cell_ (i := 3) (v := .slice B1 m d1) rfl
            go_wp2_with fail
            refine bodyPost_ret (v := .tuple #[grV I K A1 n c1 B1 m d1, .slice none 0 0, .bool false]) (by simp [results, Try.results14, go_sem, r0, r1, r2, r3]) rfl HQ.out
          have hite : ∀ (α : Type) (a b : α), (if ty = st then (if gy = sg then a else b) else b) = b := fun α a b => by
            split
            · rename_i h1
              rw [if_neg (fun h2 => heq ⟨h1, h2⟩)]
            · rfl
          have hfr2 : Hid (∀ a y, a < i + 1 → a ≠ j → ps[a]? = some y → y.2.1 ≠ (st, sg)) := fun a y h1 h2 h3 => by
            by_cases h4 : a = i
            · subst h4
              rw [HY.out] at h3
              injection h3 with h3
              subst h3
              exact fun e => heq ⟨congrArg Prod.fst e, congrArg Prod.snd e⟩
            · exact hfr.out a y (by omega) h2 h3
          by_cases h1 : ty = st
          · have h2 : ¬ gy = sg := fun h2 => heq ⟨h1, h2⟩
            clear heq hite
            go_wp2_with fail
            go_roundw
            case rel => exact ⟨i + 1, by omega, by go_num, hfr2, hd2⟩
            case measure => simp [intOf]; omega
          · clear heq hite
            go_wp2_with fail
            go_roundw
            case rel => exact ⟨i + 1, by omega, by go_num, hfr2, hd2⟩
            case measure => simp [intOf]; omega
      · have hin : i = n := by omega
        have hir : ¬ (i : Int) < (n : Int) := by omega
        have hfree := free_of HX.out (s := (st, sg)) (fun a y h1 h2 h3 => hfr.out a y (by rw [hin, ← HL.out]; exact h1) h2 h3)
        have HOK := hid (show finOk ⟨I, K, ps, ds⟩ m1 (st, sg) = true from HFO3.out.trans (by rw [hfree]; rfl))
        have HFS := hid (finS_yes HOK.out)
        have HSRT := hid (fin_sort HND.out HAS.out HX.out hfree)
        clear hfree hin hfr HFO3
        obtain ⟨b, u1, u2, u3, u4, rfl, hbb, hbl, _, hea, hfz, hset⟩ := CG.out.oi.at_ hj
        have z0 := hea.c0
        have z1 := hea.c1
        have z2 := hea.c2
        have z3 := hea.c3
        have y0 := hfz (j * 4)
        have y1 := hfz (j * 4 + 1)
        have y2 := hfz (j * 4 + 2)
        have y3 := hfz (j * 4 + 3)
        obtain ⟨hs1, hs2⟩ := hset m1 st sg true
        unfold setE at hs1 hs2
        have PA := hid hs1.out
        have FA := hid (F.out.row CG.out.oi.2 (by decide) (by decide) (Nat.le_refl _) hs2)
        have DA := hid (CG.out.oh.grown hs2 (fun k hk hB => by injection hk with hk; subst hk; exact CG.out.ne _ hB rfl))
        have g0 := F.out.g.cell_ (i := 0) (v := .int .i64 I) rfl
        have g1 := F.out.g.cell_ (i := 1) (v := .int .i64 K) rfl
        have g2 := F.out.g.cell_ (i := 2) (v := .slice (some ⟨b, 0, none⟩) n c1) rfl
        have g3 := F.out.g.cell_ (i := 3) (v := .slice B1 m d1) rfl
        have t0 := F.out.t.cell_ (i := 0) (v := .int .i64 st) rfl
        have t1_ := F.out.t.cell_ (i := 1) (v := .int .i64 sg) rfl
        clear hset hfz hea hs1 hs2 F CG HI
        go_upto_region 14 with (fail)
        generalize (((wa.setCell _ _).setCell _ _).setCell _ _).setCell _ _ = wb at *
        clear z0 z1 z2 z3 y0 y1 y2 y3 g0 g1 g2 g3 t0 t1_
        have g2 := FA.out.g.cell_ (i := 2) (v := .slice (some ⟨b, 0, none⟩) n c1) rfl
        go_wp2_with fail
        refine (sorted_any _ n c1 _ wb PA.out.se (by omega) (by omega)).mono ?_
        rintro e w11 ⟨Z, a2, rfl, o11, s11⟩
        rw [HSRT.out] at o11
        have NEB := hid (show ∀ g, blockOf Z = some g → blockOf B1 ≠ some g from fun g hZ hB => by have h1 := (DA.out.lt g hB).2; have h2 := (o11.lt g hZ).1; omega)
        have FB := hid (FA.out.st s11)
        have DB := hid (DA.out.st s11)
        obtain ⟨L, hL⟩ : ∃ L, insE (m1, (st, sg), true) (restE ps m1) = L := ⟨_, rfl⟩
        rw [hL] at o11
        have PB := hid o11
        obtain ⟨Kn, hKn⟩ : ∃ z, (if K < st then st else K) = z := ⟨_, rfl⟩
        have HKN := hid (show max K st = Kn by rw [← hKn, Int.max_def]; split <;> split <;> omega)
        have HSG := hid (show setG ⟨I, K, ps, ds⟩ m1 (st, sg) = ⟨I, Kn, L, ds⟩ by unfold setG; simp only; rw [HKN.out, hL])
        clear o11 s11 FA DA PA hL HKN g2 HSRT
        generalize wb.heap.size = bz at *
        have g2 := FB.out.g.cell_ (i := 2) (v := .slice (some ⟨b, 0, none⟩) n c1) rfl
        have gf2 := FB.out.g.frozen 2
        have FC := hid (FB.out.set2 Z n a2)
        have hgB := World.grownBy_set w11 G 2 (.slice Z n a2)
        have PC := hid (PB.out.blk FB.out.g (by decide) hgB)
        have DC := hid (DB.out.blk FB.out.g (by decide) hgB)
        clear hgB DB PB
        go_upto_region 15 with (fail)
        generalize w11.setCell _ _ = w12 at *
        clear g2 gf2 FB
        have k1 := FC.out.k.cell_ (i := 1) (v := .int .i64 K) rfl
        have t0 := FC.out.t.cell_ (i := 0) (v := .int .i64 st) rfl
        have g1 := FC.out.g.cell_ (i := 1) (v := .int .i64 K) rfl
        have gf1 := FC.out.g.frozen 1
        have FD := hid (FC.out.set1 Kn)
        have hgB := World.grownBy_set w12 G 1 (.int .i64 Kn)
        have PD := hid (PC.out.blk FC.out.g (by decide) hgB)
        have DD := hid (DC.out.blk FC.out.g (by decide) hgB)
        clear hgB DC PC
        go_upto_region 16 with (fail)
        (try rw [hKn])
        generalize w12.setCell ⟨G, 1, none⟩ (.int .i64 Kn) = w13 at *
        clear k1 t0 g1 gf1 FC hKn
        have hGd : G + 1 ≤ w13.heap.size := FD.out.g.lt
        have OB := hid (OI.less (OI.lit (w := w13) (e := 3)) hGd)
        have s3 := (St.refl w13).alloc (.cells #[] 3)
        replace FD := hid (FD.out.st s3)
        replace PD := hid (PD.out.st s3)
        replace DD := hid (DD.out.st s3)
        clear s3 hGd
        have hmn : m + n ≤ 24 := by omega
        go_upto_region 17 with (fail)
        generalize w13.alloc (.cells #[] 3) = w14 at *
        generalize w13.heap.size = bd at *
        go_loopw [13] (fun v wr => ∃ (q u x' e' : Nat) (T Pp D : Option Addr), q ≤ n ∧ v = .slice T q u ∧ blockOf Pp = blockOf Z ∧ Hid (FS w wr G I K (some ad) n c B m d st sg Kn Pp (n - q) e' D (m + q) x') ∧ Hid (OE wr bz Z n a2 L) ∧ Hid (SE wr Pp (n - q) e' (L.drop q)) ∧ Hid (OE wr w.heap.size D (m + q) x' (ds ++ L.take q)) ∧ Hid (∀ g, blockOf Z = some g → blockOf D ≠ some g) ∧ Hid (OI wr (G + 1) 3 T q u (msgs (L.take q))) ∧ Hid (∀ z ∈ L.take q, z.2.2 = true)) (fun v _ => n - lenV v)
        case atStart => exact ⟨0, 0, d1, a2, _, Z, B1, Nat.zero_le _, rfl, rfl, FD, PD, PD.out.se, by have := DD.out; simpa using DD, NEB, OB, hid (by simp)⟩
        case round =>
          obtain ⟨wb, rfl⟩ : ∃ wo : World, wo = wr := ⟨_, rfl⟩
          obtain ⟨q, u, x', e', T, Pp, D, hq, rfl, hbP, F, PE, SP, DE, NE, TO, HFI⟩ := hrel
          clear FD PD DD NEB OB
          have g0 := F.out.g.cell_ (i := 0) (v := .int .i64 I) rfl
          have g1 := F.out.g.cell_ (i := 1) (v := .int .i64 Kn) rfl
          have g2 := F.out.g.cell_ (i := 2) (v := .slice Pp (n - q) e') rfl
          have g3 := F.out.g.cell_ (i := 3) (v := .slice D (m + q) x') rfl
          have hLN := hid PE.out.1
          by_cases hlt : q < n
          · obtain ⟨ay2, m2, t2, g2x, f2, rfl, hb2, hy2, y0, y1, y2, y3⟩ := SP.out.at_ (k := 0) (by omega)
            simp only [Nat.zero_mul, add_zero] at y0 y1 y2 y3
            have HY2 := hid (show L[q]? = some (m2, (t2, g2x), f2) by have := hy2.out; rwa [List.getElem?_drop, Nat.add_zero] at this)
            have hN0 : (0 : Int) < ((n - q : Nat) : Int) := by omega
            have hN1 : (0 : Nat) < n - q := by omega
            have hec := SP.out.nc
            have hecm := SP.out.cm
            unfold maxLen at hecm
            cases f2
            · have HEND := hid (del_end (g := ⟨I, Kn, L, ds⟩) (j := q) HFI.out (fun z hz => by have := HY2.out; rw [hz] at this; injection this with this; subst this; rfl))
              go_wp2_with fail
              refine (cloneEntry_any _ _ _ _ _ SP.out (by omega)).mono ?_
              rintro e w6 ⟨A5, c5, rfl, C5, s5⟩
              have hlen := hid (show (L.drop q).length = n - q from SP.out.len)
              rw [hlen.out] at C5 ⊢
              have F6 := hid (F.out.st s5)
              have T6 := hid (OI.st TO.out s5)
              have D6 := hid (DE.out.st s5)
              have HNE := hid (show ∀ g, blockOf D = some g → blockOf A5 ≠ some g from fun g hg hA => by have h1 := (DE.out.lt g hg).2; have h2 := (C5.lt g hA).1; omega)
              have E6 := hid (C5.less F.out.s.le)
              have HR := hid (show finM ⟨I, K, ps, ds⟩ m1 (st, sg) = (⟨I, Kn, L.drop q, ds ++ L.take q⟩, msgs (L.take q), true) from HFM.out.trans (HFS.out.trans (by rw [HSG.out, HEND.out.1, HEND.out.2])))
              clear C5 s5 HEND g0 g1 g2 g3
              have g2 := F6.out.g.cell_ (i := 2) (v := .slice (some ay2) (n - q) e') rfl
              have gf2 := F6.out.g.frozen 2
              have F7 := hid (F6.out.set2 A5 (n - q) c5)
              have hgB := World.grownBy_set w6 G 2 (.slice A5 (n - q) c5)
              have D7 := hid (D6.out.blk F6.out.g (by decide) hgB)
              have E7 := hid (E6.out.blk F6.out.g (by decide) hgB)
              have T7 := hid (T6.out.grown hgB (fun k hk hA => by injection hk with hk; have := (T6.out.lt k hA).1; omega))
              have C7 := hid (show OwGr _ w.heap.size I Kn A5 (n - q) c5 D (m + q) x' (L.drop q) (ds ++ L.take q) from ⟨E7.out, D7.out, HNE.out⟩)
              clear hgB D6 E6 T6 D7 E7 HNE
              go_upto_region 22 with (fail)
              generalize w6.setCell _ _ = w7 at *
              clear g2 gf2 F6
              have g0 := F7.out.g.cell_ (i := 0) (v := .int .i64 I) rfl
              have g1 := F7.out.g.cell_ (i := 1) (v := .int .i64 Kn) rfl
              have g2 := F7.out.g.cell_ (i := 2) (v := .slice A5 (n - q) c5) rfl
              have g3 := F7.out.g.cell_ (i := 3) (v := .slice D (m + q) x') rfl
              have l0 := F7.out.l.cell_ (i := 0) (v := .int .i64 0) rfl
              have l1 := F7.out.l.cell_ (i := 1) (v := .int .i64 0) rfl
              have l2 := F7.out.l.cell_ (i := 2) (v := .slice none 0 0) rfl
              have l3 := F7.out.l.cell_ (i := 3) (v := .slice none 0 0) rfl
              have lf0 := F7.out.l.frozen 0
              have lf1 := F7.out.l.frozen 1
              have lf2 := F7.out.l.frozen 2
              have lf3 := F7.out.l.frozen 3
              obtain ⟨f1, HQ⟩ := fn_fin HR.out F7.out.l C7.out T7.out F7.out.s (by have := F7.out.lt; omega)
              have r0 := f1.out.cell_ (i := 0) (v := .int .i64 I) rfl
              have r1 := f1.out.cell_ (i := 1) (v := .int .i64 Kn) rfl
              have r2 := f1.out.cell_ (i := 2) (v := .slice A5 (n - q) c5) rfl
              have r3 := f1.out.cell_ (i := 3) (v := .slice D (m + q) x') rfl
              go_wp2_with fail
              refine bodyPost_ret (v := .tuple #[grV I Kn A5 (n - q) c5 D (m + q) x', .slice T q u, .bool true]) (by simp [results, Try.results14, go_sem, r0, r1, r2, r3]) rfl HQ.out
            · have hGl : G + 1 ≤ wb.heap.size := F.out.g.lt
              go_wp2_with (at_builtin; refine wpList_append_int _ rfl _ _ 28 rfl (G + 1) 3 Try.underlying28 intInfo _ _ _ _ m2 rfl TO.out rfl (by omega) hGl ?_; intro T2 u2 w5 ho5 hg5)
              have F5 := hid (F.out.row TO.out (by decide) (by decide) (by have := F.out.lt; omega) hg5)
              have PE5 := hid (PE.out.grown hg5 (fun k hk hX => OI_OE_ne TO.out PE.out k hX hk))
              have SP5 := hid (SP.out.grownB hg5 (fun k hk hP => OI_OE_ne TO.out PE.out k (by rw [← hbP]; exact hP) hk))
              have DE5 := hid (DE.out.grown hg5 (fun k hk hD => OI_OE_ne TO.out DE.out k hD hk))
              have hneT : some ay2.block ≠ blockOf T := fun e => OI_OE_ne TO.out PE.out ay2.block (by rw [← hbP]; rfl) e.symm
              have T5 := hid (show OI w5 (G + 1) 3 T2 (q + 1) u2 (msgs (L.take (q + 1))) by rw [take_snoc HY2.out]; unfold msgs; rw [List.map_append]; exact ho5)
              have z0 := grown_cell hg5 y0 hneT
              have z1 := grown_cell hg5 y1 hneT
              have z2 := grown_cell hg5 y2 hneT
              have z3 := grown_cell hg5 y3 hneT
              clear F PE SP DE TO ho5 hg5 hneT y0 y1 y2 y3 g0 g1 g2 g3 hGl
              have g0 := F5.out.g.cell_ (i := 0) (v := .int .i64 I) rfl
              have g1 := F5.out.g.cell_ (i := 1) (v := .int .i64 Kn) rfl
              have g2 := F5.out.g.cell_ (i := 2) (v := .slice (some ay2) (n - q) e') rfl
              have g3 := F5.out.g.cell_ (i := 3) (v := .slice D (m + q) x') rfl
              have s6 : St w5 ((w5.alloc (.cells #[.int .i64 m2, .int .i64 t2, .int .i64 g2x, .bool true] 34)).drew) := ((St.refl w5).alloc _).drew
              have g63 := s6.cell g3
              have RO := hid (Reads.drew (Reads.one w5 34 #[.int .i64 m2, .int .i64 t2, .int .i64 g2x, .bool true] 4 rfl))
              have D6 := hid (World.ownsRow.dr (World.ownsRow.alloc DE5.out.2 (.cells #[.int .i64 m2, .int .i64 t2, .int .i64 g2x, .bool true] 34)) (w' := (w5.alloc (.cells #[.int .i64 m2, .int .i64 t2, .int .i64 g2x, .bool true] 34)).drew) ⟨1, rfl⟩)
              have HW6 := hid (show w.heap.size ≤ ((w5.alloc (.cells #[.int .i64 m2, .int .i64 t2, .int .i64 g2x, .bool true] 34)).drew).heap.size from (F5.out.s.trans s6).le)
              have hneD : some ay2.block ≠ blockOf D := fun e => NE.out ay2.block (by rw [← hbP]; rfl) e.symm
              have hayG : ay2.block ≠ G := fun e => by
                have h1 := PE5.out.ne_blk F5.out.g (by decide)
                rw [← hbP] at h1
                exact h1 (by rw [← e]; rfl)
              go_cut [] (fun wx => ∃ (D2 : Option Addr) (x2 : Nat), Hid (FS w wx G I K (some ad) n c B m d st sg Kn (some ay2) (n - q) e' D2 (m + q + 1) x2) ∧ Hid (OE wx bz Z n a2 L) ∧ Hid (SE wx (some ay2) (n - q) e' (L.drop q)) ∧ Hid (OE wx w.heap.size D2 (m + q + 1) x2 (ds ++ L.take (q + 1))) ∧ Hid (∀ g, blockOf Z = some g → blockOf D2 ≠ some g) ∧ Hid (OI wx (G + 1) 3 T2 (q + 1) u2 (msgs (L.take (q + 1)))))
              case first =>
                refine wp_region_held_drew (S := (fun w' => w'.cell? ⟨G, 2, none⟩ = some (.slice (some ay2) (n - q) e') ∧ w'.cell? ay2 = some (.int .i64 m2) ∧ w'.cell? ⟨ay2.block, ay2.off + 1, none⟩ = some (.int .i64 t2) ∧ w'.cell? ⟨ay2.block, ay2.off + 2, none⟩ = some (.int .i64 g2x) ∧ w'.cell? ⟨ay2.block, ay2.off + 3, none⟩ = some (.bool true))) (by kernel_rfl) ?_ (fun hH0 => ?_)
                · exact ⟨g2, z0, z1, z2, z3⟩
                refine wpAnyH_take (i := 0) (oi := ⟨some 111, _, _, _, _, _⟩) (v := ?_) rfl (by kernel_rfl) (by kernel_rfl) (by kernel_rfl) (fun _ _ _ h => h) (Or.inl ⟨by rfl, ?_⟩) (by assumption) ?_
                rotate_left
                · (intro w hSw; (try dsimp only at hSw); go_simp; (try with_reducible rfl))
                (try simp only [Act.put, List.setIfInBounds_toArray, List.set_cons_zero, List.set_cons_succ])
                refine wpAnyH_take (i := 2) (oi := ⟨some 113, _, _, _, _, _⟩) (v := ?_) rfl (by kernel_rfl) (by kernel_rfl) (by kernel_rfl) (fun _ _ _ h => h) (Or.inl ⟨by rfl, ?_⟩) (by assumption) ?_
                rotate_left
                · (intro w hSw; (try dsimp only at hSw); go_simp; (try with_reducible rfl))
                (try simp only [Act.put, List.setIfInBounds_toArray, List.set_cons_zero, List.set_cons_succ])
                refine wpAnyH_take (i := 3) (oi := ⟨some 114, _, _, _, _, _⟩) (v := ?_) rfl (by kernel_rfl) (by kernel_rfl) (by kernel_rfl) (fun _ _ _ h => h) (Or.inl ⟨by rfl, ?_⟩) (by assumption) ?_
                rotate_left
                · (intro w hSw; (try dsimp only at hSw); go_simp; (try with_reducible rfl))
                (try simp only [Act.put, List.setIfInBounds_toArray, List.set_cons_zero, List.set_cons_succ])
                refine wpAnyH_take (i := 4) (oi := ⟨some 115, _, _, _, _, _⟩) (v := ?_) rfl (by kernel_rfl) (by kernel_rfl) (by kernel_rfl) (fun _ _ _ h => h) (Or.inl ⟨by rfl, ?_⟩) (by assumption) ?_
                rotate_left
                · (intro w hSw; (try dsimp only at hSw); go_simp; (try with_reducible rfl))
                (try simp only [Act.put, List.setIfInBounds_toArray, List.set_cons_zero, List.set_cons_succ])
                refine wpAnyH_take (i := 5) (oi := ⟨some 116, _, _, _, _, _⟩) (v := ?_) rfl (by kernel_rfl) (by kernel_rfl) (by kernel_rfl) (fun _ _ _ h => h) (Or.inl ⟨by rfl, ?_⟩) (by assumption) ?_
                rotate_left
                · (intro w hSw; (try dsimp only at hSw); go_simp; (try with_reducible rfl))
                (try simp only [Act.put, List.setIfInBounds_toArray, List.set_cons_zero, List.set_cons_succ])
                refine wpAnyH_ready (rs := [1, 6]) (by kernel_rfl) (by simp) ?_
                refine AllReadyH.cons (o := ⟨some 112, _, _, _, _, _⟩) rfl (fun K hK => ?_) ?_
                · skip
                  go_simp
                  (first | (refine hK.out _ _ ?_ (fun hH1 => ?_)) | (go_wp2_with fail; refine hK.out _ _ ?_ (fun hH1 => ?_)))
                  · first | with_reducible exact ⟨g2, z0, z1, z2, z3⟩ | exact ⟨g2, z0, z1, z2, z3⟩ | exact ⟨s6.cell g2, s6.cell z0, s6.cell z1, s6.cell z2, s6.cell z3⟩
                  clear hK K hH0
                  (try simp only [Act.put, List.setIfInBounds_toArray, List.set_cons_zero, List.set_cons_succ])
                  refine wpAnyH_ready (rs := [6]) (by kernel_rfl) (by simp) ?_
                  refine AllReadyH.cons (o := ⟨some 117, _, _, _, _, _⟩) rfl (fun K hK => ?_) AllReadyH.nil
                  go_simp
                  (first | (refine hK.out _ _ ?_ (fun hH2 => ?_)) | (go_wp2_with fail; refine hK.out _ _ ?_ (fun hH2 => ?_)))
                  · exact ⟨s6.cell g2, s6.cell z0, s6.cell z1, s6.cell z2, s6.cell z3⟩
                  clear hK K hH1
                  (try simp only [Act.put, List.setIfInBounds_toArray, List.set_cons_zero, List.set_cons_succ])
                  refine wpAnyH_ready (rs := [7]) (by kernel_rfl) (by simp) ?_
                  refine AllReadyH.cons (o := ⟨some 118, _, _, _, _, _⟩) rfl (fun K hK => ?_) AllReadyH.nil
                  (refine step_append_rows_at ((w5.alloc (.cells #[.int .i64 m2, .int .i64 t2, .int .i64 g2x, .bool true] 34)).drew) (by rfl) (.tmp 112) (.tmp 117) 23 (by rfl) w.heap.size 34 4 32 eZ Try.underlying23 entInfo rfl (by omega) D (m + q) x' (entCells (ds ++ L.take q)) (by rfl) D6.out _ (some ⟨w5.heap.size, 0, none⟩) 1 1 (entCells [(m2, (t2, g2x), true)]) (by rfl) RO.out (entCells_one _) (by omega) (by omega) HW6.out ?_; intro D2 x2 w7 ho7 hg7 hat; rw [← entCells_app] at ho7; have F7 := hid ((F5.out.st s6).row D6.out (by decide) (by decide) (Nat.le_refl _) hg7); have g73 := F7.out.g.cell_ (i := 3) (v := .slice D (m + q) x') rfl; have gf3 := F7.out.g.frozen 3; have v0 := grown_cell hg7 (s6.cell z0) hneD; have v1 := grown_cell hg7 (s6.cell z1) hneD; have v2 := grown_cell hg7 (s6.cell z2) hneD; have v3 := grown_cell hg7 (s6.cell z3) hneD; have g72 := F7.out.g.cell_ (i := 2) (v := .slice (some ay2) (n - q) e') rfl)
                  (first | (refine hK.out _ _ ?_ (fun hH3 => ?_)) | (go_wp2_with fail; refine hK.out _ _ ?_ (fun hH3 => ?_)))
                  · exact ⟨g72, v0, v1, v2, v3⟩
                  clear hK K hH2
                  (try simp only [Act.put, List.setIfInBounds_toArray, List.set_cons_zero, List.set_cons_succ])
                  refine wpAnyH_take (i := 8) (oi := ⟨some 119, _, _, _, _, _⟩) (v := ?_) rfl (by kernel_rfl) (by kernel_rfl) (by kernel_rfl) (fun _ _ _ h => h) (Or.inl ⟨by rfl, ?_⟩) (by assumption) ?_
                  rotate_left
                  · (intro w hSw; (try dsimp only at hSw); go_simp; (try with_reducible rfl))
                  (try simp only [Act.put, List.setIfInBounds_toArray, List.set_cons_zero, List.set_cons_succ])
                  refine wpAnyH_ready (rs := [9]) (by kernel_rfl) (by simp) ?_
                  refine AllReadyH.cons (o := ⟨none, _, _, _, _, _⟩) rfl (fun K hK => ?_) AllReadyH.nil
                  go_simp
                  (first | (refine hK.out _ _ ?_ (fun hH4 => ?_)) | (go_wp2_with fail; refine hK.out _ _ ?_ (fun hH4 => ?_)))
                  · exact ⟨(F7.out.set3 D2 (m + q + 1) x2).g.cell_ (i := 2) (v := .slice (some ay2) (n - q) e') rfl, cell_set v0 hayG, cell_set v1 hayG, cell_set v2 hayG, cell_set v3 hayG⟩
                  clear hK K hH3
                  (try simp only [Act.put, List.setIfInBounds_toArray, List.set_cons_zero, List.set_cons_succ])
                  refine wpAnyH_done (by kernel_rfl) ?_ _
                  clear hH4
                  have PE7 := hid ((PE5.out.st s6).grown hg7 (fun k hk hX => NE.out k hX hk))
                  have SP7 := hid ((SP5.out.st s6).grownB hg7 (fun k hk hP => NE.out k (by rw [← hbP]; exact hP) hk))
                  have T7 := hid (OI.grown (OI.st T5.out s6) hg7 (fun k hk hT => OI_OE_ne T5.out DE5.out k hk hT))
                  have NE7 := hid (show ∀ g, blockOf Z = some g → blockOf D2 ≠ some g from fun g hg hD => by
                    rcases hat with h | h
                    · rw [h] at hD; exact NE.out g hg hD
                    · rw [h] at hD
                      injection hD with hD
                      have := ((PE5.out.st s6).lt g hg).2
                      omega)
                  have DE7 := hid (show OE w7 w.heap.size D2 (m + q + 1) x2 (ds ++ L.take (q + 1)) by
                    rw [take_snoc HY2.out, ← List.append_assoc]
                    exact ⟨by rw [List.length_append, DE5.out.1]; rfl, ho7⟩)
                  have F8 := hid (F7.out.set3 D2 (m + q + 1) x2)
                  have hgB := World.grownBy_set w7 G 3 (.slice D2 (m + q + 1) x2)
                  have PE8 := hid (PE7.out.blk F7.out.g (by decide) hgB)
                  have SP8 := hid (SP7.out.grownB hgB (fun k hk hP => by injection hk with hk; subst hk; injection hP with hP; exact hayG hP))
                  have DE8 := hid (DE7.out.blk F7.out.g (by decide) hgB)
                  have T8 := hid (T7.out.grown hgB (fun k hk hA => by injection hk with hk; have := (T7.out.lt k hA).1; omega))
                  clear ho7 hg7 hat F7 PE7 SP7 T7 DE7 hgB
                  go_wp2_with fail
                  go_meet
                  exact ⟨D2, x2, F8, PE8, SP8, DE8, NE7, T8⟩
                refine AllReadyH.cons (o := ⟨some 117, _, _, _, _, _⟩) rfl (fun K hK => ?_) ?_
                · skip
                  go_simp
                  (first | (refine hK.out _ _ ?_ (fun hH1 => ?_)) | (go_wp2_with fail; refine hK.out _ _ ?_ (fun hH1 => ?_)))
                  · exact ⟨s6.cell g2, s6.cell z0, s6.cell z1, s6.cell z2, s6.cell z3⟩
                  clear hK K hH0
                  (try simp only [Act.put, List.setIfInBounds_toArray, List.set_cons_zero, List.set_cons_succ])
                  refine wpAnyH_ready (rs := [1]) (by kernel_rfl) (by simp) ?_
                  refine AllReadyH.cons (o := ⟨some 112, _, _, _, _, _⟩) rfl (fun K hK => ?_) AllReadyH.nil
                  go_simp
                  (first | (refine hK.out _ _ ?_ (fun hH2 => ?_)) | (go_wp2_with fail; refine hK.out _ _ ?_ (fun hH2 => ?_)))
                  · first | with_reducible exact ⟨g2, z0, z1, z2, z3⟩ | exact ⟨g2, z0, z1, z2, z3⟩ | exact ⟨s6.cell g2, s6.cell z0, s6.cell z1, s6.cell z2, s6.cell z3⟩
                  clear hK K hH1
                  (try simp only [Act.put, List.setIfInBounds_toArray, List.set_cons_zero, List.set_cons_succ])
                  refine wpAnyH_ready (rs := [7]) (by kernel_rfl) (by simp) ?_
                  refine AllReadyH.cons (o := ⟨some 118, _, _, _, _, _⟩) rfl (fun K hK => ?_) AllReadyH.nil
                  (refine step_append_rows_at ((w5.alloc (.cells #[.int .i64 m2, .int .i64 t2, .int .i64 g2x, .bool true] 34)).drew) (by rfl) (.tmp 112) (.tmp 117) 23 (by rfl) w.heap.size 34 4 32 eZ Try.underlying23 entInfo rfl (by omega) D (m + q) x' (entCells (ds ++ L.take q)) (by rfl) D6.out _ (some ⟨w5.heap.size, 0, none⟩) 1 1 (entCells [(m2, (t2, g2x), true)]) (by rfl) RO.out (entCells_one _) (by omega) (by omega) HW6.out ?_; intro D2 x2 w7 ho7 hg7 hat; rw [← entCells_app] at ho7; have F7 := hid ((F5.out.st s6).row D6.out (by decide) (by decide) (Nat.le_refl _) hg7); have g73 := F7.out.g.cell_ (i := 3) (v := .slice D (m + q) x') rfl; have gf3 := F7.out.g.frozen 3; have v0 := grown_cell hg7 (s6.cell z0) hneD; have v1 := grown_cell hg7 (s6.cell z1) hneD; have v2 := grown_cell hg7 (s6.cell z2) hneD; have v3 := grown_cell hg7 (s6.cell z3) hneD; have g72 := F7.out.g.cell_ (i := 2) (v := .slice (some ay2) (n - q) e') rfl)
                  (first | (refine hK.out _ _ ?_ (fun hH3 => ?_)) | (go_wp2_with fail; refine hK.out _ _ ?_ (fun hH3 => ?_)))
                  · exact ⟨g72, v0, v1, v2, v3⟩
                  clear hK K hH2
                  (try simp only [Act.put, List.setIfInBounds_toArray, List.set_cons_zero, List.set_cons_succ])
                  refine wpAnyH_take (i := 8) (oi := ⟨some 119, _, _, _, _, _⟩) (v := ?_) rfl (by kernel_rfl) (by kernel_rfl) (by kernel_rfl) (fun _ _ _ h => h) (Or.inl ⟨by rfl, ?_⟩) (by assumption) ?_
                  rotate_left
                  · (intro w hSw; (try dsimp only at hSw); go_simp; (try with_reducible rfl))
                  (try simp only [Act.put, List.setIfInBounds_toArray, List.set_cons_zero, List.set_cons_succ])
                  refine wpAnyH_ready (rs := [9]) (by kernel_rfl) (by simp) ?_
                  refine AllReadyH.cons (o := ⟨none, _, _, _, _, _⟩) rfl (fun K hK => ?_) AllReadyH.nil
                  go_simp
                  (first | (refine hK.out _ _ ?_ (fun hH4 => ?_)) | (go_wp2_with fail; refine hK.out _ _ ?_ (fun hH4 => ?_)))
                  · exact ⟨(F7.out.set3 D2 (m + q + 1) x2).g.cell_ (i := 2) (v := .slice (some ay2) (n - q) e') rfl, cell_set v0 hayG, cell_set v1 hayG, cell_set v2 hayG, cell_set v3 hayG⟩
                  clear hK K hH3
                  (try simp only [Act.put, List.setIfInBounds_toArray, List.set_cons_zero, List.set_cons_succ])
                  refine wpAnyH_done (by kernel_rfl) ?_ _
                  clear hH4
                  have PE7 := hid ((PE5.out.st s6).grown hg7 (fun k hk hX => NE.out k hX hk))
                  have SP7 := hid ((SP5.out.st s6).grownB hg7 (fun k hk hP => NE.out k (by rw [← hbP]; exact hP) hk))
                  have T7 := hid (OI.grown (OI.st T5.out s6) hg7 (fun k hk hT => OI_OE_ne T5.out DE5.out k hk hT))
                  have NE7 := hid (show ∀ g, blockOf Z = some g → blockOf D2 ≠ some g from fun g hg hD => by
                    rcases hat with h | h
                    · rw [h] at hD; exact NE.out g hg hD
                    · rw [h] at hD
                      injection hD with hD
                      have := ((PE5.out.st s6).lt g hg).2
                      omega)
                  have DE7 := hid (show OE w7 w.heap.size D2 (m + q + 1) x2 (ds ++ L.take (q + 1)) by
                    rw [take_snoc HY2.out, ← List.append_assoc]
                    exact ⟨by rw [List.length_append, DE5.out.1]; rfl, ho7⟩)
                  have F8 := hid (F7.out.set3 D2 (m + q + 1) x2)
                  have hgB := World.grownBy_set w7 G 3 (.slice D2 (m + q + 1) x2)
                  have PE8 := hid (PE7.out.blk F7.out.g (by decide) hgB)
                  have SP8 := hid (SP7.out.grownB hgB (fun k hk hP => by injection hk with hk; subst hk; injection hP with hP; exact hayG hP))
                  have DE8 := hid (DE7.out.blk F7.out.g (by decide) hgB)
                  have T8 := hid (T7.out.grown hgB (fun k hk hA => by injection hk with hk; have := (T7.out.lt k hA).1; omega))
                  clear ho7 hg7 hat F7 PE7 SP7 T7 DE7 hgB
                  go_wp2_with fail
                  go_meet
                  exact ⟨D2, x2, F8, PE8, SP8, DE8, NE7, T8⟩
                exact AllReadyH.nil
              case rest =>
              obtain ⟨D2, x2, F8, PE8, SP8, DE8, NE7, T8⟩ := hcut
              clear g0 g1 g2 g3 g63 z0 z1 z2 z3 s6 RO D6 HW6 hneD hayG F5 PE5 SP5 DE5 T5 NE
              have g0 := F8.out.g.cell_ (i := 0) (v := .int .i64 I) rfl
              have g1 := F8.out.g.cell_ (i := 1) (v := .int .i64 Kn) rfl
              have g2 := F8.out.g.cell_ (i := 2) (v := .slice (some ay2) (n - q) e') rfl
              have g3 := F8.out.g.cell_ (i := 3) (v := .slice D2 (m + q + 1) x2) rfl
              have gf2 := F8.out.g.frozen 2
              obtain ⟨P9, hP9⟩ : ∃ X, X = (if e' = 1 then some ay2 else (some ay2).map (·.add (1 * 4))) := ⟨_, rfl⟩
              have hcut9 : ∀ W, (Instr.slice 23 (.slice (some ay2) (n - q) e') (some (.int .i64 1)) none none).run Try.prog W = .ok (.slice P9 (n - q - 1) (e' - 1)) W := fun W => by
                have := cut_ents (some ay2) (n := n - q) (c := e') 1 (by omega) (by omega) W
                rwa [← hP9] at this
              have SP9 := hid (SP8.out.cut (k := 1) (by omega))
              rw [← hP9, List.drop_drop] at SP9
              have hb9 : blockOf P9 = blockOf Z := by rw [hP9, blockOf_cut]; exact hbP
              have F9 := hid (F8.out.set2 P9 (n - q - 1) (e' - 1))
              have hgB := World.grownBy_set wc G 2 (.slice P9 (n - q - 1) (e' - 1))
              have PE9 := hid (PE8.out.blk F8.out.g (by decide) hgB)
              have hXG : blockOf Z ≠ some G := PE8.out.ne_blk F8.out.g (by decide)
              have SP10 := hid (SP9.out.grownB hgB (fun k hk hP => by injection hk with hk; subst hk; rw [hb9] at hP; exact hXG hP))
              have DE9 := hid (DE8.out.blk F8.out.g (by decide) hgB)
              have T9 := hid (T8.out.grown hgB (fun k hk hA => by injection hk with hk; have := (T8.out.lt k hA).1; omega))
              have hfi := hid (del_step (g := ⟨I, Kn, L, ds⟩) HFI.out HY2.out rfl)
              have hsub : n - q - 1 = n - (q + 1) := by omega
              rw [hsub] at F9 SP10
              clear hP9 hgB hXG SP9 PE8 SP8 DE8 T8 hy2
              go_wp2_with fail
              go_roundw
              case rel => exact ⟨q + 1, u2, x2, e' - 1, T2, P9, D2, by omega, by rfl, hb9, F9, PE9, SP10, DE9, NE7, T9, hfi⟩
              case measure => simp [lenV]; omega
          · have hz : n - q = 0 := by omega
            have hqN : q = n := by omega
            have HEND := hid (del_end (g := ⟨I, Kn, L, ds⟩) (j := q) HFI.out (fun z hz => by have h1 : q < L.length := (List.getElem?_eq_some_iff.1 hz).1; have h2 := hLN.out; omega))
            rw [hz] at F SP
            have hmq : m + q ≤ 2002 := by omega
            clear g0 g1 g2 g3 hz hqN hlt hq hmn
            have g0 := F.out.g.cell_ (i := 0) (v := .int .i64 I) rfl
            have g1 := F.out.g.cell_ (i := 1) (v := .int .i64 Kn) rfl
            have g2 := F.out.g.cell_ (i := 2) (v := .slice Pp 0 e') rfl
            have g3 := F.out.g.cell_ (i := 3) (v := .slice D (m + q) x') rfl
            go_wp2_with fail
            refine (cloneEntry_any _ _ _ _ _ SP.out (by omega)).mono ?_
            rintro e w6 ⟨A5, c5, rfl, C5, s5⟩
            have hlen := hid (show (L.drop q).length = 0 from SP.out.len)
            rw [hlen.out] at C5 ⊢
            have F6 := hid (F.out.st s5)
            have T6 := hid (OI.st TO.out s5)
            have D6 := hid (DE.out.st s5)
            have HNE := hid (show ∀ g, blockOf D = some g → blockOf A5 ≠ some g from fun g hg hA => by have h1 := (DE.out.lt g hg).2; have h2 := (C5.lt g hA).1; omega)
            have E6 := hid (C5.less F.out.s.le)
            have HR := hid (show finM ⟨I, K, ps, ds⟩ m1 (st, sg) = (⟨I, Kn, L.drop q, ds ++ L.take q⟩, msgs (L.take q), true) from HFM.out.trans (HFS.out.trans (by rw [HSG.out, HEND.out.1, HEND.out.2])))
            clear C5 s5 HEND g0 g1 g2 g3
            have g2 := F6.out.g.cell_ (i := 2) (v := .slice Pp (0) e') rfl
            have gf2 := F6.out.g.frozen 2
            have F7 := hid (F6.out.set2 A5 (0) c5)
            have hgB := World.grownBy_set w6 G 2 (.slice A5 (0) c5)
            have D7 := hid (D6.out.blk F6.out.g (by decide) hgB)
            have E7 := hid (E6.out.blk F6.out.g (by decide) hgB)
            have T7 := hid (T6.out.grown hgB (fun k hk hA => by injection hk with hk; have := (T6.out.lt k hA).1; omega))
            have C7 := hid (show OwGr _ w.heap.size I Kn A5 (0) c5 D (m + q) x' (L.drop q) (ds ++ L.take q) from ⟨E7.out, D7.out, HNE.out⟩)
            clear hgB D6 E6 T6 D7 E7 HNE
            go_upto_region 22 with (fail)
            generalize w6.setCell _ _ = w7 at *
            clear g2 gf2 F6
            have g0 := F7.out.g.cell_ (i := 0) (v := .int .i64 I) rfl
            have g1 := F7.out.g.cell_ (i := 1) (v := .int .i64 Kn) rfl
            have g2 := F7.out.g.cell_ (i := 2) (v := .slice A5 (0) c5) rfl
            have g3 := F7.out.g.cell_ (i := 3) (v := .slice D (m + q) x') rfl
            have l0 := F7.out.l.cell_ (i := 0) (v := .int .i64 0) rfl
            have l1 := F7.out.l.cell_ (i := 1) (v := .int .i64 0) rfl
            have l2 := F7.out.l.cell_ (i := 2) (v := .slice none 0 0) rfl
            have l3 := F7.out.l.cell_ (i := 3) (v := .slice none 0 0) rfl
            have lf0 := F7.out.l.frozen 0
            have lf1 := F7.out.l.frozen 1
            have lf2 := F7.out.l.frozen 2
            have lf3 := F7.out.l.frozen 3
            obtain ⟨f1, HQ⟩ := fn_fin HR.out F7.out.l C7.out T7.out F7.out.s (by have := F7.out.lt; omega)
            have r0 := f1.out.cell_ (i := 0) (v := .int .i64 I) rfl
            have r1 := f1.out.cell_ (i := 1) (v := .int .i64 Kn) rfl
            have r2 := f1.out.cell_ (i := 2) (v := .slice A5 (0) c5) rfl
            have r3 := f1.out.cell_ (i := 3) (v := .slice D (m + q) x') rfl
            go_wp2_with fail
            refine bodyPost_ret (v := .tuple #[grV I Kn A5 (0) c5 D (m + q) x', .slice T q u, .bool true]) (by simp [results, Try.results14, go_sem, r0, r1, r2, r3]) rfl HQ.out
end Go.Proofs.Ytkhgemgmnchodaa
