/- Groups by value: the laws' comparison, copy, marks and sizes; the shapes that exact laws use. -/
import Derived.Test.YtkhgemgmnchodaaEn2
namespace Go.Proofs.Ytkhgemgmnchodaa
open Go.RowKit Go.Sort
/-- A group by value. -/
abbrev grV (I K : Int) (A : Option Addr) (n c : Nat) (B : Option Addr) (m d : Nat) : Value := .agg #[.int .i64 I, .int .i64 K, .slice A n c, .slice B m d]
abbrev grC (I K : Int) (A : Option Addr) (n c : Nat) (B : Option Addr) (m d : Nat) : Array Value := #[.int .i64 I, .int .i64 K, .slice A n c, .slice B m d]
set_option maxHeartbeats 1000000 in
theorem eqGroup_same (I K : Int) (A A' B B' : Option Addr) (n c m d n' c' m' d' : Nat) (ps ds : List Ent) (w : World) (h : SE w A n c ps) (k : SE w B m d ds) (h' : SE w A' n' c' ps) (k' : SE w B' m' d' ds) (hn : n ≤ 1048576) (hm : m ≤ 1048576) :
    Calls Try.prog 29 #[grV I K A n c B m d, grV I K A' n' c' B' m' d'] w fun e w' => e = .returned (.bool true) ∧ St w w' := by
  have s1 := ((St.refl w).alloc (.cells (grC I K A n c B m d) 25)).alloc (.cells (grC I K A' n' c' B' m' d') 25)
  have b1 := (Blk.new w 25 (grC I K A n c B m d)).alloc (.cells (grC I K A' n' c' B' m' d') 25)
  have b2 := Blk.new (w.alloc (.cells (grC I K A n c B m d) 25)) 25 (grC I K A' n' c' B' m' d')
  rw [World.heap_alloc_size'] at b2
  have B1 := hid b1
  have B2 := hid b2
  have S1 := hid s1
  have h1 := h.st s1
  have h1' := h'.st s1
  have K1 := hid (k.st s1)
  have K1' := hid (k'.st s1)
  clear b1 b2 s1
  have hne := neq_of (x := I) (y := I) rfl
  have hne2 := neq_of (x := K) (y := K) rfl
  rw [beq_self_eq_true] at hne hne2
  go_enter Try.func29, Try.ntmps29
  go_wp2_with fail
  refine (eqEntryS_same _ _ _ _ _ _ _ _ h1 h1' hn).mono ?_
  rintro e w1 ⟨rfl, s2⟩
  have c1 := (B1.out.st s2).cell_ (i := 3) (v := .slice B m d) rfl
  have c2 := (B2.out.st s2).cell_ (i := 3) (v := .slice B' m' d') rfl
  have S2 := hid (S1.out.trans s2)
  have K2 := hid (K1.out.st s2)
  have K2' := hid (K1'.out.st s2)
  go_wp2_with fail
  refine (eqEntryS_same _ _ _ _ _ _ _ _ K2.out K2'.out hm).mono ?_
  rintro e w3 ⟨rfl, s3⟩
  go_wp2_with fail
  go_ret
  exact ⟨rfl, S2.out.trans s3⟩
set_option maxHeartbeats 2000000 in
theorem toGroup_any (I K : Int) (A B : Option Addr) (n c m d : Nat) (ps ds : List Ent) (w : World) (h : SE w A n c ps) (h' : SE w B m d ds) (hn : n ≤ 1048576) (hm : m ≤ 1048576) :
    Calls Try.prog 27 #[grV I K A n c B m d] w fun e w' => ∃ A' c' B' d', e = .returned (grV I K A' n c' B' m d') ∧ OE w' w.heap.size A' n c' ps ∧ OE w' w.heap.size B' m d' ds ∧ St w w' ∧ (∀ g, blockOf B' = some g → blockOf A' ≠ some g) := by
  have s0 := ((St.refl w).alloc (.cells #[.int .i64 I, .int .i64 K, .slice A n c, .slice B m d] 51)).alloc (.cells #[.int .i64 0, .int .i64 0, .slice none 0 0, .slice none 0 0] 25) |>.alloc (.cells #[.int .i64 I, .int .i64 K, .slice none 0 0, .slice none 0 0] 25)
  have b1 := Blk.new w 51 #[.int .i64 I, .int .i64 K, .slice A n c, .slice B m d]
  have b2 := Blk.new (w.alloc (.cells #[.int .i64 I, .int .i64 K, .slice A n c, .slice B m d] 51)) 25 #[.int .i64 0, .int .i64 0, .slice none 0 0, .slice none 0 0]
  have b3 := Blk.new ((w.alloc (.cells #[.int .i64 I, .int .i64 K, .slice A n c, .slice B m d] 51)).alloc (.cells #[.int .i64 0, .int .i64 0, .slice none 0 0, .slice none 0 0] 25)) 25 #[.int .i64 I, .int .i64 K, .slice none 0 0, .slice none 0 0]
  have e1 : (w.alloc (.cells #[.int .i64 I, .int .i64 K, .slice A n c, .slice B m d] 51)).heap.size = w.heap.size + 1 := by simp
  have e2 : ((w.alloc (.cells #[.int .i64 I, .int .i64 K, .slice A n c, .slice B m d] 51)).alloc (.cells #[.int .i64 0, .int .i64 0, .slice none 0 0, .slice none 0 0] 25)).heap.size = w.heap.size + 1 + 1 := by simp
  rw [e1] at b2
  rw [e2] at b3
  have HB1 := hid ((b1.alloc (.cells #[.int .i64 0, .int .i64 0, .slice none 0 0, .slice none 0 0] 25)).alloc (.cells #[.int .i64 I, .int .i64 K, .slice none 0 0, .slice none 0 0] 25))
  have HB2 := hid (b2.alloc (.cells #[.int .i64 I, .int .i64 K, .slice none 0 0, .slice none 0 0] 25))
  have HB3 := hid b3
  have HS := hid s0
  have HE := hid (show (((w.alloc (.cells #[.int .i64 I, .int .i64 K, .slice A n c, .slice B m d] 51)).alloc (.cells #[.int .i64 0, .int .i64 0, .slice none 0 0, .slice none 0 0] 25)).alloc (.cells #[.int .i64 I, .int .i64 K, .slice none 0 0, .slice none 0 0] 25)).heap.size = w.heap.size + 3 by simp)
  have h1 := h.st s0
  clear b1 b2 b3 e1 e2 s0
  go_enter Try.func27, Try.ntmps27
  go_wp2_with fail
  generalize ((w.alloc (.cells #[.int .i64 I, .int .i64 K, .slice A n c, .slice B m d] 51)).alloc (.cells #[.int .i64 0, .int .i64 0, .slice none 0 0, .slice none 0 0] 25)).alloc (.cells #[.int .i64 I, .int .i64 K, .slice none 0 0, .slice none 0 0] 25) = W at HB1 HB2 HB3 HS HE h1 ⊢
  refine (toEntryS_any _ _ _ _ _ h1 hn).mono ?_
  rintro e w1 ⟨Aq, cq, rfl, o1, s1⟩
  have s1 : St W w1 := s1
  have c1 := HB1.out.below s1 HB1.out.lt
  have c2 := HB2.out.below s1 HB2.out.lt
  have c3 := HB3.out.below s1 HB3.out.lt
  have st1 := hid (HS.out.trans s1)
  have z := HE.out
  have le1 := s1.le
  clear HB1 HB2 HB3 h1 HS HE s1
  have hf := c3.frozen 2
  have hc := c3.cell_ (i := 2) (v := .slice none 0 0) rfl
  have hc1 := c1.cell_ (i := 3) (v := .slice B m d) rfl
  have D1 := hid (c1.far (p := ⟨w.heap.size + 1 + 1, 2, none⟩) (by simp; omega) (.slice Aq n cq))
  have D2 := hid (c2.far (p := ⟨w.heap.size + 1 + 1, 2, none⟩) (by simp) (.slice Aq n cq))
  have D3 := hid (c3.set_ 2 (.slice Aq n cq))
  have hd1 := D1.out.cell_ (i := 3) (v := .slice B m d) rfl
  have S1 := hid (st1.out.setCell (p := ⟨w.heap.size + 1 + 1, 2, none⟩) (by simp; omega) (.slice Aq n cq))
  have hne : ∀ q, q < W.heap.size → ∀ g, some q = some g → blockOf (Aq) ≠ some g := fun q hq g hg hA => by injection hg with hg; have := (o1.lt g hA).1; omega
  have O1 := hid (o1.grown (World.grownBy_set w1 (w.heap.size + 1 + 1) 2 (.slice Aq n cq)) (hne _ (by omega)))
  have LE1 := hid (show W.heap.size ≤ (w1.setCell ⟨w.heap.size + 1 + 1, 2, none⟩ (.slice Aq n cq)).heap.size by simp [World.setCell]; omega)
  have HNE := hid hne
  have HZ := hid z
  clear c1 c2 c3 z o1 hne st1 le1
  go_wp2_with fail
  generalize w1.setCell ⟨w.heap.size + 1 + 1, 2, none⟩ (.slice Aq n cq) = W2 at D1 D2 D3 hd1 S1 O1 LE1 ⊢
  have h2 := h'.st S1.out
  refine (toEntryS_any _ _ _ _ _ h2 hm).mono ?_
  rintro e w3 ⟨B3, d3, rfl, o3, s3⟩
  have s3 : St W2 w3 := s3
  have z := HZ.out
  have le2 := LE1.out
  have c2 := D2.out.below s3 D2.out.lt
  have c3 := D3.out.below s3 D3.out.lt
  have O3 := O1.out.st s3
  have S3 := S1.out.trans s3
  have hf3 := c3.frozen 3
  have hc3 := c3.cell_ (i := 3) (v := .slice none 0 0) rfl
  have hm0 := c3.cell_ (i := 0) (v := .int .i64 I) rfl
  have hm1 := c3.cell_ (i := 1) (v := .int .i64 K) rfl
  have hm2 := c3.cell_ (i := 2) (v := .slice Aq n cq) rfl
  have hz0 := c2.cell_ (i := 0) (v := .int .i64 0) rfl
  have hzf0 := c2.frozen 0
  have hz1 := c2.cell_ (i := 1) (v := .int .i64 0) rfl
  have hzf1 := c2.frozen 1
  have hz2 := c2.cell_ (i := 2) (v := .slice none 0 0) rfl
  have hzf2 := c2.frozen 2
  have hz3 := c2.cell_ (i := 3) (v := .slice none 0 0) rfl
  have hzf3 := c2.frozen 3
  have e2 := c2.far (p := ⟨w.heap.size + 1 + 1, 3, none⟩) (by simp) (.slice B3 m d3)
  have e3 := c3.set_ 3 (.slice B3 m d3)
  have he0 := e3.cell_ (i := 0) (v := .int .i64 I) rfl
  have he1 := e3.cell_ (i := 1) (v := .int .i64 K) rfl
  have he2 := e3.cell_ (i := 2) (v := .slice Aq n cq) rfl
  have he3 := e3.cell_ (i := 3) (v := .slice B3 m d3) rfl
  have hg0 := e2.frozen 0
  have hg1 := e2.frozen 1
  have hg2 := e2.frozen 2
  have hg3 := e2.frozen 3
  have f2 := ((((e2.set_ 0 (.int .i64 I)).set_ 1 (.int .i64 K)).set_ 2 (.slice Aq n cq)).set_ 3 (.slice B3 m d3))
  have f0_ := f2.cell_ (i := 0) (v := .int .i64 I) rfl
  have f1_ := f2.cell_ (i := 1) (v := .int .i64 K) rfl
  have f2_ := f2.cell_ (i := 2) (v := .slice Aq n cq) rfl
  have f3_ := f2.cell_ (i := 3) (v := .slice B3 m d3) rfl
  have S4 := hid (((((S3.setCell (p := ⟨w.heap.size + 1 + 1, 3, none⟩) (by simp; omega) (.slice B3 m d3)).setCell (p := ⟨w.heap.size + 1, 0, none⟩) (by simp) (.int .i64 I)).setCell (p := ⟨w.heap.size + 1, 1, none⟩) (by simp) (.int .i64 K)).setCell (p := ⟨w.heap.size + 1, 2, none⟩) (by simp) (.slice Aq n cq)).setCell (p := ⟨w.heap.size + 1, 3, none⟩) (by simp) (.slice B3 m d3))
  have O4 := hid ((((((O3.grown (World.grownBy_set w3 (w.heap.size + 1 + 1) 3 (.slice B3 m d3)) (HNE.out _ (by omega))).grown (World.grownBy_set _ (w.heap.size + 1) 0 (.int .i64 I)) (HNE.out _ (by omega))).grown (World.grownBy_set _ (w.heap.size + 1) 1 (.int .i64 K)) (HNE.out _ (by omega))).grown (World.grownBy_set _ (w.heap.size + 1) 2 (.slice Aq n cq)) (HNE.out _ (by omega))).grown (World.grownBy_set _ (w.heap.size + 1) 3 (.slice B3 m d3)) (HNE.out _ (by omega))).less (show w.heap.size ≤ W.heap.size by omega))
  have P4 := hid ((((((o3.grown (World.grownBy_set w3 (w.heap.size + 1 + 1) 3 (.slice B3 m d3)) (fun g hg hA => by injection hg with hg; have := (o3.lt g hA).1; omega)).grown (World.grownBy_set _ (w.heap.size + 1) 0 (.int .i64 I)) (fun g hg hA => by injection hg with hg; have := (o3.lt g hA).1; omega)).grown (World.grownBy_set _ (w.heap.size + 1) 1 (.int .i64 K)) (fun g hg hA => by injection hg with hg; have := (o3.lt g hA).1; omega)).grown (World.grownBy_set _ (w.heap.size + 1) 2 (.slice Aq n cq)) (fun g hg hA => by injection hg with hg; have := (o3.lt g hA).1; omega)).grown (World.grownBy_set _ (w.heap.size + 1) 3 (.slice B3 m d3)) (fun g hg hA => by injection hg with hg; have := (o3.lt g hA).1; omega)).less (show w.heap.size ≤ W2.heap.size by omega))
  have HDJ := hid (show ∀ g, blockOf B3 = some g → blockOf Aq ≠ some g from fun g h1 h2 => by have := (o3.lt g h1).1; have := (O1.out.lt g h2).2; omega)
  clear c2 c3 e2 e3 f2 z O3 S3 s3 o3 hd1 le2
  go_wp2_with fail
  refine bodyPost_ret (v := grV I K Aq n cq B3 m d3) (by simp [results, Try.results27, go_sem, f0_, f1_, f2_, f3_]) rfl ?_
  exact ⟨_, _, _, _, rfl, O4.out, P4.out, S4.out, fun g h1 h2 => HDJ.out g h1 h2⟩
set_option maxHeartbeats 400000 in
theorem markGroup_any (I K : Int) (A B : Option Addr) (n c m d base : Nat) (k : Int) (ps ds : List Ent) (w : World) (h : OE w base A n c ps) (h' : OE w base B m d ds) (hdis : ∀ g, blockOf B = some g → blockOf A ≠ some g) (hn : n ≤ 1048576) (hm : m ≤ 1048576) (hk : 0 ≤ k) (hk' : k ≤ 4611686018) :
    Calls Try.prog 31 #[grV I K A n c B m d, .int .i64 k] w fun e w' => e = .returned (.int .i64 (k + 4 * n + 4 * m)) ∧ OE w' base A n c (emarks k n) ∧ OE w' base B m d (emarks (k + 4 * n) m) ∧ Turned (fun g => blockOf A = some g ∨ blockOf B = some g) w w' := by
  have s0 := (St.refl w).alloc (.cells (grC I K A n c B m d) 25)
  have h1 := hid (h.st s0)
  have h1' := hid (h'.st s0)
  have hb := hid (Blk.new w 25 (grC I K A n c B m d))
  have HLA := hid h.lt
  have HD := hid hdis
  clear hdis s0
  go_enter Try.func31, Try.ntmps31
  go_wp2_with fail
  refine (markEntryS_any _ _ _ _ _ _ _ h1.out hn hk (by omega)).mono ?_
  rintro e w1 ⟨rfl, o1, g1⟩
  have c1 := (hb.out.grown g1 (fun e => by have := (HLA.out _ e.symm).2; omega)).cell_ (i := 3) (v := .slice B m d) rfl
  have o1' : OE w1 base B m d ds := h1'.out.grown g1 (fun k hk hB => HD.out k hB hk)
  have b1 : Turned (fun g => blockOf A = some g ∨ blockOf B = some g) w w1 := (Turned.of_st ((St.refl w).alloc _)).trans (Turned.of_grown g1 fun k hk => .inl hk)
  have o1 := hid o1
  clear g1
  go_wp2_with fail
  refine (markEntryS_any _ _ _ _ _ _ _ o1' hm (by omega) (by omega)).mono ?_
  rintro e w2 ⟨rfl, o2, g2⟩
  go_wp2_with fail
  go_ret
  exact ⟨rfl, o1.out.grown g2 (fun g hg => HD.out g hg), o2, b1.trans (Turned.of_grown g2 fun k hk => .inr hk)⟩
theorem markGroup_w (P : Nat → Prop) (I K : Int) (A B : Option Addr) (n c m d : Nat) (k : Int) (w : World) (h : WE P w A n) (h' : WE P w B m) (hn : n ≤ 1048576) (hm : m ≤ 1048576) (hk : 0 ≤ k) (hk' : k ≤ 1048576) :
    Calls Try.prog 31 #[grV I K A n c B m d, .int .i64 k] w fun e w' => (∃ m : Int, e = .returned (.int .i64 m) ∧ 0 ≤ m) ∧ Kept P w w' := by
  have k0 : Kept P w (w.alloc (.cells (grC I K A n c B m d) 25)) := Kept.of_st ((St.refl w).alloc _)
  have h1 := h.kept k0
  have hb := Blk.new w 25 (grC I K A n c B m d)
  have q1 := hb.cell_ (i := 3) (v := .slice B m d) rfl
  have HK := hid k0
  clear k0 hb
  go_enter Try.func31, Try.ntmps31
  go_wp2_with fail
  refine (markEntryS_w P _ _ _ _ _ h1 hn hk (by omega)).mono ?_
  rintro e w1 ⟨rfl, k1⟩
  have h2 := (h'.kept HK.out).kept k1
  have hx : ∃ u, w1.cell? ⟨w.heap.size, 3, none⟩ = some u ∧ kindEq (.slice B m d) u := k1.ck _ _ q1
  obtain ⟨u, q2, hu⟩ := hx
  obtain rfl := kind_slice hu
  go_wp2_with fail
  refine (markEntryS_w P _ _ _ _ _ h2 hm (by omega) (by omega)).mono ?_
  rintro e w2 ⟨rfl, k2⟩
  go_wp2_with fail
  go_ret
  exact ⟨⟨_, rfl, by omega⟩, (HK.out.trans k1).trans k2⟩
set_option maxHeartbeats 400000 in
theorem heldGroup_any (I K : Int) (A B : Option Addr) (n c m d : Nat) (k : Int) (w : World) (h : SE w A n c (emarks k n)) (h' : SE w B m d (emarks (k + 4 * n) m)) (hn : n ≤ 1048576) (hm : m ≤ 1048576) (hk : 0 ≤ k) (hk' : k ≤ 4611686018) :
    Calls Try.prog 33 #[grV I K A n c B m d, .int .i64 k] w fun e w' => e = .returned (.int .i64 (k + 4 * n + 4 * m)) ∧ St w w' := by
  have s1 := (St.refl w).alloc (.cells (grC I K A n c B m d) 25)
  have h1 := h.st s1
  have h1' := h'.st s1
  have hb := hid ((Blk.new w 25 (grC I K A n c B m d)).cell_ (i := 3) (v := .slice B m d) rfl)
  have hge : ¬ k + 4 * (n : Int) < 0 := by omega
  have hge2 : ¬ k + 4 * (n : Int) + 4 * (m : Int) < 0 := by omega
  go_enter Try.func33, Try.ntmps33
  go_wp2_with fail
  refine (heldEntryS_any _ _ _ _ _ h1 hn hk (by omega)).mono ?_
  rintro e w1 ⟨rfl, rfl⟩
  have hb1 := hb.out
  go_wp2_with fail
  refine (heldEntryS_any _ _ _ _ _ h1' hm (by omega) (by omega)).mono ?_
  rintro e w1 ⟨rfl, rfl⟩
  go_wp2_with fail
  go_ret
  exact ⟨rfl, s1⟩
/-- What is left of a size behind a group, or -1. -/
def szG (left : Int) (n m : Nat) : Int := if szM left n < 0 then -1 else szM (szM left n) m
theorem szGroup_any (I K : Int) (A B : Option Addr) (n c m d : Nat) (ps ds : List Ent) (left : Int) (w : World) (h : SE w A n c ps) (h' : SE w B m d ds) (hl : 0 ≤ left) (hl' : left ≤ 1048576) :
    Calls Try.prog 26 #[grV I K A n c B m d, .int .i64 left] w fun e w' => e = .returned (.int .i64 (szG left n m)) ∧ St w w' := by
  have s0 := hid ((St.refl w).alloc (.cells (grC I K A n c B m d) 51))
  have hc := h.nc
  have hcm := h.cm
  have hd := h'.nc
  have hdm := h'.cm
  unfold maxLen at hcm hdm
  have hge : -1 ≤ szM left n ∧ szM left n ≤ left := by unfold szM; split <;> omega
  by_cases hz : szM left n < 0
  · have HD := hid (show szG left n m = -1 from if_pos hz)
    go_enter Try.func26, Try.ntmps26
    go_wp2_with fail
    refine (szEntryS_any _ _ _ _ _ hl hl' (by omega)).mono ?_
    rintro e w1 ⟨rfl, rfl⟩
    go_wp2_with fail
    go_ret
    exact ⟨ret_int HD.out.symm, s0.out⟩
  · have HD := hid (show szG left n m = szM (szM left n) m from if_neg hz)
    have hge2 : -1 ≤ szM (szM left n) m := by unfold szM; split <;> omega
    go_enter Try.func26, Try.ntmps26
    go_wp2_with fail
    refine (szEntryS_any _ _ _ _ _ hl hl' (by omega)).mono ?_
    rintro e w1 ⟨rfl, rfl⟩
    go_wp2_with fail
    refine (szEntryS_any _ _ _ _ _ (by omega) (by omega) (by omega)).mono ?_
    rintro e w1 ⟨rfl, rfl⟩
    by_cases hy : szM (szM left n) m < 0
    · have HY := hid (show szM (szM left n) m = -1 by omega)
      go_wp2_with fail
      go_ret
      exact ⟨ret_int (by rw [HD.out, HY.out]), s0.out⟩
    · go_wp2_with fail
      go_ret
      exact ⟨ret_int HD.out.symm, s0.out⟩
structure RdGr (w : World) (I K : Int) (A : Option Addr) (n c : Nat) (B : Option Addr) (m d : Nat) (ps ds : List Ent) : Prop where
  sl : SE w A n c ps
  sh : SE w B m d ds
structure FitGr (ps ds : List Ent) : Prop where
  n : ps.length ≤ 1048576
  m : ds.length ≤ 1048576
structure OwGr (w : World) (base : Nat) (I K : Int) (A : Option Addr) (n c : Nat) (B : Option Addr) (m d : Nat) (ps ds : List Ent) : Prop where
  oi : OE w base A n c ps
  oh : OE w base B m d ds
  ne : ∀ g, blockOf B = some g → blockOf A ≠ some g
structure WrGr (P : Nat → Prop) (w : World) (A : Option Addr) (n : Nat) (B : Option Addr) (m : Nat) : Prop where
  wi : WE P w A n
  wh : WE P w B m
  n : n ≤ 1048576
  m : m ≤ 1048576
section
variable {w w' : World} {I K : Int} {A B A' B' : Option Addr} {n c m d n' c' m' d' base : Nat} {ps ds : List Ent} {P : Nat → Prop}
theorem RdGr.st (h : RdGr w I K A n c B m d ps ds) (s : St w w') : RdGr w' I K A n c B m d ps ds := ⟨h.sl.st s, h.sh.st s⟩
theorem RdGr.n_ (h : RdGr w I K A n c B m d ps ds) (f : FitGr ps ds) : n ≤ 1048576 := by have := h.sl.len; have := f.n; omega
theorem RdGr.m_ (h : RdGr w I K A n c B m d ps ds) (f : FitGr ps ds) : m ≤ 1048576 := by have := h.sh.len; have := f.m; omega
theorem OwGr.rd (h : OwGr w base I K A n c B m d ps ds) : RdGr w I K A n c B m d ps ds := ⟨h.oi.se, h.oh.se⟩
theorem OwGr.st (h : OwGr w base I K A n c B m d ps ds) (s : St w w') : OwGr w' base I K A n c B m d ps ds := ⟨h.oi.st s, h.oh.st s, h.ne⟩
theorem OwGr.turned (h : OwGr w base I K A n c B m d ps ds) (k : Turned P w w') (hP : ∀ g, P g → g < base) : OwGr w' base I K A n c B m d ps ds := ⟨h.oi.turned k hP, h.oh.turned k hP, h.ne⟩
theorem WrGr.kept (h : WrGr P w A n B m) (k : Kept P w w') : WrGr P w' A n B m := ⟨h.wi.kept k, h.wh.kept k, h.n, h.m⟩
theorem gr_wr (h : OwGr w base I K A n c B m d ps ds) (f : FitGr ps ds) (hP : ∀ g, base ≤ g → g < w.heap.size → P g) : WrGr P w A n B m :=
  ⟨h.oi.we hP, h.oh.we hP, h.rd.n_ f, h.rd.m_ f⟩
theorem gr_sz (h : RdGr w I K A n c B m d ps ds) : Calls Try.prog 26 #[grV I K A n c B m d, .int .i64 1048576] w fun e w' => (∃ r : Int, e = .returned (.int .i64 r) ∧ (r < 0 ∨ FitGr ps ds)) ∧ St w w' :=
  (szGroup_any _ _ _ _ _ _ _ _ _ _ _ _ h.sl h.sh (by omega) (by omega)).mono fun _ _ ⟨a, b⟩ => ⟨⟨_, a, by
    have h1 := h.sl.len
    have h2 := h.sh.len
    unfold szG
    by_cases hz : szM 1048576 n < 0
    · left; rw [if_pos hz]; omega
    · rw [if_neg hz]
      by_cases hy : szM (szM 1048576 n) m < 0
      · exact .inl hy
      · right
        unfold szM at hz hy
        split at hz
        · omega
        · rename_i h3
          rw [if_neg h3] at hy
          split at hy
          · omega
          · exact ⟨by omega, by omega⟩⟩, b⟩
theorem gr_to (h : RdGr w I K A n c B m d ps ds) (f : FitGr ps ds) : Calls Try.prog 27 #[grV I K A n c B m d] w fun e w' => ∃ A' n' c' B' m' d', e = .returned (grV I K A' n' c' B' m' d') ∧ OwGr w' w.heap.size I K A' n' c' B' m' d' ps ds ∧ St w w' :=
  (toGroup_any _ _ _ _ _ _ _ _ _ _ _ h.sl h.sh (h.n_ f) (h.m_ f)).mono fun _ _ ⟨A', c', B', d', a, b, e, s, t⟩ => ⟨A', n, c', B', m, d', a, ⟨b, e, t⟩, s⟩
theorem gr_same (h : RdGr w I K A n c B m d ps ds) (h' : RdGr w I K A' n' c' B' m' d' ps ds) (f : FitGr ps ds) : Calls Try.prog 29 #[grV I K A n c B m d, grV I K A' n' c' B' m' d'] w fun e w' => e = .returned (.bool true) ∧ St w w' :=
  eqGroup_same _ _ _ _ _ _ _ _ _ _ _ _ _ _ _ _ _ h.sl h.sh h'.sl h'.sh (h.n_ f) (h.m_ f)
theorem gr_mark (h : WrGr P w A n B m) (_ : FitGr ps ds) : Calls Try.prog 31 #[grV I K A n c B m d, .int .i64 1] w fun e w' => (∃ r : Int, e = .returned (.int .i64 r) ∧ 0 ≤ r) ∧ Kept P w w' :=
  markGroup_w P I K A B n c m d 1 w h.wi h.wh h.n h.m (by omega) (by omega)
end
end Go.Proofs.Ytkhgemgmnchodaa
