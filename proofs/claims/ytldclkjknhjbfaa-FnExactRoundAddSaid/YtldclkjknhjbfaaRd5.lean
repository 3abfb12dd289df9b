/- RoundFinal, both; StampMax. -/
import Derived.Test.YtldclkjknhjbfaaRd4
namespace Go.Proofs.Ytldclkjknhjbfaa
open Go.RowKit Go.Sort

/-- The order of stamps. -/
def ltS (s p : Int × Int) : Bool := decide (s.1 < p.1) || ((s.1 == p.1) && decide (s.2 < p.2))
theorem ltS_iff {s p : Int × Int} : ltS s p = true ↔ s.1 < p.1 ∨ (s.1 = p.1 ∧ s.2 < p.2) := by simp [ltS]
theorem ltS_false {s p : Int × Int} : ltS s p = false ↔ ¬ (s.1 < p.1 ∨ (s.1 = p.1 ∧ s.2 < p.2)) := by rw [← ltS_iff]; simp
theorem less_any (t g t' g' : Int) (w : World) : Calls Try.prog 75 #[.agg #[.int .i64 t, .int .i64 g], .agg #[.int .i64 t', .int .i64 g']] w fun e w' => e = .returned (.bool (ltS (t, g) (t', g'))) ∧ St w w' := by
  have s1 := hid (((St.refl w).alloc (.cells #[.int .i64 t, .int .i64 g] 45)).alloc (.cells #[.int .i64 t', .int .i64 g'] 45))
  by_cases h1 : t < t'
  · have hm := hid (show ltS (t, g) (t', g') = true by simp [ltS, h1])
    go_enter Try.func75, Try.ntmps75
    go_wp2_with fail
    go_ret
    exact ⟨ret_bool hm.out.symm, s1.out⟩
  · cases h2 : (t == t')
    · have hm := hid (show ltS (t, g) (t', g') = false by simp [ltS, h1, h2])
      go_enter Try.func75, Try.ntmps75
      go_wp2_with fail
      go_ret
      exact ⟨ret_bool hm.out.symm, s1.out⟩
    · have hm := hid (show ltS (t, g) (t', g') = decide (g < g') by simp [ltS, h1, h2])
      go_enter Try.func75, Try.ntmps75
      go_wp2_with fail
      go_ret
      exact ⟨ret_bool hm.out.symm, s1.out⟩
theorem l2Less_any (t g t' g' : Int) (w : World) : Calls Try.prog 86 #[.agg #[.int .i64 t, .int .i64 g], .agg #[.int .i64 t', .int .i64 g']] w fun e w' => e = .returned (.bool (ltS (t, g) (t', g'))) ∧ St w w' := by
  have s1 := hid (((St.refl w).alloc (.cells #[.int .i64 t, .int .i64 g] 45)).alloc (.cells #[.int .i64 t', .int .i64 g'] 45))
  by_cases h1 : t < t'
  · have hm := hid (show ltS (t, g) (t', g') = true by simp [ltS, h1])
    go_enter Try.func86, Try.ntmps86
    go_wp2_with fail
    go_ret
    exact ⟨ret_bool hm.out.symm, s1.out⟩
  · cases h2 : (t == t')
    · have hm := hid (show ltS (t, g) (t', g') = false by simp [ltS, h1, h2])
      go_enter Try.func86, Try.ntmps86
      go_wp2_with fail
      go_ret
      exact ⟨ret_bool hm.out.symm, s1.out⟩
    · have hm := hid (show ltS (t, g) (t', g') = decide (g < g') by simp [ltS, h1, h2])
      go_enter Try.func86, Try.ntmps86
      go_wp2_with fail
      go_ret
      exact ⟨ret_bool hm.out.symm, s1.out⟩
/-- The greater of two stamps. -/
def gtr (b s : Int × Int) : Int × Int := if ltS b s then s else b
theorem gtr_not {b s : Int × Int} (h : ltS s b = false) : gtr b s = s := by
  rw [ltS_false] at h
  unfold gtr
  by_cases h1 : ltS b s = true
  · rw [if_pos h1]
  · rw [if_neg h1]
    rw [Bool.not_eq_true, ltS_false] at h1
    obtain ⟨b1, b2⟩ := b
    obtain ⟨s1, s2⟩ := s
    simp only [Prod.mk.injEq] at h h1 ⊢
    constructor <;> omega
theorem gtr_lt {b s : Int × Int} (h : ltS s b = true) : gtr b s = b := by
  unfold gtr
  rw [if_neg]
  rw [ltS_iff] at h
  rw [ltS_iff]
  omega
theorem gtr_same (b : Int × Int) : gtr b b = b := by unfold gtr; split <;> rfl
def maxS (ss : List (Int × Int)) : Int × Int := match ss with
  | [] => (0, 0)
  | s :: t => t.foldl gtr s
theorem maxS_snoc {ss : List (Int × Int)} {k : Nat} {s : Int × Int} (h : ss[k]? = some s) (hk : 0 < k) : maxS (ss.take (k + 1)) = gtr (maxS (ss.take k)) s := by
  rw [take_snoc h]
  cases ht : ss.take k with
  | nil =>
    have hl := (List.getElem?_eq_some_iff.1 h).1
    have : (ss.take k).length = k := by rw [List.length_take]; omega
    rw [ht] at this
    simp at this
    omega
  | cons x t => simp [maxS, List.foldl_append]
theorem maxS_one {ss : List (Int × Int)} {s : Int × Int} (h : ss[0]? = some s) : maxS (ss.take 1) = s := by
  cases ss with
  | nil => simp at h
  | cons x t => simp at h; subst h; rfl
/-- What StampMax returns. -/
def smOk (ss : List (Int × Int)) : Bool := (decide (1 ≤ ss.length) && decide (ss.length ≤ 12)) && ss.all stOk
def smV (ss : List (Int × Int)) : Int × Int := if smOk ss then maxS ss else (0, 0)
abbrev stV (s : Int × Int) : Value := .agg #[.int .i64 s.1, .int .i64 s.2]
set_option maxRecDepth 100000 in
set_option maxHeartbeats 4000000 in
theorem StampMax_any (A : Option Addr) (n c : Nat) (ss : List (Int × Int)) (w : World) (h : SS w A n c ss) :
    Calls Try.prog 43 #[.slice A n c] w fun e w' => e = .returned (.tuple #[stV (smV ss), .bool (smOk ss)]) ∧ St w w' := by
  have HL := hid h.len
  have hnc := h.nc
  have hcm := h.cm
  unfold maxLen at hcm
  have S0 := hid ((St.refl w).alloc (.cells #[.int .i64 0, .int .i64 0] 45))
  have bad : ∀ w', smOk ss = false → St w w' → Ending.returned (.tuple #[.agg #[.int .i64 0, .int .i64 0], .bool false]) = .returned (.tuple #[stV (smV ss), .bool (smOk ss)]) ∧ St w w' := fun w' h1 h2 => ⟨by unfold smV; rw [h1]; rfl, h2⟩
  have HBad := hid bad
  clear bad
  by_cases h1 : n < 1
  · have HF := hid (show smOk ss = false by unfold smOk; rw [decide_eq_false (by rw [HL.out]; omega)]; rfl)
    go_enter Try.func43, Try.ntmps43
    go_wp2_with fail
    refine bodyPost_ret (v := .tuple #[.agg #[.int .i64 0, .int .i64 0], .bool false]) (by simp [results, Try.results43, go_sem]) rfl (HBad.out _ HF.out S0.out)
  by_cases h2 : 12 < n
  · have HF := hid (show smOk ss = false by unfold smOk; rw [decide_eq_false (p := ss.length ≤ 12) (by rw [HL.out]; omega), Bool.and_false]; rfl)
    have h2i : (12 : Int) < (n : Int) := by omega
    go_enter Try.func43, Try.ntmps43
    go_wp2_with fail
    refine bodyPost_ret (v := .tuple #[.agg #[.int .i64 0, .int .i64 0], .bool false]) (by simp [results, Try.results43, go_sem]) rfl (HBad.out _ HF.out S0.out)
  have HD := hid (show smOk ss = ss.all stOk by unfold smOk; rw [decide_eq_true (by rw [HL.out]; omega), decide_eq_true (by rw [HL.out]; omega)]; rfl)
  have h2i : ¬ (12 : Int) < (n : Int) := by omega
  obtain ⟨ad, t0, g0, rfl, hb1, hc1, hc2, hx0⟩ := h.at_ (k := 0) (by omega)
  rw [Nat.zero_mul, add_zero] at hc1 hc2
  have S1 := hid (S0.out.alloc (.cells #[.int .i64 t0, .int .i64 g0] 45))
  have K0 := hid ((Blk.new w 45 #[.int .i64 0, .int .i64 0]).alloc (.cells #[.int .i64 t0, .int .i64 g0] 45))
  have K1 : Hid (Blk ((w.alloc (.cells #[.int .i64 0, .int .i64 0] 45)).alloc (.cells #[.int .i64 t0, .int .i64 g0] 45)) (w.heap.size + 1) 45 #[.int .i64 t0, .int .i64 g0]) := by
    have := Blk.new (w.alloc (.cells #[.int .i64 0, .int .i64 0] 45)) 45 #[.int .i64 t0, .int .i64 g0]
    rw [World.heap_alloc_size'] at this; exact this
  have HM0 := hid (maxS_one hx0.out)
  have q1 : (w.alloc (.cells #[.int .i64 0, .int .i64 0] 45)).cell? ad = some (.int .i64 t0) := S0.out.cell hc1
  have q2 : (w.alloc (.cells #[.int .i64 0, .int .i64 0] 45)).cell? ⟨ad.block, ad.off + 1, none⟩ = some (.int .i64 g0) := S0.out.cell hc2
  go_enter Try.func43, Try.ntmps43
  go_wp2_with fail
  clear q1 q2 hc1 hc2
  generalize (w.alloc (.cells #[.int .i64 0, .int .i64 0] 45)).alloc (.cells #[.int .i64 t0, .int .i64 g0] 45) = w2 at S1 K0 K1 ⊢
  go_loopw [22] (fun i wr => ∃ (k : Nat) (b : Int × Int), k ≤ n ∧ i = .int .i64 k ∧ Hid ((ss.take k).all stOk = true) ∧ Hid (b = maxS (ss.take (if k = 0 then 1 else k))) ∧ Hid (St w wr) ∧ Hid (Blk wr w.heap.size 45 #[.int .i64 0, .int .i64 0]) ∧ Hid (Blk wr (w.heap.size + 1) 45 #[.int .i64 b.1, .int .i64 b.2])) (fun i _ => n - (intOf i).toNat)
  case atStart => exact ⟨0, (t0, g0), Nat.zero_le _, rfl, hid rfl, HM0.out.symm, S1, K0, K1⟩
  case round =>
    obtain ⟨k, b, hk, rfl, hall, hb, hst, hk0, hk1⟩ := hrel
    by_cases hlt : k < n
    · obtain ⟨ad', t, g, he, hb1', hc1, hc2, hx⟩ := (h.st hst.out).at_ hlt
      injection he with he
      subst he
      have hsu := hid (show (ss.take (k + 1)).all stOk = stOk (t, g) by rw [take_snoc hx.out, List.all_append, hall.out]; simp)
      have A1 := hid (hst.out.alloc (.cells #[.int .i64 t, .int .i64 g] 45))
      have A2 := hid (hk0.out.alloc (.cells #[.int .i64 t, .int .i64 g] 45))
      have A3 := hid (hk1.out.alloc (.cells #[.int .i64 t, .int .i64 g] 45))
      have A4 := hid (Blk.new wr 45 #[.int .i64 t, .int .i64 g])
      have z0 := A4.out.cell_ (i := 0) (v := .int .i64 t) rfl
      have z1 := A4.out.cell_ (i := 1) (v := .int .i64 g) rfl
      have hz1 := hk1.out.lt
      go_wp2_with fail
      refine (StampValid_any _ _ _).mono ?_
      rintro e w3 ⟨rfl, s3⟩
      have B1 := hid (A1.out.trans s3)
      have B2 := hid (A2.out.below s3 A2.out.lt)
      have B3 := hid (A3.out.below s3 A3.out.lt)
      have B4 := hid (A4.out.below s3 A4.out.lt)
      clear A1 A2 A3 A4 z0 z1 s3
      cases hv : stOk (t, g)
      · have HF := hid (HD.out.trans (show ss.all stOk = false by
          rw [Bool.eq_false_iff]; intro ha
          rw [List.all_eq_true] at ha
          have := ha _ (List.mem_of_getElem? hx.out)
          rw [hv] at this; cases this))
        have z0 := B2.out.cell_ (i := 0) (v := .int .i64 0) rfl
        have z1 := B2.out.cell_ (i := 1) (v := .int .i64 0) rfl
        have f0 := B2.out.frozen 0
        have f1 := B2.out.frozen 1
        have C2 := (B2.out.set_ 0 (.int .i64 0)).set_ 1 (.int .i64 0)
        have r0 := C2.cell_ (i := 0) (v := .int .i64 0) rfl
        have r1 := C2.cell_ (i := 1) (v := .int .i64 0) rfl
        have S4 := hid ((B1.out.setCell (p := ⟨w.heap.size, 0, none⟩) (Nat.le_refl _) (.int .i64 0)).setCell (p := ⟨w.heap.size, 1, none⟩) (Nat.le_refl _) (.int .i64 0))
        clear C2 hv
        go_wp2_with fail
        refine bodyPost_ret (v := .tuple #[.agg #[.int .i64 0, .int .i64 0], .bool false]) (by simp [results, Try.results43, go_sem, r0, r1]) rfl (HBad.out _ HF.out S4.out)
      · have hok := hid (hsu.out.trans hv)
        clear hv
        have z0 := B4.out.cell_ (i := 0) (v := .int .i64 t) rfl
        have z1 := B4.out.cell_ (i := 1) (v := .int .i64 g) rfl
        have y0 := B3.out.cell_ (i := 0) (v := .int .i64 b.1) rfl
        have y1 := B3.out.cell_ (i := 1) (v := .int .i64 b.2) rfl
        go_wp2_with fail
        refine (less_any _ _ _ _ _).mono ?_
        rintro e w4 ⟨rfl, s4⟩
        have C1 := hid (B1.out.trans s4)
        have C2 := hid (B2.out.below s4 B2.out.lt)
        have C3 := hid (B3.out.below s4 B3.out.lt)
        have C4 := hid (B4.out.below s4 B4.out.lt)
        clear z0 z1 y0 y1 B1 B2 B3 B4 s4
        cases hl : ltS (t, g) (b.1, b.2)
        · have HB : Hid ((t, g) = maxS (ss.take (if k + 1 = 0 then 1 else k + 1))) := by
            rw [if_neg (by omega)]
            by_cases hk0 : k = 0
            · subst hk0
              exact (maxS_one hx.out).symm
            · have hb2 := hb.out
              rw [if_neg hk0] at hb2
              exact ((maxS_snoc hx.out (by omega)).trans (by rw [← hb2]; exact gtr_not hl)).symm
          have z0 := C4.out.cell_ (i := 0) (v := .int .i64 t) rfl
          have z1 := C4.out.cell_ (i := 1) (v := .int .i64 g) rfl
          have y0 := C3.out.cell_ (i := 0) (v := .int .i64 b.1) rfl
          have y1 := C3.out.cell_ (i := 1) (v := .int .i64 b.2) rfl
          have f0 := C3.out.frozen 0
          have f1 := C3.out.frozen 1
          have D3 := hid ((C3.out.set_ 0 (.int .i64 t)).set_ 1 (.int .i64 g))
          have D2 := hid ((C2.out.far (p := ⟨w.heap.size + 1, 0, none⟩) (by simp) (.int .i64 t)).far (p := ⟨w.heap.size + 1, 1, none⟩) (by simp) (.int .i64 g))
          have D1 := hid ((C1.out.setCell (p := ⟨w.heap.size + 1, 0, none⟩) (by simp) (.int .i64 t)).setCell (p := ⟨w.heap.size + 1, 1, none⟩) (by simp) (.int .i64 g))
          clear hl C1 C2 C3
          go_wp2_with fail
          go_roundw
          case rel => exact ⟨k + 1, (t, g), by omega, by go_num, hok, HB, D1, D2, D3⟩
          case measure => simp [intOf]; omega
        · have HB : Hid (b = maxS (ss.take (if k + 1 = 0 then 1 else k + 1))) := by
            rw [if_neg (by omega)]
            by_cases hk0 : k = 0
            · subst hk0
              have hb2 := hb.out
              rw [if_pos rfl, maxS_one hx.out] at hb2
              rw [hb2]
              exact (maxS_one hx.out).symm
            · have hb2 := hb.out
              rw [if_neg hk0] at hb2
              exact ((maxS_snoc hx.out (by omega)).trans (by rw [← hb2]; exact gtr_lt hl)).symm
          clear hl
          go_wp2_with fail
          go_roundw
          case rel => exact ⟨k + 1, b, by omega, by go_num, hok, HB, C1, C2, C3⟩
          case measure => simp [intOf]; omega
    · obtain rfl : k = n := by omega
      have z0 := hk0.out.cell_ (i := 0) (v := .int .i64 0) rfl
      have z1 := hk0.out.cell_ (i := 1) (v := .int .i64 0) rfl
      have f0 := hk0.out.frozen 0
      have f1 := hk0.out.frozen 1
      have y0 := hk1.out.cell_ (i := 0) (v := .int .i64 b.1) rfl
      have y1 := hk1.out.cell_ (i := 1) (v := .int .i64 b.2) rfl
      have C2 := (hk0.out.set_ 0 (.int .i64 b.1)).set_ 1 (.int .i64 b.2)
      have r0 := C2.cell_ (i := 0) (v := .int .i64 b.1) rfl
      have r1 := C2.cell_ (i := 1) (v := .int .i64 b.2) rfl
      have S4 := hid ((hst.out.setCell (p := ⟨w.heap.size, 0, none⟩) (Nat.le_refl _) (.int .i64 b.1)).setCell (p := ⟨w.heap.size, 1, none⟩) (Nat.le_refl _) (.int .i64 b.2))
      have HE : Hid (smV ss = b ∧ smOk ss = true) := by
        have h1 := hall.out
        rw [List.take_of_length_le (by rw [HL.out]; omega)] at h1
        have h2 := hb.out
        rw [if_neg (by omega), List.take_of_length_le (by rw [HL.out]; omega)] at h2
        have h3 : smOk ss = true := by rw [HD.out, h1]
        exact ⟨by unfold smV; rw [h3, if_pos rfl, h2], h3⟩
      clear C2
      go_wp2_with fail
      refine bodyPost_ret (v := .tuple #[.agg #[.int .i64 b.1, .int .i64 b.2], .bool true]) (by simp [results, Try.results43, go_sem, r0, r1]) rfl ?_
      exact ⟨by rw [HE.out.1, HE.out.2], S4.out⟩
set_option maxRecDepth 100000 in
set_option maxHeartbeats 4000000 in
theorem l2Max_any (A : Option Addr) (n c : Nat) (ss : List (Int × Int)) (w : World) (h : SS w A n c ss) (hn : 0 < n) :
    Calls Try.prog 85 #[.slice A n c] w fun e w' => e = .returned (stV (maxS ss)) ∧ St w w' := by
  have HL := hid h.len
  have hnc := h.nc
  have hcm := h.cm
  unfold maxLen at hcm
  have S0 := hid ((St.refl w).alloc (.cells #[.int .i64 0, .int .i64 0] 45))
  obtain ⟨ad, t0, g0, rfl, hb1, hc1, hc2, hx0⟩ := h.at_ (k := 0) (by omega)
  rw [Nat.zero_mul, add_zero] at hc1 hc2
  have S1 := hid (S0.out.alloc (.cells #[.int .i64 t0, .int .i64 g0] 45))
  have K0 := hid ((Blk.new w 45 #[.int .i64 0, .int .i64 0]).alloc (.cells #[.int .i64 t0, .int .i64 g0] 45))
  have K1 : Hid (Blk ((w.alloc (.cells #[.int .i64 0, .int .i64 0] 45)).alloc (.cells #[.int .i64 t0, .int .i64 g0] 45)) (w.heap.size + 1) 45 #[.int .i64 t0, .int .i64 g0]) := by
    have := Blk.new (w.alloc (.cells #[.int .i64 0, .int .i64 0] 45)) 45 #[.int .i64 t0, .int .i64 g0]
    rw [World.heap_alloc_size'] at this; exact this
  have HM0 := hid (maxS_one hx0.out)
  have q1 : (w.alloc (.cells #[.int .i64 0, .int .i64 0] 45)).cell? ad = some (.int .i64 t0) := S0.out.cell hc1
  have q2 : (w.alloc (.cells #[.int .i64 0, .int .i64 0] 45)).cell? ⟨ad.block, ad.off + 1, none⟩ = some (.int .i64 g0) := S0.out.cell hc2
  go_enter Try.func85, Try.ntmps85
  go_wp2_with fail
  clear q1 q2 hc1 hc2
  generalize (w.alloc (.cells #[.int .i64 0, .int .i64 0] 45)).alloc (.cells #[.int .i64 t0, .int .i64 g0] 45) = w2 at S1 K0 K1 ⊢
  go_loopw [4] (fun i wr => ∃ (k : Nat) (b : Int × Int), 1 ≤ k ∧ k ≤ n ∧ i = .int .i64 k ∧ Hid (b = maxS (ss.take k)) ∧ Hid (St w wr) ∧ Hid (Blk wr w.heap.size 45 #[.int .i64 0, .int .i64 0]) ∧ Hid (Blk wr (w.heap.size + 1) 45 #[.int .i64 b.1, .int .i64 b.2])) (fun i _ => n - (intOf i).toNat)
  case atStart => exact ⟨1, (t0, g0), Nat.le_refl _, hn, rfl, HM0.out.symm, S1, K0, K1⟩
  case round =>
    obtain ⟨k, b, hk0, hk, rfl, hb, hst, hk0, hk1⟩ := hrel
    by_cases hlt : k < n
    · obtain ⟨ad', t, g, he, hb1', hc1, hc2, hx⟩ := (h.st hst.out).at_ hlt
      injection he with he
      subst he
      have hki : (0 : Int) ≤ (k : Int) := by omega
      have hki2 : (k : Int) < (n : Int) := by omega
      have z0 := cell_regrown hc1
      have z1 := cell_regrown hc2
      have z2 := cell_regrown (hk1.out.cell_ (i := 0) (v := .int .i64 b.1) rfl)
      have z3 := cell_regrown (hk1.out.cell_ (i := 1) (v := .int .i64 b.2) rfl)
      have HV := hid (fun (d2 : Nat) (os : Array Obj) => Calls.regrown_of (l2Less_any b.1 b.2 t g (grow (redrawn wr d2) os)))
      have hmx := hid (maxS_snoc hx.out (by omega))
      go_wp2_with fail
      refine wp_region_quiet_below (by kernel_rfl) (by kernel_rfl) ?_
      repeat (first | go_big_quiet_step ((first | exact HV.out _ _)) | quiet_step ((first | exact HV.out _ _)))
      refine wpQuiet_nil ?_
      intro _ hw'
      obtain ⟨⟨nd, ns⟩, hw''⟩ := hw'
      subst hw''
      have s5 := below_regrown (wr) nd ns
      generalize grow (redrawn (wr) nd) ns = w5 at s5 ⊢
      clear z0 z1 z2 z3 hc1 hc2
      obtain ⟨ad', t', g', he, hb1', hc1, hc2, hx'⟩ := ((h.st hst.out).st s5).at_ hlt
      injection he with he
      subst he
      obtain ⟨rfl, rfl⟩ : t' = t ∧ g' = g := by
        have h1 := hx'.out
        rw [hx.out] at h1
        injection h1 with h1
        injection h1 with h1 h2
        exact ⟨h1.symm, h2.symm⟩
      have C1 := hid (hst.out.trans s5)
      have C2 := hid (hk0.out.below s5 hk0.out.lt)
      have C3 := hid (hk1.out.below s5 hk1.out.lt)
      clear s5
      cases hl : ltS (b.1, b.2) (t', g')
      · have HB : Hid (b = maxS (ss.take (k + 1))) := by
          have h1 := hmx.out
          rw [← hb.out] at h1
          rw [h1]; unfold gtr; rw [show ltS b (t', g') = false from hl]; rfl
        clear hl
        go_wp2_with fail
        go_roundw
        case rel => exact ⟨k + 1, b, by omega, by omega, by go_num, HB, C1, C2, C3⟩
        case measure => simp [intOf]; omega
      · have HB : Hid ((t', g') = maxS (ss.take (k + 1))) := by
          have h1 := hmx.out
          rw [← hb.out] at h1
          rw [h1]; unfold gtr; rw [show ltS b (t', g') = true from hl]; rfl
        have y0 := C3.out.cell_ (i := 0) (v := .int .i64 b.1) rfl
        have y1 := C3.out.cell_ (i := 1) (v := .int .i64 b.2) rfl
        have f0 := C3.out.frozen 0
        have f1 := C3.out.frozen 1
        have D3 := hid ((C3.out.set_ 0 (.int .i64 t')).set_ 1 (.int .i64 g'))
        have D2 := hid ((C2.out.far (p := ⟨w.heap.size + 1, 0, none⟩) (by simp) (.int .i64 t')).far (p := ⟨w.heap.size + 1, 1, none⟩) (by simp) (.int .i64 g'))
        have D1 := hid ((C1.out.setCell (p := ⟨w.heap.size + 1, 0, none⟩) (by simp) (.int .i64 t')).setCell (p := ⟨w.heap.size + 1, 1, none⟩) (by simp) (.int .i64 g'))
        clear hl C1 C2 C3
        go_wp2_with fail
        go_roundw
        case rel => exact ⟨k + 1, (t', g'), by omega, by omega, by go_num, HB, D1, D2, D3⟩
        case measure => simp [intOf]; omega
    · obtain rfl : k = n := by omega
      have z0 := hk0.out.cell_ (i := 0) (v := .int .i64 0) rfl
      have z1 := hk0.out.cell_ (i := 1) (v := .int .i64 0) rfl
      have f0 := hk0.out.frozen 0
      have f1 := hk0.out.frozen 1
      have y0 := hk1.out.cell_ (i := 0) (v := .int .i64 b.1) rfl
      have y1 := hk1.out.cell_ (i := 1) (v := .int .i64 b.2) rfl
      have C2 := (hk0.out.set_ 0 (.int .i64 b.1)).set_ 1 (.int .i64 b.2)
      have r0 := C2.cell_ (i := 0) (v := .int .i64 b.1) rfl
      have r1 := C2.cell_ (i := 1) (v := .int .i64 b.2) rfl
      have S4 := hid ((hst.out.setCell (p := ⟨w.heap.size, 0, none⟩) (Nat.le_refl _) (.int .i64 b.1)).setCell (p := ⟨w.heap.size, 1, none⟩) (Nat.le_refl _) (.int .i64 b.2))
      have HE : Hid (maxS ss = b) := by
        have h2 := hb.out
        rw [List.take_of_length_le (by rw [HL.out]; omega)] at h2
        exact h2.symm
      clear C2
      go_wp2_with fail
      refine bodyPost_ret (v := .agg #[.int .i64 b.1, .int .i64 b.2]) (by simp [results, Try.results85, go_sem, r0, r1]) rfl ?_
      exact ⟨by rw [HE.out], S4.out⟩
/-! What a full round gives. -/
theorem got_all {xs : List Int} {ss : List (Int × Int)} (h : gotOk xs ss ss.length = true) : (ss.map Prod.snd).Pairwise (· < ·) ∧ ∀ s ∈ ss, stOk s = true ∧ s.2 ∈ xs := by
  have hat : ∀ i, i < ss.length → gotAt xs ss i = true := by
    unfold gotOk at h
    rw [List.all_eq_true] at h
    exact fun i hi => h i (List.mem_range.2 hi)
  constructor
  · have ha : ascTo (ss.map Prod.snd) (ss.length - 1) = true := by
      simp only [ascTo, List.all_eq_true, List.mem_range, decide_eq_true_eq]
      intro i hi
      have h1 : ss[i + 1]? = some (ss[i + 1]'(by omega)) := List.getElem?_eq_getElem (by omega)
      have h2 : ss[i]? = some (ss[i]'(by omega)) := List.getElem?_eq_getElem (by omega)
      have := hat (i + 1) (by omega)
      rw [gotAt_next h1 h2] at this
      simp only [Bool.and_eq_true, decide_eq_true_eq] at this
      simpa [List.getD_eq_getElem?_getD, h1, h2] using this.2.2
    rw [List.pairwise_iff_getElem]
    intro i j hi hj hij
    rw [List.length_map] at hi hj
    have := asc_lt ha (j - i - 1) i (by omega)
    rw [show i + (j - i - 1) + 1 = j by omega] at this
    simpa [List.getD_eq_getElem?_getD, hi, hj] using this
  · intro s hs
    obtain ⟨i, hi, rfl⟩ := List.getElem_of_mem hs
    have h1 : ss[i]? = some ss[i] := List.getElem?_eq_getElem hi
    have := hat i hi
    have hd : ss.getD i (0, 0) = ss[i] := getD_of h1
    simp only [gotAt, hd, Bool.and_eq_true] at this
    exact ⟨this.1, has_iff.1 this.2.1⟩
theorem answered_iff {ss : List (Int × Int)} {g : Int} : answered ss g = true ↔ g ∈ ss.map Prod.snd := by
  simp only [answered, List.any_eq_true, List.mem_map, beq_iff_eq]
theorem got_filter {M : Int} {xs : List Int} {ss : List (Int × Int)} (h : rdValid M xs ss = true) : xs.filter (answered ss) = ss.map Prod.snd := by
  simp only [rdValid, Bool.and_eq_true] at h
  obtain ⟨h1, h2⟩ := got_all h.2
  refine sorted_ext _ _ ((gset_sorted h.1.2).filter _) h1 fun a => ?_
  rw [List.mem_filter, answered_iff]
  constructor
  · exact fun h => h.2
  · intro ha
    refine ⟨?_, ha⟩
    obtain ⟨s, hs, rfl⟩ := List.mem_map.1 ha
    exact (h2 s hs).2
theorem length_filters {α : Type} (p : α → Bool) : ∀ xs : List α, (xs.filter p).length + (xs.filter fun x => !p x).length = xs.length
  | [] => rfl
  | x :: xs => by
    have := length_filters p xs
    cases hp : p x <;> simp [hp] <;> omega
theorem rdMiss_count {M : Int} {xs : List Int} {ss : List (Int × Int)} (h : rdValid M xs ss = true) : (rdMiss M xs ss).length + ss.length = xs.length := by
  have h1 := length_filters (answered ss) xs
  rw [got_filter h, List.length_map] at h1
  rw [rdMiss_filter h]
  omega
theorem rdValid_len {M : Int} {xs : List Int} {ss : List (Int × Int)} (h : rdValid M xs ss = true) : 1 ≤ xs.length ∧ xs.length ≤ 5 := by
  simp only [rdValid, Bool.and_eq_true] at h
  have hg := h.1.2
  constructor
  · simp only [gset, Bool.and_eq_true, decide_eq_true_eq] at hg; omega
  · have : xs = picked (fun g => has xs g && true) 5 := by rw [picked_filter hg (fun _ => true)]; exact (List.filter_eq_self.2 fun _ _ => rfl).symm
    rw [this]
    unfold picked
    have := List.length_filter_le (fun g => has xs g && true) ((List.range 5).map fun (i : Nat) => (i : Int))
    simpa using this
/-- What RoundFinal returns. -/
def rfOk (M : Int) (xs : List Int) (ss : List (Int × Int)) : Bool := rdValid M xs ss && decide (xs.length ≤ ss.length)
def rfV (M : Int) (xs : List Int) (ss : List (Int × Int)) : Int × Int := if rfOk M xs ss then maxS ss else (0, 0)
theorem rf_sm {M : Int} {xs : List Int} {ss : List (Int × Int)} (h : rfOk M xs ss = true) : smOk ss = true ∧ smV ss = maxS ss := by
  simp only [rfOk, Bool.and_eq_true, decide_eq_true_eq] at h
  have h1 := rdValid_len h.1
  have h2 := rdMiss_count h.1
  have hv := h.1
  simp only [rdValid, Bool.and_eq_true] at hv
  have h3 := (got_all hv.2).2
  have : smOk ss = true := by
    simp only [smOk, Bool.and_eq_true, decide_eq_true_eq, List.all_eq_true]
    exact ⟨⟨by omega, by omega⟩, fun s hs => (h3 s hs).1⟩
  exact ⟨this, by unfold smV; rw [if_pos this]⟩
theorem rf_bad {M : Int} {xs : List Int} {ss : List (Int × Int)} (h : rdValid M xs ss = false) : rfOk M xs ss = false ∧ rfV M xs ss = (0, 0) := by
  have : rfOk M xs ss = false := by simp [rfOk, h]
  exact ⟨this, by unfold rfV; rw [this]; rfl⟩
end Go.Proofs.Ytldclkjknhjbfaa
