/- RoundMissing, both. -/
import Derived.Test.YtldclkjknhjbfaaKindRd
namespace Go.Proofs.Ytldclkjknhjbfaa
open Go.RowKit Go.Sort

/-- Is there a stamp of the group? -/
def answered (ss : List (Int × Int)) (g : Int) : Bool := ss.any fun s => s.2 == g
/-- The accepted groups below k. -/
def picked (f : Int → Bool) (k : Nat) : List Int := ((List.range k).map fun (i : Nat) => (i : Int)).filter f
theorem picked_succ (f : Int → Bool) (k : Nat) : picked f (k + 1) = picked f k ++ (if f (k : Int) then [(k : Int)] else []) := by
  simp only [picked, List.range_succ, List.map_append, List.map_cons, List.map_nil, List.filter_append, List.filter_cons, List.filter_nil]
theorem pickf_any (p : Addr) (f : Int → Bool) (w : World) (hcall : ∀ (i : Nat) (W : World), i < 5 → St w W → Calls Try.prog 68 #[.int .i64 (i : Int), .pointer (some p)] W fun e w' => e = .returned (.bool (f i)) ∧ St W w') :
    Calls Try.prog 67 #[.func (.func 68) #[] #[.pointer (some p)]] w (MadeI w (picked f 5)) := by
  have HC := hid hcall
  clear hcall
  have O0 := hid (OI.lit (w := w) (e := 3))
  have S0 := hid ((St.refl w).alloc (.cells #[] 3))
  go_enter Try.func67, Try.ntmps67
  go_wp2_with fail
  generalize w.alloc (.cells #[] 3) = w1 at O0 S0 ⊢
  go_loopw [3, 6] (fun v i wr => ∃ (k nl a : Nat) (X : Option Addr), k ≤ 5 ∧ i = .int .i64 (k : Int) ∧ v = .slice X nl a ∧ nl ≤ k ∧ Hid (OI wr w.heap.size 3 X nl a (picked f k)) ∧ Hid (St w wr)) (fun _ i _ => 5 - (intOf i).toNat)
  case atStart => exact ⟨0, 0, 0, _, Nat.zero_le _, rfl, rfl, Nat.le_refl _, O0, S0⟩
  case round =>
    obtain ⟨k, nl, a, X, hk, rfl, rfl, hnl, hol, hst⟩ := hrel
    by_cases hlt : k < 5
    · have hi : (k : Int) < 5 := by omega
      go_wp2_with fail
      refine (HC.out k _ hlt hst.out).mono ?_
      rintro e w2 ⟨rfl, s2⟩
      have o2 := hid (own_below hol.out s2)
      have S2 := hid (hst.out.trans s2)
      have hle := S2.out.le
      clear s2
      cases hf : f k
      · have HP := hid (show picked f (k + 1) = picked f k by rw [picked_succ, hf]; simp)
        have o3 : Hid (OI w2 w.heap.size 3 X nl a (picked f (k + 1))) := by rw [HP.out]; exact o2
        clear hf
        go_wp2_with fail
        go_roundw
        case rel => exact ⟨k + 1, nl, _, _, by omega, by go_num, rfl, by omega, o3, S2⟩
        case measure => simp [intOf]; omega
      · have HP := hid (show picked f (k + 1) = picked f k ++ [(k : Int)] by rw [picked_succ, hf]; simp)
        clear hf
        go_wp2_with (at_builtin; refine wpList_append_int _ rfl _ _ 22 rfl w.heap.size 3 Try.underlying22 intInfo _ _ _ _ (k : Int) rfl o2.out rfl (by omega) hle ?_; intro X2 a2 w3 ho3 hg3)
        have o3 : Hid (OI w3 w.heap.size 3 X2 (nl + 1) a2 (picked f (k + 1))) := by rw [HP.out]; exact ho3
        have hXb : ∀ g, blockOf X = some g → w.heap.size ≤ g := fun g hg => (OI.lt o2.out g hg).1
        have S3 := hid (S2.out.grown hg3 (fun k hk => hXb k hk))
        go_roundw
        case rel => exact ⟨k + 1, nl + 1, _, _, by omega, by go_num, rfl, by omega, o3, S3⟩
        case measure => simp [intOf]; omega
    · obtain rfl : k = 5 := by omega
      go_wp2_with fail
      go_ret
      have e2 := hol.out.len
      refine ⟨X, a, ?_, ?_, hst.out⟩
      · rw [e2]; rfl
      · rw [e2]; exact hol.out
/-- The groups of which there is no stamp. -/
def rdMiss (M : Int) (xs : List Int) (ss : List (Int × Int)) : List Int := if rdValid M xs ss then picked (fun g => has xs g && !answered ss g) 5 else []
theorem rdMiss_le (M : Int) (xs : List Int) (ss : List (Int × Int)) : (rdMiss M xs ss).length ≤ 5 := by
  unfold rdMiss picked
  split
  · have := List.length_filter_le (fun g => has xs g && !answered ss g) ((List.range 5).map fun (i : Nat) => (i : Int))
    simpa using this
  · simp
theorem answered_take {ss : List (Int × Int)} {k : Nat} {s : Int × Int} {g : Int} (h : ss[k]? = some s) (hn : answered (ss.take k) g = false) : answered (ss.take (k + 1)) g = (s.2 == g) := by
  unfold answered at hn ⊢
  rw [take_snoc h, List.any_append, hn]; simp
theorem answered_hit {ss : List (Int × Int)} {k : Nat} {s : Int × Int} {g : Int} (h : ss[k]? = some s) (hs : (s.2 == g) = true) : answered ss g = true := by
  unfold answered
  rw [List.any_eq_true]
  exact ⟨s, List.mem_of_getElem? h, hs⟩
theorem answered_any (A B : Option Addr) (n c q d : Nat) (ss : List (Int × Int)) (g : Int) (w : World) (h' : SS w B q d ss) :
    Calls Try.prog 69 #[.agg #[.slice A n c, .slice B q d], .int .i64 g] w fun e w' => e = .returned (.bool (answered ss g)) ∧ St w w' := by
  have HL := hid h'.len
  have hqd := h'.nc
  have hdm := h'.cm
  unfold maxLen at hdm
  have S0 := hid ((St.refl w).alloc (.cells #[.slice A n c, .slice B q d] 70))
  go_enter Try.func69, Try.ntmps69
  go_wp2_with fail
  go_loopw [10] (fun i wr => ∃ k : Nat, k ≤ q ∧ i = .int .i64 k ∧ Hid (answered (ss.take k) g = false) ∧ Hid (St w wr)) (fun i _ => q - (intOf i).toNat)
  case atStart => exact ⟨0, Nat.zero_le _, rfl, hid rfl, S0⟩
  case round =>
    obtain ⟨k, hk, rfl, hno, hd⟩ := hrel
    by_cases hlt : k < q
    · obtain ⟨ad, t, g', rfl, hb1, hc1, hc2, hx⟩ := (h'.st hd.out).at_ hlt
      have hm := hid (answered_take hx.out hno.out)
      have S2 := hid (hd.out.alloc (.cells #[.int .i64 t, .int .i64 g'] 45))
      cases hg : (g' == g)
      · have hm2 := hid (hm.out.trans hg)
        go_wp2_with fail
        go_roundw
        case rel => exact ⟨k + 1, by omega, by go_num, hm2, S2⟩
        case measure => simp [intOf]; omega
      · have hm2 := hid (answered_hit hx.out hg)
        go_wp2_with fail
        go_ret
        exact ⟨ret_bool hm2.out.symm, S2.out⟩
    · obtain rfl : k = q := by omega
      have hm : Hid (answered ss g = false) := by
        have := hno.out
        rwa [List.take_of_length_le (by rw [HL.out]; omega)] at this
      go_wp2_with fail
      go_ret
      exact ⟨ret_bool hm.out.symm, hd.out⟩
theorem missClosure_any (A B : Option Addr) (n c q d b : Nat) (xs : List Int) (ss : List (Int × Int)) (g : Int) (w : World) (h : SL w A n c xs) (h' : SS w B q d ss) (hn : n ≤ 1048576)
    (hb : Blk w b 70 #[.slice A n c, .slice B q d]) :
    Calls Try.prog 68 #[.int .i64 g, .pointer (some ⟨b, 0, none⟩)] w fun e w' => e = .returned (.bool (has xs g && !answered ss g)) ∧ St w w' := by
  have q0 := hb.cell_ (i := 0) (v := .slice A n c) rfl
  have q1 := hb.cell_ (i := 1) (v := .slice B q d) rfl
  have hdef := hid (show (has xs g && !answered ss g) = (has xs g && !answered ss g) from rfl)
  cases hh : has xs g
  · go_enter Try.func68, Try.ntmps68
    go_wp2_with fail
    refine (hasSet_any _ _ _ _ _ _ _ h.ri (by omega)).mono ?_
    rintro e w1 ⟨rfl, rfl⟩
    rw [hh]
    go_wp2_with fail
    go_ret
    exact ⟨ret_bool (by rfl), St.refl _⟩
  · go_enter Try.func68, Try.ntmps68
    go_wp2_with fail
    refine (hasSet_any _ _ _ _ _ _ _ h.ri (by omega)).mono ?_
    rintro e w1 ⟨rfl, rfl⟩
    rw [hh]
    go_wp2_with fail
    refine (answered_any _ _ _ _ _ _ _ _ _ h').mono ?_
    rintro e w1 ⟨rfl, s1⟩
    go_wp2_with fail
    go_ret
    exact ⟨ret_bool (by rw [Bool.true_and]), s1⟩
set_option maxHeartbeats 1000000 in
theorem RoundMissing_any (M : Int) (A B : Option Addr) (n c q d : Nat) (xs : List Int) (ss : List (Int × Int)) (w : World) (h : SL w A n c xs) (h' : SS w B q d ss) (hn : n ≤ 1048576) :
    Calls Try.prog 32 #[rdV M A n c B q d] w (MadeI w (rdMiss M xs ss)) := by
  have S0 := hid ((St.refl w).alloc (.cells #[.int .i64 M, .slice A n c, .slice B q d] 25))
  have K0 := hid (Blk.new w 25 #[.int .i64 M, .slice A n c, .slice B q d])
  have q0 := K0.out.cell_ (i := 0) (v := .int .i64 M) rfl
  have q1 := K0.out.cell_ (i := 1) (v := .slice A n c) rfl
  have q2 := K0.out.cell_ (i := 2) (v := .slice B q d) rfl
  have h1 := h.st S0.out
  have h1' := h'.st S0.out
  cases hv : rdValid M xs ss
  · have HF := hid (show rdMiss M xs ss = [] by unfold rdMiss; rw [hv]; rfl)
    go_enter Try.func32, Try.ntmps32
    go_wp2_with fail
    refine (RoundValid_any _ _ _ _ _ _ _ _ _ _ h1 h1' hn).mono ?_
    rintro e w1 ⟨rfl, s1⟩
    rw [hv]
    go_wp2_with fail
    go_ret
    refine ⟨none, 0, ?_, ?_, S0.out.trans s1⟩
    · rw [HF.out]; rfl
    · rw [HF.out]; exact World.ownsRow_nil _ _ _ _
  · have HF := hid (show rdMiss M xs ss = picked (fun g => has xs g && !answered ss g) 5 by unfold rdMiss; rw [hv]; rfl)
    go_enter Try.func32, Try.ntmps32
    go_wp2_with fail
    refine (RoundValid_any _ _ _ _ _ _ _ _ _ _ h1 h1' hn).mono ?_
    rintro e w1 ⟨rfl, s1⟩
    rw [hv]
    have S1 := hid (S0.out.trans s1)
    have K1 := hid (K0.out.below s1 K0.out.lt)
    clear S0 K0 q0 q1 q2 h1 h1' s1 hv
    have q0 := K1.out.cell_ (i := 0) (v := .int .i64 M) rfl
    have q1 := K1.out.cell_ (i := 1) (v := .slice A n c) rfl
    have q2 := K1.out.cell_ (i := 2) (v := .slice B q d) rfl
    go_wp2_with fail
    refine (roundOf_any _ _ _ _ _ _ _ _).mono ?_
    rintro e w2 ⟨rfl, s2⟩
    have S2 := hid ((S1.out.trans s2).alloc (.cells #[.slice A n c, .slice B q d] 70))
    have C2 := hid (Blk.new w2 70 #[.slice A n c, .slice B q d])
    clear S1 K1 q0 q1 q2 s2
    have h2 := hid (h.st S2.out)
    have h2' := hid (h'.st S2.out)
    go_wp2_with fail
    generalize w2.alloc (.cells #[.slice A n c, .slice B q d] 70) = w3 at S2 C2 h2 h2' ⊢
    refine (pickf_any ⟨w2.heap.size, 0, none⟩ (fun g => has xs g && !answered ss g) _ (fun i W _ hW => missClosure_any _ _ _ _ _ _ _ _ _ _ _ (h2.out.st hW) (h2'.out.st hW) hn (C2.out.below hW C2.out.lt))).mono ?_
    rintro e w4 ⟨X, a, rfl, o4, s4⟩
    have hle := S2.out.le
    go_wp2_with fail
    go_ret
    refine ⟨X, a, ?_, ?_, S2.out.trans s4⟩
    · rw [HF.out]; rfl
    · rw [HF.out]; exact OI.less o4 hle
/-- Sorted lists with the same members are equal. -/
theorem sorted_ext : ∀ (xs ys : List Int), xs.Pairwise (· < ·) → ys.Pairwise (· < ·) → (∀ a, a ∈ xs ↔ a ∈ ys) → xs = ys
  | [], [], _, _, _ => rfl
  | [], y :: ys, _, _, h => by have := (h y).2 (by simp); simp at this
  | x :: xs, [], _, _, h => by have := (h x).1 (by simp); simp at this
  | x :: xs, y :: ys, hx, hy, h => by
    rw [List.pairwise_cons] at hx hy
    have hxy : x = y := by
      have h1 := (h x).1 (by simp)
      have h2 := (h y).2 (by simp)
      rw [List.mem_cons] at h1 h2
      rcases h1 with h1 | h1
      · exact h1
      · rcases h2 with h2 | h2
        · exact h2.symm
        · have := hx.1 y h2
          have := hy.1 x h1
          omega
    subst hxy
    rw [sorted_ext xs ys hx.2 hy.2 fun a => ?_]
    constructor
    · intro ha
      have h1 := (h a).1 (List.mem_cons_of_mem _ ha)
      rcases List.mem_cons.1 h1 with rfl | h1
      · have := hx.1 a ha; omega
      · exact h1
    · intro ha
      have h1 := (h a).2 (List.mem_cons_of_mem _ ha)
      rcases List.mem_cons.1 h1 with rfl | h1
      · have := hy.1 a ha; omega
      · exact h1
theorem asc_lt {xs : List Int} {n : Nat} (h : ascTo xs n = true) : ∀ (d i : Nat), i + d + 1 ≤ n → xs.getD i 0 < xs.getD (i + d + 1) 0
  | 0, i, hi => by
    simp only [ascTo, List.all_eq_true, List.mem_range, decide_eq_true_eq] at h
    exact h i (by omega)
  | d + 1, i, hi => by
    have h1 := asc_lt h d i (by omega)
    simp only [ascTo, List.all_eq_true, List.mem_range, decide_eq_true_eq] at h
    have h2 := h (i + d + 1) (by omega)
    have e : i + (d + 1) + 1 = i + d + 1 + 1 := by omega
    rw [e]
    omega
theorem gset_sorted {xs : List Int} (h : gset xs = true) : xs.Pairwise (· < ·) := by
  simp only [gset, Bool.and_eq_true, decide_eq_true_eq] at h
  rw [List.pairwise_iff_getElem]
  intro i j hi hj hij
  have := asc_lt h.2.1 (j - i - 1) i (by omega)
  rw [show i + (j - i - 1) + 1 = j by omega] at this
  simpa [List.getD_eq_getElem?_getD, hi, hj] using this
theorem gset_in {xs : List Int} (h : gset xs = true) {x : Int} (hx : x ∈ xs) : 0 ≤ x ∧ x ≤ 4 := by
  simp only [gset, Bool.and_eq_true, List.all_eq_true] at h
  exact inB_iff.1 (h.2.2 x hx)
theorem picked_mem {f : Int → Bool} {k : Nat} {a : Int} : a ∈ picked f k ↔ (0 ≤ a ∧ a < k) ∧ f a = true := by
  simp only [picked, List.mem_filter, List.mem_map, List.mem_range]
  constructor
  · rintro ⟨⟨i, hi, rfl⟩, hf⟩
    exact ⟨⟨by omega, by omega⟩, hf⟩
  · rintro ⟨⟨h1, h2⟩, hf⟩
    exact ⟨⟨a.toNat, by omega, by omega⟩, hf⟩
theorem picked_sorted (f : Int → Bool) (k : Nat) : (picked f k).Pairwise (· < ·) := by
  unfold picked
  refine List.Pairwise.filter _ ?_
  rw [List.pairwise_map]
  exact List.pairwise_lt_range.imp fun h => by omega
theorem has_iff {xs : List Int} {x : Int} : has xs x = true ↔ x ∈ xs := by simp [has]
theorem picked_filter {xs : List Int} (h : gset xs = true) (p : Int → Bool) : picked (fun g => has xs g && p g) 5 = xs.filter p := by
  refine sorted_ext _ _ (picked_sorted _ _) ((gset_sorted h).filter _) fun a => ?_
  rw [picked_mem, List.mem_filter, Bool.and_eq_true, has_iff]
  constructor
  · rintro ⟨_, h1, h2⟩; exact ⟨h1, h2⟩
  · rintro ⟨h1, h2⟩
    have := gset_in h h1
    exact ⟨⟨by omega, by omega⟩, h1, h2⟩
theorem rdMiss_filter {M : Int} {xs : List Int} {ss : List (Int × Int)} (hv : rdValid M xs ss = true) : rdMiss M xs ss = xs.filter fun g => !answered ss g := by
  unfold rdMiss
  rw [if_pos hv]
  simp only [rdValid, Bool.and_eq_true] at hv
  exact picked_filter hv.1.2 _
theorem filter_take {α : Type} {p : α → Bool} {xs : List α} {k : Nat} {x : α} (h : xs[k]? = some x) : (xs.take (k + 1)).filter p = (xs.take k).filter p ++ (if p x then [x] else []) := by
  rw [take_snoc h, List.filter_append]; simp [List.filter_cons]
set_option maxRecDepth 100000 in
set_option maxHeartbeats 4000000 in
theorem specRoundMissing_any (M : Int) (A B : Option Addr) (n c q d : Nat) (xs : List Int) (ss : List (Int × Int)) (w : World) (h : SL w A n c xs) (h' : SS w B q d ss) (hn : n ≤ 1048576) :
    Calls Try.prog 34 #[rdV M A n c B q d] w (MadeI w (rdMiss M xs ss)) := by
  have s0 := ((St.refl w).alloc (.cells #[.int .i64 M, .slice A n c, .slice B q d] 25)).alloc (.cells #[] 3)
  have h1 := h.st s0
  have h1' := h'.st s0
  have HB := hid ((Blk.new w 25 #[.int .i64 M, .slice A n c, .slice B q d]).alloc (.cells #[] 3))
  have q0 := HB.out.cell_ (i := 0) (v := .int .i64 M) rfl
  have q1 := HB.out.cell_ (i := 1) (v := .slice A n c) rfl
  have q2 := HB.out.cell_ (i := 2) (v := .slice B q d) rfl
  have o0 : OI ((w.alloc (.cells #[.int .i64 M, .slice A n c, .slice B q d] 25)).alloc (.cells #[] 3)) (w.heap.size + 1) 3 (some ⟨w.heap.size + 1, 0, none⟩) 0 0 [] := by
    have := OI.lit (w := w.alloc (.cells #[.int .i64 M, .slice A n c, .slice B q d] 25)) (e := 3)
    simpa using this
  have O0 := hid o0
  have HL := hid h.len
  have HL' := hid h'.len
  have hqd := h'.nc
  have hdm := h'.cm
  unfold maxLen at hdm
  clear o0
  cases hv : rdValid M xs ss
  · have HF := hid (show rdMiss M xs ss = [] by unfold rdMiss; rw [hv]; rfl)
    go_enter Try.func34, Try.ntmps34
    go_wp2_with fail
    refine (specRoundValid_any _ _ _ _ _ _ _ _ _ _ h1 h1' hn).mono ?_
    rintro e w1 ⟨rfl, s1⟩
    rw [hv]
    have O1 := hid (OI.less (own_below O0.out s1) (show w.heap.size ≤ w.heap.size + 1 by omega))
    go_wp2_with fail
    go_ret
    refine ⟨some ⟨w.heap.size + 1, 0, none⟩, 0, ?_, ?_, s0.trans s1⟩
    · rw [HF.out]; rfl
    · rw [HF.out]; exact O1.out
  have HF := hid (rdMiss_filter hv)
  go_enter Try.func34, Try.ntmps34
  go_wp2_with fail
  refine (specRoundValid_any _ _ _ _ _ _ _ _ _ _ h1 h1' hn).mono ?_
  rintro e w1 ⟨rfl, s1⟩
  rw [hv]
  have S1 := hid (s0.trans s1)
  have K1 := hid (HB.out.below s1 HB.out.lt)
  have O1 := hid (own_below O0.out s1)
  clear q0 q1 q2 s0 s1 h1 h1' HB hv O0
  have hle := S1.out.le
  have hle1 : w.heap.size + 1 ≤ w1.heap.size := K1.out.lt
  go_wp2_with fail
  go_loopw [3, 4] (fun v i wr => ∃ (k nl a : Nat) (X : Option Addr), k ≤ n ∧ i = .int .i64 (k : Int) ∧ v = .slice X nl a ∧ nl ≤ k ∧ Hid (OI wr (w.heap.size + 1) 3 X nl a ((xs.take k).filter fun g => !answered ss g)) ∧ Hid (St w wr) ∧ Hid (Blk wr w.heap.size 25 #[.int .i64 M, .slice A n c, .slice B q d])) (fun _ i _ => n - (intOf i).toNat)
  case atStart => exact ⟨0, 0, 0, _, Nat.zero_le _, rfl, rfl, Nat.le_refl _, O1, S1, K1⟩
  case round =>
    obtain ⟨k, nl, a, X, hk, rfl, rfl, hnl, hol, hst, hkb⟩ := hrel
    obtain ⟨wa, rfl⟩ : ∃ wo : World, wo = wr := ⟨_, rfl⟩
    have q1 := hkb.out.cell_ (i := 1) (v := .slice A n c) rfl
    have q2 := hkb.out.cell_ (i := 2) (v := .slice B q d) rfl
    by_cases hlt : k < n
    · obtain ⟨ad, y, rfl, hb, hy, hc⟩ := (h.st hst.out).ri.at_ hlt
      have hki : (0 : Int) ≤ (k : Int) := by omega
      have hki2 : (k : Int) < (n : Int) := by omega
      go_wp2_with fail
      go_loopw [5, 6] (fun v i wb => ∃ (j : Nat), j ≤ q ∧ i = .int .i64 (j : Int) ∧ v = .bool (answered (ss.take j) y) ∧ Hid (Dr wa wb)) (fun _ i _ => q - (intOf i).toNat)
      case atStart => exact ⟨0, Nat.zero_le _, rfl, rfl, Dr.refl _⟩
      case round =>
        obtain ⟨j, hj, rfl, rfl, hd⟩ := hrel
        have hkc := hid (hkb.out.dr hd.out)
        have r1 := hkc.out.cell_ (i := 1) (v := .slice (some ad) n c) rfl
        have r2 := hkc.out.cell_ (i := 2) (v := .slice B q d) rfl
        have hcy := (hd.out.cell (ad.add k)).trans hc
        by_cases hltj : j < q
        · obtain ⟨ad', t, g, rfl, hb1, hc1, hc2, hx⟩ := ((h'.st hst.out).dr hd.out).at_ hltj
          have hji : (0 : Int) ≤ (j : Int) := by omega
          have hji2 : (j : Int) < (q : Int) := by omega
          clear q1 q2 hc
          cases ha : answered (ss.take j) y
          · have ht := hid (answered_take hx.out ha)
            cases hg : (g == y)
            · have ht2 := hid (ht.out.trans hg)
              clear ha
              go_wp2_with fail
              go_quiet (fail)
              go_wp2_with fail
              go_roundw
              case rel => exact ⟨j + 1, by omega, by go_num, by rw [ht2.out], hd.out.more _⟩
              case measure => simp [intOf]; omega
            · have ht2 := hid (ht.out.trans hg)
              clear ha
              go_wp2_with fail
              go_quiet (fail)
              go_wp2_with fail
              go_roundw
              case rel => exact ⟨j + 1, by omega, by go_num, by rw [ht2.out], hd.out.more _⟩
              case measure => simp [intOf]; omega
          · have ht2 : Hid (answered (ss.take (j + 1)) y = true) := by
              unfold answered at ha ⊢
              rw [take_snoc hx.out, List.any_append, ha]; rfl
            clear ha
            go_wp2_with fail
            go_quiet (fail)
            go_wp2_with fail
            go_roundw
            case rel => exact ⟨j + 1, by omega, by go_num, by rw [ht2.out], hd.out.more _⟩
            case measure => simp [intOf]; omega
        · obtain rfl : j = q := by omega
          have e1 : Hid (answered (ss.take j) y = answered ss y) := by rw [List.take_of_length_le (by rw [HL'.out]; omega)]; rfl
          have hst2 := hid (hst.out.dr hd.out)
          have hol2 := hid (OI.dr hol.out hd.out)
          have hle2 : w.heap.size + 1 ≤ wr.heap.size := hkc.out.lt
          have HN := hid (filter_take (p := fun g => !answered ss g) hy.out)
          clear q1 q2 hc
          cases ha : answered ss y
          · rw [ha] at e1 HN
            have HN2 := hid (show (xs.take (k + 1)).filter (fun g => !answered ss g) = (xs.take k).filter (fun g => !answered ss g) ++ [y] by rw [HN.out]; simp)
            have e2 := e1.out
            go_wp2_with (at_builtin; refine wpList_append_int _ rfl _ _ 22 rfl (w.heap.size + 1) 3 Try.underlying22 intInfo _ _ _ _ y rfl hol2.out rfl (by omega) hle2 ?_; intro X2 a2 w3 ho3 hg3)
            have o3 : Hid (OI w3 (w.heap.size + 1) 3 X2 (nl + 1) a2 ((xs.take (k + 1)).filter fun g => !answered ss g)) := by rw [HN2.out]; exact ho3
            have hXb : ∀ g, blockOf X = some g → w.heap.size < g := fun g hg => (OI.lt hol2.out g hg).1
            have S3 := hid (hst2.out.grown hg3 (fun k hk => Nat.le_of_lt (hXb k hk)))
            have kb3 := hid (hkc.out.grown hg3 (fun e => by have := hXb _ e.symm; omega))
            go_roundw
            case rel => exact ⟨k + 1, nl + 1, _, _, by omega, by go_num, rfl, by omega, o3, S3, kb3⟩
            case measure => simp [intOf]; omega
          · rw [ha] at e1 HN
            have HN2 := hid (show (xs.take (k + 1)).filter (fun g => !answered ss g) = (xs.take k).filter (fun g => !answered ss g) by rw [HN.out]; simp)
            have o3 : Hid (OI wr (w.heap.size + 1) 3 X nl a ((xs.take (k + 1)).filter fun g => !answered ss g)) := by rw [HN2.out]; exact hol2.out
            have e2 := e1.out
            go_wp2_with fail
            go_roundw
            case rel => exact ⟨k + 1, nl, _, _, by omega, by go_num, rfl, by omega, o3, hst2, hkc⟩
            case measure => simp [intOf]; omega
    · obtain rfl : k = n := by omega
      go_wp2_with fail
      go_ret
      have e1 : (xs.take k).filter (fun g => !answered ss g) = rdMiss M xs ss := by rw [List.take_of_length_le (by rw [HL.out]; omega), HF.out]
      have o5 := hol.out
      rw [e1] at o5
      have e2 := o5.len
      refine ⟨X, a, ?_, ?_, hst.out⟩
      · rw [e2]; rfl
      · rw [e2]; exact o5.less (by omega)
section
variable {w w' : World} {M : Int} {A B : Option Addr} {n c m d : Nat} {xs : List Int} {ss : List (Int × Int)}
theorem RoundMissing_r (h : RdRd w M A n c B m d xs ss) (f : FitRd xs ss) : Calls Try.prog 32 #[rdV M A n c B m d] w fun e w' => ∃ A' n' c', e = .returned (.slice A' n' c') ∧ OI w' w.heap.size 3 A' n' c' (rdMiss M xs ss) ∧ St w w' :=
  (RoundMissing_any _ _ _ _ _ _ _ _ _ _ h.sl h.sh (h.n_ f)).mono fun _ _ ⟨A', c', a, b, s⟩ => ⟨A', _, c', a, b, s⟩
theorem RoundMissing_r_le (_ : FitRd xs ss) : (rdMiss M xs ss).length ≤ 1048576 := Nat.le_trans (rdMiss_le M xs ss) (by omega)
theorem specRoundMissing_r (h : RdRd w M A n c B m d xs ss) (f : FitRd xs ss) : Calls Try.prog 34 #[rdV M A n c B m d] w fun e w' => ∃ A' n' c', e = .returned (.slice A' n' c') ∧ SL w' A' n' c' (rdMiss M xs ss) ∧ St w w' :=
  (specRoundMissing_any _ _ _ _ _ _ _ _ _ _ h.sl h.sh (h.n_ f)).mono fun _ _ ⟨A', c', a, b, s⟩ => ⟨A', _, c', a, b.sl, s⟩
end
end Go.Proofs.Ytldclkjknhjbfaa
