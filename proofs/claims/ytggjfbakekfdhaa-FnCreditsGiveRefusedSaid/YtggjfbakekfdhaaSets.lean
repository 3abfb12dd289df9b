/- Sets of groups, and copies of slices of ints. -/
import Derived.Test.YtggjfbakekfdhaaInts
import Derived.Test.YtggjfbakekfdhaaApp
namespace Go.Proofs.Ytggjfbakekfdhaa
open Go.RowKit

theorem all_take_in {xs : List Int} {k : Nat} {x lo hi : Int} (h : xs[k]? = some x) (ht : (xs.take k).all (inB · lo hi) = true) : (xs.take (k + 1)).all (inB · lo hi) = inB x lo hi := by
  rw [take_snoc h, List.all_append, ht]; simp
theorem all_in_bad {xs : List Int} {k : Nat} {x lo hi : Int} (h : xs[k]? = some x) (ht : inB x lo hi = false) : xs.all (inB · lo hi) = false := by
  rw [Bool.eq_false_iff]
  intro ha
  rw [List.all_eq_true] at ha
  have := ha x (List.mem_of_getElem? h)
  rw [ht] at this; cases this
theorem inRange_any (A : Option Addr) (n c B : Nat) (xs : List Int) (lo hi : Int) (w : World) (h : RI w B A n xs) (hn : n ≤ 9223372036854775807) :
    Calls Try.prog 68 #[.slice A n c, .int .i64 lo, .int .i64 hi] w fun e w' => e = .returned (.bool (xs.all (inB · lo hi))) ∧ w = w' := by
  have HL := hid h.len
  go_enter Try.func68, Try.ntmps68
  go_wp2_with fail
  go_loop [11] (fun i => ∃ k : Nat, k ≤ n ∧ i = .int .i64 k ∧ Hid ((xs.take k).all (inB · lo hi) = true)) (fun i => n - (intOf i).toNat)
  case atStart => exact ⟨0, Nat.zero_le _, rfl, hid rfl⟩
  case round =>
    obtain ⟨k, hk, rfl, hno⟩ := hrel
    by_cases hlt : k < n
    · obtain ⟨ad, x, rfl, hb, hx, hc⟩ := h.at_ hlt
      have hm := hid (all_take_in hx.out hno.out)
      by_cases hxl : x < lo
      · have hbad := hid (all_in_bad hx.out (by simp [inB]; omega : inB x lo hi = false))
        go_wp2_with fail
        go_ret
        exact ⟨ret_bool hbad.out.symm, rfl⟩
      by_cases hxh : hi < x
      · have hbad := hid (all_in_bad hx.out (by simp [inB]; omega : inB x lo hi = false))
        go_wp2_with fail
        go_ret
        exact ⟨ret_bool hbad.out.symm, rfl⟩
      · have hm := hid (hm.out.trans (by simp [inB]; omega : inB x lo hi = true))
        go_wp2_with fail
        go_round
        case rel => exact ⟨k + 1, by omega, by go_num, hm⟩
        case measure => simp [intOf]; omega
    · obtain rfl : k = n := by omega
      go_wp2_with fail
      go_ret
      refine ⟨ret_bool ?_, rfl⟩
      have := hno.out
      rw [List.take_of_length_le (by rw [HL.out]; omega)] at this
      exact this.symm
/-- An int slice that a function has made: new. -/
def MadeI (w : World) (xs : List Int) (e : Ending) (w' : World) : Prop := ∃ A c, e = .returned (.slice A xs.length c) ∧ OI w' w.heap.size 3 A xs.length c xs ∧ St w w'
theorem cloneInt_any (A : Option Addr) (n c : Nat) (xs : List Int) (w : World) (h : RI w w.heap.size A n xs) (hn : n ≤ 1048576) :
    Calls Try.prog 46 #[.slice A n c] w (MadeI w xs) := by
  obtain ⟨i0, hi0, hz0, hz1, hz2⟩ := info_parts intInfo
  have HL := hid h.len
  go_enter Try.func46, Try.ntmps46
  go_wp2_with (first
    | (at_make; refine wpList_make_own _ rfl _ _ 22 rfl w.heap.size 3 i0 (.int .i64 0) 1 Try.underlying22 hi0 hz0 hz1 _ _ _ n rfl rfl rfl (by rw [hz2]; omega) (by unfold maxLen; omega) (Nat.le_refl _) ?_; intro w1 hown hgrow; have s1 : St w w1 := St.grown (St.refl w) hgrow (by simp); have h1 := h.below s1)
    | (at_builtin; refine wpList_append_src _ rfl _ _ 22 rfl w.heap.size 3 Try.underlying22 intInfo (some ⟨w.heap.size, 0, none⟩) 0 n [] rfl hown _ A n c xs rfl h1 (by omega) s1.size ?_; intro X a w2 ho2 hg2))
  have s2 : St w w2 := St.grown s1 hg2 (fun k hk => by injection hk with hk; subst hk; exact Nat.le_refl _)
  go_wp2_with fail
  go_ret
  have hl := HL.out
  refine ⟨X, a, ?_, ?_, s2⟩
  · rw [hl]; simp
  · rw [hl]; simpa using ho2

/-- The first k neighbours ascend. -/
def ascTo (xs : List Int) (k : Nat) : Bool := (List.range k).all fun i => decide (xs.getD i 0 < xs.getD (i + 1) 0)
theorem ascTo_succ {xs : List Int} {k : Nat} {x y : Int} (hx : xs[k]? = some x) (hy : xs[k + 1]? = some y) : ascTo xs (k + 1) = (ascTo xs k && decide (x < y)) := by
  simp [ascTo, List.range_succ, List.getD_eq_getElem?_getD, hx, hy]
theorem ascTo_bad {xs : List Int} {k n : Nat} (h : ascTo xs k = false) (hk : k ≤ n) : ascTo xs n = false := by
  rw [Bool.eq_false_iff] at h ⊢
  intro ha
  apply h
  simp only [ascTo, List.all_eq_true, List.mem_range] at ha ⊢
  exact fun i hi => ha i (by omega)
/-- Is a list a set of groups? -/
def gset (xs : List Int) : Bool := decide (0 < xs.length) && (ascTo xs (xs.length - 1) && xs.all (inB · 0 4))
theorem isGroup_any (n : Int) (w : World) :
    Calls Try.prog 53 #[.int .i64 n] w fun e w' => e = .returned (.bool (inB n 0 4)) ∧ w = w' := by
  by_cases h1 : 0 ≤ n
  · go_enter Try.func53, Try.ntmps53
    go_wp2
    go_ret
    exact ⟨ret_bool (by simp [inB, h1]; omega), rfl⟩
  · go_enter Try.func53, Try.ntmps53
    go_wp2
    go_ret
    exact ⟨ret_bool (by simp [inB]; omega), rfl⟩
theorem l1Group_any (n : Int) (w : World) :
    Calls Try.prog 64 #[.int .i64 n] w fun e w' => e = .returned (.bool (inB n 0 4)) ∧ w = w' := by
  go_enter Try.func64, Try.ntmps64
  go_wp2_with ((refine (l6In_any _ _ _ _).mono ?_); rintro e w' ⟨rfl, rfl⟩)
  go_ret
  exact ⟨rfl, rfl⟩
theorem ascending_any (A : Option Addr) (n c B : Nat) (xs : List Int) (w : World) (h : RI w B A n xs) (hn : n ≤ 140737488351232) :
    Calls Try.prog 77 #[.slice A n c] w fun e w' => e = .returned (.bool (ascTo xs (n - 1))) ∧ Dr w w' := by
  have HL := hid h.len
  go_enter Try.func77, Try.ntmps77
  go_wp2_with fail
  go_loopw [3] (fun i wr => ∃ k : Nat, (k + 1 ≤ n ∨ k = 0) ∧ i = .int .i64 ((k : Int) + 1) ∧ Hid (ascTo xs k = true) ∧ Dr w wr) (fun i _ => n - (intOf i).toNat)
  case atStart => exact ⟨0, .inr rfl, rfl, rfl, Dr.refl _⟩
  case round =>
    obtain ⟨k, hk, rfl, hno, hd⟩ := hrel
    have h := h.dr hd
    by_cases hlt : k + 1 < n
    · obtain ⟨ad, x, rfl, hb, hx, hc⟩ := h.at_ (k := k) (by omega)
      obtain ⟨ad', y, he, hb', hy, hc'⟩ := h.at_ hlt
      cases he
      have hcs := hc'
      rw [add_succ] at hcs
      have hm := hid (ascTo_succ hx.out hy.out)
      have hlt' : (k : Int) + 1 < (n : Int) := by omega
      have q1 : IntKind.i64.wrap (k : Int) = (k : Int) := IntWalk.i64_in _ (by omega)
      have q2 : ((k : Int) + 1).toNat = k + 1 := by omega
      have q3 : (0 : Int) ≤ (k : Int) + 1 := by omega
      have hk0 : (k : Int) < (n : Int) := by omega
      by_cases hxy : x < y
      · have hm1 := hid (hm.out.trans (by rw [hno.out]; simp [hxy] : _ = true))
        have hd1 : decide (y ≤ x) = false := by simp; omega
        clear hxy
        go_wp2_with fail
        go_quiet (fail)
        clear q1 q2 q3
        go_wp2_with fail
        go_roundw
        case rel => exact ⟨k + 1, .inl (by omega), by go_num, hm1, hd.more _⟩
        case measure => simp [intOf]; omega
      · have hm1 := hid (ascTo_bad (n := n - 1) (hm.out.trans (by simp [hxy] : _ = false)) (by omega))
        have hd1 : decide (y ≤ x) = true := by simp; omega
        clear hxy
        go_wp2_with fail
        go_quiet (fail)
        clear q1 q2 q3
        go_wp2_with fail
        go_ret
        exact ⟨ret_bool hm1.out.symm, hd.more _⟩
    · have hm1 : Hid (ascTo xs (n - 1) = true) := by
        have := hno.out
        rcases hk with hk | rfl
        · rwa [show n - 1 = k by omega]
        · rwa [show n - 1 = 0 by omega]
      have hlt' : ¬ (k : Int) + 1 < (n : Int) := by omega
      have q2 : (0 : Int) ≤ (k : Int) + 1 := by omega
      go_wp2_with fail
      go_ret
      exact ⟨ret_bool hm1.out.symm, hd⟩
theorem validSet_any (A : Option Addr) (n c B : Nat) (xs : List Int) (w : World) (h : RI w B A n xs) (hn : n ≤ 140737488351232) :
    Calls Try.prog 70 #[.slice A n c] w fun e w' => e = .returned (.bool (gset xs)) ∧ Dr w w' := by
  have hdef := hid (show gset xs = (decide (0 < xs.length) && (ascTo xs (xs.length - 1) && xs.all (inB · 0 4))) from rfl)
  rw [h.len] at hdef
  by_cases hn0 : 0 < n
  · have hi : (0 : Int) < (n : Int) := by omega
    rw [decide_eq_true hn0, Bool.true_and] at hdef
    go_enter Try.func70, Try.ntmps70
    go_wp2_with fail
    refine (ascending_any _ _ _ _ _ _ h hn).mono ?_
    rintro e w1 ⟨rfl, d1⟩
    cases ha : ascTo xs (n - 1)
    · rw [ha, Bool.false_and] at hdef
      go_wp2_with fail
      go_ret
      exact ⟨ret_bool hdef.out.symm, d1⟩
    · rw [ha, Bool.true_and] at hdef
      go_wp2_with fail
      refine (inRange_any _ _ _ _ _ _ _ _ (h.dr d1) (by omega)).mono ?_
      rintro e w2 ⟨rfl, rfl⟩
      go_wp2_with fail
      go_ret
      exact ⟨ret_bool hdef.out.symm, d1⟩
  · have hi : ¬ (0 : Int) < (n : Int) := by omega
    rw [decide_eq_false hn0, Bool.false_and] at hdef
    go_enter Try.func70, Try.ntmps70
    go_wp2_with fail
    go_ret
    exact ⟨ret_bool hdef.out.symm, Dr.refl _⟩
theorem GroupsValid_any (A : Option Addr) (n c B : Nat) (xs : List Int) (w : World) (h : RI w B A n xs) (hn : n ≤ 140737488351232) :
    Calls Try.prog 52 #[.slice A n c] w fun e w' => e = .returned (.bool (gset xs)) ∧ Dr w w' := by
  go_enter Try.func52, Try.ntmps52
  go_wp2_with fail
  refine (validSet_any _ _ _ _ _ _ h hn).mono ?_
  rintro e w1 ⟨rfl, d1⟩
  go_wp2_with fail
  go_ret
  exact ⟨rfl, d1⟩
theorem hasSet_any (A : Option Addr) (n c B : Nat) (xs : List Int) (m : Int) (w : World) (h : RI w B A n xs) (hn : n ≤ 9223372036854775807) :
    Calls Try.prog 54 #[.slice A n c, .int .i64 m] w fun e w' => e = .returned (.bool (has xs m)) ∧ w = w' := by
  have HL := hid h.len
  go_enter Try.func54, Try.ntmps54
  go_wp2_with fail
  go_loop [9] (fun i => ∃ k : Nat, k ≤ n ∧ i = .int .i64 k ∧ Hid (has (xs.take k) m = false)) (fun i => n - (intOf i).toNat)
  case atStart => exact ⟨0, Nat.zero_le _, rfl, rfl⟩
  case round =>
    obtain ⟨k, hk, rfl, hno⟩ := hrel
    by_cases hlt : k < n
    · obtain ⟨ad, x, rfl, hb, hx, hc⟩ := h.at_ hlt
      cases hxm : (x == m)
      · have hm := hid (has_miss hx.out hxm hno.out)
        go_wp2
        go_round
        case rel => exact ⟨k + 1, by omega, by go_num, hm⟩
        case measure => simp [intOf]; omega
      · have hm := hid (has_hit hx.out hxm)
        go_wp2
        go_ret
        exact ⟨ret_bool hm.out.symm, rfl⟩
    · obtain rfl : k = n := by omega
      go_wp2
      go_ret
      refine ⟨ret_bool ?_, rfl⟩
      have := hno.out
      rw [List.take_of_length_le (by rw [HL.out]; omega)] at this
      exact this.symm
set_option maxHeartbeats 400000 in
theorem specGroupsValid_any (A : Option Addr) (n c B : Nat) (xs : List Int) (w : World) (h : RI w B A n xs) (hn : n ≤ 140737488351232) :
    Calls Try.prog 57 #[.slice A n c] w fun e w' => e = .returned (.bool (gset xs)) ∧ Dr w w' := by
  have HL := hid h.len
  have hdef := hid (show gset xs = (decide (0 < xs.length) && (ascTo xs (xs.length - 1) && xs.all (inB · 0 4))) from rfl)
  rw [h.len] at hdef
  go_enter Try.func57, Try.ntmps57
  go_wp2_with fail
  go_loopw [3] (fun i wr => ∃ k : Nat, k ≤ n ∧ i = .int .i64 (k : Int) ∧ Hid (ascTo xs (k - 1) = true) ∧ Hid ((xs.take k).all (inB · 0 4) = true) ∧ Dr w wr) (fun i _ => n - (intOf i).toNat)
  case atStart => exact ⟨0, Nat.zero_le _, rfl, rfl, hid rfl, Dr.refl _⟩
  case round =>
    obtain ⟨k, hk, rfl, hno, hal, hd⟩ := hrel
    have h := h.dr hd
    by_cases hlt : k < n
    · obtain ⟨ad, y, rfl, hb, hy, hc⟩ := h.at_ hlt
      have hm := hid (all_take_in hy.out hal.out)
      have hki : (k : Int) < (n : Int) := by omega
      have hk0 : (0 : Int) ≤ (k : Int) := by omega
      cases hin : inB y 0 4
      · have hbad := hid (hdef.out.trans (by rw [all_in_bad hy.out hin, Bool.and_false, Bool.and_false]))
        go_wp2_with fail
        go_quiet ((go_at_call 64; exact quiet_left (l1Group_any _ _)))
        go_wp2_with fail
        go_ret
        exact ⟨ret_bool hbad.out.symm, hd.more _⟩
      rw [hin] at hm
      rcases k with _ | j
      · have hz : decide ((0 : Int) < ((0 : Nat) : Int)) = false := by simp
        have hc0 : wr.cell? ad = some (.int .i64 y) := by rw [add_zero] at hc; exact hc
        go_wp2_with fail
        go_quiet ((go_at_call 64; exact quiet_left (l1Group_any _ _)))
        go_wp2_with fail
        go_roundw
        case rel => exact ⟨1, by omega, by go_num, hid rfl, hm, hd.more _⟩
        case measure => simp [intOf]; omega
      · obtain ⟨ad', x, he, hb', hx, hc'⟩ := h.at_ (k := j) (by omega)
        cases he
        have hcs := hc
        rw [add_succ] at hcs
        have hma := hid (ascTo_succ hx.out hy.out)
        have q1 : IntKind.i64.wrap (j : Int) = (j : Int) := IntWalk.i64_in _ (by omega)
        have q2 : ((j : Int) + 1).toNat = j + 1 := by omega
        have q3 : (0 : Int) ≤ (j : Int) + 1 := by omega
        have q4 : (j : Int) + 1 < (n : Int) := by omega
        have q5 : (0 : Int) < (j : Int) + 1 := by omega
        have q6 : (j : Int) < (n : Int) := by omega
        clear hki hk0
        by_cases hxy : x < y
        · have hm1 := hid (hma.out.trans (by have := hno.out; simp at this; rw [this]; simp [hxy] : _ = true))
          have hd1 : decide (y ≤ x) = false := by simp; omega
          clear hxy
          go_wp2_with fail
          go_quiet ((go_at_call 64; exact quiet_left (l1Group_any _ _)))
          clear q1 q2
          go_wp2_with fail
          go_roundw
          case rel => exact ⟨j + 1 + 1, by omega, by go_num, hm1, hm, hd.more _⟩
          case measure => simp [intOf]; omega
        · have hm1 := hid (hdef.out.trans (by rw [ascTo_bad (n := n - 1) (hma.out.trans (by simp [hxy] : _ = false)) (by omega), Bool.false_and, Bool.and_false]))
          have hd1 : decide (y ≤ x) = true := by simp; omega
          clear hxy
          go_wp2_with fail
          go_quiet ((go_at_call 64; exact quiet_left (l1Group_any _ _)))
          clear q1 q2
          go_wp2_with fail
          go_ret
          exact ⟨ret_bool hm1.out.symm, hd.more _⟩
    · obtain rfl : k = n := by omega
      have hfin : Hid (gset xs = decide ((0 : Nat) < k)) := by
        have := hal.out
        rw [List.take_of_length_le (by rw [HL.out]; omega)] at this
        show gset xs = _
        rw [hdef.out, hno.out, this, Bool.and_self, Bool.and_true]
      go_wp2_with fail
      go_ret
      exact ⟨ret_bool hfin.out.symm, hd⟩
end Go.Proofs.Ytggjfbakekfdhaa
