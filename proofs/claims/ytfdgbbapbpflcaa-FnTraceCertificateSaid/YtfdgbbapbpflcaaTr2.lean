/- The contracts of isTrace and of both TraceFollows, of the copies and of the marks. -/
import Derived.Test.YtfdgbbapbpflcaaTr1
namespace Go.Proofs.Ytfdgbbapbpflcaa
open Go.RowKit

/-- The twelve flags of a block. -/
def seenCells (ys : List Int) : Array Value := ((List.range 12).map fun (i : Nat) => Value.bool (has ys (i : Int))).toArray
theorem seen_at (ys : List Int) {m : Nat} (h : m < 12) : (seenCells ys)[m]? = some (.bool (has ys m)) := by
  simp [seenCells, h]
theorem seen_set (ys : List Int) {m : Nat} (_h : m < 12) : (seenCells ys).setIfInBounds m (.bool true) = seenCells (ys ++ [(m : Int)]) := by
  apply Array.ext_getElem?
  intro i
  rw [Array.getElem?_setIfInBounds]
  by_cases e : m = i
  · subst e
    have : m < (seenCells ys).size := by simpa [seenCells] using _h
    rw [if_pos rfl, if_pos this, seen_at _ _h]
    simp [has]
  · rw [if_neg e]
    by_cases hi : i < 12
    · rw [seen_at _ hi, seen_at _ hi]
      simp [has]
      omega
    · simp [seenCells, hi]
theorem seen_nil : seenCells [] = #[.bool false, .bool false, .bool false, .bool false, .bool false, .bool false, .bool false, .bool false, .bool false, .bool false, .bool false, .bool false] := rfl
theorem isMsg_nat {x : Int} (h : isMsg x = true) : ∃ m : Nat, x = m ∧ m < 12 := by
  simp only [isMsg, inB_iff] at h
  exact ⟨x.toNat, by omega, by omega⟩

set_option maxRecDepth 100000 in
theorem isTrace_any (A : Option Addr) (n c B : Nat) (xs : List Int) (w : World) (h : RI w B A n xs) (hn : n ≤ 140737488351232) (hB : B ≤ w.heap.size) :
    Calls Try.prog 43 #[.slice A n c] w fun e w' => e = .returned (.bool (isTr xs)) ∧ Below w.heap.size w w' := by
  have HL := hid h.len
  have HB := hid (Blk.new w 59 (seenCells []))
  have HN := hid (((Below.refl w.heap.size w).alloc (Nat.le_refl _) (.cells (seenCells []) 59)))
  rw [seen_nil] at HB HN
  go_enter Try.func43, Try.ntmps43
  go_wp2
  go_loopw [8] (fun i wr => ∃ k : Nat, k ≤ n ∧ i = .int .i64 k ∧ Hid (isTr (xs.take k) = true) ∧ Hid (Blk wr w.heap.size 59 (seenCells (xs.take k))) ∧ Below w.heap.size w wr) (fun i _ => n - (intOf i).toNat)
  case atStart => exact ⟨0, Nat.zero_le _, rfl, hid rfl, HB, HN.out⟩
  case round =>
    obtain ⟨k, hk, rfl, hno, hblk, hbel⟩ := hrel
    have h := (h.more hB).below hbel
    by_cases hlt : k < n
    · obtain ⟨ad, x, rfl, hb, hx, hc⟩ := h.at_ hlt
      have hm := hid (isTr_take hx.out hno.out)
      cases hxm : isMsg x
      · rw [hxm, Bool.false_and] at hm
        have hbad := hid (isTr_bad hm.out)
        go_wp2_with ((go_at_call 58; refine (isMessage_any _ _).mono ?_; rintro e w' ⟨rfl, rfl⟩))
        go_ret
        exact ⟨ret_bool hbad.out.symm, hbel⟩
      · have hxm' := hxm
        obtain ⟨m, rfl, hm12⟩ := isMsg_nat hxm'
        clear hxm'
        have hcell := hblk.out.cell_ (seen_at (xs.take k) hm12)
        have hfz := hblk.out.frozen m
        have hset := hid (hblk.out.set_ m (.bool true))
        rw [seen_set _ hm12, ← take_snoc hx.out] at hset
        rw [hxm, Bool.true_and] at hm
        cases hh : has (xs.take k) m
        · rw [hh] at hm
          go_wp2_with ((go_at_call 58; refine (isMessage_any _ _).mono ?_; rintro e w' ⟨rfl, rfl⟩))
          go_roundw
          case rel => exact ⟨k + 1, by omega, by go_num, hm, hset, hbel.setCell (Nat.le_refl _) _⟩
          case measure => simp [intOf]; omega
        · rw [hh] at hm
          have hbad := hid (isTr_bad hm.out)
          go_wp2_with ((go_at_call 58; refine (isMessage_any _ _).mono ?_; rintro e w' ⟨rfl, rfl⟩))
          go_ret
          exact ⟨ret_bool hbad.out.symm, hbel⟩
    · obtain rfl : k = n := by omega
      go_wp2
      go_ret
      refine ⟨ret_bool ?_, hbel⟩
      have := hno.out
      rw [List.take_of_length_le (by rw [HL.out]; omega)] at this
      exact this.symm
theorem cut_from {w : World} {B n : Nat} {A : Option Addr} {xs : List Int} (h : RI w B A n xs) {c : Nat} (k : Nat) (ki : Int) (hki : ki = (k : Int)) (hk : k ≤ n) (hc : n ≤ c) :
    ∃ X, (∀ W, (Instr.slice 22 (.slice A n c) (some (.int .i64 ki)) none none).run Try.prog W = .ok (.slice X (n - k) (c - k)) W) ∧ RI w B X (n - k) (xs.drop k) := by
  subst hki
  refine ⟨if c = k then A else A.map (·.add k), fun W => ?_, h.cut hk hc⟩
  rw [run_slice_l W 22 A n c (by kernel_rfl) .i64 (k : Int) (by omega) (by omega)]
  have hs : (sizeOf (Try.prog.elem 22)).run Try.prog W = .ok 1 W := by kernel_rfl
  rw [hs]
  simp [Result.andThen, sliced]

/-- One step along an order: the front of the trace goes if it is the message. -/
def stepR (t : List Int) (m : Int) : List Int := match t with
  | x :: t' => if x == m then t' else x :: t'
  | [] => []
/-- What is left of a trace behind an order. -/
def rest (xs ys : List Int) : List Int := ys.foldl stepR xs
theorem rest_snoc {xs ys : List Int} {k : Nat} {y : Int} (h : ys[k]? = some y) : rest xs (ys.take (k + 1)) = stepR (rest xs (ys.take k)) y := by
  rw [take_snoc h, rest, List.foldl_append]; rfl
def follows (xs ys : List Int) : Bool := isTr xs && isTr ys && (rest xs ys).isEmpty
theorem stepR_len (t : List Int) (m : Int) : (stepR t m).length ≤ t.length := by
  unfold stepR; split
  · split <;> simp
  · simp
theorem rest_len (xs ys : List Int) : (rest xs ys).length ≤ xs.length := by
  unfold rest
  induction ys generalizing xs with
  | nil => simp
  | cons y ys ih => rw [List.foldl_cons]; exact Nat.le_trans (ih _) (stepR_len _ _)
theorem isEmpty_len {l : List Int} {n : Nat} (h : l.length = n) : l.isEmpty = decide ((n : Int) = 0) := by
  subst h; cases l
  · rfl
  · simp only [List.isEmpty_cons, List.length_cons]; rw [eq_comm, decide_eq_false_iff_not]; omega

theorem TraceFollows_any (A A' : Option Addr) (n c n' c' B : Nat) (xs ys : List Int) (w : World) (h : RI w B A n xs) (h' : RI w B A' n' ys) (hn : n ≤ 140737488351232) (hn' : n' ≤ 140737488351232)
    (hnc : n ≤ c) (_hc : c ≤ maxLen) (hB : B ≤ w.heap.size) :
    Calls Try.prog 21 #[.slice A n c, .slice A' n' c'] w fun e w' => e = .returned (.bool (follows xs ys)) ∧ Below w.heap.size w w' := by
  have HL := hid h'.len
  unfold maxLen at _hc
  have hf := hid (show follows xs ys = (isTr xs && isTr ys && (rest xs ys).isEmpty) from rfl)
  cases hx : isTr xs
  · rw [hx, Bool.false_and, Bool.false_and] at hf
    go_enter Try.func21, Try.ntmps21
    go_wp2_with fail
    refine (isTrace_any _ _ _ _ _ _ h hn hB).mono ?_
    rintro e w1 ⟨rfl, hb1⟩
    go_wp2_with fail
    go_ret
    exact ⟨ret_bool hf.out.symm, hb1⟩
  rw [hx, Bool.true_and] at hf
  cases hy : isTr ys
  · rw [hy, Bool.false_and] at hf
    go_enter Try.func21, Try.ntmps21
    go_wp2_with fail
    refine (isTrace_any _ _ _ _ _ _ h hn hB).mono ?_
    rintro e w1 ⟨rfl, hb1⟩
    go_wp2_with fail
    refine (isTrace_any _ _ _ _ _ _ (h'.below (hb1.mono hB)) hn' (Nat.le_trans hB hb1.size)).mono ?_
    rintro e w2 ⟨rfl, hb2⟩
    go_wp2_with fail
    go_ret
    exact ⟨ret_bool hf.out.symm, hb1.trans (hb2.mono hb1.size)⟩
  rw [hy, Bool.true_and] at hf
  go_enter Try.func21, Try.ntmps21
  go_wp2_with fail
  refine (isTrace_any _ _ _ _ _ _ h hn hB).mono ?_
  rintro e w1 ⟨rfl, hb1⟩
  go_wp2_with fail
  refine (isTrace_any _ _ _ _ _ _ (h'.below (hb1.mono hB)) hn' (Nat.le_trans hB hb1.size)).mono ?_
  rintro e w2 ⟨rfl, hb2⟩
  have hbb := hb1.trans (hb2.mono hb1.size)
  have h := h.below (hbb.mono hB)
  have h' := h'.below (hbb.mono hB)
  clear hb1 hb2
  go_wp2_with fail
  go_loop [0, 17] (fun s i => ∃ (k a b : Nat) (X : Option Addr), k ≤ n' ∧ i = .int .i64 k ∧ s = .slice X a b ∧ a ≤ b ∧ b ≤ c ∧ RI w2 B X a (rest xs (ys.take k))) (fun _ i => n' - (intOf i).toNat)
  case atStart => exact ⟨0, n, c, A, Nat.zero_le _, rfl, rfl, hnc, Nat.le_refl _, h⟩
  case round =>
    obtain ⟨k, a, b, X, hk, rfl, rfl, hab, hbc, hr⟩ := hrel
    have HR := hid hr.len
    by_cases hlt : k < n'
    · obtain ⟨ad, y, rfl, hb, hy, hcell⟩ := h'.at_ hlt
      have hs := hid (rest_snoc (xs := xs) hy.out)
      by_cases ha : 0 < a
      · obtain ⟨ad', x, rfl, hb', hx', hcell'⟩ := hr.at0 ha
        obtain ⟨Y, hrun, hcut⟩ := cut_from hr (c := b) 1 1 rfl ha hab
        have ha' : (0 : Int) < (a : Int) := by omega
        obtain ⟨t, ht⟩ : ∃ t, rest xs (ys.take k) = x :: t := by
          have := hx'.out
          cases hl : rest xs (ys.take k) with
          | nil => rw [hl] at this; simp at this
          | cons u t => rw [hl] at this; simp at this; exact ⟨t, by rw [this]⟩
        have HT := hid ht
        clear ht
        rw [HT.out] at hs
        rw [HT.out, List.drop_succ_cons, List.drop_zero] at hcut
        have HC := hid hcut
        clear hcut
        simp only [stepR] at hs
        cases hxy : (x == y)
        · rw [hxy, if_neg (by simp)] at hs
          go_wp2_with fail
          go_round
          case rel => exact ⟨k + 1, a, b, _, by omega, by go_num, rfl, hab, hbc, by rw [hs.out, ← HT.out]; exact hr⟩
          case measure => simp [intOf]; omega
        · rw [hxy, if_pos rfl] at hs
          go_wp2_with fail
          go_round
          case rel => exact ⟨k + 1, a - 1, b - 1, _, by omega, by go_num, rfl, by omega, by omega, by rw [hs.out]; exact HC.out⟩
          case measure => simp [intOf]; omega
      · obtain rfl : a = 0 := by omega
        have hnil : rest xs (ys.take k) = [] := List.eq_nil_of_length_eq_zero HR.out
        rw [hnil] at hs
        clear hnil
        go_wp2_with fail
        go_round
        case rel => exact ⟨k + 1, 0, b, _, by omega, by go_num, rfl, hab, hbc, by rw [hs.out]; exact RI.none_⟩
        case measure => simp [intOf]; omega
    · obtain rfl : k = n' := by omega
      have hfin := hid (hf.out.trans (isEmpty_len (n := a) (by have := HR.out; rwa [List.take_of_length_le (by rw [HL.out]; omega)] at this)))
      go_wp2_with fail
      go_ret
      exact ⟨ret_bool (by rw [hfin.out]; rfl), hbb⟩
end Go.Proofs.Ytfdgbbapbpflcaa
