/- The contract of the reference's TraceFollows. -/
import Derived.Test.YtfdgbbapbpflcaaTr2
namespace Go.Proofs.Ytfdgbbapbpflcaa
open Go.RowKit

theorem rest_of_nil (ys : List Int) : rest [] ys = [] := by
  induction ys with
  | nil => rfl
  | cons y ys ih => exact ih
theorem rest_nil {xs ys : List Int} (k : Nat) (h : rest xs (ys.take k) = []) : rest xs ys = [] := by
  have : rest xs ys = rest (rest xs (ys.take k)) (ys.drop k) := by
    unfold rest
    rw [← List.foldl_append, List.take_append_drop]
  rw [this, h, rest_of_nil]
/-- What holds at the head of the outer loop, and of the inner one. -/
def Outer (xs ys : List Int) (i p : Nat) : Prop :=
  (i = 0 ∧ p = 0) ∨ (rest xs (ys.take (p + 1)) = xs.drop i ∧ ∃ x, ys[p]? = some x ∧ 0 < i ∧ xs[i - 1]? = some x)
def Inner (xs ys : List Int) (i p : Nat) : Prop :=
  rest xs (ys.take p) = xs.drop i ∨ (rest xs (ys.take (p + 1)) = xs.drop i ∧ ∃ x, ys[p]? = some x ∧ xs[i]? ≠ some x)
theorem Outer.start (xs ys : List Int) : Outer xs ys 0 0 := .inl ⟨rfl, rfl⟩
theorem nodup_ne {xs : List Int} (hx : isTr xs = true) {i k : Nat} (h : i < k) {x : Int} (hi : xs[i]? = some x) : xs[k]? ≠ some x := by
  intro hk
  simp only [isTr, Bool.and_eq_true, decide_eq_true_eq] at hx
  obtain ⟨hi1, hi2⟩ := List.getElem?_eq_some_iff.1 hi
  obtain ⟨hk1, hk2⟩ := List.getElem?_eq_some_iff.1 hk
  have := List.pairwise_iff_getElem.1 hx.2 i k hi1 hk1 h
  exact this (hi2.trans hk2.symm)
theorem Outer.inner {xs ys : List Int} {i p : Nat} (h : Outer xs ys i p) (hx : isTr xs = true) : Inner xs ys i p := by
  rcases h with ⟨rfl, rfl⟩ | ⟨h1, x, h2, h3, h4⟩
  · exact .inl rfl
  · exact .inr ⟨h1, x, h2, nodup_ne hx (by omega) h4⟩
theorem drop_at {xs : List Int} {i : Nat} {x : Int} (h : xs[i]? = some x) : xs.drop i = x :: xs.drop (i + 1) := by
  obtain ⟨h1, h2⟩ := List.getElem?_eq_some_iff.1 h
  rw [List.drop_eq_getElem_cons h1, h2]
theorem Inner.miss {xs ys : List Int} {i p : Nat} {x y : Int} (h : Inner xs ys i p) (hy : ys[p]? = some y) (hx : xs[i]? = some x) (hyx : (y == x) = false) : Inner xs ys i (p + 1) := by
  refine .inl ?_
  rcases h with h | ⟨h, _⟩
  · rw [rest_snoc hy, h, drop_at hx]
    have : (x == y) = false := by simp only [beq_eq_false_iff_ne] at hyx ⊢; exact fun e => hyx e.symm
    simp [stepR, this]
  · exact h
theorem Inner.hit {xs ys : List Int} {i p : Nat} {x y : Int} (h : Inner xs ys i p) (hy : ys[p]? = some y) (hx : xs[i]? = some x) (hyx : (y == x) = true) : Outer xs ys (i + 1) p := by
  simp only [beq_iff_eq] at hyx
  subst hyx
  rcases h with h | ⟨_, z, h1, h2⟩
  · refine .inr ⟨?_, y, hy, by omega, by simpa using hx⟩
    rw [rest_snoc hy, h, drop_at hx]
    simp [stepR]
  · rw [h1] at hy
    injection hy with hy
    subst hy
    exact absurd hx h2
theorem Inner.end_ {xs ys : List Int} {i p : Nat} (h : Inner xs ys i p) (hp : ys.length = p) (hi : i < xs.length) : (rest xs ys).isEmpty = false := by
  rcases h with h | ⟨_, z, h1, _⟩
  · rw [List.take_of_length_le (by omega)] at h
    rw [h, List.drop_eq_getElem_cons hi]
    rfl
  · rw [List.getElem?_eq_none (by omega)] at h1
    cases h1
theorem Outer.end_ {xs ys : List Int} {i p : Nat} (h : Outer xs ys i p) (hi : xs.length = i) : (rest xs ys).isEmpty = true := by
  have : rest xs ys = [] := by
    rcases h with ⟨rfl, rfl⟩ | ⟨h, _⟩
    · rw [List.eq_nil_of_length_eq_zero hi, rest_of_nil]
    · rw [List.drop_of_length_le (by omega)] at h
      exact rest_nil _ h
  rw [this]; rfl

set_option maxHeartbeats 400000 in
theorem specTraceFollows_any (A A' : Option Addr) (n c n' c' B : Nat) (xs ys : List Int) (w : World) (h : RI w B A n xs) (h' : RI w B A' n' ys) (hn : n ≤ 140737488351232) (hn' : n' ≤ 140737488351232)
    (hnc : n ≤ c) (hnc' : n' ≤ c') :
    Calls Try.prog 19 #[.slice A n c, .slice A' n' c'] w fun e w' => e = .returned (.bool (follows xs ys)) ∧ Dr w w' := by
  have HL := hid h.len
  have HL' := hid h'.len
  have hf := hid (show follows xs ys = (isTr xs && isTr ys && (rest xs ys).isEmpty) from rfl)
  cases hx : isTr xs
  · rw [hx, Bool.false_and, Bool.false_and] at hf
    go_enter Try.func19, Try.ntmps19
    go_wp2_with fail
    refine (l21List_any _ _ _ _ _ _ h hn hnc).mono ?_
    rintro e w1 ⟨rfl, hb1⟩
    go_wp2_with fail
    go_ret
    exact ⟨ret_bool hf.out.symm, hb1⟩
  rw [hx, Bool.true_and] at hf
  cases hy : isTr ys
  · rw [hy, Bool.false_and] at hf
    go_enter Try.func19, Try.ntmps19
    go_wp2_with fail
    refine (l21List_any _ _ _ _ _ _ h hn hnc).mono ?_
    rintro e w1 ⟨rfl, hb1⟩
    go_wp2_with fail
    refine (l21List_any _ _ _ _ _ _ (h'.dr hb1) hn' hnc').mono ?_
    rintro e w2 ⟨rfl, hb2⟩
    go_wp2_with fail
    go_ret
    exact ⟨ret_bool hf.out.symm, hb1.trans hb2⟩
  rw [hy, Bool.true_and] at hf
  go_enter Try.func19, Try.ntmps19
  go_wp2_with fail
  refine (l21List_any _ _ _ _ _ _ h hn hnc).mono ?_
  rintro e w1 ⟨rfl, hb1⟩
  go_wp2_with fail
  refine (l21List_any _ _ _ _ _ _ (h'.dr hb1) hn' hnc').mono ?_
  rintro e w2 ⟨rfl, hb2⟩
  have hbb := hb1.trans hb2
  have h := h.dr hbb
  have h' := h'.dr hbb
  have HX := hid hx
  clear hb1 hb2
  go_wp2_with fail
  clear hx hy
  go_loopw [5, 6] (fun s t wr => ∃ (i p : Nat), i ≤ n ∧ p ≤ n' ∧ t = .int .i64 i ∧ s = .int .i64 p ∧ Hid (Outer xs ys i p) ∧ Dr w2 wr) (fun _ t _ => n - (intOf t).toNat)
  case atStart => exact ⟨0, 0, Nat.zero_le _, Nat.zero_le _, rfl, rfl, Outer.start _ _, Dr.refl _⟩
  case round =>
    obtain ⟨i, p, hi, hp, rfl, rfl, hout, hdr⟩ := hrel
    have h1 := h.dr hdr
    have h2 := h'.dr hdr
    rename_i wr
    by_cases hlt : i < n
    · obtain ⟨ad, x, rfl, hb, hx, hc⟩ := h1.at_ hlt
      have hin := hid (hout.out.inner HX.out)
      go_wp2_with fail
      go_loopw [5] (fun s wq => ∃ (q : Nat), q ≤ n' ∧ s = .int .i64 q ∧ Hid (Inner xs ys i q) ∧ Dr wr wq) (fun s _ => n' - (intOf s).toNat)
      case atStart => exact ⟨p, hp, rfl, hin, Dr.refl _⟩
      case round =>
        obtain ⟨q, hq, rfl, hinn, hdq⟩ := hrel
        have h2 := h2.dr hdq
        have h1 := h1.dr hdq
        have hc := (hdq.cell (ad.add i)).trans hc
        by_cases hltq : q < n'
        · obtain ⟨ad', y, rfl, hb', hy, hc'⟩ := h2.at_ hltq
          have hd : decide ((q : Int) < (n' : Int)) = true := by simpa using hltq
          cases hyx : (y == x)
          · have hne := neq_of hyx
            have hmiss := hid (hinn.out.miss hy.out hx.out hyx)
            go_wp2_with fail
            go_quiet (fail)
            go_wp2_with fail
            go_roundw
            case rel => exact ⟨q + 1, by omega, by go_num, hmiss, hdq.more _⟩
            case measure => simp [intOf]; omega
          · have hne := neq_of hyx
            have hhit := hid (hinn.out.hit hy.out hx.out hyx)
            have hnn : (q : Int) ≠ (n' : Int) := by omega
            go_wp2_with fail
            go_quiet (fail)
            go_wp2_with fail
            go_roundw
            case rel => exact ⟨i + 1, q, by omega, by omega, by go_num, rfl, hhit, (hdr.trans hdq).more _⟩
            case measure => simp [intOf]; omega
        · obtain rfl : q = n' := by omega
          have hd : decide ((q : Int) < (q : Int)) = false := by simp
          have hend := hid (hf.out.trans (hinn.out.end_ HL'.out (by rw [HL.out]; exact hlt)))
          go_wp2_with fail
          go_quiet (fail)
          go_wp2_with fail
          go_ret
          exact ⟨ret_bool hend.out.symm, hbb.trans ((hdr.trans hdq).more _)⟩
    · obtain rfl : i = n := by omega
      have hend := hid (hf.out.trans (hout.out.end_ HL.out))
      go_wp2_with fail
      go_ret
      exact ⟨ret_bool hend.out.symm, hbb.trans hdr⟩
end Go.Proofs.Ytfdgbbapbpflcaa
