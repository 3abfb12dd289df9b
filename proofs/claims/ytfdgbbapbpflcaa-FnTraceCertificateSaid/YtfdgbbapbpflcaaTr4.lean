/- A trace that follows an order is a part of it; the law's own 'before'. -/
import Derived.Test.YtfdgbbapbpflcaaTr3
namespace Go.Proofs.Ytfdgbbapbpflcaa
open Go.RowKit

theorem rest_sub : ∀ (ys xs : List Int), rest xs ys = [] → xs.Sublist ys
  | [], xs, h => by
    have : xs = [] := h
    subst this; exact List.Sublist.refl _
  | y :: ys, [], _ => List.nil_sublist _
  | y :: ys, x :: xs, h => by
    have h1 : rest (stepR (x :: xs) y) ys = [] := h
    unfold stepR at h1
    by_cases hxy : (x == y) = true
    · simp only [hxy, if_true] at h1
      simp only [beq_iff_eq] at hxy
      subst hxy
      exact (rest_sub ys xs h1).cons_cons _
    · simp only [hxy, if_false, Bool.false_eq_true] at h1
      exact (rest_sub ys (x :: xs) h1).cons _
theorem pair_sub {a b : Int} : ∀ (xs : List Int) (k i : Nat), xs[k]? = some a → xs[i]? = some b → k < i → [a, b].Sublist xs
  | [], k, _, h, _, _ => by simp at h
  | x :: t, 0, i + 1, h, h', _ => by
    simp at h
    subst h
    simp at h'
    exact (List.singleton_sublist.2 (List.mem_of_getElem? h')).cons_cons _
  | x :: t, k + 1, i + 1, h, h', hk => by
    simp at h h'
    exact (pair_sub t k i h h' (by omega)).cons _
  | x :: t, _, 0, _, _, hk => by omega
/-- Is b behind the first a? -/
def bef : List Int → Int → Int → Bool
  | [], _, _ => false
  | y :: t, a, b => if y == a then has t b else bef t a b
theorem bef_of_sub {a b : Int} : ∀ ys : List Int, [a, b].Sublist ys → bef ys a b = true
  | [], h => by simp at h
  | y :: t, h => by
    unfold bef
    by_cases hy : (y == a) = true
    · rw [if_pos hy]
      have : b ∈ t := by
        cases h with
        | cons _ h => exact h.subset (by simp)
        | cons_cons _ h => exact h.subset (by simp)
      simpa [has] using this
    · rw [if_neg hy]
      refine bef_of_sub t ?_
      cases h with
      | cons _ h => exact h
      | cons_cons _ h => simp at hy
theorem follows_bef {xs ys : List Int} (h : follows xs ys = true) {k i : Nat} {a b : Int} (ha : xs[k]? = some a) (hb : xs[i]? = some b) (hk : k < i) : bef ys a b = true := by
  simp only [follows, Bool.and_eq_true, List.isEmpty_iff] at h
  exact bef_of_sub ys ((pair_sub xs k i ha hb hk).trans (rest_sub ys xs h.2))
theorem follows_has {xs ys : List Int} (h : follows xs ys = true) {i : Nat} {b : Int} (hb : xs[i]? = some b) : has ys b = true := by
  simp only [follows, Bool.and_eq_true, List.isEmpty_iff] at h
  have := (rest_sub ys xs h.2).subset (List.mem_of_getElem? hb)
  simpa [has] using this
theorem bef_drop {ys : List Int} {k : Nat} {y : Int} (h : ys[k]? = some y) (a b : Int) : bef (ys.drop k) a b = if y == a then has (ys.drop (k + 1)) b else bef (ys.drop (k + 1)) a b := by
  rw [drop_at h]; rfl
theorem before_any (A : Option Addr) (n c B : Nat) (ys : List Int) (a b : Int) (w : World) (h : RI w B A n ys) (hn : n ≤ 1048576) (hnc : n ≤ c) :
    Calls Try.prog 30 #[.slice A n c, .int .i64 a, .int .i64 b] w fun e w' => e = .returned (.bool (bef ys a b)) ∧ w = w' := by
  have HL := hid h.len
  go_enter Try.func30, Try.ntmps30
  go_wp2_with fail
  go_loop [7] (fun i => ∃ k : Nat, k ≤ n ∧ i = .int .i64 k ∧ Hid (bef ys a b = bef (ys.drop k) a b)) (fun i => n - (intOf i).toNat)
  case atStart => exact ⟨0, Nat.zero_le _, rfl, rfl⟩
  case round =>
    obtain ⟨k, hk, rfl, hno⟩ := hrel
    by_cases hlt : k < n
    · have hcut0 := h.cut (k := k + 1) (cap := c) (by omega) hnc
      obtain ⟨X, hrun, hcut⟩ := cut_from h (c := c) (k + 1) ((k : Int) + 1) (by omega) (by omega) hnc
      have HC := hid hcut
      clear hcut hcut0
      obtain ⟨ad, x, rfl, hb, hx, hc⟩ := h.at_ hlt
      have hm := hid (hno.out.trans (bef_drop hx.out a b))
      cases hxa : (x == a)
      · rw [hxa, if_neg (by simp)] at hm
        go_wp2_with fail
        go_round
        case rel => exact ⟨k + 1, by omega, by go_num, hm⟩
        case measure => simp [intOf]; omega
      · rw [hxa, if_pos rfl] at hm
        go_wp2_with fail
        refine (hasInt_any _ _ _ _ _ _ _ HC.out (by omega)).mono ?_
        rintro e w1 ⟨rfl, rfl⟩
        go_wp2_with fail
        go_ret
        exact ⟨ret_bool hm.out.symm, rfl⟩
    · obtain rfl : k = n := by omega
      have hm := hid (hno.out.trans (show bef (ys.drop k) a b = false by rw [List.drop_of_length_le (by rw [HL.out]; omega)]; rfl))
      go_wp2_with fail
      go_ret
      exact ⟨ret_bool hm.out.symm, rfl⟩
end Go.Proofs.Ytfdgbbapbpflcaa
