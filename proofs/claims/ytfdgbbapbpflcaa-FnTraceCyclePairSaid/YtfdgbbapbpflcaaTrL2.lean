/- Slices of slices as the laws lay them. -/
import Derived.Test.YtfdgbbapbpflcaaTrL
namespace Go.Proofs.Ytfdgbbapbpflcaa
open Go.RowKit
theorem SLL.upto {w : World} {A : Option Addr} {n c k : Nat} {xss : List (List Int)} (h : SLL w A n c xss) (hk : k ≤ n) : SLL w A k c (xss.take k) := by
  refine ⟨by rw [List.length_take, h.len]; omega, by have := h.nc; omega, h.cm, fun h0 => ?_⟩
  obtain ⟨ad, h1, h2, h3⟩ := h.rd (by omega)
  refine ⟨ad, h1, h2, fun q hq => ?_⟩
  obtain ⟨Ak, nk, ck, xs, h4, h5, h6⟩ := h3 q (by omega)
  exact ⟨Ak, nk, ck, xs, h4, by rw [List.getElem?_take, if_pos hq]; exact h5, h6⟩
theorem SLL.one {w : World} {b n c : Nat} {A : Option Addr} {xs : List Int} (hk : Blk w b 22 #[.slice A n c]) (h : SL w A n c xs) : SLL w (some ⟨b, 0, none⟩) 1 1 [xs] :=
  ⟨rfl, Nat.le_refl _, by simp [maxLen], fun _ => ⟨_, rfl, hk.lt, fun k hk' => by
    obtain rfl : k = 0 := by omega
    exact ⟨A, n, c, xs, by rw [add_zero]; exact hk.cell_ rfl, rfl, h⟩⟩⟩
theorem SLL.two {w : World} {b n c n' c' : Nat} {A A' : Option Addr} {xs ys : List Int} (hk : Blk w b 22 #[.slice A n c, .slice A' n' c']) (h : SL w A n c xs) (h' : SL w A' n' c' ys) : SLL w (some ⟨b, 0, none⟩) 2 2 [xs, ys] :=
  ⟨rfl, Nat.le_refl _, by simp [maxLen], fun _ => ⟨_, rfl, hk.lt, fun k hk' => by
    match k with
    | 0 => exact ⟨A, n, c, xs, by rw [add_zero]; exact hk.cell_ rfl, rfl, h⟩
    | 1 => exact ⟨A', n', c', ys, by rw [add_succ]; exact hk.cell_ rfl, rfl, h'⟩
    | k + 2 => omega⟩⟩
/-- The values of a slice of slices. -/
def RowOf (w : World) (A : Option Addr) (n : Nat) (xss : List (List Int)) (hs : List Value) : Prop := Reads w w.heap.size 1 A n hs ∧ ∀ k, k < n → ∃ Ak nk ck xs, hs[k]? = some (.slice Ak nk ck) ∧ xss[k]? = some xs ∧ SL w Ak nk ck xs
theorem SLL.row_ {w : World} {A : Option Addr} {n c : Nat} {xss : List (List Int)} (h : SLL w A n c xss) : ∃ hs, RowOf w A n xss hs := by
  rcases Nat.eq_zero_or_pos n with h0 | h0
  · subst h0
    exact ⟨[], ⟨rfl, fun hn => absurd hn (by omega)⟩, fun k hk => by omega⟩
  · obtain ⟨ad, h1, h2, h3⟩ := h.rd h0
    refine ⟨(List.range n).map fun k => (w.cell? (ad.add k)).getD undef, ⟨by simp, fun _ => ⟨ad, h1, h2, fun j u hu => ?_⟩⟩, fun k hk => ?_⟩
    · have hj : j < n := by have := (List.getElem?_eq_some_iff.1 hu).1; simpa using this
      obtain ⟨Ak, nk, ck, xs, h4, _⟩ := h3 j hj
      simp only [List.getElem?_map, List.getElem?_range hj, Option.map_some, h4, Option.getD_some] at hu
      rw [h4, ← hu]
    · obtain ⟨Ak, nk, ck, xs, h4, h5, h6⟩ := h3 k hk
      exact ⟨Ak, nk, ck, xs, by simp [hk, h4], h5, h6⟩
theorem RowOf.len {w : World} {A : Option Addr} {n : Nat} {xss : List (List Int)} {hs : List Value} (h : RowOf w A n xss hs) : hs.length = n := by have := h.1.1; omega
theorem RowOf.one {w : World} {A : Option Addr} {n : Nat} {xss : List (List Int)} {hs : List Value} (h : RowOf w A n xss hs) : ∀ u ∈ hs, u.oneCell' = true := by
  intro u hu
  obtain ⟨k, hk, rfl⟩ := List.getElem_of_mem hu
  obtain ⟨Ak, nk, ck, xs, h4, _⟩ := h.2 k (by rw [← h.len]; exact hk)
  rw [List.getElem?_eq_getElem hk] at h4
  injection h4 with h4
  rw [h4]; rfl
theorem RowOf.st {w w' : World} {A : Option Addr} {n : Nat} {xss : List (List Int)} {hs : List Value} (h : RowOf w A n xss hs) (s : St w w') : RowOf w' A n xss hs :=
  ⟨(h.1.below s).more s.le, fun k hk => by obtain ⟨Ak, nk, ck, xs, h4, h5, h6⟩ := h.2 k hk; exact ⟨Ak, nk, ck, xs, h4, h5, h6.st s⟩⟩
/-- A row of the call's own whose elements are slices that can be read. -/
theorem SLL.of_own {w : World} {base n c : Nat} {A : Option Addr} {xss : List (List Int)} {hs : List Value} (hl : xss.length = n) (h : w.ownsRow base 22 1 (.slice A n c) n hs)
    (hin : ∀ k, k < n → ∃ Ak nk ck xs, hs[k]? = some (.slice Ak nk ck) ∧ xss[k]? = some xs ∧ SL w Ak nk ck xs) : SLL w A n c xss := by
  refine ⟨hl, (own_cap' h).1, (own_cap' h).2, fun hn => ?_⟩
  obtain ⟨ad, h4, h5, h6⟩ := (Reads.of_own h).2 hn
  refine ⟨ad, h4, h5, fun k hk => ?_⟩
  obtain ⟨Ak, nk, ck, xs, h7, h8, h9⟩ := hin k hk
  exact ⟨Ak, nk, ck, xs, h6 k _ h7, h8, h9⟩
theorem inner_app {w : World} {n m : Nat} {xss yss : List (List Int)} {hs gs : List Value} (hl : hs.length = n) (hx : xss.length = n)
    (h : ∀ k, k < n → ∃ Ak nk ck xs, hs[k]? = some (.slice Ak nk ck) ∧ xss[k]? = some xs ∧ SL w Ak nk ck xs) (h' : ∀ k, k < m → ∃ Ak nk ck xs, gs[k]? = some (.slice Ak nk ck) ∧ yss[k]? = some xs ∧ SL w Ak nk ck xs) :
    ∀ k, k < n + m → ∃ Ak nk ck xs, (hs ++ gs)[k]? = some (.slice Ak nk ck) ∧ (xss ++ yss)[k]? = some xs ∧ SL w Ak nk ck xs := by
  intro k hk
  rcases Nat.lt_or_ge k n with hlt | hge
  · obtain ⟨Ak, nk, ck, xs, h1, h2, h3⟩ := h k hlt
    exact ⟨Ak, nk, ck, xs, by rw [List.getElem?_append_left (by omega)]; exact h1, by rw [List.getElem?_append_left (by omega)]; exact h2, h3⟩
  · obtain ⟨Ak, nk, ck, xs, h1, h2, h3⟩ := h' (k - n) (by omega)
    exact ⟨Ak, nk, ck, xs, by rw [List.getElem?_append_right (by omega), hl]; exact h1, by rw [List.getElem?_append_right (by omega), hx]; exact h2, h3⟩
theorem bef_pos {a b : Int} : ∀ {ys : List Int}, bef ys a b = true → ∃ i j : Nat, i < j ∧ ys[i]? = some a ∧ ys[j]? = some b
  | [], h => by simp [bef] at h
  | y :: t, h => by
    unfold bef at h
    by_cases hy : (y == a) = true
    · rw [if_pos hy] at h
      have hm : b ∈ t := by simpa [has] using h
      obtain ⟨j, hj⟩ := List.getElem?_of_mem hm
      refine ⟨0, j + 1, by omega, ?_, by simpa using hj⟩
      simp at hy
      simp [hy]
    · rw [if_neg hy] at h
      obtain ⟨i, j, h1, h2, h3⟩ := bef_pos h
      exact ⟨i + 1, j + 1, by omega, by simpa using h2, by simpa using h3⟩
/-- Traces that have an order do not differ on two messages. -/
theorem pair_law {xss : List (List Int)} (h : toOk xss = true) {xs ys : List Int} (hx : xs ∈ xss) (hy : ys ∈ xss) {i j : Nat} {a b : Int} (hij : j < i) (ha : xs[i]? = some a) (hb : xs[j]? = some b) : bef ys a b = false := by
  cases hc : bef ys a b
  · rfl
  · obtain ⟨p, q, h1, h2, h3⟩ := bef_pos hc
    have := toV_rank_lt h hx hij hb ha
    have := toV_rank_lt h hy h1 h2 h3
    omega
end Go.Proofs.Ytfdgbbapbpflcaa
