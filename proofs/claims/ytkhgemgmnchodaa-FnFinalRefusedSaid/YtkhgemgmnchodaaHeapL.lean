/- Plain: a heap in a list, as the library keeps it; taken out one by one it gives the ascending list. No program here. -/
import Derived.Test.YtkhgemgmnchodaaBase
namespace Go.Proofs.Ytkhgemgmnchodaa
open Go.RowKit
def swapL {α : Type} [Inhabited α] (xs : List α) (i j : Nat) : List α := (xs.set i xs[j]!).set j xs[i]!
def pickJ {α : Type} [Inhabited α] (lt : α → α → Bool) (xs : List α) (n j : Nat) : Nat := if j + 1 < n ∧ lt xs[j + 1]! xs[j]! = true then j + 1 else j
def downL {α : Type} [Inhabited α] (lt : α → α → Bool) : Nat → List α → Nat → Nat → List α
  | 0, xs, _, _ => xs
  | f + 1, xs, i, n => if n ≤ 2 * i + 1 then xs else if lt xs[pickJ lt xs n (2 * i + 1)]! xs[i]! = true then downL lt f (swapL xs i (pickJ lt xs n (2 * i + 1))) (pickJ lt xs n (2 * i + 1)) n else xs
def initL {α : Type} [Inhabited α] (lt : α → α → Bool) (n : Nat) : Nat → List α → List α
  | 0, xs => xs
  | k + 1, xs => initL lt n k (downL lt n xs k n)
def popL {α : Type} [Inhabited α] (lt : α → α → Bool) (xs : List α) : List α := downL lt (xs.length - 1) (swapL xs 0 (xs.length - 1)) 0 (xs.length - 1)
def outL {α : Type} [Inhabited α] (lt : α → α → Bool) : Nat → List α → List α
  | 0, _ => []
  | _ + 1, [] => []
  | f + 1, x :: xs => x :: outL lt f ((popL lt (x :: xs)).take xs.length)
def sortL {α : Type} [Inhabited α] (lt : α → α → Bool) (xs : List α) : List α := outL lt xs.length (initL lt xs.length (xs.length / 2) xs)
structure SLt {α : Type} (lt : α → α → Bool) : Prop where
  irr : ∀ a, lt a a = false
  asy : ∀ a b, lt a b = true → lt b a = false
  neg : ∀ a b c, lt b a = false → lt c b = false → lt c a = false
theorem take_snoc' {α : Type} {l : List α} {k : Nat} {x : α} (h : l[k]? = some x) : l.take (k + 1) = l.take k ++ [x] := by
  rw [List.take_add_one, h]; rfl
section
variable {α : Type} [Inhabited α] {lt : α → α → Bool} {xs : List α} {n : Nat}
theorem swapL_len (xs : List α) (i j : Nat) : (swapL xs i j).length = xs.length := by simp [swapL]
theorem swapL_get {i j : Nat} (hi : i < xs.length) (hj : j < xs.length) (k : Nat) : (swapL xs i j)[k]! = if k = j then xs[i]! else if k = i then xs[j]! else xs[k]! := by
  unfold swapL
  rw [List.getElem!_eq_getElem?_getD, List.getElem!_eq_getElem?_getD (l := xs) (i := k), List.getElem?_set, List.getElem?_set, List.length_set]
  by_cases h1 : k = j
  · subst h1
    rw [if_pos rfl, if_pos rfl, if_pos hj]; rfl
  · rw [if_neg (fun e => h1 e.symm), if_neg h1]
    by_cases h2 : k = i
    · subst h2
      rw [if_pos rfl, if_pos rfl, if_pos hi]; rfl
    · rw [if_neg (fun e => h2 e.symm), if_neg h2]
theorem swapL_perm {i j : Nat} (hi : i < xs.length) (hj : j < xs.length) : (swapL xs i j).Perm xs := by
  unfold swapL
  rw [getElem!_pos xs i hi, getElem!_pos xs j hj]
  exact List.set_set_perm hi hj
def HpAt (lt : α → α → Bool) (xs : List α) (n i : Nat) : Prop := ∀ c, (c = 2 * i + 1 ∨ c = 2 * i + 2) → c < n → lt xs[c]! xs[i]! = false
theorem pickJ_ok (L : SLt lt) {i : Nat} (h : 2 * i + 1 < n) : (pickJ lt xs n (2 * i + 1) = 2 * i + 1 ∨ pickJ lt xs n (2 * i + 1) = 2 * i + 2) ∧ pickJ lt xs n (2 * i + 1) < n ∧ ∀ c, (c = 2 * i + 1 ∨ c = 2 * i + 2) → c < n → lt xs[c]! xs[pickJ lt xs n (2 * i + 1)]! = false := by
  by_cases hc : 2 * i + 1 + 1 < n ∧ lt xs[2 * i + 1 + 1]! xs[2 * i + 1]! = true
  · have e : pickJ lt xs n (2 * i + 1) = 2 * i + 2 := if_pos hc
    rw [e]
    refine ⟨.inr rfl, by omega, fun c h1 h2 => ?_⟩
    rcases h1 with rfl | rfl
    · exact L.asy _ _ hc.2
    · exact L.irr _
  · have e : pickJ lt xs n (2 * i + 1) = 2 * i + 1 := if_neg hc
    rw [e]
    refine ⟨.inl rfl, h, fun c h1 h2 => ?_⟩
    rcases h1 with rfl | rfl
    · exact L.irr _
    · cases hl : lt xs[2 * i + 2]! xs[2 * i + 1]!
      · rfl
      · exact absurd ⟨h2, hl⟩ hc
theorem downL_len : ∀ (f : Nat) (xs : List α) (i n : Nat), (downL lt f xs i n).length = xs.length
  | 0, _, _, _ => rfl
  | f + 1, xs, i, n => by
    unfold downL
    split
    · rfl
    · split
      · rw [downL_len f, swapL_len]
      · rfl
theorem down_ok (L : SLt lt) (s : Nat) : ∀ (f : Nat) (xs : List α) (i : Nat), s ≤ i → n ≤ xs.length → n ≤ f + i → (∀ p, s ≤ p → p ≠ i → HpAt lt xs n p) →
    (∀ p, s ≤ p → (i = 2 * p + 1 ∨ i = 2 * p + 2) → ∀ c, (c = 2 * i + 1 ∨ c = 2 * i + 2) → c < n → lt xs[c]! xs[p]! = false) →
    (downL lt f xs i n).Perm xs ∧ (∀ p, s ≤ p → HpAt lt (downL lt f xs i n) n p) ∧ ∀ k, n ≤ k → (downL lt f xs i n)[k]! = xs[k]!
  | 0, xs, i, hs, hn, hf, ho, hu => by
    refine ⟨List.Perm.refl _, fun p hp => ?_, fun _ _ => rfl⟩
    by_cases e : p = i
    · subst e
      intro c hc hlt
      omega
    · exact ho p hp e
  | f + 1, xs, i, hs, hn, hf, ho, hu => by
    unfold downL
    by_cases h1 : n ≤ 2 * i + 1
    · rw [if_pos h1]
      refine ⟨List.Perm.refl _, fun p hp => ?_, fun _ _ => rfl⟩
      by_cases e : p = i
      · subst e
        intro c hc hlt
        omega
      · exact ho p hp e
    · rw [if_neg h1]
      obtain ⟨hj1, hj2, hj3⟩ := pickJ_ok (xs := xs) L (show 2 * i + 1 < n by omega)
      generalize pickJ lt xs n (2 * i + 1) = j at hj1 hj2 hj3 ⊢
      by_cases h2 : lt xs[j]! xs[i]! = true
      · rw [if_pos h2]
        have hil : i < xs.length := by omega
        have hjl : j < xs.length := by omega
        have hg := swapL_get (xs := xs) hil hjl
        have hij : i ≠ j := by omega
        obtain ⟨q1, q2, q3⟩ := down_ok L s f (swapL xs i j) j (by omega) (by rw [swapL_len]; exact hn) (by omega) (fun p hp hpj => by
          intro c hc hlt
          rw [hg p, if_neg hpj]
          by_cases hpi : p = i
          · subst hpi
            rw [if_pos rfl, hg c]
            by_cases hcj : c = j
            · rw [if_pos hcj]; exact L.asy _ _ h2
            · rw [if_neg hcj, if_neg (by omega)]; exact hj3 c hc hlt
          · rw [if_neg hpi, hg c, if_neg (by omega)]
            by_cases hci : c = i
            · rw [if_pos hci]
              exact hu p hp (by omega) j hj1 hj2
            · rw [if_neg hci]; exact ho p hp hpi c hc hlt) (fun p hp hpc c hc hlt => by
          obtain rfl : p = i := by omega
          rw [hg c, if_neg (by omega), if_neg (by omega), hg p, if_neg hij, if_pos rfl]
          exact ho j (by omega) (by omega) c hc hlt)
        refine ⟨q1.trans (swapL_perm hil hjl), q2, fun k hk => ?_⟩
        rw [q3 k hk, hg k, if_neg (by omega), if_neg (by omega)]
      · rw [if_neg h2]
        refine ⟨List.Perm.refl _, fun p hp => ?_, fun _ _ => rfl⟩
        by_cases e : p = i
        · subst e
          intro c hc hlt
          exact L.neg _ _ _ (by simpa using h2) (hj3 c hc hlt)
        · exact ho p hp e
theorem init_ok (L : SLt lt) : ∀ (k : Nat) (xs : List α), n ≤ xs.length → (∀ p, k ≤ p → HpAt lt xs n p) → (initL lt n k xs).Perm xs ∧ ∀ p, HpAt lt (initL lt n k xs) n p
  | 0, xs, _, h => ⟨List.Perm.refl _, fun p => h p (by omega)⟩
  | k + 1, xs, hn, h => by
    unfold initL
    obtain ⟨q1, q2, _⟩ := down_ok (n := n) L k n xs k (Nat.le_refl _) hn (by omega) (fun p hp hne => h p (by omega)) (fun p hp hc => by omega)
    obtain ⟨r1, r2⟩ := init_ok L k (downL lt n xs k n) (by rw [downL_len]; exact hn) q2
    exact ⟨r1.trans q1, r2⟩
theorem initL_len : ∀ (k : Nat) (xs : List α), (initL lt n k xs).length = xs.length
  | 0, _ => rfl
  | k + 1, xs => by unfold initL; rw [initL_len k, downL_len]
theorem popL_len (xs : List α) : (popL lt xs).length = xs.length := by unfold popL; rw [downL_len, swapL_len]
theorem pop_ok (L : SLt lt) {x : α} (h : ∀ p, HpAt lt (x :: xs) (xs.length + 1) p) : popL lt (x :: xs) = (popL lt (x :: xs)).take xs.length ++ [x] ∧ ((popL lt (x :: xs)).take xs.length).Perm xs ∧ ∀ p, HpAt lt ((popL lt (x :: xs)).take xs.length) xs.length p := by
  have hl : (popL lt (x :: xs)).length = xs.length + 1 := by rw [popL_len]; rfl
  have h0 : 0 < (x :: xs).length := by simp
  have hn : xs.length < (x :: xs).length := by simp
  have hg := swapL_get (xs := x :: xs) h0 hn
  obtain ⟨q1, q2, q3⟩ := down_ok (n := xs.length) L 0 xs.length (swapL (x :: xs) 0 xs.length) 0 (Nat.le_refl _) (by rw [swapL_len]; simp) (by omega) (fun p _ hp c hc hlt => by
    rw [hg c, if_neg (by omega), if_neg (by omega), hg p, if_neg (by omega), if_neg hp]
    exact h p c hc (by omega)) (fun p _ hc => by omega)
  have e : popL lt (x :: xs) = downL lt xs.length (swapL (x :: xs) 0 xs.length) 0 xs.length := rfl
  rw [← e] at q1 q2 q3
  have hx : (popL lt (x :: xs))[xs.length]! = x := by
    rw [q3 _ (Nat.le_refl _), hg, if_pos rfl]; rfl
  have hs : popL lt (x :: xs) = (popL lt (x :: xs)).take xs.length ++ [x] := by
    have h1 : (popL lt (x :: xs))[xs.length]? = some x := by
      rw [getElem!_pos _ _ (by omega)] at hx
      rw [List.getElem?_eq_getElem (by omega), hx]
    have h2 := take_snoc' h1
    rw [List.take_of_length_le (by omega)] at h2
    exact h2
  refine ⟨hs, ?_, fun p c hc hlt => ?_⟩
  · have h1 := q1.trans (swapL_perm h0 hn)
    rw [hs] at h1
    exact (List.perm_cons x).1 ((List.perm_append_singleton x _).symm.trans h1)
  · have hq := q2 p (Nat.zero_le _) c hc hlt
    have hk : ∀ k, k < xs.length → ((popL lt (x :: xs)).take xs.length)[k]! = (popL lt (x :: xs))[k]! := by
      intro k hk
      rw [List.getElem!_eq_getElem?_getD, List.getElem!_eq_getElem?_getD, List.getElem?_take, if_pos hk]
    rw [hk c hlt, hk p (by omega)]
    exact hq
theorem head_min (L : SLt lt) (h : ∀ p, HpAt lt xs n p) : ∀ (m k : Nat), k ≤ m → k < n → lt xs[k]! xs[0]! = false
  | 0, k, h1, _ => by
    obtain rfl : k = 0 := by omega
    exact L.irr _
  | m + 1, k, h1, h2 => by
    by_cases h0 : k = 0
    · subst h0; exact L.irr _
    · have h3 := h ((k - 1) / 2) k (by omega) h2
      exact L.neg _ _ _ (head_min L h m ((k - 1) / 2) (by omega) (by omega)) h3
theorem out_ok (L : SLt lt) : ∀ (f : Nat) (xs : List α), xs.length ≤ f → (∀ p, HpAt lt xs xs.length p) → (outL lt f xs).Perm xs ∧ (outL lt f xs).Pairwise (fun a b => lt b a = false)
  | 0, xs, hl, _ => by
    obtain rfl : xs = [] := List.eq_nil_of_length_eq_zero (by omega)
    exact ⟨List.Perm.refl _, List.Pairwise.nil⟩
  | f + 1, [], _, _ => ⟨List.Perm.refl _, List.Pairwise.nil⟩
  | f + 1, x :: xs, hl, h => by
    unfold outL
    simp only [List.length_cons] at hl h
    obtain ⟨h1, h2, h3⟩ := pop_ok L h
    have hlen : ((popL lt (x :: xs)).take xs.length).length = xs.length := h2.length_eq
    replace h3 : ∀ p, HpAt lt ((popL lt (x :: xs)).take xs.length) ((popL lt (x :: xs)).take xs.length).length p := by rw [hlen]; exact h3
    have hmin := head_min L h
    generalize (popL lt (x :: xs)).take xs.length = zs at h1 h2 h3 hlen
    obtain ⟨q1, q2⟩ := out_ok L f zs (by omega) h3
    refine ⟨(q1.trans h2).cons x, ?_⟩
    rw [List.pairwise_cons]
    refine ⟨fun a ha => ?_, q2⟩
    have hm := (q1.trans h2).subset ha
    obtain ⟨k, hk⟩ := List.getElem?_of_mem hm
    have hkl := (List.getElem?_eq_some_iff.1 hk).1
    have := hmin (k + 1) (k + 1) (Nat.le_refl _) (by omega)
    rw [List.getElem!_eq_getElem?_getD, List.getElem?_cons_succ, hk] at this
    exact this
theorem sortL_perm (L : SLt lt) (xs : List α) : (sortL lt xs).Perm xs ∧ (sortL lt xs).Pairwise (fun a b => lt b a = false) := by
  obtain ⟨h1, h2⟩ := init_ok (n := xs.length) L (xs.length / 2) xs (Nat.le_refl _) (fun p hp c hc hlt => by omega)
  have hl := h1.length_eq
  obtain ⟨h3, h4⟩ := out_ok L xs.length (initL lt xs.length (xs.length / 2) xs) (by omega) (by rw [hl]; exact h2)
  exact ⟨h3.trans h1, h4⟩
omit [Inhabited α] in
theorem strict_or : ∀ (ys : List α), ys.Pairwise (fun a b => lt a b = true) → ∀ a b, a ∈ ys → b ∈ ys → a = b ∨ lt a b = true ∨ lt b a = true
  | [], _, a, _, ha, _ => by simp at ha
  | y :: ys, h, a, b, ha, hb => by
    rw [List.pairwise_cons] at h
    rcases List.mem_cons.1 ha with rfl | ha' <;> rcases List.mem_cons.1 hb with rfl | hb'
    · exact .inl rfl
    · exact .inr (.inl (h.1 _ hb'))
    · exact .inr (.inr (h.1 _ ha'))
    · exact strict_or ys h.2 a b ha' hb'
/-- The ascending list of the same elements is what comes out. -/
theorem sortL_eq (L : SLt lt) {ys : List α} (hp : ys.Perm xs) (hs : ys.Pairwise (fun a b => lt a b = true)) : sortL lt xs = ys := by
  obtain ⟨h1, h2⟩ := sortL_perm L xs
  have hp2 := h1.trans hp.symm
  refine List.Perm.eq_of_pairwise (fun a b ha hb h3 h4 => ?_) h2 (hs.imp fun h => L.asy _ _ h) hp2
  rcases strict_or ys hs a b (hp2.subset ha) hb with h | h | h
  · exact h
  · rw [h] at h4; cases h4
  · rw [h] at h3; cases h3
end
end Go.Proofs.Ytkhgemgmnchodaa
