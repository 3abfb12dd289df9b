/- Plain: the order that takes the smallest free message again and again. No program here. -/
namespace Go.Proofs.Ytfdgbbapbpflcaa
/-- T: the messages that are left; nx l m: m is told right after l. -/
def frM (T : Nat → Bool) (nx : Nat → Nat → Bool) (m : Nat) : Bool := T m && !((List.range 12).any fun l => T l && nx l m)
def pkM (T : Nat → Bool) (nx : Nat → Nat → Bool) : Option Nat := (List.range 12).find? (frM T nx)
def offM (T : Nat → Bool) (m : Nat) : Nat → Bool := fun j => T j && j != m
def cntM (T : Nat → Bool) : Nat := ((List.range 12).filter T).length
def greedy (nx : Nat → Nat → Bool) : Nat → (Nat → Bool) → List Nat
  | 0, _ => []
  | n + 1, T => match pkM T nx with
    | none => []
    | some m => m :: greedy nx n (offM T m)
def ordM (T : Nat → Bool) (nx : Nat → Nat → Bool) : List Nat := greedy nx 12 T
def fullM (T : Nat → Bool) (nx : Nat → Nat → Bool) : Bool := decide (cntM T ≤ (ordM T nx).length)
theorem frM_iff {T : Nat → Bool} {nx : Nat → Nat → Bool} {m : Nat} : frM T nx m = true ↔ T m = true ∧ ∀ l, l < 12 → T l = true → nx l m = false := by
  unfold frM
  rw [Bool.and_eq_true, Bool.not_eq_true', List.any_eq_false]
  constructor
  · rintro ⟨h1, h2⟩
    refine ⟨h1, fun l hl hT => ?_⟩
    have := h2 l (List.mem_range.2 hl)
    rw [hT, Bool.true_and] at this
    simpa using this
  · rintro ⟨h1, h2⟩
    refine ⟨h1, fun l hl => ?_⟩
    cases hT : T l
    · simp
    · rw [h2 l (List.mem_range.1 hl) hT]; simp
theorem find_range {p : Nat → Bool} {n m : Nat} : (List.range n).find? p = some m ↔ m < n ∧ p m = true ∧ ∀ j, j < m → p j = false := by
  induction n with
  | zero => simp
  | succ n ih =>
    rw [List.range_succ, List.find?_append]
    cases h : (List.range n).find? p with
    | some k =>
      simp only [Option.some_or, Option.some.injEq]
      have hk := (List.find?_range_eq_some (i := k) (p := p) (n := n)).1 h
      constructor
      · rintro rfl
        exact ⟨by have := List.mem_range.1 hk.2.1; omega, hk.1, fun j hj => by have := hk.2.2 j hj; simpa using this⟩
      · rintro ⟨h1, h2, h3⟩
        rcases Nat.lt_trichotomy k m with hlt | rfl | hlt
        · have := h3 k hlt; rw [hk.1] at this; cases this
        · rfl
        · have := hk.2.2 m hlt; rw [h2] at this; simp at this
    | none =>
      have hno : ∀ j, j < n → p j = false := by
        intro j hj
        have := List.find?_eq_none.1 h j (List.mem_range.2 hj)
        simpa using this
      simp only [Option.none_or, List.find?_cons, List.find?_nil]
      cases hp : p n
      · simp only [reduceCtorEq, false_iff]
        rintro ⟨h1, h2, _⟩
        rcases Nat.lt_or_ge m n with hlt | hge
        · rw [hno m hlt] at h2; cases h2
        · obtain rfl : m = n := by omega
          rw [hp] at h2; cases h2
      · simp only [Option.some.injEq]
        constructor
        · rintro rfl
          exact ⟨by omega, hp, hno⟩
        · rintro ⟨h1, h2, h3⟩
          rcases Nat.lt_or_ge m n with hlt | hge
          · rw [hno m hlt] at h2; cases h2
          · omega
theorem pkM_some {T : Nat → Bool} {nx : Nat → Nat → Bool} {m : Nat} : pkM T nx = some m ↔ m < 12 ∧ frM T nx m = true ∧ ∀ j, j < m → frM T nx j = false := find_range
theorem pkM_none {T : Nat → Bool} {nx : Nat → Nat → Bool} : pkM T nx = none ↔ ∀ j, j < 12 → frM T nx j = false := by
  unfold pkM
  rw [List.find?_eq_none]
  constructor
  · intro h j hj; simpa using h j (List.mem_range.2 hj)
  · intro h j hj; simpa using h j (List.mem_range.1 hj)
theorem cnt_off_aux {T : Nat → Bool} {m : Nat} (h : T m = true) : ∀ l : List Nat, l.Nodup → (l.filter (offM T m)).length + (if m ∈ l then 1 else 0) = (l.filter T).length
  | [], _ => by simp
  | x :: l, hn => by
    rw [List.nodup_cons] at hn
    have ih := cnt_off_aux h l hn.2
    by_cases hx : x = m
    · subst hx
      rw [if_neg hn.1] at ih
      have h1 : offM T x x = false := by simp [offM]
      rw [List.filter_cons_of_neg (by rw [h1]; simp), List.filter_cons_of_pos h, if_pos (by simp)]
      simp; omega
    · have h1 : offM T m x = T x := by simp [offM, hx]
      have hx' : ¬ m = x := fun e => hx e.symm
      have h2 : (m ∈ x :: l) ↔ m ∈ l := by simp [hx']
      cases hT : T x
      · rw [List.filter_cons_of_neg (by rw [h1, hT]; simp), List.filter_cons_of_neg (by rw [hT]; simp)]
        simp only [h2]; exact ih
      · rw [List.filter_cons_of_pos (by rw [h1, hT]), List.filter_cons_of_pos hT]
        simp only [h2, List.length_cons]; omega
theorem cnt_off {T : Nat → Bool} {m : Nat} (h : T m = true) (hm : m < 12) : cntM (offM T m) + 1 = cntM T := by
  have := cnt_off_aux h (List.range 12) List.nodup_range
  rw [if_pos (List.mem_range.2 hm)] at this
  exact this
theorem cnt_le (T : Nat → Bool) : cntM T ≤ 12 := by
  have := List.length_filter_le T (List.range 12)
  simpa [cntM] using this
theorem cnt_zero {T : Nat → Bool} : cntM T = 0 ↔ ∀ j, j < 12 → T j = false := by
  unfold cntM
  rw [List.length_eq_zero_iff, List.filter_eq_nil_iff]
  constructor
  · intro h j hj; simpa using h j (List.mem_range.2 hj)
  · intro h j hj; simpa using h j (List.mem_range.1 hj)
/-- What is left behind some messages. -/
def left (T : Nat → Bool) : List Nat → Nat → Bool
  | [] => T
  | m :: os => left (offM T m) os
theorem left_at (T : Nat → Bool) : ∀ (os : List Nat) (j : Nat), left T os j = (T j && !decide (j ∈ os))
  | [], j => by simp [left]
  | m :: os, j => by
    rw [left, left_at (offM T m) os j]
    by_cases h : j = m
    · subst h; simp [offM]
    · have h' : (j != m) = true := by simpa using h
      simp [offM, h, h']
theorem left_snoc (T : Nat → Bool) : ∀ (os : List Nat) (m : Nat), left T (os ++ [m]) = offM (left T os) m
  | [], m => rfl
  | x :: os, m => by simpa [left] using left_snoc (offM T x) os m
/-- A way of the greedy order: os has been taken, what is left is taken behind it. -/
structure Way (T : Nat → Bool) (nx : Nat → Nat → Bool) (os : List Nat) : Prop where
  eq : ordM T nx = os ++ greedy nx (12 - os.length) (left T os)
  cnt : os.length + cntM (left T os) = cntM T
theorem Way.zero (T : Nat → Bool) (nx : Nat → Nat → Bool) : Way T nx [] := ⟨rfl, by simp [left]⟩
theorem Way.len {T : Nat → Bool} {nx : Nat → Nat → Bool} {os : List Nat} (h : Way T nx os) : os.length ≤ 12 := by have := h.cnt; have := cnt_le T; omega
theorem Way.next {T : Nat → Bool} {nx : Nat → Nat → Bool} {os : List Nat} (h : Way T nx os) {m : Nat} (hm : m < 12) (hf : frM (left T os) nx m = true) (hl : ∀ j, j < m → frM (left T os) nx j = false) : Way T nx (os ++ [m]) := by
  have hT := (frM_iff.1 hf).1
  have hc := cnt_off hT hm
  have h1 := h.cnt
  have h2 := cnt_le T
  refine ⟨?_, ?_⟩
  · rw [h.eq, show 12 - os.length = (12 - (os ++ [m]).length) + 1 by simp; omega]
    rw [greedy, pkM_some.2 ⟨hm, hf, hl⟩, left_snoc]
    simp
  · rw [left_snoc]; simp; omega
theorem Way.done {T : Nat → Bool} {nx : Nat → Nat → Bool} {os : List Nat} (h : Way T nx os) (hn : ∀ j, j < 12 → frM (left T os) nx j = false) : ordM T nx = os := by
  rw [h.eq]
  cases 12 - os.length with
  | zero => simp [greedy]
  | succ n => rw [greedy, pkM_none.2 hn]; simp
theorem Way.full {T : Nat → Bool} {nx : Nat → Nat → Bool} {os : List Nat} (h : Way T nx os) (hn : ∀ j, j < 12 → frM (left T os) nx j = false) : fullM T nx = !((List.range 12).any (left T os)) := by
  have h1 := h.cnt
  unfold fullM
  rw [h.done hn, Bool.eq_iff_iff, decide_eq_true_eq, Bool.not_eq_true', List.any_eq_false]
  constructor
  · intro hle j hj
    have := cnt_zero.1 (show cntM (left T os) = 0 by omega) j (List.mem_range.1 hj)
    simpa using this
  · intro h0
    have := (cnt_zero (T := left T os)).2 (fun j hj => by simpa using h0 j (List.mem_range.2 hj))
    omega
/-- The stages of an order. -/
def Stages (T : Nat → Bool) (nx : Nat → Nat → Bool) (os : List Nat) : Prop := ∀ k m, os[k]? = some m → m < 12 ∧ frM (left T (os.take k)) nx m = true ∧ ∀ j, j < m → frM (left T (os.take k)) nx j = false
theorem way_of_stages {T : Nat → Bool} {nx : Nat → Nat → Bool} {os : List Nat} (h : Stages T nx os) : ∀ k, k ≤ os.length → Way T nx (os.take k)
  | 0, _ => by simpa using Way.zero T nx
  | k + 1, hk => by
    have hx : os[k]? = some (os[k]'(by omega)) := List.getElem?_eq_getElem (by omega)
    obtain ⟨h1, h2, h3⟩ := h k _ hx
    have := (way_of_stages h k (by omega)).next h1 h2 h3
    rwa [show os.take (k + 1) = os.take k ++ [os[k]'(by omega)] by rw [List.take_add_one, hx]; rfl]
theorem greedy_stages (nx : Nat → Nat → Bool) : ∀ (n : Nat) (T : Nat → Bool), Stages T nx (greedy nx n T)
  | 0, T => by intro k m hk; simp [greedy] at hk
  | n + 1, T => by
    intro k m hk
    rw [greedy] at hk ⊢
    cases hp : pkM T nx with
    | none => rw [hp] at hk; simp at hk
    | some x =>
      rw [hp] at hk
      cases k with
      | zero =>
        simp at hk
        subst hk
        simpa [left] using pkM_some.1 hp
      | succ k =>
        simp only [List.getElem?_cons_succ] at hk
        have := greedy_stages nx n (offM T x) k m hk
        simpa [left] using this
theorem greedy_end (nx : Nat → Nat → Bool) : ∀ (n : Nat) (T : Nat → Bool), cntM T ≤ n → ∀ j, j < 12 → frM (left T (greedy nx n T)) nx j = false
  | 0, T, h => by
    intro j hj
    have := cnt_zero.1 (show cntM T = 0 by omega) j hj
    simp [greedy, left, frM, this]
  | n + 1, T, h => by
    intro j hj
    rw [greedy]
    cases hp : pkM T nx with
    | none => simpa [left] using pkM_none.1 hp j hj
    | some x =>
      have h1 := pkM_some.1 hp
      have := cnt_off (frM_iff.1 h1.2.1).1 h1.1
      simpa [left] using greedy_end nx n (offM T x) (by omega) j hj
theorem ord_stages (T : Nat → Bool) (nx : Nat → Nat → Bool) : Stages T nx (ordM T nx) := greedy_stages nx 12 T
theorem ord_end (T : Nat → Bool) (nx : Nat → Nat → Bool) : ∀ j, j < 12 → frM (left T (ordM T nx)) nx j = false := greedy_end nx 12 T (cnt_le T)
theorem ord_way (T : Nat → Bool) (nx : Nat → Nat → Bool) : Way T nx (ordM T nx) := by
  have := way_of_stages (ord_stages T nx) _ (Nat.le_refl _)
  rwa [List.take_length] at this
/-- Two orders with the same stages are one. -/
theorem ord_unique {T : Nat → Bool} {nx : Nat → Nat → Bool} {os : List Nat} (h : Stages T nx os) (he : ∀ j, j < 12 → frM (left T os) nx j = false) : ordM T nx = os := by
  have := way_of_stages h _ (Nat.le_refl _)
  rw [List.take_length] at this
  exact this.done he
theorem ord_mem {T : Nat → Bool} {nx : Nat → Nat → Bool} {m : Nat} (h : m ∈ ordM T nx) : m < 12 ∧ T m = true := by
  obtain ⟨k, hk⟩ := List.getElem?_of_mem h
  obtain ⟨h1, h2, _⟩ := ord_stages T nx k m hk
  have := (frM_iff.1 h2).1
  rw [left_at, Bool.and_eq_true] at this
  exact ⟨h1, this.1⟩
theorem ord_free {T : Nat → Bool} {nx : Nat → Nat → Bool} {k m l : Nat} (h : (ordM T nx)[k]? = some m) (hl : l < 12) (hT : T l = true) (hn : nx l m = true) : l ∈ (ordM T nx).take k := by
  obtain ⟨_, h2, _⟩ := ord_stages T nx k m h
  rcases Decidable.em (l ∈ (ordM T nx).take k) with h | h
  · exact h
  · have := (frM_iff.1 h2).2 l hl (by rw [left_at, hT]; simp [h])
    rw [hn] at this; cases this
theorem ord_not_before {T : Nat → Bool} {nx : Nat → Nat → Bool} {k m : Nat} (h : (ordM T nx)[k]? = some m) : m ∉ (ordM T nx).take k := by
  obtain ⟨_, h2, _⟩ := ord_stages T nx k m h
  have := (frM_iff.1 h2).1
  rw [left_at, Bool.and_eq_true] at this
  simpa using this.2
theorem ord_nodup (T : Nat → Bool) (nx : Nat → Nat → Bool) : (ordM T nx).Nodup := by
  rw [List.nodup_iff_pairwise_ne, List.pairwise_iff_getElem]
  intro i j hi hj hij e
  have := ord_not_before (T := T) (nx := nx) (List.getElem?_eq_getElem hj)
  exact this (by rw [← e]; exact List.mem_take_iff_getElem.2 ⟨i, by omega, rfl⟩)
theorem full_all {T : Nat → Bool} {nx : Nat → Nat → Bool} (h : fullM T nx = true) {m : Nat} (hm : m < 12) (hT : T m = true) : m ∈ ordM T nx := by
  have h1 := (ord_way T nx).full (ord_end T nx)
  rw [h] at h1
  have h2 := List.any_eq_false.1 (Bool.not_eq_true' _ ▸ h1.symm) m (List.mem_range.2 hm)
  rw [left_at, hT] at h2
  simpa using h2
theorem full_len {T : Nat → Bool} {nx : Nat → Nat → Bool} (h : fullM T nx = true) : (ordM T nx).length = cntM T := by
  have h1 := (ord_way T nx).cnt
  unfold fullM at h
  rw [decide_eq_true_eq] at h
  omega
/-- The place of a message in an order. -/
theorem idx_lt_of_take {os : List Nat} {l k : Nat} (h : l ∈ os.take k) : os.idxOf l < k := by
  obtain ⟨i, hi, he⟩ := List.mem_take_iff_getElem.1 h
  have : os.idxOf l ≤ i := by
    have h2 : os.idxOf l ≤ i := by
      rcases Nat.lt_or_ge i (os.idxOf l) with hlt | hge
      · have := List.not_of_lt_findIdx (p := fun a => a == l) (xs := os) hlt
        rw [he] at this
        simp at this
      · exact hge
    exact h2
  omega
/-- A full order ranks the messages. -/
theorem full_rank {T : Nat → Bool} {nx : Nat → Nat → Bool} (h : fullM T nx = true) {l m : Nat} (hl : l < 12) (hm : m < 12) (hTl : T l = true) (hTm : T m = true) (hn : nx l m = true) : (ordM T nx).idxOf l < (ordM T nx).idxOf m := by
  have h1 := full_all h hm hTm
  have h2 : (ordM T nx)[(ordM T nx).idxOf m]? = some m := by
    rw [List.getElem?_eq_getElem (List.idxOf_lt_length_of_mem h1), List.getElem_idxOf]
  exact idx_lt_of_take (ord_free h2 hl hTl hn)
/-- Who has the smallest rank is free. -/
theorem exists_min (T : Nat → Bool) (r : Nat → Nat) : ∀ n, (∃ j, j < n ∧ T j = true) → ∃ m, m < n ∧ T m = true ∧ ∀ j, j < n → T j = true → r m ≤ r j
  | 0, ⟨j, hj, _⟩ => by omega
  | n + 1, ⟨j, hj, hT⟩ => by
    by_cases hex : ∃ j, j < n ∧ T j = true
    · obtain ⟨m, h1, h2, h3⟩ := exists_min T r n hex
      by_cases hn : T n = true ∧ r n < r m
      · refine ⟨n, by omega, hn.1, fun i hi hTi => ?_⟩
        rcases Nat.lt_or_ge i n with hlt | hge
        · have := h3 i hlt hTi; omega
        · obtain rfl : i = n := by omega
          omega
      · refine ⟨m, by omega, h2, fun i hi hTi => ?_⟩
        rcases Nat.lt_or_ge i n with hlt | hge
        · exact h3 i hlt hTi
        · obtain rfl : i = n := by omega
          have : ¬ r i < r m := fun h => hn ⟨hTi, h⟩
          omega
    · obtain rfl : j = n := by
        rcases Nat.lt_or_ge j n with hlt | hge
        · exact absurd ⟨j, hlt, hT⟩ hex
        · omega
      refine ⟨j, by omega, hT, fun i hi hTi => ?_⟩
      rcases Nat.lt_or_ge i j with hlt | hge
      · exact absurd ⟨i, hlt, hTi⟩ hex
      · obtain rfl : i = j := by omega
        omega
theorem full_of_rank {T : Nat → Bool} {nx : Nat → Nat → Bool} (r : Nat → Nat) (h : ∀ l m, l < 12 → m < 12 → T l = true → T m = true → nx l m = true → r l < r m) : fullM T nx = true := by
  rw [(ord_way T nx).full (ord_end T nx), Bool.not_eq_true', List.any_eq_false]
  intro j hj hl
  obtain ⟨m, h1, h2, h3⟩ := exists_min (left T (ordM T nx)) r 12 ⟨j, List.mem_range.1 hj, hl⟩
  have hm := ord_end T nx m h1
  have : frM (left T (ordM T nx)) nx m = true := by
    refine frM_iff.2 ⟨h2, fun l hl hTl => ?_⟩
    cases hn : nx l m
    · rfl
    · have hT := hTl
      have hTm := h2
      rw [left_at, Bool.and_eq_true] at hT hTm
      have := h l m hl h1 hT.1 hTm.1 hn
      have := h3 l hl hTl
      omega
  rw [hm] at this; cases this
/-- The order does not change when its own steps are told once more. -/
theorem ord_again {T : Nat → Bool} {nx nx' : Nat → Nat → Bool} (h1 : ∀ l m, nx l m = true → nx' l m = true) (h2 : ∀ l m, nx' l m = true → nx l m = true ∨ ∃ k, (ordM T nx)[k]? = some l ∧ (ordM T nx)[k + 1]? = some m)
    (hf : fullM T nx = true) : ordM T nx' = ordM T nx ∧ fullM T nx' = true := by
  have hfr : ∀ (os : List Nat) j, frM (left T os) nx' j = true → frM (left T os) nx j = true := by
    intro os j hj
    obtain ⟨h3, h4⟩ := frM_iff.1 hj
    refine frM_iff.2 ⟨h3, fun l hl hT => ?_⟩
    cases hn : nx l j
    · rfl
    · have := h4 l hl hT; rw [h1 l j hn] at this; cases this
  have hfr' : ∀ (os : List Nat) j, frM (left T os) nx j = false → frM (left T os) nx' j = false := by
    intro os j hj
    cases h : frM (left T os) nx' j
    · rfl
    · rw [hfr os j h] at hj; cases hj
  have ho : ordM T nx' = ordM T nx := by
    refine ord_unique (fun k m hk => ?_) fun j hj => hfr' _ j (ord_end T nx j hj)
    obtain ⟨h3, h4, h5⟩ := ord_stages T nx k m hk
    refine ⟨h3, ?_, fun j hj => hfr' _ j (h5 j hj)⟩
    obtain ⟨h6, h7⟩ := frM_iff.1 h4
    refine frM_iff.2 ⟨h6, fun l hl hT => ?_⟩
    cases hn : nx' l m
    · rfl
    · rcases h2 l m hn with h | ⟨i, hi1, hi2⟩
      · have := h7 l hl hT; rw [h] at this; cases this
      · exfalso
        have hnd := ord_nodup T nx
        have hik : i + 1 = k := by
          have hlen1 := (List.getElem?_eq_some_iff.1 hi2).1
          have hlen2 := (List.getElem?_eq_some_iff.1 hk).1
          exact (List.getElem?_inj hlen1 hnd).1 (by rw [hi2, hk])
        rw [left_at, Bool.and_eq_true] at hT
        have hlm : l ∈ (ordM T nx).take k := by
          obtain ⟨hli, hle⟩ := List.getElem?_eq_some_iff.1 hi1
          exact List.mem_take_iff_getElem.2 ⟨i, by omega, hle⟩
        have := hT.2
        simp [hlm] at this
  refine ⟨ho, ?_⟩
  unfold fullM at hf ⊢
  rw [ho]; exact hf
end Go.Proofs.Ytfdgbbapbpflcaa
