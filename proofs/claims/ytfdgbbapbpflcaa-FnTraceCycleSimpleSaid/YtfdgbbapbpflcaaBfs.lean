/- Plain: shortest cycles by a search in width. No program here. -/
import Derived.Test.YtfdgbbapbpflcaaGreedy
namespace Go.Proofs.Ytfdgbbapbpflcaa
def updB (b : Nat → Option Nat) (m x : Nat) : Nat → Option Nat := fun j => if j = m then some x else b j
def inn (nx : Nat → Nat → Bool) (s x : Nat) : List Nat → List Nat → (Nat → Option Nat) → Bool × List Nat × (Nat → Option Nat)
  | [], line, bef => (false, line, bef)
  | m :: ms, line, bef => if nx x m then (if m = s then (true, line, bef) else if bef m = none then inn nx s x ms (line ++ [m]) (updB bef m x) else inn nx s x ms line bef) else inn nx s x ms line bef
def outr (nx : Nat → Nat → Bool) (s : Nat) : Nat → Nat → List Nat → (Nat → Option Nat) → Option (Nat × (Nat → Option Nat))
  | 0, _, _, _ => none
  | n + 1, i, line, bef => match line[i]? with
    | none => none
    | some x => match inn nx s x (List.range 12) line bef with
      | (true, _, bef') => some (x, bef')
      | (false, line', bef') => outr nx s n (i + 1) line' bef'
def back (bef : Nat → Option Nat) (s : Nat) : Nat → Nat → List Nat
  | 0, _ => []
  | n + 1, x => if x = s then [s] else match bef x with
    | none => []
    | some y => back bef s n y ++ [x]
def cyc (nx : Nat → Nat → Bool) (s : Nat) : List Nat := match outr nx s 13 0 [s] (fun _ => none) with
  | none => []
  | some (x, bef) => back bef s 13 x
/-- The state of the search: lev is the length of the way from s. -/
structure BI (nx : Nat → Nat → Bool) (s : Nat) (line : List Nat) (bef : Nat → Option Nat) (lev : Nat → Nat) : Prop where
  nd : line.Nodup
  lt : ∀ m ∈ line, m < 12
  hd : line[0]? = some s
  bs : bef s = none
  l0 : lev s = 0
  bn : ∀ m, m ∉ line → bef m = none
  bf : ∀ m, m ∈ line → m ≠ s → ∃ y, bef m = some y ∧ y ∈ line ∧ nx y m = true ∧ lev m = lev y + 1
  mono : ∀ (j k a b : Nat), j ≤ k → line[j]? = some a → line[k]? = some b → lev a ≤ lev b
structure BP (nx : Nat → Nat → Bool) (s i x : Nat) (line : List Nat) (lev : Nat → Nat) : Prop where
  at_ : line[i]? = some x
  top : ∀ b ∈ line, lev b ≤ lev x + 1
  done : ∀ (j a : Nat), j < i → line[j]? = some a → ∀ m, m < 12 → nx a m = true → m ≠ s ∧ m ∈ line ∧ lev m ≤ lev a + 1
def PartB (nx : Nat → Nat → Bool) (s x : Nat) (line : List Nat) (lev : Nat → Nat) (ps : List Nat) : Prop := ∀ m ∈ ps, nx x m = true → m ≠ s ∧ m ∈ line ∧ lev m ≤ lev x + 1
theorem nodup_lt_length : ∀ (n : Nat) (l : List Nat), l.Nodup → (∀ x ∈ l, x < n) → l.length ≤ n
  | 0, l, _, h => by
    cases l with
    | nil => simp
    | cons x t => have := h x (by simp); omega
  | n + 1, l, hd, h => by
    by_cases hm : n ∈ l
    · have h1 := nodup_lt_length n (l.erase n) (hd.erase n) (fun x hx => by
        have h2 := (hd.mem_erase_iff).1 hx
        have := h x h2.2
        omega)
      rw [List.length_erase_of_mem hm] at h1
      omega
    · have := nodup_lt_length n l hd (fun x hx => by
        have := h x hx
        have : x ≠ n := fun e => hm (e ▸ hx)
        omega)
      omega
theorem BI.len {nx : Nat → Nat → Bool} {s : Nat} {line : List Nat} {bef : Nat → Option Nat} {lev : Nat → Nat} (h : BI nx s line bef lev) : line.length ≤ 12 := nodup_lt_length 12 line h.nd h.lt
theorem BI.s_mem {nx : Nat → Nat → Bool} {s : Nat} {line : List Nat} {bef : Nat → Option Nat} {lev : Nat → Nat} (h : BI nx s line bef lev) : s ∈ line := List.mem_of_getElem? h.hd
theorem BI.zero (nx : Nat → Nat → Bool) {s : Nat} (hs : s < 12) : BI nx s [s] (fun _ => none) (fun _ => 0) :=
  ⟨by simp, by simpa using hs, rfl, rfl, rfl, fun _ _ => rfl, fun m hm hne => absurd (by simpa using hm) hne, fun _ _ _ _ _ _ _ => Nat.le_refl _⟩
theorem BI.add {nx : Nat → Nat → Bool} {s : Nat} {line : List Nat} {bef : Nat → Option Nat} {lev : Nat → Nat} (h : BI nx s line bef lev) {i x m : Nat} (p : BP nx s i x line lev) (hm : m < 12) (hn : nx x m = true) (hs : m ≠ s) (hb : bef m = none) :
    m ∉ line ∧ BI nx s (line ++ [m]) (updB bef m x) (fun j => if j = m then lev x + 1 else lev j) ∧ BP nx s i x (line ++ [m]) (fun j => if j = m then lev x + 1 else lev j) ∧ (∀ a ∈ line, (if a = m then lev x + 1 else lev a) = lev a) := by
  have hnm : m ∉ line := by
    intro hmem
    obtain ⟨y, hy, _⟩ := h.bf m hmem hs
    rw [hb] at hy; cases hy
  have hlev : ∀ a ∈ line, (if a = m then lev x + 1 else lev a) = lev a := fun a ha => if_neg (fun e : a = m => hnm (e ▸ ha))
  have hx := List.mem_of_getElem? p.at_
  have hlx : i < line.length := (List.getElem?_eq_some_iff.1 p.at_).1
  have hl0 : 0 < line.length := (List.getElem?_eq_some_iff.1 h.hd).1
  refine ⟨hnm, ⟨?_, ?_, ?_, ?_, ?_, ?_, ?_, ?_⟩, ⟨?_, ?_, ?_⟩, hlev⟩
  · rw [List.nodup_append]
    exact ⟨h.nd, by simp, fun a ha b hb e => by rw [List.mem_singleton] at hb; subst hb; subst e; exact hnm ha⟩
  · intro a ha
    rw [List.mem_append, List.mem_singleton] at ha
    rcases ha with ha | rfl
    · exact h.lt a ha
    · exact hm
  · rw [List.getElem?_append_left hl0]; exact h.hd
  · unfold updB; rw [if_neg (fun e => hs e.symm)]; exact h.bs
  · show (if s = m then lev x + 1 else lev s) = 0
    rw [if_neg (fun e => hs e.symm)]; exact h.l0
  · intro a ha
    rw [List.mem_append, List.mem_singleton, not_or] at ha
    unfold updB
    rw [if_neg ha.2]
    exact h.bn a ha.1
  · intro a ha hne
    rw [List.mem_append, List.mem_singleton] at ha
    rcases ha with ha | rfl
    · obtain ⟨y, h1, h2, h3, h4⟩ := h.bf a ha hne
      refine ⟨y, ?_, List.mem_append_left _ h2, h3, ?_⟩
      · unfold updB; rw [if_neg (fun e : a = m => hnm (e ▸ ha))]; exact h1
      · show (if a = m then lev x + 1 else lev a) = (if y = m then lev x + 1 else lev y) + 1
        rw [hlev a ha, hlev y h2]; exact h4
    · refine ⟨x, ?_, List.mem_append_left _ hx, hn, ?_⟩
      · unfold updB; rw [if_pos rfl]
      · show (if a = a then lev x + 1 else lev a) = (if x = a then lev x + 1 else lev x) + 1
        rw [if_pos rfl, hlev x hx]
  · intro j k a b hjk ha hb
    show (if a = m then lev x + 1 else lev a) ≤ (if b = m then lev x + 1 else lev b)
    have hkl : k < (line ++ [m]).length := (List.getElem?_eq_some_iff.1 hb).1
    rw [List.length_append, List.length_singleton] at hkl
    rcases Nat.lt_or_ge k line.length with hk | hk
    · rw [List.getElem?_append_left (by omega)] at ha hb
      rw [hlev a (List.mem_of_getElem? ha), hlev b (List.mem_of_getElem? hb)]
      exact h.mono j k a b hjk ha hb
    · obtain rfl : k = line.length := by omega
      have hbm : b = m := by
        rw [List.getElem?_append_right (Nat.le_refl _)] at hb
        simpa using hb.symm
      subst hbm
      rw [if_pos rfl]
      rcases Nat.lt_or_ge j line.length with hj | hj
      · rw [List.getElem?_append_left hj] at ha
        have hal := List.mem_of_getElem? ha
        rw [hlev a hal]
        exact p.top a hal
      · obtain rfl : j = line.length := by omega
        rw [List.getElem?_append_right (Nat.le_refl _)] at ha
        have : a = b := by simpa using ha.symm
        rw [if_pos this]
        omega
  · rw [List.getElem?_append_left hlx]; exact p.at_
  · intro b hb
    show (if b = m then lev x + 1 else lev b) ≤ (if x = m then lev x + 1 else lev x) + 1
    rw [hlev x hx]
    rw [List.mem_append, List.mem_singleton] at hb
    rcases hb with hb | rfl
    · rw [hlev b hb]; exact p.top b hb
    · rw [if_pos rfl]; omega
  · intro j a hj ha b hb hn'
    rw [List.getElem?_append_left (by omega)] at ha
    obtain ⟨h1, h2, h3⟩ := p.done j a hj ha b hb hn'
    refine ⟨h1, List.mem_append_left _ h2, ?_⟩
    show (if b = m then lev x + 1 else lev b) ≤ (if a = m then lev x + 1 else lev a) + 1
    rw [hlev b h2, hlev a (List.mem_of_getElem? ha)]
    exact h3
theorem inn_ok {nx : Nat → Nat → Bool} {s i x : Nat} : ∀ (ms ps : List Nat) (line : List Nat) (bef : Nat → Option Nat) (lev : Nat → Nat), BI nx s line bef lev → BP nx s i x line lev → PartB nx s x line lev ps → (∀ m ∈ ms, m < 12) →
    ∀ f line' bef', inn nx s x ms line bef = (f, line', bef') → ∃ lev', BI nx s line' bef' lev' ∧ BP nx s i x line' lev' ∧ (f = true → nx x s = true) ∧ (f = false → PartB nx s x line' lev' (ps ++ ms))
  | [], ps, line, bef, lev, hB, hP, hp, _, f, line', bef', he => by
    simp only [inn, Prod.mk.injEq] at he
    obtain ⟨rfl, rfl, rfl⟩ := he
    exact ⟨lev, hB, hP, (fun h => by cases h), fun _ => by simpa using hp⟩
  | m :: ms, ps, line, bef, lev, hB, hP, hp, hl, f, line', bef', he => by
    have hm := hl m (by simp)
    have hl' : ∀ m ∈ ms, m < 12 := fun a ha => hl a (by simp [ha])
    rw [inn] at he
    cases hn : nx x m
    · rw [hn, if_neg (by simp)] at he
      have hp' : PartB nx s x line lev (ps ++ [m]) := by
        intro a ha hna
        rw [List.mem_append, List.mem_singleton] at ha
        rcases ha with ha | rfl
        · exact hp a ha hna
        · rw [hn] at hna; cases hna
      obtain ⟨lev', h1, h2, h3, h4⟩ := inn_ok ms (ps ++ [m]) line bef lev hB hP hp' hl' f line' bef' he
      exact ⟨lev', h1, h2, h3, fun hf => by have := h4 hf; simpa using this⟩
    · rw [hn, if_pos rfl] at he
      by_cases hs : m = s
      · rw [if_pos hs] at he
        simp only [Prod.mk.injEq] at he
        obtain ⟨rfl, rfl, rfl⟩ := he
        exact ⟨lev, hB, hP, fun _ => hs ▸ hn, fun h => by cases h⟩
      · rw [if_neg hs] at he
        by_cases hb : bef m = none
        · rw [if_pos hb] at he
          obtain ⟨g1, g2, g3, g4⟩ := hB.add hP hm hn hs hb
          have hx := List.mem_of_getElem? hP.at_
          have hp' : PartB nx s x (line ++ [m]) (fun j => if j = m then lev x + 1 else lev j) (ps ++ [m]) := by
            intro a ha hna
            rw [List.mem_append, List.mem_singleton] at ha
            rcases ha with ha | rfl
            · obtain ⟨k1, k2, k3⟩ := hp a ha hna
              refine ⟨k1, List.mem_append_left _ k2, ?_⟩
              show (if a = m then lev x + 1 else lev a) ≤ (if x = m then lev x + 1 else lev x) + 1
              rw [g4 a k2, g4 x hx]; exact k3
            · refine ⟨hs, List.mem_append_right _ (by simp), ?_⟩
              show (if a = a then lev x + 1 else lev a) ≤ (if x = a then lev x + 1 else lev x) + 1
              rw [if_pos rfl, g4 x hx]
              exact Nat.le_refl _
          obtain ⟨lev', h1, h2, h3, h4⟩ := inn_ok ms (ps ++ [m]) _ _ _ g2 g3 hp' hl' f line' bef' he
          exact ⟨lev', h1, h2, h3, fun hf => by have := h4 hf; simpa using this⟩
        · rw [if_neg hb] at he
          have hml : m ∈ line := by
            rcases Decidable.em (m ∈ line) with h | h
            · exact h
            · exact absurd (hB.bn m h) hb
          have hp' : PartB nx s x line lev (ps ++ [m]) := by
            intro a ha hna
            rw [List.mem_append, List.mem_singleton] at ha
            rcases ha with ha | rfl
            · exact hp a ha hna
            · exact ⟨hs, hml, hP.top a hml⟩
          obtain ⟨lev', h1, h2, h3, h4⟩ := inn_ok ms (ps ++ [m]) line bef lev hB hP hp' hl' f line' bef' he
          exact ⟨lev', h1, h2, h3, fun hf => by have := h4 hf; simpa using this⟩
/-- Behind i messages of the line. -/
structure BO (nx : Nat → Nat → Bool) (s i : Nat) (line : List Nat) (lev : Nat → Nat) : Prop where
  top : ∀ (x b : Nat), line[i]? = some x → b ∈ line → lev b ≤ lev x + 1
  done : ∀ (j a : Nat), j < i → line[j]? = some a → ∀ m, m < 12 → nx a m = true → m ≠ s ∧ m ∈ line ∧ lev m ≤ lev a + 1
theorem BO.zero (nx : Nat → Nat → Bool) (s : Nat) : BO nx s 0 [s] (fun _ => 0) := ⟨fun _ _ _ _ => by omega, fun j _ hj => by omega⟩
theorem BO.at_ {nx : Nat → Nat → Bool} {s i x : Nat} {line : List Nat} {lev : Nat → Nat} (h : BO nx s i line lev) (hx : line[i]? = some x) : BP nx s i x line lev := ⟨hx, fun b hb => h.top x b hx hb, h.done⟩
theorem BO.next {nx : Nat → Nat → Bool} {s i x : Nat} {line : List Nat} {bef : Nat → Option Nat} {lev : Nat → Nat} (hB : BI nx s line bef lev) (h : BP nx s i x line lev) (hp : PartB nx s x line lev (List.range 12)) : BO nx s (i + 1) line lev := by
  refine ⟨fun y b hy hb => ?_, fun j a hj ha m hm hn => ?_⟩
  · have := h.top b hb
    have := hB.mono i (i + 1) x y (by omega) h.at_ hy
    omega
  · rcases Nat.lt_or_ge j i with hlt | hge
    · exact h.done j a hlt ha m hm hn
    · obtain rfl : j = i := by omega
      rw [h.at_] at ha
      injection ha with ha
      subst ha
      exact hp m (List.mem_range.2 hm) hn
theorem outr_ok {nx : Nat → Nat → Bool} {s : Nat} : ∀ (n i : Nat) (line : List Nat) (bef : Nat → Option Nat) (lev : Nat → Nat), n + i = 13 → BI nx s line bef lev → BO nx s i line lev →
    (∀ x bef', outr nx s n i line bef = some (x, bef') → ∃ i' line' lev', BI nx s line' bef' lev' ∧ BP nx s i' x line' lev' ∧ nx x s = true) ∧
    (outr nx s n i line bef = none → ∃ line' bef' lev', BI nx s line' bef' lev' ∧ ∀ a ∈ line', ∀ m, m < 12 → nx a m = true → m ≠ s ∧ m ∈ line' ∧ lev' m ≤ lev' a + 1)
  | 0, i, line, bef, lev, hn, hB, hO => by
    have hl := hB.len
    refine ⟨fun x bef' h => by simp [outr] at h, fun _ => ⟨line, bef, lev, hB, fun a ha => ?_⟩⟩
    obtain ⟨j, hj, he⟩ := List.getElem_of_mem ha
    exact hO.done j a (by omega) (by rw [List.getElem?_eq_getElem hj, he])
  | n + 1, i, line, bef, lev, hn, hB, hO => by
    have hl := hB.len
    rw [outr]
    cases hx : line[i]? with
    | none =>
      refine ⟨fun x bef' h => by simp at h, fun _ => ⟨line, bef, lev, hB, fun a ha => ?_⟩⟩
      obtain ⟨j, hj, he⟩ := List.getElem_of_mem ha
      have := List.getElem?_eq_none_iff.1 hx
      exact hO.done j a (by omega) (by rw [List.getElem?_eq_getElem hj, he])
    | some x =>
      simp only
      rcases hi : inn nx s x (List.range 12) line bef with ⟨f, line', bef'⟩
      obtain ⟨lev', h1, h2, h3, h4⟩ := inn_ok (List.range 12) [] line bef lev hB (hO.at_ hx) (fun m hm => by simp at hm) (fun m hm => List.mem_range.1 hm) f line' bef' hi
      cases f
      · simp only
        exact outr_ok n (i + 1) line' bef' lev' (by omega) h1 (BO.next h1 h2 (by simpa using h4 rfl))
      · simp only
        refine ⟨fun y bef'' h => ?_, fun h => by simp at h⟩
        injection h with h
        injection h with e1 e2
        subst e1 e2
        exact ⟨i, line', lev', h1, h2, h3 rfl⟩
theorem back_ok {nx : Nat → Nat → Bool} {s : Nat} {line : List Nat} {bef : Nat → Option Nat} {lev : Nat → Nat} (hB : BI nx s line bef lev) : ∀ (n a : Nat), lev a < n → a ∈ line →
    (back bef s n a).length = lev a + 1 ∧ (∀ t b, (back bef s n a)[t]? = some b → b ∈ line ∧ lev b = t) ∧ (back bef s n a)[0]? = some s ∧ (back bef s n a)[lev a]? = some a ∧
    (∀ t b c, (back bef s n a)[t]? = some b → (back bef s n a)[t + 1]? = some c → nx b c = true)
  | 0, a, h, _ => by omega
  | n + 1, a, h, ha => by
    rw [back]
    by_cases hs : a = s
    · rw [if_pos hs]
      subst hs
      have h0 := hB.l0
      rw [h0]
      refine ⟨rfl, fun t b hb => ?_, rfl, rfl, fun t b c _ hc => by simp at hc⟩
      cases t with
      | zero => simp at hb; subst hb; exact ⟨ha, h0⟩
      | succ t => simp at hb
    · rw [if_neg hs]
      obtain ⟨y, h1, h2, h3, h4⟩ := hB.bf a ha hs
      rw [h1]
      simp only
      obtain ⟨g1, g2, g3, g4, g5⟩ := back_ok hB n y (by omega) h2
      refine ⟨by rw [List.length_append, g1, h4]; rfl, fun t b hb => ?_, ?_, ?_, fun t b c hb hc => ?_⟩
      · rcases Nat.lt_or_ge t (lev y + 1) with hlt | hge
        · rw [List.getElem?_append_left (by omega)] at hb
          exact g2 t b hb
        · rw [List.getElem?_append_right (by omega), g1] at hb
          have hlt := (List.getElem?_eq_some_iff.1 hb).1
          simp only [List.length_singleton] at hlt
          obtain rfl : t = lev y + 1 := by omega
          simp at hb
          subst hb
          exact ⟨ha, h4⟩
      · rw [List.getElem?_append_left (by omega)]; exact g3
      · rw [List.getElem?_append_right (by omega), g1, h4]; simp
      · rcases Nat.lt_or_ge (t + 1) (lev y + 1) with hlt | hge
        · rw [List.getElem?_append_left (by omega)] at hb hc
          exact g5 t b c hb hc
        · rw [List.getElem?_append_right (by omega), g1] at hc
          have hlt := (List.getElem?_eq_some_iff.1 hc).1
          simp only [List.length_singleton] at hlt
          obtain rfl : t = lev y := by omega
          rw [List.getElem?_append_left (by omega), g4] at hb
          simp at hb hc
          subst hb hc
          exact h3
theorem lev_lt {nx : Nat → Nat → Bool} {s : Nat} {line : List Nat} {bef : Nat → Option Nat} {lev : Nat → Nat} (hB : BI nx s line bef lev) : ∀ (n k a : Nat), k ≤ n → lev a = k → a ∈ line → ∃ p : List Nat, p.length = k + 1 ∧ p.Nodup ∧ ∀ b ∈ p, b ∈ line ∧ lev b ≤ k
  | 0, k, a, hk, hl, ha => ⟨[a], by simp; omega, by simp, fun b hb => by rw [List.mem_singleton] at hb; subst hb; exact ⟨ha, by omega⟩⟩
  | n + 1, k, a, hk, hl, ha => by
    rcases Nat.lt_or_ge k (n + 1) with hlt | hge
    · exact lev_lt hB n k a (by omega) hl ha
    · have hs : a ≠ s := by intro e; subst e; have := hB.l0; omega
      obtain ⟨y, _, h2, _, h4⟩ := hB.bf a ha hs
      obtain ⟨p, h5, h6, h7⟩ := lev_lt hB n (k - 1) y (by omega) (by omega) h2
      refine ⟨a :: p, by simp; omega, ?_, fun b hb => ?_⟩
      · rw [List.nodup_cons]
        exact ⟨fun hm => by have := (h7 a hm).2; omega, h6⟩
      · rcases List.mem_cons.1 hb with rfl | hb
        · exact ⟨ha, by omega⟩
        · have := h7 b hb; exact ⟨this.1, by omega⟩
theorem BI.lev12 {nx : Nat → Nat → Bool} {s : Nat} {line : List Nat} {bef : Nat → Option Nat} {lev : Nat → Nat} (hB : BI nx s line bef lev) {a : Nat} (ha : a ∈ line) : lev a < 12 := by
  obtain ⟨p, h1, h2, h3⟩ := lev_lt hB (lev a) (lev a) a (Nat.le_refl _) rfl ha
  have := nodup_lt_length 12 p h2 (fun b hb => hB.lt b (h3 b hb).1)
  omega
/-- A closed way from s. -/
def CW (nx : Nat → Nat → Bool) (s L : Nat) : Prop := 0 < L ∧ ∃ v : Nat → Nat, v 0 = s ∧ v L = s ∧ ∀ t, t < L → nx (v t) (v (t + 1)) = true
/-- What a cycle from s is. -/
structure CycOf (nx : Nat → Nat → Bool) (s : Nat) (r : List Nat) : Prop where
  ne : 0 < r.length
  hd : r[0]? = some s
  nd : r.Nodup
  lt : ∀ m ∈ r, m < 12
  st : ∀ (t b c : Nat), r[t]? = some b → r[t + 1]? = some c → nx b c = true
  cl : ∀ b : Nat, r[r.length - 1]? = some b → nx b s = true
theorem cyc_cases (nx : Nat → Nat → Bool) {s : Nat} (hs : s < 12) (hb : ∀ a b, nx a b = true → a < 12 ∧ b < 12) :
    (cyc nx s = [] ∧ ∀ L, ¬ CW nx s L) ∨ (CycOf nx s (cyc nx s) ∧ ∀ L, CW nx s L → (cyc nx s).length ≤ L) := by
  obtain ⟨h1, h2⟩ := outr_ok (nx := nx) (s := s) 13 0 [s] (fun _ => none) (fun _ => 0) rfl (BI.zero nx hs) (BO.zero nx s)
  unfold cyc
  cases ho : outr nx s 13 0 [s] (fun _ => none) with
  | none =>
    left
    refine ⟨rfl, ?_⟩
    rintro L ⟨hL, v, hv0, hvL, hv⟩
    obtain ⟨line, bef, lev, hB, hd⟩ := h2 ho
    have hall : ∀ t, t < L → v t ∈ line := by
      intro t
      induction t with
      | zero => intro _; rw [hv0]; exact hB.s_mem
      | succ t ih =>
        intro ht
        exact (hd (v t) (ih (by omega)) _ (hb _ _ (hv t (by omega))).2 (hv t (by omega))).2.1
    have := hd (v (L - 1)) (hall _ (by omega)) (v (L - 1 + 1)) (hb _ _ (hv (L - 1) (by omega))).2 (hv (L - 1) (by omega))
    rw [show L - 1 + 1 = L by omega, hvL] at this
    exact this.1 rfl
  | some p =>
    obtain ⟨x, bef⟩ := p
    right
    obtain ⟨i, line, lev, hB, hP, hxs⟩ := h1 x bef ho
    have hx := List.mem_of_getElem? hP.at_
    obtain ⟨g1, g2, g3, g4, g5⟩ := back_ok hB 13 x (by have := hB.lev12 hx; omega) hx
    simp only
    refine ⟨⟨by omega, g3, ?_, fun m hm => ?_, g5, fun b hb' => ?_⟩, ?_⟩
    · rw [List.nodup_iff_pairwise_ne, List.pairwise_iff_getElem]
      intro a b ha hb' hab e
      have e1 := (g2 a _ (List.getElem?_eq_getElem ha)).2
      have e2 := (g2 b _ (List.getElem?_eq_getElem hb')).2
      rw [e, e2] at e1
      omega
    · obtain ⟨t, ht, he⟩ := List.getElem_of_mem hm
      exact hB.lt _ (g2 t m (by rw [List.getElem?_eq_getElem ht, he])).1
    · rw [g1, show lev x + 1 - 1 = lev x by omega, g4] at hb'
      injection hb' with hb'
      subst hb'
      exact hxs
    · rintro L ⟨hL, v, hv0, hvL, hv⟩
      rw [g1]
      rcases Nat.lt_or_ge L (lev x + 1) with hlt | hge
      · exfalso
        have hin : ∀ a ∈ line, lev a < lev x → ∃ j, j < i ∧ line[j]? = some a := by
          intro a ha hla
          obtain ⟨j, hj, he⟩ := List.getElem_of_mem ha
          have hje : line[j]? = some a := by rw [List.getElem?_eq_getElem hj, he]
          refine ⟨j, ?_, hje⟩
          rcases Nat.lt_or_ge j i with h | h
          · exact h
          · have := hB.mono i j x a h hP.at_ hje; omega
        have hall : ∀ t, t < L → v t ∈ line ∧ lev (v t) ≤ t := by
          intro t
          induction t with
          | zero => intro _; rw [hv0]; exact ⟨hB.s_mem, by rw [hB.l0]; omega⟩
          | succ t ih =>
            intro ht
            obtain ⟨k1, k2⟩ := ih (by omega)
            obtain ⟨j, hj, hje⟩ := hin (v t) k1 (by omega)
            have := hP.done j _ hj hje _ (hb _ _ (hv t (by omega))).2 (hv t (by omega))
            exact ⟨this.2.1, by omega⟩
        obtain ⟨k1, k2⟩ := hall (L - 1) (by omega)
        obtain ⟨j, hj, hje⟩ := hin (v (L - 1)) k1 (by omega)
        have := hP.done j _ hj hje _ (hb _ _ (hv (L - 1) (by omega))).2 (hv (L - 1) (by omega))
        rw [show L - 1 + 1 = L by omega, hvL] at this
        exact this.1 rfl
      · exact hge
/-- The first one of the shortest cycles. -/
def bestC (nx : Nat → Nat → Bool) : Nat → List Nat
  | 0 => []
  | k + 1 => if (cyc nx k).length ≠ 0 ∧ ((bestC nx k).length = 0 ∨ (cyc nx k).length < (bestC nx k).length) then cyc nx k else bestC nx k
theorem best_none {nx : Nat → Nat → Bool} : ∀ k, bestC nx k = [] ↔ ∀ m, m < k → cyc nx m = []
  | 0 => by simp [bestC]
  | k + 1 => by
    rw [bestC]
    split
    · rename_i h
      constructor
      · intro e; rw [e] at h; exact absurd rfl h.1
      · intro e; rw [e k (by omega)] at h; exact absurd rfl h.1
    · rename_i h
      rw [best_none k]
      constructor
      · intro hk m hm
        rcases Nat.lt_or_ge m k with hlt | hge
        · exact hk m hlt
        · obtain rfl : m = k := by omega
          have h0 := (best_none m).2 hk
          rcases Nat.eq_zero_or_pos (cyc nx m).length with hz | hp
          · exact List.length_eq_zero_iff.1 hz
          · exact absurd ⟨by omega, .inl (by rw [h0]; rfl)⟩ h
      · exact fun hk m hm => hk m (by omega)
theorem best_some {nx : Nat → Nat → Bool} : ∀ k, bestC nx k ≠ [] → ∃ m, m < k ∧ bestC nx k = cyc nx m ∧ (∀ j, j < m → cyc nx j = [] ∨ (bestC nx k).length < (cyc nx j).length) ∧ ∀ j, j < k → cyc nx j = [] ∨ (bestC nx k).length ≤ (cyc nx j).length
  | 0, h => absurd rfl h
  | k + 1, h => by
    rw [bestC] at h ⊢
    split at h
    · rename_i hc
      rw [if_pos hc]
      have hj : ∀ j, j < k → cyc nx j = [] ∨ (cyc nx k).length < (cyc nx j).length := by
        intro j hj
        by_cases h0 : bestC nx k = []
        · exact .inl ((best_none k).1 h0 j hj)
        · obtain ⟨m, _, _, _, h4⟩ := best_some k h0
          rcases h4 j hj with h5 | h5
          · exact .inl h5
          · rcases hc.2 with h6 | h6
            · exact absurd (List.length_eq_zero_iff.1 h6) h0
            · exact .inr (by omega)
      refine ⟨k, by omega, rfl, hj, fun j hj' => ?_⟩
      rcases Nat.lt_or_ge j k with hlt | hge
      · rcases hj j hlt with h5 | h5
        · exact .inl h5
        · exact .inr (by omega)
      · obtain rfl : j = k := by omega
        exact .inr (Nat.le_refl _)
    · rename_i hc
      rw [if_neg hc]
      obtain ⟨m, h1, h2, h3, h4⟩ := best_some k h
      refine ⟨m, by omega, h2, h3, fun j hj => ?_⟩
      rcases Nat.lt_or_ge j k with hlt | hge
      · exact h4 j hlt
      · obtain rfl : j = k := by omega
        rcases Nat.eq_zero_or_pos (cyc nx j).length with hz | hp
        · exact .inl (List.length_eq_zero_iff.1 hz)
        · right
          rcases Nat.lt_or_ge (cyc nx j).length (bestC nx j).length with hlt | hge2
          · exact absurd ⟨by omega, .inr hlt⟩ hc
          · exact hge2
/-- A cycle is a closed way from each of its messages. -/
theorem CycOf.cw {nx : Nat → Nat → Bool} {s : Nat} {r : List Nat} (h : CycOf nx s r) {i a : Nat} (ha : r[i]? = some a) : CW nx a r.length := by
  have hne := h.ne
  have hi := (List.getElem?_eq_some_iff.1 ha).1
  refine ⟨hne, fun t => r.getD ((i + t) % r.length) 0, ?_, ?_, fun t ht => ?_⟩
  · show r.getD ((i + 0) % r.length) 0 = a
    rw [Nat.add_zero, Nat.mod_eq_of_lt hi, List.getD_eq_getElem?_getD, ha]; rfl
  · show r.getD ((i + r.length) % r.length) 0 = a
    rw [Nat.add_mod_right, Nat.mod_eq_of_lt hi, List.getD_eq_getElem?_getD, ha]; rfl
  · show nx (r.getD ((i + t) % r.length) 0) (r.getD ((i + (t + 1)) % r.length) 0) = true
    have h1 : (i + t) % r.length < r.length := Nat.mod_lt _ hne
    have e1 : r[(i + t) % r.length]? = some (r.getD ((i + t) % r.length) 0) := by
      rw [List.getD_eq_getElem?_getD, List.getElem?_eq_getElem h1]; rfl
    rcases Nat.lt_or_ge ((i + t) % r.length + 1) r.length with hlt | hge
    · have e2 : (i + (t + 1)) % r.length = (i + t) % r.length + 1 := by
        rw [← Nat.add_assoc, Nat.add_mod, Nat.mod_eq_of_lt (show 1 < r.length by omega), Nat.mod_eq_of_lt hlt]
      rw [e2]
      refine h.st _ _ _ e1 ?_
      rw [List.getD_eq_getElem?_getD, List.getElem?_eq_getElem hlt]; rfl
    · have e3 : (i + t) % r.length = r.length - 1 := by omega
      have e2 : (i + (t + 1)) % r.length = 0 := by
        rw [← Nat.add_assoc, Nat.add_mod, e3]
        rcases Nat.lt_or_ge 1 r.length with h2 | h2
        · rw [Nat.mod_eq_of_lt h2, show r.length - 1 + 1 = r.length by omega, Nat.mod_self]
        · have : r.length = 1 := by omega
          rw [this]
      have e4 : r.getD ((i + (t + 1)) % r.length) 0 = s := by rw [e2, List.getD_eq_getElem?_getD, h.hd]; rfl
      rw [e4]
      exact h.cl _ (by rw [← e3]; exact e1)
/-- The shortest cycle that is found. -/
theorem best_law {nx : Nat → Nat → Bool} (hb : ∀ a b, nx a b = true → a < 12 ∧ b < 12) (hne : bestC nx 12 ≠ []) : ∃ s, s < 12 ∧ CycOf nx s (bestC nx 12) ∧ ∀ a ∈ bestC nx 12, s ≤ a := by
  obtain ⟨m, h1, h2, h3, _⟩ := best_some 12 hne
  rw [h2] at h3 hne ⊢
  rcases cyc_cases nx h1 hb with ⟨h, _⟩ | ⟨h, _⟩
  · exact absurd h hne
  · refine ⟨m, h1, h, fun a ha => ?_⟩
    rcases Nat.lt_or_ge a m with hlt | hge
    · exfalso
      obtain ⟨i, hi⟩ := List.getElem?_of_mem ha
      have hc := h.cw hi
      rcases cyc_cases nx (h.lt a ha) hb with ⟨_, h5⟩ | ⟨h5, h6⟩
      · exact h5 _ hc
      · have := h6 _ hc
        rcases h3 a hlt with h7 | h7
        · have := h5.ne; rw [h7] at this; simp at this
        · omega
    · exact hge
/-- Two of many messages are the same. -/
theorem pigeon (a : Nat → Nat) (n : Nat) (h : ∀ k, a k < n) : ∃ i j, i < j ∧ j ≤ n ∧ a i = a j := by
  rcases Decidable.em (((List.range (n + 1)).map a).Nodup) with hd | hd
  · have := nodup_lt_length n _ hd (fun x hx => by obtain ⟨k, _, rfl⟩ := List.mem_map.1 hx; exact h k)
    simp at this
    omega
  · rw [List.nodup_iff_pairwise_ne, List.pairwise_iff_getElem] at hd
    simp only [Classical.not_forall, Decidable.not_not] at hd
    obtain ⟨i, j, hi, hj, hij, he⟩ := hd
    simp at hi hj he
    exact ⟨i, j, hij, by omega, he⟩
/-- Either there is an order or a cycle. -/
theorem order_or_cycle {T : Nat → Bool} {nx : Nat → Nat → Bool} (hb : ∀ a b, nx a b = true → (a < 12 ∧ T a = true) ∧ b < 12 ∧ T b = true) : fullM T nx = true ↔ bestC nx 12 = [] := by
  have hb' : ∀ a b, nx a b = true → a < 12 ∧ b < 12 := fun a b h => ⟨(hb a b h).1.1, (hb a b h).2.1⟩
  constructor
  · intro hf
    rw [best_none]
    intro m hm
    rcases cyc_cases nx hm hb' with ⟨h, _⟩ | ⟨h, _⟩
    · exact h
    · exfalso
      obtain ⟨hL, v, hv0, hvL, hv⟩ := h.cw h.hd
      have hr : ∀ t, t ≤ (cyc nx m).length → (ordM T nx).idxOf (v 0) + t ≤ (ordM T nx).idxOf (v t) := by
        intro t
        induction t with
        | zero => intro _; omega
        | succ t ih =>
          intro ht
          have h1 := hv t (by omega)
          have h2 := hb _ _ h1
          have := full_rank hf h2.1.1 h2.2.1 h2.1.2 h2.2.2 h1
          have := ih (by omega)
          omega
      have := hr _ (Nat.le_refl _)
      rw [hv0, hvL] at this
      omega
  · intro hn
    rw [best_none] at hn
    have hno : ∀ m L, ¬ CW nx m L := by
      intro m L hc
      have hm : m < 12 := by
        obtain ⟨hL, v, hv0, _, hv⟩ := hc
        have := (hb' _ _ (hv 0 hL)).1
        rwa [hv0] at this
      rcases cyc_cases nx hm hb' with ⟨_, h⟩ | ⟨h, _⟩
      · exact h L hc
      · have := h.ne; rw [hn m hm] at this; simp at this
    rw [(ord_way T nx).full (ord_end T nx), Bool.not_eq_true', List.any_eq_false]
    intro j hj hl
    have hp : ∀ m : {m : Nat // m < 12 ∧ left T (ordM T nx) m = true}, ∃ l : {m : Nat // m < 12 ∧ left T (ordM T nx) m = true}, nx l.1 m.1 = true := by
      rintro ⟨m, h1, h2⟩
      rcases Classical.em (∃ l : {m : Nat // m < 12 ∧ left T (ordM T nx) m = true}, nx l.1 m = true) with h | h
      · exact h
      · exfalso
        have h3 : frM (left T (ordM T nx)) nx m = true := frM_iff.2 ⟨h2, fun l hl hT => by
          cases hn : nx l m
          · rfl
          · exact absurd ⟨⟨l, hl, hT⟩, hn⟩ h⟩
        rw [ord_end T nx m h1] at h3; cases h3
    let p : {m : Nat // m < 12 ∧ left T (ordM T nx) m = true} → {m : Nat // m < 12 ∧ left T (ordM T nx) m = true} := fun m => (hp m).choose
    have hpp : ∀ m, nx (p m).1 m.1 = true := fun m => (hp m).choose_spec
    let a : Nat → {m : Nat // m < 12 ∧ left T (ordM T nx) m = true} := fun k => Nat.rec ⟨j, List.mem_range.1 hj, hl⟩ (fun _ x => p x) k
    have ha : ∀ k, a (k + 1) = p (a k) := fun _ => rfl
    obtain ⟨x, y, hxy, _, he⟩ := pigeon (fun k => (a k).1) 12 (fun k => (a k).2.1)
    refine hno (a y).1 (y - x) ⟨by omega, fun t => (a (y - t)).1, rfl, ?_, fun t ht => ?_⟩
    · show (a (y - (y - x))).1 = (a y).1
      rw [show y - (y - x) = x by omega]; exact he
    · show nx (a (y - t)).1 (a (y - (t + 1))).1 = true
      rw [show y - t = (y - (t + 1)) + 1 by omega, ha]
      exact hpp _
end Go.Proofs.Ytfdgbbapbpflcaa
