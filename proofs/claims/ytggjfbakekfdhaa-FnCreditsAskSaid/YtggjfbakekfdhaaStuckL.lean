/- Which senders are stuck: the plain law, without the program. -/
import Derived.Test.YtggjfbakekfdhaaCr7
namespace Go.Proofs.Ytggjfbakekfdhaa
open Go.RowKit

/-- Sender i does not wait, or waits for a group of one that is free. -/
inductive FreeP (hs : List (List Int × Int)) : Nat → Prop
  | idle {i : Nat} {h : List Int × Int} : hs[i]? = some h → h.2 < 0 → FreeP hs i
  | step {i k : Nat} {h g : List Int × Int} : hs[i]? = some h → hs[k]? = some g → FreeP hs k → has g.1 h.2 = true → FreeP hs i
def upd (f : Nat → Bool) (i : Nat) (b : Bool) : Nat → Bool := fun j => if j = i then b else f j
theorem upd_same (f : Nat → Bool) (i : Nat) : upd f i (f i) = f := by
  funext j; unfold upd; split
  · rename_i h; rw [h]
  · rfl
theorem upd_at (f : Nat → Bool) (i : Nat) (b : Bool) : upd f i b i = b := by simp [upd]
theorem upd_of (f : Nat → Bool) {i j : Nat} (b : Bool) (h : j ≠ i) : upd f i b j = f j := by simp [upd, h]
/-- How many are not free. -/
def cnt : Nat → (Nat → Bool) → Nat
  | 0, _ => 0
  | n + 1, f => cnt n f + (if f n then 0 else 1)
theorem cnt_far (n : Nat) (f : Nat → Bool) (i : Nat) (b : Bool) (h : n ≤ i) : cnt n (upd f i b) = cnt n f := by
  induction n with
  | zero => rfl
  | succ n ih => simp only [cnt]; rw [ih (by omega), upd_of f b (by omega)]
theorem cnt_upd : ∀ (n : Nat) (f : Nat → Bool) (i : Nat), i < n → f i = false → cnt n (upd f i true) + 1 = cnt n f
  | 0, _, _, h, _ => by omega
  | n + 1, f, i, h, hf => by
    simp only [cnt]
    by_cases hi : i = n
    · subst hi
      rw [cnt_far i f i true (Nat.le_refl _), upd_at, hf]
      simp
    · have := cnt_upd n f i (by omega) hf
      rw [upd_of f true (Ne.symm hi)]
      omega
theorem cnt_le (n : Nat) (f : Nat → Bool) : cnt n f ≤ n := by
  induction n with
  | zero => exact Nat.le_refl _
  | succ n ih => simp only [cnt]; split <;> omega
theorem cnt_zero : ∀ (n : Nat) (f : Nat → Bool), cnt n f = 0 → ∀ i, i < n → f i = true
  | 0, _, _, i, hi => by omega
  | n + 1, f, h, i, hi => by
    simp only [cnt] at h
    by_cases hin : i = n
    · subst hin
      cases hf : f i
      · rw [hf] at h; simp at h
      · rfl
    · exact cnt_zero n f (by omega) i (by omega)
def ClosedAt (hs : List (List Int × Int)) (f : Nat → Bool) (i k : Nat) : Prop := ∀ h g, hs[i]? = some h → hs[k]? = some g → f k = true → has g.1 h.2 = true → f i = true
def IdleAt (hs : List (List Int × Int)) (f : Nat → Bool) (i : Nat) : Prop := ∀ h, hs[i]? = some h → h.2 < 0 → f i = true
/-- Nothing is left to do. -/
def Done (hs : List (List Int × Int)) (f : Nat → Bool) : Prop := (∀ i, i < hs.length → IdleAt hs f i) ∧ ∀ i k, i < hs.length → k < hs.length → ClosedAt hs f i k
def Sound (hs : List (List Int × Int)) (f : Nat → Bool) : Prop := ∀ i, i < hs.length → f i = true → FreeP hs i
theorem Done.free {hs : List (List Int × Int)} {f : Nat → Bool} (h : Done hs f) {i : Nat} (hf : FreeP hs i) : f i = true := by
  induction hf with
  | idle h1 h2 => exact h.1 _ (List.getElem?_eq_some_iff.1 h1).1 _ h1 h2
  | step h1 h2 _ h4 ih => exact h.2 _ _ (List.getElem?_eq_some_iff.1 h1).1 (List.getElem?_eq_some_iff.1 h2).1 _ _ h1 h2 ih h4
/-- At the head of a round. -/
def Head (hs : List (List Int × Int)) (r : Nat) (f : Nat → Bool) : Prop := Sound hs f ∧ (cnt hs.length f + r ≤ hs.length ∨ Done hs f)
/-- Within a round that began at f0: sender i, all others below k seen. 'idle': whether the round looks at those that do not wait. -/
def Mid (hs : List (List Int × Int)) (f0 f : Nat → Bool) (i k : Nat) (idle : Nat) : Prop :=
  Sound hs f ∧ (cnt hs.length f < cnt hs.length f0 ∨ (f = f0 ∧ (∀ j, j < idle → IdleAt hs f0 j) ∧ (∀ i' k', i' < i → k' < hs.length → ClosedAt hs f0 i' k') ∧ ∀ k', k' < k → ClosedAt hs f0 i k'))
  ∧ (Done hs f0 → f = f0)
theorem Mid.start {hs : List (List Int × Int)} {r : Nat} {f : Nat → Bool} (h : Head hs r f) : Mid hs f f 0 0 0 :=
  ⟨h.1, .inr ⟨rfl, fun j hj => by omega, fun i' k' hi => by omega, fun k' hk => by omega⟩, fun _ => rfl⟩
theorem Mid.next {hs : List (List Int × Int)} {f0 f : Nat → Bool} {i a : Nat} (h : Mid hs f0 f i hs.length a) : Mid hs f0 f (i + 1) 0 a := by
  refine ⟨h.1, h.2.1.imp id fun ⟨h1, h0, h2, h3⟩ => ⟨h1, h0, fun i' k' hi hk => ?_, fun k' hk => by omega⟩, h.2.2⟩
  by_cases he : i' = i
  · subst he; exact h3 k' hk
  · exact h2 i' k' (by omega) hk
theorem Mid.end_ {hs : List (List Int × Int)} {r : Nat} {f0 f : Nat → Bool} (hh : Head hs r f0) (h : Mid hs f0 f hs.length 0 hs.length) : Head hs (r + 1) f := by
  refine ⟨h.1, ?_⟩
  rcases h.2.1 with h1 | ⟨h1, h0, h2, _⟩
  · rcases hh.2 with h3 | h3
    · left; omega
    · rw [h.2.2 h3] at h1; omega
  · right
    subst h1
    exact ⟨h0, fun i k hi hk => h2 i k hi hk⟩
/-- A sender that does not wait becomes free. -/
theorem Mid.idle {hs : List (List Int × Int)} {f0 f : Nat → Bool} {i : Nat} {h : List Int × Int} (hm : Mid hs f0 f i 0 i) (hi : hs[i]? = some h) : Mid hs f0 (upd f i (f i || decide (h.2 < 0))) i 0 (i + 1) := by
  have hl := (List.getElem?_eq_some_iff.1 hi).1
  by_cases hc : f i = false ∧ h.2 < 0
  · rw [hc.1, decide_eq_true hc.2, Bool.false_or]
    have h3 := cnt_upd hs.length f i hl hc.1
    refine ⟨fun j hj hf => ?_, .inl ?_, fun hd => ?_⟩
    · by_cases hji : j = i
      · subst hji; exact .idle hi hc.2
      · rw [upd_of f true hji] at hf; exact hm.1 j hj hf
    · rcases hm.2.1 with h1 | ⟨rfl, _⟩ <;> omega
    · have h4 := hm.2.2 hd
      subst h4
      have := hd.1 i hl h hi hc.2
      rw [hc.1] at this; cases this
  · have he : (f i || decide (h.2 < 0)) = f i := by
      cases hf : f i
      · rw [decide_eq_false (fun hx => hc ⟨hf, hx⟩)]; rfl
      · rfl
    rw [he, upd_same]
    refine ⟨hm.1, hm.2.1.imp id fun ⟨h1, h0, h2⟩ => ⟨h1, fun j hj => ?_, h2⟩, hm.2.2⟩
    by_cases hji : j = i
    · subst hji
      intro h' hh' hlt
      rw [hi] at hh'
      injection hh' with hh'
      subst hh'
      subst h1
      cases hf : f j
      · exact absurd ⟨hf, hlt⟩ hc
      · rfl
    · exact h0 j (by omega)
/-- Sender i looks at sender k. -/
theorem Mid.look {hs : List (List Int × Int)} {f0 f : Nat → Bool} {i k a : Nat} {h g : List Int × Int} (hm : Mid hs f0 f i k a) (hi : hs[i]? = some h) (hk : hs[k]? = some g) : Mid hs f0 (upd f i (f i || (f k && has g.1 h.2))) i (k + 1) a := by
  have hl := (List.getElem?_eq_some_iff.1 hi).1
  have hlk := (List.getElem?_eq_some_iff.1 hk).1
  by_cases hc : f i = false ∧ f k = true ∧ has g.1 h.2 = true
  · rw [hc.1, hc.2.1, hc.2.2, Bool.and_self, Bool.false_or]
    have h3 := cnt_upd hs.length f i hl hc.1
    refine ⟨fun j hj hf => ?_, .inl ?_, fun hd => ?_⟩
    · by_cases hji : j = i
      · subst hji; exact .step hi hk (hm.1 k hlk hc.2.1) hc.2.2
      · rw [upd_of f true hji] at hf; exact hm.1 j hj hf
    · rcases hm.2.1 with h1 | ⟨rfl, _⟩ <;> omega
    · have h4 := hm.2.2 hd
      subst h4
      have := hd.2 i k hl hlk h g hi hk hc.2.1 hc.2.2
      rw [hc.1] at this; cases this
  · have he : (f i || (f k && has g.1 h.2)) = f i := by
      cases hf : f i
      · cases hfk : f k
        · rfl
        · cases hh : has g.1 h.2
          · rfl
          · exact absurd ⟨hf, hfk, hh⟩ hc
      · rfl
    rw [he, upd_same]
    refine ⟨hm.1, hm.2.1.imp id fun ⟨h1, h0, h2, h3⟩ => ⟨h1, h0, h2, fun k' hk' => ?_⟩, hm.2.2⟩
    by_cases hki : k' = k
    · subst hki
      intro h' g' hh' hg' hfk hhas
      rw [hi] at hh'
      injection hh' with hh'
      subst hh'
      rw [hk] at hg'
      injection hg' with hg'
      subst hg'
      subst h1
      cases hf : f i
      · exact absurd ⟨hf, hfk, hhas⟩ hc
      · rfl
    · exact h3 k' (by omega)
open Classical in
/-- The stuck senders. -/
noncomputable def stuckOf (hs : List (List Int × Int)) : List Int := ((List.range hs.length).filter fun i => decide (¬ FreeP hs i)).map fun (i : Nat) => (i : Int)
/-- Those below k that are not free. -/
def notFree (f : Nat → Bool) (k : Nat) : List Int := ((List.range k).filter fun i => !f i).map fun (i : Nat) => (i : Int)
theorem notFree_yes {f : Nat → Bool} {k : Nat} (h : f k = true) : notFree f (k + 1) = notFree f k := by simp [notFree, List.range_succ, h]
theorem notFree_no {f : Nat → Bool} {k : Nat} (h : f k = false) : notFree f (k + 1) = notFree f k ++ [(k : Int)] := by simp [notFree, List.range_succ, h]
theorem notFree_len (f : Nat → Bool) (k : Nat) : (notFree f k).length ≤ k := by
  unfold notFree
  rw [List.length_map]
  have := List.length_filter_le (fun i => !f i) (List.range k)
  simpa using this
theorem notFree_stuck {hs : List (List Int × Int)} {f : Nat → Bool} (h1 : Sound hs f) (h2 : Done hs f) : notFree f hs.length = stuckOf hs := by
  unfold notFree stuckOf
  congr 1
  apply List.filter_congr
  intro i hi
  rw [List.mem_range] at hi
  cases hf : f i
  · have : ¬ FreeP hs i := fun hp => by rw [h2.free hp] at hf; cases hf
    simp [this]
  · have := h1 i hi hf
    simp [this]
/-- What CreditsStuck returns. -/
noncomputable def crStuck (fs : List Int) (hs : List (List Int × Int)) : List Int := if crValid fs hs then stuckOf hs else []
/-- The list of the bits that say 'not free'. -/
def bitsN (n : Nat) (f : Nat → Bool) : List Bool := (List.range n).map fun i => !f i
def bitsF (n : Nat) (f : Nat → Bool) : List Bool := (List.range n).map f
theorem bits_set (n : Nat) (g : Nat → Bool) (i : Nat) (b : Bool) : ((List.range n).map g).set i b = (List.range n).map (upd g i b) := by
  apply List.ext_getElem?
  intro j
  by_cases hji : j = i
  · subst hji
    by_cases hj : j < n
    · rw [List.getElem?_set_self (by simpa using hj)]
      simp [hj, upd]
    · rw [List.getElem?_eq_none (by simp; omega), List.getElem?_eq_none (by simp; omega)]
  · rw [List.getElem?_set_ne (fun e => hji e.symm)]
    by_cases hj : j < n
    · simp [hj, upd, hji]
    · rw [List.getElem?_eq_none (by simp; omega), List.getElem?_eq_none (by simp; omega)]
theorem bitsN_set (n : Nat) (f : Nat → Bool) (i : Nat) (b : Bool) : (bitsN n f).set i (!b) = bitsN n (upd f i b) := by
  unfold bitsN
  rw [bits_set]
  congr 1
  funext j
  unfold upd
  split <;> rfl
theorem bitsF_set (n : Nat) (f : Nat → Bool) (i : Nat) (b : Bool) : (bitsF n f).set i b = bitsF n (upd f i b) := bits_set n f i b
theorem bitsN_at {n : Nat} (f : Nat → Bool) {i : Nat} (h : i < n) : (bitsN n f)[i]? = some (!f i) := by simp [bitsN, h]
theorem bitsF_at {n : Nat} (f : Nat → Bool) {i : Nat} (h : i < n) : (bitsF n f)[i]? = some (f i) := by simp [bitsF, h]
/-- Who is free at the start. -/
def idleF (hs : List (List Int × Int)) : Nat → Bool := fun i => (hs.getD i ([], 0)).2 == -1
theorem idleF_at {hs : List (List Int × Int)} {i : Nat} {h : List Int × Int} (hi : hs[i]? = some h) : idleF hs i = (h.2 == -1) := by
  unfold idleF
  rw [List.getD_eq_getElem?_getD, hi]; rfl
theorem idle_head {fs : List Int} {hs : List (List Int × Int)} (_ : crValid fs hs = true) : Head hs 0 (idleF hs) := by
  refine ⟨fun i hi hf => ?_, .inl (by have := cnt_le hs.length (idleF hs); omega)⟩
  have hg : hs[i]? = some hs[i] := List.getElem?_eq_getElem hi
  rw [idleF_at hg, beq_iff_eq] at hf
  exact .idle hg (by omega)
theorem idle_all {fs : List Int} {hs : List (List Int × Int)} (hv : crValid fs hs = true) (i : Nat) : IdleAt hs (idleF hs) i := by
  intro h hi hlt
  rw [idleF_at hi]
  rcases crValid_wait hv hi with h1 | h1
  · simp [h1]
  · omega
theorem head_done {hs : List (List Int × Int)} {f : Nat → Bool} (h : Head hs hs.length f) (hid : ∀ i, i < hs.length → IdleAt hs f i) : Done hs f := by
  rcases h.2 with h1 | h1
  · have hz := cnt_zero hs.length f (by omega)
    exact ⟨hid, fun i k hi _ _ _ _ _ _ _ => hz i hi⟩
  · exact h1
theorem head_done' {hs : List (List Int × Int)} {f : Nat → Bool} (h : Head hs (hs.length + 1) f) : Done hs f := by
  rcases h.2 with h1 | h1
  · omega
  · exact h1
theorem Mid.start' {hs : List (List Int × Int)} {r : Nat} {f : Nat → Bool} (h : Head hs r f) (hi : ∀ i, IdleAt hs f i) : Mid hs f f 0 0 hs.length :=
  ⟨h.1, .inr ⟨rfl, fun j _ => hi j, fun i' k' hi => by omega, fun k' hk => by omega⟩, fun _ => rfl⟩
theorem idle_upd {hs : List (List Int × Int)} {f : Nat → Bool} (h : ∀ i, IdleAt hs f i) (j : Nat) (b : Bool) (hb : f j = true → b = true) : ∀ i, IdleAt hs (upd f j b) i := by
  intro i x hx hlt
  have := h i x hx hlt
  unfold upd
  split
  · rename_i he; subst he; exact hb this
  · exact this
theorem look_yes {hs : List (List Int × Int)} {f0 f : Nat → Bool} {i k a : Nat} {h g : List Int × Int} (hm : Mid hs f0 f i k a) (hi : hs[i]? = some h) (hk : hs[k]? = some g) (h1 : f i = true ∨ f k = false ∨ has g.1 h.2 = false) : Mid hs f0 f i (k + 1) a := by
  have h2 := hm.look hi hk
  have he : (f i || (f k && has g.1 h.2)) = f i := by
    rcases h1 with h1 | h1 | h1 <;> rw [h1] <;> simp
  rw [he, upd_same] at h2
  exact h2
theorem look_now {hs : List (List Int × Int)} {f0 f : Nat → Bool} {i k a : Nat} {h g : List Int × Int} (hm : Mid hs f0 f i k a) (hi : hs[i]? = some h) (hk : hs[k]? = some g) (h1 : f k = true) (h2 : has g.1 h.2 = true) : Mid hs f0 (upd f i true) i (k + 1) a := by
  have h3 := hm.look hi hk
  rw [h1, h2, Bool.and_self, Bool.or_true] at h3
  exact h3
end Go.Proofs.Ytggjfbakekfdhaa
