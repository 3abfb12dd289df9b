/- Plain: what asking and giving make of credits; who is stuck. No program here. -/
import Derived.Test.YtggjfbakekfdhaaStuckL
namespace Go.Proofs.Ytggjfbakekfdhaa
open Go.RowKit
theorem has_iff {xs : List Int} {x : Int} : has xs x = true ↔ x ∈ xs := by simp [has]
theorem has_false {xs : List Int} {x : Int} : has xs x = false ↔ x ∉ xs := by simp [has]
theorem asc_lt {xs : List Int} {n : Nat} (h : ascTo xs n = true) : ∀ (d i : Nat), i + d + 1 ≤ n → xs.getD i 0 < xs.getD (i + d + 1) 0
  | 0, i, hi => by
    simp only [ascTo, List.all_eq_true, List.mem_range, decide_eq_true_eq] at h
    exact h i (by omega)
  | d + 1, i, hi => by
    have h1 := asc_lt h d i (by omega)
    simp only [ascTo, List.all_eq_true, List.mem_range, decide_eq_true_eq] at h
    have h2 := h (i + d + 1) (by omega)
    have e : i + (d + 1) + 1 = i + d + 1 + 1 := by omega
    rw [e]
    omega
theorem gset_sorted {xs : List Int} (h : gset xs = true) : xs.Pairwise (· < ·) := by
  simp only [gset, Bool.and_eq_true, decide_eq_true_eq] at h
  rw [List.pairwise_iff_getElem]
  intro i j hi hj hij
  have := asc_lt h.2.1 (j - i - 1) i (by omega)
  rw [show i + (j - i - 1) + 1 = j by omega] at this
  simpa [List.getD_eq_getElem?_getD, hi, hj] using this
theorem gset_in {xs : List Int} (h : gset xs = true) {x : Int} (hx : x ∈ xs) : 0 ≤ x ∧ x ≤ 4 := by
  simp only [gset, Bool.and_eq_true, List.all_eq_true] at h
  exact inB_iff.1 (h.2.2 x hx)
theorem gset_of {xs : List Int} (h0 : xs ≠ []) (h1 : xs.Pairwise (· < ·)) (h2 : ∀ x ∈ xs, 0 ≤ x ∧ x ≤ 4) : gset xs = true := by
  simp only [gset, Bool.and_eq_true, decide_eq_true_eq, List.all_eq_true]
  refine ⟨by cases xs with | nil => exact absurd rfl h0 | cons a t => simp, ?_, fun x hx => inB_iff.2 (h2 x hx)⟩
  simp only [ascTo, List.all_eq_true, List.mem_range, decide_eq_true_eq]
  intro i hi
  have := List.pairwise_iff_getElem.1 h1 i (i + 1) (by omega) (by omega) (by omega)
  have e1 : i < xs.length := by omega
  have e2 : i + 1 < xs.length := by omega
  simpa [List.getD_eq_getElem?_getD, e1, e2] using this
/-- The accepted groups below k. -/
def pickedC (f : Int → Bool) (k : Nat) : List Int := ((List.range k).map fun (i : Nat) => (i : Int)).filter f
theorem pickedC_succ (f : Int → Bool) (k : Nat) : pickedC f (k + 1) = pickedC f k ++ (if f (k : Int) then [(k : Int)] else []) := by
  simp only [pickedC, List.range_succ, List.map_append, List.map_cons, List.map_nil, List.filter_append, List.filter_cons, List.filter_nil]
theorem pickedC_mem {f : Int → Bool} {k : Nat} {a : Int} : a ∈ pickedC f k ↔ (0 ≤ a ∧ a < k) ∧ f a = true := by
  simp only [pickedC, List.mem_filter, List.mem_map, List.mem_range]
  constructor
  · rintro ⟨⟨i, hi, rfl⟩, hf⟩
    exact ⟨⟨by omega, by omega⟩, hf⟩
  · rintro ⟨⟨h1, h2⟩, hf⟩
    exact ⟨⟨a.toNat, by omega, by omega⟩, hf⟩
theorem pickedC_sorted (f : Int → Bool) (k : Nat) : (pickedC f k).Pairwise (· < ·) := by
  unfold pickedC
  refine List.Pairwise.filter _ ?_
  rw [List.pairwise_map]
  exact List.pairwise_lt_range.imp fun h => by omega
theorem pickedC_le (f : Int → Bool) (k : Nat) : (pickedC f k).length ≤ k := by
  unfold pickedC
  have := List.length_filter_le f ((List.range k).map fun (i : Nat) => (i : Int))
  simpa using this
/-- A set with one group more. -/
def insC (xs : List Int) (g : Int) : List Int := pickedC (fun x => x == g || has xs x) 5
theorem insC_mem {xs : List Int} {g x : Int} : x ∈ insC xs g ↔ (0 ≤ x ∧ x ≤ 4) ∧ (x = g ∨ x ∈ xs) := by
  unfold insC
  rw [pickedC_mem]
  simp only [Bool.or_eq_true, beq_iff_eq, has_iff]
  constructor
  · rintro ⟨h, h'⟩; exact ⟨⟨h.1, by omega⟩, h'⟩
  · rintro ⟨h, h'⟩; exact ⟨⟨h.1, by omega⟩, h'⟩
theorem insC_le (xs : List Int) (g : Int) : (insC xs g).length ≤ 5 := pickedC_le _ _
theorem insC_gset (xs : List Int) {g : Int} (h : 0 ≤ g ∧ g ≤ 4) : gset (insC xs g) = true := by
  refine gset_of (fun h0 => ?_) (pickedC_sorted _ _) (fun x hx => (insC_mem.1 hx).1)
  have : g ∈ insC xs g := insC_mem.2 ⟨h, .inl rfl⟩
  rw [h0] at this
  simp at this
theorem insC_has (xs : List Int) {g : Int} (h : 0 ≤ g ∧ g ≤ 4) : has (insC xs g) g = true := has_iff.2 (insC_mem.2 ⟨h, .inl rfl⟩)
/-- Valid credits. -/
structure HoV (fs : List Int) (h : List Int × Int) : Prop where
  se : h.1 = [] ∨ gset h.1 = true
  wa : h.2 = -1 ∨ ((0 ≤ h.2 ∧ h.2 ≤ 4) ∧ fs.getD h.2.toNat 0 ≤ 0 ∧ has h.1 h.2 = false)
structure CrV (fs : List Int) (hs : List (List Int × Int)) : Prop where
  f5 : fs.length = 5
  fr : ∀ x ∈ fs, 0 ≤ x ∧ x ≤ 9
  h1 : 1 ≤ hs.length
  h6 : hs.length ≤ 6
  ho : ∀ h ∈ hs, HoV fs h
theorem holdOk_iff {fs : List Int} {h : List Int × Int} : holdOk fs h = true ↔ HoV fs h := by
  simp only [holdOk, waitOk, Bool.and_eq_true, Bool.or_eq_true, decide_eq_true_eq, beq_iff_eq, inB_iff, Bool.not_eq_true', List.length_eq_zero_iff]
  exact ⟨fun ⟨a, b⟩ => ⟨a, b⟩, fun ⟨a, b⟩ => ⟨a, b⟩⟩
theorem crValid_iff {fs : List Int} {hs : List (List Int × Int)} : crValid fs hs = true ↔ CrV fs hs := by
  simp only [crValid, freeOk, Bool.and_eq_true, decide_eq_true_eq, List.all_eq_true, inB_iff]
  constructor
  · rintro ⟨⟨h1, h2⟩, h3, h4⟩
    exact ⟨h1, h2, by omega, by omega, fun h hh => holdOk_iff.1 (h4 h hh)⟩
  · rintro ⟨h1, h2, h3, h4, h5⟩
    exact ⟨⟨h1, h2⟩, by omega, fun h hh => holdOk_iff.2 (h5 h hh)⟩
section
variable {fs : List Int} {hs : List (List Int × Int)}
theorem CrV.at_ (v : CrV fs hs) {k : Nat} {h : List Int × Int} (hk : hs[k]? = some h) : HoV fs h := v.ho h (List.mem_of_getElem? hk)
theorem HoV.len {h : List Int × Int} (v : HoV fs h) : h.1.length ≤ 5 := by
  rcases v.se with e | e
  · rw [e]; simp
  · have hp := gset_sorted e
    have : h.1.length ≤ (pickedC (fun x => has h.1 x) 5).length := by
      refine List.Nodup.length_le_of_subset (hp.imp fun h => by omega) fun x hx => ?_
      have := gset_in e hx
      exact pickedC_mem.2 ⟨⟨this.1, by omega⟩, has_iff.2 hx⟩
    have := pickedC_le (fun x => has h.1 x) 5
    omega
theorem HoV.in_ {h : List Int × Int} (v : HoV fs h) {x : Int} (hx : x ∈ h.1) : 0 ≤ x ∧ x ≤ 4 := by
  rcases v.se with e | e
  · rw [e] at hx; simp at hx
  · exact gset_in e hx
theorem HoV.sorted {h : List Int × Int} (v : HoV fs h) : h.1.Pairwise (· < ·) := by
  rcases v.se with e | e
  · rw [e]; simp
  · exact gset_sorted e
theorem HoV.wait {h : List Int × Int} (v : HoV fs h) : -1 ≤ h.2 ∧ h.2 ≤ 4 := by rcases v.wa with e | e <;> omega
theorem CrV.free (v : CrV fs hs) {g : Int} (hg : 0 ≤ g ∧ g ≤ 4) : ∃ x, fs[g.toNat]? = some x ∧ fs.getD g.toNat 0 = x ∧ 0 ≤ x ∧ x ≤ 9 := by
  have hl := v.f5
  have hlt : g.toNat < fs.length := by omega
  have he : fs[g.toNat]? = some fs[g.toNat] := List.getElem?_eq_getElem hlt
  have := v.fr _ (List.mem_of_getElem? he)
  exact ⟨_, he, by simp [List.getD_eq_getElem?_getD, he], this.1, this.2⟩
theorem CrV.set (v : CrV fs hs) (k : Nat) {x : List Int × Int} (hx : HoV fs x) : CrV fs (hs.set k x) := by
  refine ⟨v.f5, v.fr, by rw [List.length_set]; exact v.h1, by rw [List.length_set]; exact v.h6, fun h hh => ?_⟩
  rcases List.mem_or_eq_of_mem_set hh with hh | rfl
  · exact v.ho h hh
  · exact hx
theorem HoV.none_ {xs : List Int} (h : xs = [] ∨ gset xs = true) : HoV fs (xs, -1) := ⟨h, .inl rfl⟩
theorem getD_set_ne (fs : List Int) {i j : Nat} (h : i ≠ j) (x : Int) : (fs.set i x).getD j 0 = fs.getD j 0 := by
  simp [List.getD_eq_getElem?_getD, List.getElem?_set_ne h]
theorem CrV.freeSet (v : CrV fs hs) {g x : Int} (hg : 0 ≤ g ∧ g ≤ 4) (hx : 0 ≤ x ∧ x ≤ 9) (hno : ∀ h ∈ hs, h.2 ≠ g) : CrV (fs.set g.toNat x) hs := by
  refine ⟨by rw [List.length_set]; exact v.f5, fun y hy => ?_, v.h1, v.h6, fun h hh => ⟨(v.ho h hh).se, ?_⟩⟩
  · rcases List.mem_or_eq_of_mem_set hy with hy | rfl
    · exact v.fr y hy
    · exact hx
  · rcases (v.ho h hh).wa with e | ⟨e1, e2, e3⟩
    · exact .inl e
    · have hne : g.toNat ≠ h.2.toNat := by have := hno h hh; omega
      exact .inr ⟨e1, by rw [getD_set_ne fs hne]; exact e2, e3⟩
theorem CrV.nowait (v : CrV fs hs) {g : Int} (hg : 0 ≤ g ∧ g ≤ 4) (h : 0 < fs.getD g.toNat 0) : ∀ x ∈ hs, x.2 ≠ g := by
  intro x hx e
  rcases (v.ho x hx).wa with h1 | ⟨h1, h2, h3⟩
  · omega
  · rw [e] at h2; omega
end
def holdAt (hs : List (List Int × Int)) (s : Int) : List Int × Int := hs.getD s.toNat ([], 0)
theorem holdAt_of {hs : List (List Int × Int)} {s : Nat} {h : List Int × Int} (hk : hs[s]? = some h) : holdAt hs s = h := by
  simp [holdAt, List.getD_eq_getElem?_getD, hk]
/-- Asking. -/
def askOk (fs : List Int) (hs : List (List Int × Int)) (s g : Int) : Bool := crValid fs hs && (inB s 0 ((hs.length : Int) - 1) && inB g 0 4)
def askBad (hs : List (List Int × Int)) (s g : Int) : Bool := decide (0 ≤ (holdAt hs s).2) || has (holdAt hs s).1 g
def takeC (fs : List Int) (hs : List (List Int × Int)) (k : Nat) (g : Int) : List Int × List (List Int × Int) := (fs.set g.toNat (fs.getD g.toNat 0 - 1), hs.set k (insC (holdAt hs k).1 g, -1))
def askS (fs : List Int) (hs : List (List Int × Int)) (s g : Int) : List Int × List (List Int × Int) :=
  if askBad hs s g then (fs, hs) else if 0 < fs.getD g.toNat 0 then takeC fs hs s.toNat g else (fs, hs.set s.toNat ((holdAt hs s).1, g))
def askM (fs : List Int) (hs : List (List Int × Int)) (s g : Int) : List Int × List (List Int × Int) := if askOk fs hs s g then askS fs hs s g else ([], [])
def askB (fs : List Int) (hs : List (List Int × Int)) (s g : Int) : Bool := askOk fs hs s g && !askBad hs s g
theorem askOk_iff {fs : List Int} {hs : List (List Int × Int)} {s g : Int} : askOk fs hs s g = true ↔ CrV fs hs ∧ (∃ k h, s = (k : Nat) ∧ hs[k]? = some h) ∧ 0 ≤ g ∧ g ≤ 4 := by
  simp only [askOk, Bool.and_eq_true, crValid_iff, inB_iff]
  constructor
  · rintro ⟨v, ⟨h1, h2⟩, h3⟩
    exact ⟨v, ⟨s.toNat, hs[s.toNat]'(by omega), by omega, List.getElem?_eq_getElem (by omega)⟩, h3⟩
  · rintro ⟨v, ⟨k, h, rfl, hk⟩, h3⟩
    have := (List.getElem?_eq_some_iff.1 hk).1
    exact ⟨v, ⟨by omega, by omega⟩, h3⟩
theorem ask_valid {fs : List Int} {hs : List (List Int × Int)} {s g : Int} (h : askOk fs hs s g = true) : CrV (askM fs hs s g).1 (askM fs hs s g).2 := by
  obtain ⟨v, ⟨k, x, rfl, hk⟩, hg⟩ := askOk_iff.1 h
  unfold askM
  rw [if_pos h]
  unfold askS
  have hx := v.at_ hk
  obtain ⟨f, hf1, hf2, hf3, hf4⟩ := v.free hg
  split
  · exact v
  · rename_i hb
    rw [askBad, Bool.or_eq_true, not_or, holdAt_of hk] at hb
    obtain ⟨hb1, hb2⟩ := hb
    rw [decide_eq_true_eq] at hb1
    rw [Bool.not_eq_true] at hb2
    split
    · rename_i hp
      exact (v.freeSet hg (by omega) (v.nowait hg hp)).set _ (.none_ (.inr (insC_gset _ hg)))
    · rename_i hp
      rw [holdAt_of hk]
      exact v.set _ ⟨hx.se, .inr ⟨hg, Int.not_lt.1 hp, hb2⟩⟩
/-- Serving the first sender that waits. -/
def waitIdx (hs : List (List Int × Int)) (g : Int) : Option Nat := hs.findIdx? fun h => h.2 == g
def serve (c : List Int × List (List Int × Int)) (g : Int) : List Int × List (List Int × Int) := match waitIdx c.2 g with
  | none => (c.1.set g.toNat (c.1.getD g.toNat 0 + 1), c.2)
  | some k => (c.1, c.2.set k (insC (holdAt c.2 k).1 g, -1))
theorem wait_none {hs : List (List Int × Int)} {g : Int} : waitIdx hs g = none ↔ ∀ h ∈ hs, h.2 ≠ g := by
  unfold waitIdx
  rw [List.findIdx?_eq_none_iff]
  exact ⟨fun h x hx e => by have := h x hx; simp [e] at this, fun h x hx => by simpa using h x hx⟩
theorem wait_some {hs : List (List Int × Int)} {g : Int} {k : Nat} : waitIdx hs g = some k ↔ ∃ h, hs[k]? = some h ∧ h.2 = g ∧ ∀ x ∈ hs.take k, x.2 ≠ g := by
  unfold waitIdx
  rw [List.findIdx?_eq_some_iff_getElem]
  constructor
  · rintro ⟨hlt, h1, h2⟩
    refine ⟨_, List.getElem?_eq_getElem hlt, by simpa using h1, fun x hx e => ?_⟩
    obtain ⟨j, hj⟩ := List.getElem?_of_mem hx
    rw [List.getElem?_take] at hj
    split at hj
    · rename_i hjk
      obtain ⟨hj1, hj2⟩ := List.getElem?_eq_some_iff.1 hj
      have := h2 j hjk
      rw [hj2] at this
      simp [e] at this
    · cases hj
  · rintro ⟨h, hk, h1, h2⟩
    obtain ⟨hlt, he⟩ := List.getElem?_eq_some_iff.1 hk
    refine ⟨hlt, by rw [he]; simpa using h1, fun j hj => ?_⟩
    have hjl : j < hs.length := by omega
    have := h2 hs[j] (List.mem_of_getElem? (i := j) (by rw [List.getElem?_take, if_pos hj]; exact List.getElem?_eq_getElem hjl))
    simpa using this
theorem serve_valid {fs : List Int} {hs : List (List Int × Int)} (v : CrV fs hs) {g : Int} (hg : 0 ≤ g ∧ g ≤ 4) (h8 : fs.getD g.toNat 0 ≤ 8) :
    CrV (serve (fs, hs) g).1 (serve (fs, hs) g).2 ∧ (serve (fs, hs) g).2.length = hs.length ∧ ∀ g', 0 ≤ g' → g' ≠ g → (serve (fs, hs) g).1.getD g'.toNat 0 = fs.getD g'.toNat 0 := by
  obtain ⟨f, hf1, hf2, hf3, hf4⟩ := v.free hg
  unfold serve
  cases hw : waitIdx hs g with
  | none =>
    exact ⟨v.freeSet hg (show 0 ≤ fs.getD g.toNat 0 + 1 ∧ fs.getD g.toNat 0 + 1 ≤ 9 by omega) (wait_none.1 hw), rfl, fun g' h1 h2 => getD_set_ne fs (by omega) _⟩
  | some k =>
    exact ⟨v.set _ (.none_ (.inr (insC_gset _ hg))), by simp, fun g' _ _ => rfl⟩
def giveOk (fs : List Int) (hs : List (List Int × Int)) (s : Int) : Bool := crValid fs hs && inB s 0 ((hs.length : Int) - 1)
def giveIdle (hs : List (List Int × Int)) (s : Int) : Bool := decide (0 ≤ (holdAt hs s).2) || decide ((holdAt hs s).1.length = 0)
def giveFull (fs : List Int) (hs : List (List Int × Int)) (s : Int) : Bool := (holdAt hs s).1.any fun g => decide (9 ≤ fs.getD g.toNat 0)
def giveS (fs : List Int) (hs : List (List Int × Int)) (s : Int) : List Int × List (List Int × Int) :=
  if giveIdle hs s || giveFull fs hs s then (fs, hs) else (holdAt hs s).1.foldl serve (fs, hs.set s.toNat ([], -1))
def giveM (fs : List Int) (hs : List (List Int × Int)) (s : Int) : List Int × List (List Int × Int) := if giveOk fs hs s then giveS fs hs s else ([], [])
def giveB (fs : List Int) (hs : List (List Int × Int)) (s : Int) : Bool := giveOk fs hs s && !(giveIdle hs s || giveFull fs hs s)
theorem giveOk_iff {fs : List Int} {hs : List (List Int × Int)} {s : Int} : giveOk fs hs s = true ↔ CrV fs hs ∧ ∃ k h, s = (k : Nat) ∧ hs[k]? = some h := by
  simp only [giveOk, Bool.and_eq_true, crValid_iff, inB_iff]
  constructor
  · rintro ⟨v, h1, h2⟩
    exact ⟨v, s.toNat, hs[s.toNat]'(by omega), by omega, List.getElem?_eq_getElem (by omega)⟩
  · rintro ⟨v, k, h, rfl, hk⟩
    have := (List.getElem?_eq_some_iff.1 hk).1
    exact ⟨v, by omega, by omega⟩
/-- What holds while the groups are served one by one. -/
theorem serve_all : ∀ (gs : List Int) {fs : List Int} {hs : List (List Int × Int)}, CrV fs hs → gs.Pairwise (· < ·) → (∀ g ∈ gs, (0 ≤ g ∧ g ≤ 4) ∧ fs.getD g.toNat 0 ≤ 8) →
    CrV (gs.foldl serve (fs, hs)).1 (gs.foldl serve (fs, hs)).2 ∧ (gs.foldl serve (fs, hs)).2.length = hs.length
  | [], _, _, v, _, _ => ⟨v, rfl⟩
  | g :: gs, fs, hs, v, hp, hg => by
    rw [List.pairwise_cons] at hp
    have h0 := hg g (by simp)
    obtain ⟨h1, h2, h3⟩ := serve_valid v h0.1 h0.2
    have := serve_all gs h1 hp.2 (fun g' hg' => ⟨(hg g' (by simp [hg'])).1, by
      have h4 := hp.1 g' hg'
      have h5 := hg g' (by simp [hg'])
      rw [h3 g' h5.1.1 (by omega)]
      exact h5.2⟩)
    rw [List.foldl_cons]
    exact ⟨this.1, this.2.trans h2⟩
/-- The state before the k-th group is served. -/
theorem serve_at {gs : List Int} {fs : List Int} {hs : List (List Int × Int)} (v : CrV fs hs) (hp : gs.Pairwise (· < ·)) (hg : ∀ g ∈ gs, (0 ≤ g ∧ g ≤ 4) ∧ fs.getD g.toNat 0 ≤ 8) {k : Nat} {g : Int} (hk : gs[k]? = some g) :
    (gs.take (k + 1)).foldl serve (fs, hs) = serve ((gs.take k).foldl serve (fs, hs)) g ∧ CrV ((gs.take k).foldl serve (fs, hs)).1 ((gs.take k).foldl serve (fs, hs)).2 ∧ ((gs.take k).foldl serve (fs, hs)).1.getD g.toNat 0 ≤ 8 ∧ (0 ≤ g ∧ g ≤ 4) := by
  have hgm := hg g (List.mem_of_getElem? hk)
  refine ⟨by rw [take_snoc hk, List.foldl_append]; rfl, (serve_all (gs.take k) v (hp.sublist (List.take_sublist _ _)) fun x hx => hg x (List.mem_of_mem_take hx)).1, ?_, hgm.1⟩
  have hlt : ∀ x ∈ gs.take k, x < g := by
    intro x hx
    have h1 : (gs.take (k + 1)).Pairwise (· < ·) := hp.sublist (List.take_sublist _ _)
    rw [take_snoc hk, List.pairwise_append] at h1
    exact h1.2.2 x hx g (by simp)
  have key : ∀ (l : List Int) (fs' : List Int) (hs' : List (List Int × Int)), CrV fs' hs' → l.Pairwise (· < ·) → (∀ x ∈ l, (0 ≤ x ∧ x ≤ 4) ∧ fs'.getD x.toNat 0 ≤ 8) → (∀ x ∈ l, x < g) → (l.foldl serve (fs', hs')).1.getD g.toNat 0 = fs'.getD g.toNat 0 := by
    intro l
    induction l with
    | nil => intro fs' hs' _ _ _ _; rfl
    | cons x l ih =>
      intro fs' hs' v' hp' hg' hl'
      rw [List.pairwise_cons] at hp'
      have h0 := hg' x (by simp)
      obtain ⟨h1, h2, h3⟩ := serve_valid v' h0.1 h0.2
      rw [List.foldl_cons]
      have := ih (serve (fs', hs') x).1 (serve (fs', hs') x).2 h1 hp'.2 (fun y hy => ⟨(hg' y (by simp [hy])).1, by
        have h4 := hp'.1 y hy
        have h5 := hg' y (by simp [hy])
        rw [h3 y h5.1.1 (by omega)]
        exact h5.2⟩) (fun y hy => hl' y (by simp [hy]))
      rw [this]
      exact h3 g hgm.1.1 (by have := hl' x (by simp); omega)
  rw [key (gs.take k) fs hs v (hp.sublist (List.take_sublist _ _)) (fun x hx => hg x (List.mem_of_mem_take hx)) hlt]
  exact hgm.2
theorem give_start {fs : List Int} {hs : List (List Int × Int)} {k : Nat} {h : List Int × Int} (v : CrV fs hs) (hk : hs[k]? = some h) (hf : giveFull fs hs k = false) :
    CrV fs (hs.set k ([], -1)) ∧ h.1.Pairwise (· < ·) ∧ ∀ g ∈ h.1, (0 ≤ g ∧ g ≤ 4) ∧ fs.getD g.toNat 0 ≤ 8 := by
  refine ⟨v.set _ (.none_ (.inl rfl)), (v.at_ hk).sorted, fun g hg => ⟨(v.at_ hk).in_ hg, ?_⟩⟩
  rw [giveFull, holdAt_of hk, List.any_eq_false] at hf
  have := hf g hg
  simp at this
  simp only [List.getD_eq_getElem?_getD]
  omega
theorem give_valid {fs : List Int} {hs : List (List Int × Int)} {s : Int} (h : giveOk fs hs s = true) : CrV (giveM fs hs s).1 (giveM fs hs s).2 := by
  obtain ⟨v, k, x, rfl, hk⟩ := giveOk_iff.1 h
  unfold giveM
  rw [if_pos h]
  unfold giveS
  split
  · exact v
  · rename_i hb
    simp only [Bool.or_eq_true, not_or, Bool.not_eq_true] at hb
    obtain ⟨h1, h2, h3⟩ := give_start v hk hb.2
    rw [holdAt_of hk]
    exact (serve_all x.1 h1 h2 h3).1
/-- Who is stuck. -/
theorem stuck_mem {hs : List (List Int × Int)} {k : Nat} (hk : k < hs.length) : has (stuckOf hs) (k : Int) = true ↔ ¬ FreeP hs k := by
  rw [has_iff]
  simp only [stuckOf, List.mem_map, List.mem_filter, List.mem_range, decide_eq_true_eq]
  constructor
  · rintro ⟨i, ⟨h1, h2⟩, h3⟩
    obtain rfl : i = k := by omega
    exact h2
  · intro h
    exact ⟨k, ⟨hk, h⟩, rfl⟩
theorem free_iff {hs : List (List Int × Int)} {i : Nat} {h : List Int × Int} (hi : hs[i]? = some h) : FreeP hs i ↔ h.2 < 0 ∨ ∃ (k : Nat) (g : List Int × Int), hs[k]? = some g ∧ has g.1 h.2 = true ∧ FreeP hs k := by
  constructor
  · intro hf
    cases hf with
    | idle h1 h2 => rw [hi] at h1; injection h1 with h1; subst h1; exact .inl h2
    | step h1 h2 h3 h4 => rw [hi] at h1; injection h1 with h1; subst h1; exact .inr ⟨_, _, h2, h4, h3⟩
  · rintro (h1 | ⟨k, g, h2, h3, h4⟩)
    · exact .idle hi h1
    · exact .step hi h2 h4 h3
/-- In ordered credits nobody waits for a smaller group. -/
theorem ord_less {fs : List Int} {hs : List (List Int × Int)} (h : crOrd fs hs = true) {i : Nat} {x : List Int × Int} (hi : hs[i]? = some x) (hw : 0 ≤ x.2) {g : Int} (hg : g ∈ x.1) : g < x.2 := by
  simp only [crOrd, Bool.and_eq_true, List.all_eq_true] at h
  have v := crValid_iff.1 h.1
  have ho := h.2 x (List.mem_of_getElem? hi)
  have hx := v.at_ hi
  have hn : has x.1 x.2 = false := by rcases hx.wa with e | e
                                      · omega
                                      · exact e.2.2
  have hne : g ≠ x.2 := fun e => has_false.1 hn (e ▸ hg)
  have hpos : 0 < x.1.length := List.length_pos_of_mem hg
  simp only [ordOk, Bool.not_eq_true', Bool.and_eq_false_iff, decide_eq_false_iff_not] at ho
  have hl : x.1.getD (x.1.length - 1) 0 ≤ x.2 := by
    rcases ho with h1 | h1 | h1
    · exact absurd hw h1
    · exact absurd hpos h1
    · omega
  obtain ⟨j, hj, rfl⟩ := List.getElem_of_mem hg
  have hle : x.1[j] ≤ x.1.getD (x.1.length - 1) 0 := by
    have e1 : x.1.getD (x.1.length - 1) 0 = x.1[x.1.length - 1] := by
      simp [List.getD_eq_getElem?_getD, List.getElem?_eq_getElem (show x.1.length - 1 < x.1.length by omega)]
    rw [e1]
    by_cases hjl : j = x.1.length - 1
    · subst hjl; omega
    · have := List.pairwise_iff_getElem.1 hx.sorted j (x.1.length - 1) hj (by omega) (by omega)
      omega
  omega
/-- With an order nobody is stuck. -/
theorem ord_never {fs : List Int} {hs : List (List Int × Int)} (h : crOrd fs hs = true) (hall : ∀ (i : Nat) (x : List Int × Int), hs[i]? = some x → x.2 < 0 ∨ ∃ (k : Nat) (g : List Int × Int), hs[k]? = some g ∧ has g.1 x.2 = true) : stuckOf hs = [] := by
  have v : CrV fs hs := by simp only [crOrd, Bool.and_eq_true] at h; exact crValid_iff.1 h.1
  have key : ∀ (d : Nat) (i : Nat) (x : List Int × Int), hs[i]? = some x → 4 - x.2 ≤ d → FreeP hs i := by
    intro d
    induction d with
    | zero =>
      intro i x hi hd
      rcases hall i x hi with h1 | ⟨k, g, h2, h3⟩
      · exact .idle hi h1
      · have hx := (v.at_ hi).wait
        by_cases hg : g.2 < 0
        · exact .step hi h2 (.idle h2 hg) h3
        · have := ord_less h h2 (by omega) (has_iff.1 h3)
          have := (v.at_ h2).wait
          omega
    | succ d ih =>
      intro i x hi hd
      rcases hall i x hi with h1 | ⟨k, g, h2, h3⟩
      · exact .idle hi h1
      · by_cases hg : g.2 < 0
        · exact .step hi h2 (.idle h2 hg) h3
        · have := ord_less h h2 (by omega) (has_iff.1 h3)
          exact .step hi h2 (ih k g h2 (by omega)) h3
  unfold stuckOf
  rw [List.map_eq_nil_iff, List.filter_eq_nil_iff]
  intro i hi
  rw [List.mem_range] at hi
  have he : hs[i]? = some hs[i] := List.getElem?_eq_getElem hi
  have hw := (v.at_ he).wait
  have := key 5 i _ he (by omega)
  simp [this]
end Go.Proofs.Ytggjfbakekfdhaa
