/- The links of all messages in memory: a row of pointers, a block for each message. Told messages and steps of traces. -/
import Derived.Test.YtfdgbbapbpflcaaTr5
import Derived.Test.YtfdgbbapbpflcaaAppR
import Derived.Test.YtfdgbbapbpflcaaBfs
namespace Go.Proofs.Ytfdgbbapbpflcaa
open Go.RowKit
/-- A trace tells b right after a. -/
def stp : List Int → Int → Int → Bool
  | x :: y :: t, a, b => (x == a && y == b) || stp (y :: t) a b
  | [_], _, _ => false
  | [], _, _ => false
theorem stp_snoc2 (a b x y : Int) : ∀ l : List Int, stp (l ++ [x, y]) a b = (stp (l ++ [x]) a b || (x == a && y == b))
  | [] => by simp [stp]
  | [z] => by simp [stp]
  | z :: u :: l => by
    have ih := stp_snoc2 a b x y (u :: l)
    simp only [List.cons_append] at ih ⊢
    rw [stp, stp, ih, Bool.or_assoc]
theorem stp_one (x a b : Int) : stp [x] a b = false := rfl
theorem stp_take {t : List Int} {k : Nat} {x y : Int} (hx : t[k]? = some x) (hy : t[k + 1]? = some y) (a b : Int) : stp (t.take (k + 2)) a b = (stp (t.take (k + 1)) a b || (x == a && y == b)) := by
  rw [take_snoc hy, take_snoc hx, List.append_assoc, List.singleton_append, stp_snoc2]
theorem stp_take1 (t : List Int) (a b : Int) : stp (t.take 1) a b = false := by
  cases t <;> rfl
theorem stp_iff {a b : Int} : ∀ {t : List Int}, stp t a b = true ↔ ∃ k, t[k]? = some a ∧ t[k + 1]? = some b
  | [] => by simp [stp]
  | [x] => by simp [stp]
  | x :: y :: t => by
    rw [stp, Bool.or_eq_true, Bool.and_eq_true, beq_iff_eq, beq_iff_eq, stp_iff]
    constructor
    · rintro (⟨rfl, rfl⟩ | ⟨k, h1, h2⟩)
      · exact ⟨0, rfl, rfl⟩
      · exact ⟨k + 1, by simpa using h1, by simpa using h2⟩
    · rintro ⟨k, h1, h2⟩
      cases k with
      | zero => simp at h1 h2; exact .inl ⟨h1, h2⟩
      | succ k => exact .inr ⟨k, by simpa using h1, by simpa using h2⟩
def nextLL (xss : List (List Int)) (a b : Int) : Bool := xss.any fun t => stp t a b
def toldLL (xss : List (List Int)) (a : Int) : Bool := xss.any fun t => has t a
theorem nextLL_take {xss : List (List Int)} {k : Nat} {xs : List Int} (h : xss[k]? = some xs) (a b : Int) : nextLL (xss.take (k + 1)) a b = (nextLL (xss.take k) a b || stp xs a b) := by
  unfold nextLL; rw [take_snoc h, List.any_append]; simp
theorem toldLL_take {xss : List (List Int)} {k : Nat} {xs : List Int} (h : xss[k]? = some xs) (a : Int) : toldLL (xss.take (k + 1)) a = (toldLL (xss.take k) a || has xs a) := by
  unfold toldLL; rw [take_snoc h, List.any_append]; simp
def ptr (g : Nat) : Value := .pointer (some ⟨g, 0, none⟩)
def lkCells (g : Nat → Nat) (i : Nat) (t : Bool) (nx : Nat → Bool) : Array Value :=
  ((.int .i64 (i : Int) : Value) :: .bool t :: (List.range 12).map fun j => if nx j then ptr (g j) else .pointer none).toArray
section
variable {g : Nat → Nat} {i m : Nat} {t : Bool} {nx : Nat → Bool}
theorem lk_size : (lkCells g i t nx).size = 14 := by simp [lkCells]
theorem lk_0 : (lkCells g i t nx)[0]? = some (.int .i64 (i : Int)) := by simp [lkCells]
theorem lk_1 : (lkCells g i t nx)[1]? = some (.bool t) := by simp [lkCells]
theorem lk_2 (hm : m < 12) : (lkCells g i t nx)[2 + m]? = some (if nx m then ptr (g m) else .pointer none) := by
  rw [Nat.add_comm]
  simp [lkCells, hm]
theorem lk_out (hm : 12 ≤ m) : (lkCells g i t nx)[2 + m]? = none := by
  apply Array.getElem?_eq_none
  rw [lk_size]; omega
theorem lk_ext {a b : Array Value} (h0 : a[0]? = b[0]?) (h1 : a[1]? = b[1]?) (h2 : ∀ m, a[2 + m]? = b[2 + m]?) : a = b := by
  apply Array.ext_getElem?
  intro k
  match k with
  | 0 => exact h0
  | 1 => exact h1
  | k + 2 => rw [Nat.add_comm]; exact h2 k
theorem lk_set1 (t' : Bool) : (lkCells g i t nx).setIfInBounds 1 (.bool t') = lkCells g i t' nx := by
  refine lk_ext ?_ ?_ fun m => ?_
  · rw [Array.getElem?_setIfInBounds_ne (by omega), lk_0, lk_0]
  · rw [Array.getElem?_setIfInBounds, if_pos rfl, if_pos (by rw [lk_size]; omega), lk_1]
  · rw [Array.getElem?_setIfInBounds_ne (by omega)]
    rcases Nat.lt_or_ge m 12 with h | h
    · rw [lk_2 h, lk_2 h]
    · rw [lk_out h, lk_out h]
theorem lk_set2 (hm : m < 12) : (lkCells g i t nx).setIfInBounds (2 + m) (ptr (g m)) = lkCells g i t (fun j => nx j || j == m) := by
  refine lk_ext ?_ ?_ fun k => ?_
  · rw [Array.getElem?_setIfInBounds_ne (by omega), lk_0, lk_0]
  · rw [Array.getElem?_setIfInBounds_ne (by omega), lk_1, lk_1]
  · by_cases hk : k = m
    · subst hk
      rw [Array.getElem?_setIfInBounds, if_pos rfl, if_pos (by rw [lk_size]; omega), lk_2 hm]
      simp
    · rw [Array.getElem?_setIfInBounds_ne (by omega)]
      rcases Nat.lt_or_ge k 12 with h | h
      · rw [lk_2 h, lk_2 h]
        simp [hk]
      · rw [lk_out h, lk_out h]
theorem lk_congr {t' : Bool} {nx' : Nat → Bool} (ht : t = t') (hn : ∀ j, j < 12 → nx j = nx' j) : lkCells g i t nx = lkCells g i t' nx' := by
  subst ht
  refine lk_ext (by rw [lk_0, lk_0]) (by rw [lk_1, lk_1]) fun m => ?_
  rcases Nat.lt_or_ge m 12 with h | h
  · rw [lk_2 h, lk_2 h, hn m h]
  · rw [lk_out h, lk_out h]
theorem lk_no (g g' : Nat → Nat) (i : Nat) (t : Bool) : lkCells g i t (fun _ => false) = lkCells g' i t (fun _ => false) := by
  refine lk_ext (by rw [lk_0, lk_0]) (by rw [lk_1, lk_1]) fun m => ?_
  rcases Nat.lt_or_ge m 12 with h | h
  · rw [lk_2 h, lk_2 h]; rfl
  · rw [lk_out h, lk_out h]
end
/-- n links: their row, their blocks. -/
structure LK (w : World) (base : Nat) (A : Option Addr) (n c : Nat) (g : Nat → Nat) (T : Nat → Bool) (nx : Nat → Nat → Bool) : Prop where
  row : w.ownsRow base 50 1 (.slice A n c) n ((List.range n).map fun i => ptr (g i))
  blk : ∀ i, i < n → Blk w (g i) 53 (lkCells g i (T i) (nx i))
  inj : ∀ i j, i < n → j < n → g i = g j → i = j
  ge : ∀ i, i < n → base ≤ g i
section
variable {w w' : World} {base n c m : Nat} {A : Option Addr} {g : Nat → Nat} {T : Nat → Bool} {nx : Nat → Nat → Bool}
theorem LK.st (h : LK w base A n c g T nx) (s : St w w') : LK w' base A n c g T nx := ⟨own_below h.row s, fun i hi => (h.blk i hi).st s, h.inj, h.ge⟩
theorem LK.cap (h : LK w base A n c g T nx) : n ≤ c ∧ c ≤ maxLen := own_cap' h.row
theorem LK.at_ (h : LK w base A n c g T nx) (hm : m < n) : ∃ R, A = some ⟨R, 0, none⟩ ∧ base ≤ R ∧ R < w.heap.size ∧ w.cell? ⟨R, m, none⟩ = some (ptr (g m)) := by
  obtain ⟨R, cap, hv, hb, hlt⟩ := World.ownsRow.form h.row (by omega)
  injection hv with hv1 _ hv2
  subst hv1 hv2
  refine ⟨R, rfl, hb, hlt, ?_⟩
  rw [World.ownsRow.cellAt h.row m (by omega)]
  simp [hm]
theorem LK.c0 (h : LK w base A n c g T nx) (hm : m < n) : w.cell? ⟨g m, 0, none⟩ = some (.int .i64 (m : Int)) := (h.blk m hm).cell_ lk_0
theorem LK.c1 (h : LK w base A n c g T nx) (hm : m < n) : w.cell? ⟨g m, 1, none⟩ = some (.bool (T m)) := (h.blk m hm).cell_ lk_1
theorem LK.c2 (h : LK w base A n c g T nx) (hm : m < n) {j : Nat} (hj : j < 12) : w.cell? ⟨g m, 2 + j, none⟩ = some (if nx m j then ptr (g j) else .pointer none) := (h.blk m hm).cell_ (lk_2 hj)
theorem LK.fz (h : LK w base A n c g T nx) (hm : m < n) (i : Nat) : w.frozen? ⟨g m, i, none⟩ = false := (h.blk m hm).frozen i
theorem LK.row_ne (h : LK w base A n c g T nx) (hm : m < n) : blockOf A ≠ some (g m) := by
  rw [← ownBlock_slice A n c]
  exact own_blk_ne h.row (h.blk m hm) (by decide)
theorem LK.set_ (h : LK w base A n c g T nx) (hm : m < n) (k : Nat) (v : Value) {T' : Nat → Bool} {nx' : Nat → Nat → Bool} (hs : (lkCells g m (T m) (nx m)).setIfInBounds k v = lkCells g m (T' m) (nx' m))
    (ho : ∀ i, i < n → i ≠ m → T i = T' i ∧ ∀ j, j < 12 → nx i j = nx' i j) : LK (w.setCell ⟨g m, k, none⟩ v) base A n c g T' nx' := by
  have hg := World.grownBy_set w (g m) k v
  refine ⟨?_, fun i hi => ?_, h.inj, h.ge⟩
  · refine World.ownsRow.kept h.row hg ?_
    rw [ownBlock_slice]
    right
    exact h.row_ne hm
  · by_cases he : i = m
    · subst he
      have := (h.blk i hi).set_ k v
      rwa [hs] at this
    · have h1 := (h.blk i hi).far (p := ⟨g m, k, none⟩) (fun e => he (h.inj i m hi hm e)) v
      obtain ⟨h2, h3⟩ := ho i hi he
      rwa [lk_congr h2 h3] at h1
theorem LK.told (h : LK w base A n c g T nx) (hm : m < n) (b : Bool) : LK (w.setCell ⟨g m, 1, none⟩ (.bool b)) base A n c g (fun j => if j = m then b else T j) nx :=
  h.set_ hm 1 (.bool b) (by rw [lk_set1]; simp) fun i _ he => ⟨by simp [he], fun _ _ => rfl⟩
theorem LK.next (h : LK w base A n c g T nx) (hm : m < n) {j : Nat} (hj : j < 12) : LK (w.setCell ⟨g m, 2 + j, none⟩ (ptr (g j))) base A n c g T (fun a b => nx a b || (a == m && b == j)) :=
  h.set_ hm (2 + j) (ptr (g j)) (by rw [lk_set2 hj]; simp) fun i _ he => ⟨rfl, fun _ _ => by simp [he]⟩
theorem own_own_ne {w : World} {base base' : Nat} {e e' : TypeId} {size size' n n' c c' : Nat} {A A' : Option Addr} {xs xs' : List Value} (h : w.ownsRow base e size (.slice A n c) n xs) (h' : w.ownsRow base' e' size' (.slice A' n' c') n' xs') (hne : e ≠ e') : ∀ k, blockOf A = some k → blockOf A' ≠ some k := by
  intro k hk hk'
  rcases h.2 with ⟨h1, _⟩ | ⟨g, cap, cur, h1, _, h3, _⟩
  · injection h1 with h1; subst h1; cases hk
  · injection h1 with h1
    subst h1
    obtain rfl : g = k := by simpa [blockOf] using hk
    have := own_blk_ne (g := g) (t := e) h' h3 (fun e => hne e.symm)
    rw [ownBlock_slice] at this
    exact this hk'
theorem LK.grown (h : LK w base A n c g T nx) {row : Option Nat} (hg : w.grownBy w' row) (hr : ∀ k, row = some k → blockOf A ≠ some k ∧ ∀ i, i < n → g i ≠ k) : LK w' base A n c g T nx := by
  refine ⟨World.ownsRow.kept h.row hg ?_, fun i hi => (h.blk i hi).grown hg (fun e => (hr _ e.symm).2 i hi rfl), h.inj, h.ge⟩
  rw [ownBlock_slice]
  cases hA : blockOf A with
  | none => exact .inl rfl
  | some k => right; intro e; exact (hr k e.symm).1 hA
/-- A row of the call's own beside the links. -/
theorem LK.beside (h : LK w base A n c g T nx) {base' m' a : Nat} {X : Option Addr} {ys : List Int} (o : OI w base' 3 X m' a ys) (hg : w.grownBy w' (blockOf X)) : LK w' base A n c g T nx :=
  h.grown hg fun k hk => ⟨own_own_ne o h.row (by decide) k hk, fun i hi e => by
    have := own_blk_ne o (h.blk i hi) (by decide)
    rw [ownBlock_slice, hk, e] at this
    exact this rfl⟩
/-- The row beside the links stays where a link is written. -/
theorem LK.other (h : LK w base A n c g T nx) {base' m' a : Nat} {X : Option Addr} {ys : List Int} (o : OI w base' 3 X m' a ys) (hm : m < n) (i : Nat) (v : Value) : OI (w.setCell ⟨g m, i, none⟩ v) base' 3 X m' a ys :=
  o.grown (World.grownBy_set w (g m) i v) fun k hk hX => by
    injection hk with hk
    have := own_blk_ne o (h.blk m hm) (by decide)
    rw [ownBlock_slice, hX, hk] at this
    exact this rfl
theorem LK.congr (h : LK w base A n c g T nx) {T' : Nat → Bool} {nx' : Nat → Nat → Bool} (hT : ∀ i, i < n → T i = T' i) (hn : ∀ i j, i < n → j < 12 → nx i j = nx' i j) : LK w base A n c g T' nx' :=
  ⟨h.row, fun i hi => by have := h.blk i hi; rwa [lk_congr (hT i hi) (hn i · hi)] at this, h.inj, h.ge⟩
/-- A further link: its block was laid, its pointer was appended. -/
theorem LK.push {W W' : World} (h : LK W base A n c g (fun _ => false) (fun _ _ => false)) {b : Nat} {A' : Option Addr} {c' : Nat} (hb : Blk W b 53 (lkCells g n false (fun _ => false))) (hge : base ≤ b)
    (hnew : ∀ i, i < n → g i ≠ b) (hg : W.grownBy W' (blockOf A)) (hbA : blockOf A ≠ some b) (hr : W'.ownsRow base 50 1 (.slice A' (n + 1) c') (n + 1) (((List.range n).map fun i => ptr (g i)) ++ [ptr b])) :
    LK W' base A' (n + 1) c' (fun j => if j = n then b else g j) (fun _ => false) (fun _ _ => false) := by
  have hlt : ∀ i, i < n → (if i = n then b else g i) = g i := fun i hi => if_neg (by omega)
  refine ⟨?_, fun i hi => ?_, fun i j hi hj e => ?_, fun i hi => ?_⟩
  · have e : ((List.range (n + 1)).map fun i => ptr (if i = n then b else g i)) = ((List.range n).map fun i => ptr (g i)) ++ [ptr b] := by
      rw [List.range_succ, List.map_append]
      congr 1
      · refine List.map_congr_left fun i hi => ?_
        rw [hlt i (List.mem_range.1 hi)]
      · simp
    rw [e]; exact hr
  · by_cases he : i = n
    · subst he
      show Blk W' (if i = i then b else g i) 53 (lkCells (fun j => if j = i then b else g j) i false (fun _ => false))
      rw [if_pos rfl, lk_no _ g]
      exact hb.grown hg (fun e => hbA e.symm)
    · show Blk W' (if i = n then b else g i) 53 (lkCells (fun j => if j = n then b else g j) i false (fun _ => false))
      rw [if_neg he, lk_no _ g]
      exact (h.blk i (by omega)).grown hg (fun e => h.row_ne (by omega) e.symm)
  · by_cases h1 : i = n <;> by_cases h2 : j = n
    · omega
    · have e : (if i = n then b else g i) = (if j = n then b else g j) := e
      rw [if_pos h1, if_neg h2] at e; exact absurd e.symm (hnew j (by omega))
    · have e : (if i = n then b else g i) = (if j = n then b else g j) := e
      rw [if_neg h1, if_pos h2] at e; exact absurd e (hnew i (by omega))
    · have e : (if i = n then b else g i) = (if j = n then b else g j) := e
      rw [if_neg h1, if_neg h2] at e; exact h.inj i j (by omega) (by omega) e
  · show base ≤ (if i = n then b else g i)
    split
    · exact hge
    · exact h.ge i (by omega)
end
end Go.Proofs.Ytfdgbbapbpflcaa
