/-
  Plain lemmas on memory and on lists that the walks of this seat use; nothing here names the program.
-/
import Derived.Below
import Derived.Laws.OwnMore
import Derived.Deep.AppendLies
import Derived.Deep.Draws
import Derived.WalkKit
import Derived.BigQuiet
import Derived.Deep.QuietTactic
namespace Go.Proofs.Ytkhgemgmnchodaa
open Go.RowKit

theorem hid {p : Prop} (h : p) : Hid p := h
theorem block_of_add (a : Addr) (n : Nat) : (a.add n).block = a.block := by unfold Addr.add; split <;> rfl
theorem add_of_add (a : Addr) (i j : Nat) : (a.add i).add j = a.add (i + j) := by
  unfold Addr.add
  by_cases hi : i = 0 <;> by_cases hj : j = 0 <;> simp [hi, hj, Nat.add_assoc]

/-- The slice value '.slice A n c' holds the cells xs (size cells an element) and lies below block B. -/
def Reads (w : World) (B size : Nat) (A : Option Addr) (n : Nat) (xs : List Value) : Prop :=
  xs.length = n * size ∧ (0 < n → ∃ ad, A = some ad ∧ ad.block < B ∧ ∀ j u, xs[j]? = some u → w.cell? (ad.add j) = some u)

section
variable {w w' : World} {B B' size n : Nat} {A : Option Addr} {xs : List Value}
theorem Reads.none_ : Reads w B size A 0 [] := ⟨by simp, fun h => absurd h (by omega)⟩
theorem Reads.at_ {k : Nat} (h : Reads w B 1 A n xs) (hk : k < n) : ∃ ad u, A = some ad ∧ ad.block < B ∧ xs[k]? = some u ∧ w.cell? (ad.add k) = some u := by
  obtain ⟨ad, e, hb, hc⟩ := h.2 (by omega)
  have hl : k < xs.length := by have := h.1; omega
  exact ⟨ad, xs[k], e, hb, List.getElem?_eq_getElem hl, hc k _ (List.getElem?_eq_getElem hl)⟩
theorem Reads.keep (h : Reads w B size A n xs) (hk : ∀ p : Addr, p.block < B → w'.cell? p = w.cell? p) : Reads w' B size A n xs :=
  ⟨h.1, fun hn => by
    obtain ⟨ad, e, hb, hc⟩ := h.2 hn
    exact ⟨ad, e, hb, fun j u hu => (hk _ (by rw [block_of_add]; exact hb)).trans (hc j u hu)⟩⟩
theorem Reads.more (h : Reads w B size A n xs) (hB : B ≤ B') : Reads w B' size A n xs :=
  ⟨h.1, fun hn => by
    obtain ⟨ad, e, hb, hc⟩ := h.2 hn
    exact ⟨ad, e, by omega, hc⟩⟩
theorem Reads.below (h : Reads w B size A n xs) (hb : Below B w w') : Reads w' B size A n xs := h.keep fun _ hp => hb.cell hp
theorem Reads.drew (h : Reads w B size A n xs) : Reads w.drew B size A n xs := h
theorem Reads.drewN (h : Reads w B size A n xs) (k : Nat) : Reads (w.drewN k) B size A n xs := h
theorem Reads.alloc (h : Reads w B size A n xs) (hB : B ≤ w.heap.size) (o : Obj) : Reads (w.alloc o) B size A n xs := h.keep fun p hp => World.cell?_alloc_lt w o p (by omega)
theorem Reads.setCell (h : Reads w B size A n xs) {p : Addr} (hB : B ≤ p.block) (u : Value) : Reads (w.setCell p u) B size A n xs :=
  h.keep fun q hq => World.cell?_setCell_other w p q u (fun e => by subst e; omega)
theorem Reads.grown (h : Reads w B size A n xs) {row : Option Nat} (hg : w.grownBy w' row) (hB : B ≤ w.heap.size) (hr : ∀ g, row = some g → B ≤ g) : Reads w' B size A n xs :=
  h.keep fun p hp => World.cell?_of_block (hg.block p.block (by omega) (fun e => by have := hr _ e.symm; omega))
theorem Reads.cut (h : Reads w B size A n xs) {k cap : Nat} (hk : k ≤ n) (hc : n ≤ cap) :
    Reads w B size (if cap = k then A else A.map (·.add (k * size))) (n - k) (xs.drop (k * size)) := by
  refine ⟨by rw [List.length_drop, h.1, Nat.sub_mul], fun hn => ?_⟩
  obtain ⟨ad, rfl, hb, hcell⟩ := h.2 (by omega)
  rw [if_neg (by omega)]
  refine ⟨ad.add (k * size), rfl, by rw [block_of_add]; exact hb, fun j u hu => ?_⟩
  rw [add_of_add]
  exact hcell _ u (by rw [← hu, List.getElem?_drop])
theorem Reads.upto (h : Reads w B size A n xs) {k : Nat} (hk : k ≤ n) : Reads w B size A k (xs.take (k * size)) := by
  refine ⟨by rw [List.length_take, h.1]; exact Nat.min_eq_left (Nat.mul_le_mul_right _ hk), fun hn => ?_⟩
  obtain ⟨ad, rfl, hb, hcell⟩ := h.2 (by omega)
  refine ⟨ad, rfl, hb, fun j u hu => hcell j u ?_⟩
  rw [List.getElem?_take] at hu
  split at hu
  · exact hu
  · cases hu
theorem Reads.of_own {base : Nat} {e : TypeId} {c : Nat} (h : w.ownsRow base e size (.slice A n c) n xs) : Reads w w.heap.size size A n xs := by
  refine ⟨h.1, fun hn => ?_⟩
  obtain ⟨g, cap, hv, _, hlt⟩ := h.form hn
  have hA : A = some ⟨g, 0, none⟩ := by injection hv
  subst hA
  exact ⟨_, rfl, hlt, h.cells (g := g) rfl⟩
end

/-- The world after some draws. -/
def Dr (w w' : World) : Prop := ∃ q, w' = w.drewN q
theorem Dr.refl (w : World) : Dr w w := ⟨0, rfl⟩
theorem Dr.trans {a b c : World} (h : Dr a b) (k : Dr b c) : Dr a c := by
  obtain ⟨n, rfl⟩ := h
  obtain ⟨m, rfl⟩ := k
  exact ⟨n + m, World.drewN_drewN _ _ _⟩
theorem Dr.more {a b : World} (h : Dr a b) (n : Nat) : Dr a (b.drewN n) := h.trans ⟨n, rfl⟩
theorem Dr.one {a b : World} (h : Dr a b) : Dr a b.drew := h.trans ⟨1, rfl⟩
theorem Dr.to_below {a b : World} (h : Dr a b) (B : Nat) : Below B a b := by
  obtain ⟨n, rfl⟩ := h
  exact ⟨rfl, rfl, rfl, Nat.le_refl _, fun _ _ => rfl⟩
theorem Dr.size {a b : World} (h : Dr a b) : b.heap.size = a.heap.size := by obtain ⟨n, rfl⟩ := h; rfl
theorem Dr.cell {a b : World} (h : Dr a b) (p : Addr) : b.cell? p = a.cell? p := by obtain ⟨n, rfl⟩ := h; rfl
theorem Reads.dr {w w' : World} {B size n : Nat} {A : Option Addr} {xs : List Value} (h : Reads w B size A n xs) (hd : Dr w w') : Reads w' B size A n xs := h.keep fun p _ => hd.cell p
theorem World.ownsRow.dr {w w' : World} {base : Nat} {e : TypeId} {size : Nat} {v : Value} {n : Nat} {xs : List Value} (h : w.ownsRow base e size v n xs) (hd : Dr w w') : w'.ownsRow base e size v n xs := by
  obtain ⟨q, rfl⟩ := hd
  exact h

theorem quiet_left {P : Program} {f : FuncId} {args : Array Value} {w : World} {n : Nat} {v : Value}
    (h : Calls P f args (w.drewN n) fun e w' => e = .returned v ∧ w.drewN n = w') : Calls P f args (w.drewN n) fun e w'' => e = .returned v ∧ ∃ m, w'' = w.drewN m :=
  h.mono fun _ _ ⟨he, hm⟩ => ⟨he, n, hm.symm⟩
theorem quiet_dr {P : Program} {f : FuncId} {args : Array Value} {w : World} {n : Nat} {v : Value}
    (h : Calls P f args (w.drewN n) fun e w' => e = .returned v ∧ Dr (w.drewN n) w') : Calls P f args (w.drewN n) fun e w'' => e = .returned v ∧ ∃ m, w'' = w.drewN m :=
  h.mono fun _ _ ⟨he, hm⟩ => ⟨he, Dr.trans ⟨n, rfl⟩ hm⟩
/-- A slice of ints. -/
abbrev iv (x : Int) : Value := .int .i64 x
def RI (w : World) (B : Nat) (A : Option Addr) (n : Nat) (xs : List Int) : Prop := Reads w B 1 A n (xs.map (Value.int .i64))
section
variable {w w' : World} {B B' n : Nat} {A : Option Addr} {xs : List Int}
theorem RI.len (h : RI w B A n xs) : xs.length = n := by have := h.1; simpa using this
theorem RI.dr (h : RI w B A n xs) (hd : Dr w w') : RI w' B A n xs := Reads.dr h hd
theorem RI.below (h : RI w B A n xs) (hb : Below B w w') : RI w' B A n xs := Reads.below h hb
theorem RI.more (h : RI w B A n xs) (hB : B ≤ B') : RI w B' A n xs := Reads.more h hB
theorem RI.alloc (h : RI w B A n xs) (hB : B ≤ w.heap.size) (o : Obj) : RI (w.alloc o) B A n xs := Reads.alloc h hB o
theorem RI.none_ : RI w B A 0 [] := Reads.none_
theorem RI.upto {k : Nat} (h : RI w B A n xs) (hk : k ≤ n) : RI w B A k (xs.take k) := by
  have := Reads.upto h hk
  rw [Nat.mul_one, ← List.map_take] at this
  exact this
theorem RI.cut {k cap : Nat} (h : RI w B A n xs) (hk : k ≤ n) (hc : n ≤ cap) : RI w B (if cap = k then A else A.map (·.add k)) (n - k) (xs.drop k) := by
  have := Reads.cut h hk hc
  rw [Nat.mul_one, ← List.map_drop] at this
  exact this
theorem RI.at_ {k : Nat} (h : RI w B A n xs) (hk : k < n) : ∃ ad x, A = some ad ∧ ad.block < B ∧ Hid (xs[k]? = some x) ∧ w.cell? (ad.add k) = some (.int .i64 x) := by
  obtain ⟨ad, u, hA, hb, hx, hc⟩ := Reads.at_ h hk
  have hl := h.len
  rw [List.getElem?_map, List.getElem?_eq_getElem (by omega)] at hx
  simp at hx
  exact ⟨ad, xs[k], hA, hb, List.getElem?_eq_getElem (by omega), by rw [hc, ← hx]⟩
theorem add_zero (a : Addr) : a.add 0 = a := by simp [Addr.add]
theorem RI.at0 (h : RI w B A n xs) (hk : 0 < n) : ∃ ad x, A = some ad ∧ ad.block < B ∧ Hid (xs[0]? = some x) ∧ w.cell? ad = some (.int .i64 x) := by
  obtain ⟨ad, x, h1, h2, h3, h4⟩ := h.at_ hk
  rw [add_zero] at h4
  exact ⟨ad, x, h1, h2, h3, h4⟩
end

/-- A block that is known whole. -/
def Blk (w : World) (g : Nat) (t : TypeId) (cs : Array Value) : Prop := w.heap[g]? = some (.cells cs t (0, 0))
section
variable {w w' : World} {g : Nat} {t : TypeId} {cs : Array Value}
theorem Blk.lt (h : Blk w g t cs) : g < w.heap.size := by
  rcases Nat.lt_or_ge g w.heap.size with hlt | hge
  · exact hlt
  · unfold Blk at h; rw [Array.getElem?_eq_none hge] at h; cases h
theorem Blk.cell (h : Blk w g t cs) (i : Nat) : w.cell? ⟨g, i, none⟩ = cs[i]? := cell_of_row w g i cs t (0, 0) h
theorem Blk.cell_ (h : Blk w g t cs) {i : Nat} {v : Value} (hv : cs[i]? = some v) : w.cell? ⟨g, i, none⟩ = some v := (h.cell i).trans hv
theorem Blk.frozen (h : Blk w g t cs) (i : Nat) : w.frozen? ⟨g, i, none⟩ = false := by
  unfold Blk at h
  simp [World.frozen?, h]
theorem Blk.new (w : World) (t : TypeId) (cs : Array Value) : Blk (w.alloc (.cells cs t)) w.heap.size t cs := heap_alloc_new w _
theorem Blk.dr (h : Blk w g t cs) (hd : Dr w w') : Blk w' g t cs := by obtain ⟨q, rfl⟩ := hd; exact h
theorem Blk.alloc (h : Blk w g t cs) (o : Obj) : Blk (w.alloc o) g t cs := (Below.heap_alloc w o g h.lt).trans h
theorem Blk.set_ (h : Blk w g t cs) (i : Nat) (u : Value) : Blk (w.setCell ⟨g, i, none⟩ u) g t (cs.setIfInBounds i u) := by
  unfold Blk at h ⊢
  simp [World.setCell, Array.getElem?_modify, h]
theorem Blk.far (h : Blk w g t cs) {p : Addr} (hp : g ≠ p.block) (u : Value) : Blk (w.setCell p u) g t cs := (Below.heap_setCell w p u g hp).trans h
theorem Blk.below {B : Nat} (h : Blk w g t cs) (hb : Below B w w') (hg : g < B) : Blk w' g t cs := (hb.block g hg).trans h
theorem Blk.grown {row : Option Nat} (h : Blk w g t cs) (hb : w.grownBy w' row) (hg : some g ≠ row) : Blk w' g t cs := (hb.block g h.lt hg).trans h
theorem Blk.ne_ {g' : Nat} {t' : TypeId} {cs' : Array Value} (h : Blk w g t cs) (h' : Blk w g' t' cs') (hne : t ≠ t') : g ≠ g' := by
  rintro rfl
  unfold Blk at h h'
  rw [h] at h'
  injection h' with h'
  injection h' with _ ht
  exact hne ht
theorem own_blk_ne {base : Nat} {e : TypeId} {size n : Nat} {v : Value} {xs : List Value} (h : w.ownsRow base e size v n xs) (hg : Blk w g t cs) (hne : e ≠ t) : v.ownBlock ≠ some g := by
  rcases h.2 with ⟨rfl, _⟩ | ⟨g', cap, cur, rfl, _, hh, _⟩
  · simp [Value.ownBlock]
  · intro he
    have : g' = g := by simpa [Value.ownBlock] using he
    subst this
    exact Blk.ne_ (t := e) hh hg hne rfl
end

/-- A slice of ints (element type e) that the call owns: its block lies from 'base' on. -/
def OI (w : World) (base : Nat) (e : TypeId) (A : Option Addr) (n c : Nat) (xs : List Int) : Prop := w.ownsRow base e 1 (.slice A n c) n (xs.map (Value.int .i64))
/-- The block of a slice, if it has one. -/
def blockOf (A : Option Addr) : Option Nat := A.map (·.block)
theorem ownBlock_slice (A : Option Addr) (n c : Nat) : (Value.slice A n c).ownBlock = blockOf A := by cases A <;> rfl
section
variable {w w' : World} {base B n c : Nat} {e : TypeId} {A : Option Addr} {xs : List Int}
theorem OI.len (h : OI w base e A n c xs) : xs.length = n := by have := h.1; simpa using this
theorem OI.cap (h : OI w base e A n c xs) : n ≤ c ∧ c ≤ maxLen := by
  rcases h.2 with ⟨h1, h2⟩ | ⟨g, cap, cur, h1, _, _, h2, h3, _⟩
  · injection h1 with h3 h4 h5
    subst h3 h4 h5
    exact ⟨Nat.le_refl _, by simp [maxLen]⟩
  · injection h1 with h4 h5 h6
    subst h4 h6
    exact ⟨h2, h3⟩
theorem OI.ri (h : OI w base e A n c xs) : RI w w.heap.size A n xs := Reads.of_own h
theorem OI.lt (h : OI w base e A n c xs) : ∀ k, blockOf A = some k → base ≤ k ∧ k < w.heap.size := fun k hk => World.ownsRow.lt h k (by rw [ownBlock_slice]; exact hk)
theorem OI.riB (h : OI w base e A n c xs) (hB : ∀ k, blockOf A = some k → k < B) : RI w B A n xs := by
  have h1 := h.ri
  refine ⟨h1.1, fun hn => ?_⟩
  obtain ⟨ad, rfl, _, hc⟩ := h1.2 hn
  exact ⟨ad, rfl, hB _ rfl, hc⟩
theorem OI.dr (h : OI w base e A n c xs) (hd : Dr w w') : OI w' base e A n c xs := World.ownsRow.dr h hd
theorem OI.less {base' : Nat} (h : OI w base e A n c xs) (hb : base' ≤ base) : OI w base' e A n c xs := by
  refine ⟨h.1, ?_⟩
  rcases h.2 with h1 | ⟨g, cap, cur, h1, h2, h3⟩
  · exact .inl h1
  · exact .inr ⟨g, cap, cur, h1, Nat.le_trans hb h2, h3⟩
theorem OI.below (h : OI w base e A n c xs) (hb : Below B w w') (hB : ∀ k, blockOf A = some k → k < B) : OI w' base e A n c xs := by
  refine ⟨h.1, ?_⟩
  rcases h.2 with h1 | ⟨g, cap, cur, h1, h2, h3, h4⟩
  · exact .inl h1
  · refine .inr ⟨g, cap, cur, h1, h2, ?_, h4⟩
    have hg : g < B := hB g (by injection h1 with h1; subst h1; rfl)
    rw [hb.block g hg]
    exact h3
theorem OI.grown {row : Option Nat} (h : OI w base e A n c xs) (hg : w.grownBy w' row) (hr : ∀ k, row = some k → blockOf A ≠ some k) : OI w' base e A n c xs := by
  refine World.ownsRow.kept h hg ?_
  rw [ownBlock_slice]
  cases hA : blockOf A with
  | none => exact .inl rfl
  | some g =>
    right
    intro hrow
    exact hr g hrow.symm hA
theorem OI.at_ {k : Nat} (h : OI w base e A n c xs) (hk : k < n) : ∃ g x, A = some ⟨g, 0, none⟩ ∧ base ≤ g ∧ g < w.heap.size ∧ Hid (xs[k]? = some x) ∧ w.cell? ⟨g, k, none⟩ = some (.int .i64 x) ∧ w.frozen? ⟨g, k, none⟩ = false ∧
    ∀ u, Hid (OI (w.setCell ⟨g, k, none⟩ (.int .i64 u)) base e A n c (xs.set k u)) ∧ w.grownBy (w.setCell ⟨g, k, none⟩ (.int .i64 u)) (some g) := by
  obtain ⟨g, cap, hv, hb, hlt⟩ := World.ownsRow.form h (by omega)
  injection hv with hv1 _ hv2
  subst hv1 hv2
  have hl := h.len
  have hx : xs[k]? = some xs[k] := List.getElem?_eq_getElem (by omega)
  refine ⟨g, xs[k], rfl, hb, hlt, hx, ?_, World.ownsRow.frozenAt h k, fun u => ?_⟩
  · rw [World.ownsRow.cellAt h k (by omega), List.getElem?_map, hx]; rfl
  · obtain ⟨h1, h2⟩ := World.ownsRow.stored h k (.int .i64 u)
    refine ⟨?_, h2⟩
    have : (xs.map (Value.int .i64)).set k (.int .i64 u) = (xs.set k u).map (Value.int .i64) := by rw [List.map_set]
    rw [this] at h1
    exact h1
end
theorem grown_trans' {a b c : World} {row : Option Nat} (h : a.grownBy b row) (k : b.grownBy c row) : a.grownBy c row :=
  ⟨k.os.trans h.os, k.tape.trans h.tape, k.output.trans h.output, Nat.le_trans h.size k.size, fun i hi hn => (k.block i (Nat.lt_of_lt_of_le hi h.size) hn).trans (h.block i hi hn)⟩
theorem grown_dr {a b c : World} {row : Option Nat} (h : a.grownBy b row) (k : Dr b c) : a.grownBy c row := by
  obtain ⟨q, rfl⟩ := k
  exact ⟨h.os, h.tape, h.output, h.size, h.block⟩
theorem below_dr {B : Nat} {a b c : World} (h : Below B a b) (k : Dr b c) : Below B a c := h.trans (k.to_below B)
/-- The marks k, k+1, .. -/
def marks (k : Int) (n : Nat) : List Int := (List.range n).map fun (i : Nat) => k + (i : Int)
theorem marks_len (k : Int) (n : Nat) : (marks k n).length = n := by simp [marks]
theorem marks_at {k : Int} {n i : Nat} (h : i < n) : (marks k n)[i]? = some (k + i) := by simp [marks, h]
theorem marks_succ (k : Int) (n : Nat) : marks k (n + 1) = marks k n ++ [k + n] := by simp [marks, List.range_succ]
theorem set_front {α : Type} {xs ys zs : List α} {k : Nat} {u : α} (hx : xs = ys ++ zs.drop k) (hk : ys.length = k) (hz : k < zs.length) : xs.set k u = (ys ++ [u]) ++ zs.drop (k + 1) := by
  have hd : zs.drop k = zs[k] :: zs.drop (k + 1) := List.drop_eq_getElem_cons hz
  rw [hd] at hx
  subst hx
  rw [List.set_append_right _ _ (by omega), hk, Nat.sub_self, List.set_cons_zero, List.append_assoc]
  rfl

/-- Nothing that was there has turned. -/
def St (w w' : World) : Prop := Below w.heap.size w w'
theorem St.refl (w : World) : St w w := Below.refl _ _
theorem St.trans {a b c : World} (h : St a b) (k : St b c) : St a c := Below.trans h (Below.mono k h.size)
theorem Dr.st {a b : World} (h : Dr a b) : St a b := h.to_below _
theorem St.dr {a b c : World} (h : St a b) (k : Dr b c) : St a c := h.trans k.st
theorem St.below {a b : World} (h : St a b) : Below a.heap.size a b := h
theorem St.le {a b : World} (h : St a b) : a.heap.size ≤ b.heap.size := h.size
theorem St.alloc {a b : World} (h : St a b) (o : Obj) : St a (b.alloc o) := Below.alloc h h.size o
theorem St.drewN {a b : World} (h : St a b) (n : Nat) : St a (b.drewN n) := h.dr ⟨n, rfl⟩
theorem St.drew {a b : World} (h : St a b) : St a b.drew := h.dr ⟨1, rfl⟩
theorem St.grown {a b c : World} {row : Option Nat} (h : St a b) (hg : b.grownBy c row) (hr : ∀ k, row = some k → a.heap.size ≤ k) : St a c := Below.grown h hg h.size hr
theorem St.setCell {a b : World} (h : St a b) {p : Addr} (hp : a.heap.size ≤ p.block) (u : Value) : St a (b.setCell p u) := Below.setCell h hp u
theorem RI.st {w w' : World} {B n : Nat} {A : Option Addr} {xs : List Int} (h : RI w B A n xs) (hs : St w w') (hB : B ≤ w.heap.size) : RI w' B A n xs := h.below (Below.mono hs hB)
/-- A slice of ints that can be read. -/
structure SL (w : World) (A : Option Addr) (n c : Nat) (xs : List Int) : Prop where
  ri : RI w w.heap.size A n xs
  nc : n ≤ c
  cm : c ≤ maxLen
section
variable {w w' : World} {n c : Nat} {A : Option Addr} {xs : List Int}
theorem SL.len (h : SL w A n c xs) : xs.length = n := h.ri.len
theorem SL.st (h : SL w A n c xs) (hs : St w w') : SL w' A n c xs := ⟨(h.ri.below hs).more hs.size, h.nc, h.cm⟩
theorem SL.dr (h : SL w A n c xs) (hs : Dr w w') : SL w' A n c xs := h.st hs.st
theorem OI.sl {base : Nat} {e : TypeId} (h : OI w base e A n c xs) : SL w A n c xs := ⟨h.ri, h.cap.1, h.cap.2⟩
theorem SL.none_ : SL w none 0 0 [] := ⟨RI.none_, Nat.le_refl _, by simp [maxLen]⟩
end
theorem grown_alloc {a b : World} {row : Option Nat} (h : a.grownBy b row) (o : Obj) : a.grownBy (b.alloc o) row :=
  ⟨h.os, h.tape, h.output, Nat.le_trans h.size (by simp), fun i hi hne => (Below.heap_alloc b o i (Nat.lt_of_lt_of_le hi h.size)).trans (h.block i hi hne)⟩
/-- Behind a step that turns new blocks alone. -/
theorem grown_new {a b c : World} {row row' : Option Nat} (h : a.grownBy b row) (k : b.grownBy c row') (hr : ∀ g, row' = some g → a.heap.size ≤ g) : a.grownBy c row :=
  ⟨k.os.trans h.os, k.tape.trans h.tape, k.output.trans h.output, Nat.le_trans h.size k.size, fun i hi hn => (k.block i (Nat.lt_of_lt_of_le hi h.size) (fun e => by have := hr i e.symm; omega)).trans (h.block i hi hn)⟩
theorem grown_below {a b c : World} {row : Option Nat} (h : a.grownBy b row) (k : Below a.heap.size b c) : a.grownBy c row :=
  ⟨k.os.trans h.os, k.tape.trans h.tape, k.output.trans h.output, Nat.le_trans h.size k.size, fun i hi hn => (k.block i hi).trans (h.block i hi hn)⟩
theorem RI.row {w w' : World} {B n R : Nat} {A : Option Addr} {xs : List Int} (h : RI w B A n xs) (hg : w.grownBy w' (some R)) (hB : B ≤ w.heap.size) (hA : blockOf A ≠ some R) : RI w' B A n xs := by
  refine ⟨h.1, fun hn => ?_⟩
  obtain ⟨ad, rfl, hb, hc⟩ := h.2 hn
  refine ⟨ad, rfl, hb, fun j u hu => (World.cell?_of_block (w := w) (hg.block _ ?_ ?_)).trans (hc j u hu)⟩
  · rw [block_of_add]; omega
  · rw [block_of_add]; exact fun e => hA (by simpa [blockOf] using e)
theorem OI.row {w w' : World} {base e n c R : Nat} {A : Option Addr} {xs : List Int} (h : OI w base e A n c xs) (hg : w.grownBy w' (some R)) (hR : R < base) : OI w' base e A n c xs :=
  h.grown hg fun k hk hA => by have := (h.lt k hA).1; injection hk with hk; omega
theorem OI.lit {w : World} {e : TypeId} : OI (w.alloc (.cells #[] e)) w.heap.size e (some ⟨w.heap.size, 0, none⟩) 0 0 [] := World.ownsRow_lit w #[] 0 (Nat.le_refl _) (Nat.zero_le _) rfl
theorem OI.of {w : World} {base e n : Nat} {v : Value} {xs : List Int} (h : w.ownsRow base e 1 v n (xs.map (Value.int .i64))) : ∃ A c, v = .slice A n c ∧ OI w base e A n c xs := by
  rcases h.2 with ⟨rfl, rfl⟩ | ⟨g, cap, cur, rfl, _⟩
  · exact ⟨none, 0, rfl, h⟩
  · exact ⟨_, _, rfl, h⟩

/-- append of one int to a slice of the call's own. -/
theorem wpList_append_int {P : Program} {ops : Array Oper} {rest : List Oper} {o : Oper} {a : Act} {Q : Exit → Act → World → Prop} (W : World) (hgd : o.guard = none) (s x : Operand) (t : TypeId)
    (ho : o.op = .call { callee := .builtin .append, args := #[s, x], argTypes := #[t, t] })
    (base : Nat) (e : TypeId) (ht : P.underlying t = some (.slice e)) (hI : (P.info? e).map (fun i => (i.zero, i.size, i.bytes)) = some (some (.int .i64 0), 1, 8))
    (A : Option Addr) (m c : Nat) (ys : List Int) (y : Int) (hs : a.eval s = .slice A m c) (hown : OI W base e A m c ys)
    (hx : a.eval x = .slice (some ⟨W.heap.size, 0, none⟩) 1 1) (hm : m + 1 ≤ 1099511627776) (hbase : base ≤ W.heap.size)
    (h : ∀ A' c' w', OI w' base e A' (m + 1) c' (ys ++ [y]) → W.grownBy w' (blockOf A) → wpList P ops Q rest (a.put o.dst (.slice A' (m + 1) c')) w') :
    wpList P ops Q (o :: rest) a (W.alloc (.cells #[.int .i64 y] e)) := by
  obtain ⟨i0, hi0, hz0, hz1, hz2⟩ := info_parts hI
  refine wpList_append_own (W.alloc (.cells #[.int .i64 y] e)) hgd s x t ho base e i0 (.int .i64 0) 1 8 ht hi0 hz0 hz1 hz2 rfl (by decide) _ _ _ hs (World.ownsRow.alloc hown _) ⟨W.heap.size, 0, none⟩ 1 1 [.int .i64 y] hx rfl ?_ ?_ (by unfold maxLen; omega) (by omega) (by simp; omega) ?_
  · intro j u hj
    match j with
    | 0 =>
      rw [add_zero]
      simp at hj
      subst hj
      exact (Blk.new W e #[.int .i64 y]).cell_ (i := 0) rfl
    | j + 1 => simp at hj
  · intro u hu
    rw [List.mem_singleton.1 hu]; rfl
  · intro v' w' h1 h2 _
    have h3 : w'.ownsRow base e 1 v' (m + 1) ((ys ++ [y]).map (Value.int .i64)) := by simpa using h1
    obtain ⟨A', c', rfl, h4⟩ := OI.of h3
    refine h A' c' w' h4 ?_
    rw [ownBlock_slice] at h2
    have h5 : W.grownBy (W.alloc (.cells #[.int .i64 y] e)) (blockOf A) := World.grownBy_alloc _ _ _
    exact grown_trans' h5 h2
/-- A slice of bytes that can be read. -/
def RB (w : World) (B : Nat) (A : Option Addr) (n : Nat) (xs : List Nat) : Prop := (∀ x ∈ xs, x < 256) ∧ Reads w B 1 A n (xs.map fun (x : Nat) => Value.int .u8 (x : Int))
section
variable {w w' : World} {B B' n : Nat} {A : Option Addr} {xs : List Nat}
theorem RB.len (h : RB w B A n xs) : xs.length = n := by have := h.2.1; simpa using this
theorem RB.at_ {k : Nat} (h : RB w B A n xs) (hk : k < n) : ∃ ad x, A = some ad ∧ ad.block < B ∧ x < 256 ∧ w.cell? (ad.add k) = some (.int .u8 ((x : Nat) : Int)) := by
  obtain ⟨ad, u, hA, hb, hx, hc⟩ := Reads.at_ h.2 hk
  have hl := h.len
  rw [List.getElem?_map, List.getElem?_eq_getElem (by omega)] at hx
  simp at hx
  exact ⟨ad, xs[k], hA, hb, h.1 _ (List.getElem_mem _), by rw [hc, ← hx]⟩
theorem RB.dr (h : RB w B A n xs) (hd : Dr w w') : RB w' B A n xs := ⟨h.1, Reads.dr h.2 hd⟩
theorem RB.below (h : RB w B A n xs) (hb : Below B w w') : RB w' B A n xs := ⟨h.1, Reads.below h.2 hb⟩
theorem RB.more (h : RB w B A n xs) (hB : B ≤ B') : RB w B' A n xs := ⟨h.1, Reads.more h.2 hB⟩
theorem RB.upto {k : Nat} (h : RB w B A n xs) (hk : k ≤ n) : RB w B A k (xs.take k) := by
  have := Reads.upto h.2 hk
  rw [Nat.mul_one, ← List.map_take] at this
  exact ⟨fun x hx => h.1 x (List.mem_of_mem_take hx), this⟩
end

/-- The cell of a later field. -/
theorem World.grownBy_set (w : World) (g i : Nat) (u : Value) : w.grownBy (w.setCell ⟨g, i, none⟩ u) (some g) :=
  ⟨rfl, rfl, rfl, by simp [World.setCell], fun k _ hne => Below.heap_setCell _ _ _ _ (fun e => hne (by rw [e]))⟩
theorem OI_less_row {w : World} {base base' : Nat} {e : TypeId} {size n : Nat} {v : Value} {xs : List Value} (h : w.ownsRow base e size v n xs) (hb : base' ≤ base) : w.ownsRow base' e size v n xs := by
  refine ⟨h.1, ?_⟩
  rcases h.2 with h1 | ⟨g, cap, cur, h1, h2, h3⟩
  · exact .inl h1
  · exact .inr ⟨g, cap, cur, h1, Nat.le_trans hb h2, h3⟩
theorem World.heap_alloc_size' (w : World) (o : Obj) : (w.alloc o).heap.size = w.heap.size + 1 := by simp
theorem own_cap' {w : World} {base : Nat} {e : TypeId} {size n c : Nat} {A : Option Addr} {hs : List Value} (h : w.ownsRow base e size (.slice A n c) n hs) : n ≤ c ∧ c ≤ maxLen := by
  rcases h.2 with ⟨h1, h2⟩ | ⟨g, cap, cur, h1, _, _, h2, h3, _⟩
  · injection h1 with h3 h4 h5
    subst h3 h4 h5
    exact ⟨Nat.le_refl _, by simp [maxLen]⟩
  · injection h1 with h4 h5 h6
    subst h4 h6
    exact ⟨h2, h3⟩
theorem add_field (ad : Addr) (i j : Nat) : ad.add (i + (j + 1)) = ⟨(ad.add i).block, (ad.add i).off + (j + 1), none⟩ := by
  unfold Addr.add
  by_cases hi : i = 0
  · subst hi; simp
  · simp [hi, Nat.add_assoc]
theorem St.cell {a b : World} (h : St a b) {p : Addr} {v : Value} (hc : a.cell? p = some v) : b.cell? p = some v := (h.below.cell (World.block_lt_of_cell? a p hc)).trans hc
/-- Of the blocks that were there only those that P names may have turned. -/
structure Turned (P : Nat → Prop) (w w' : World) : Prop where
  os : w'.os = w.os
  tape : w'.tape = w.tape
  output : w'.output = w.output
  size : w.heap.size ≤ w'.heap.size
  block : ∀ k, k < w.heap.size → ¬ P k → w'.heap[k]? = w.heap[k]?
theorem Turned.of_grown {w w' : World} {row : Option Nat} (h : w.grownBy w' row) {P : Nat → Prop} (hP : ∀ k, row = some k → P k) : Turned P w w' :=
  ⟨h.os, h.tape, h.output, h.size, fun k hk hn => h.block k hk fun e => hn (hP k e.symm)⟩
theorem Turned.trans {P : Nat → Prop} {a b c : World} (h : Turned P a b) (k : Turned P b c) : Turned P a c :=
  ⟨k.os.trans h.os, k.tape.trans h.tape, k.output.trans h.output, Nat.le_trans h.size k.size, fun i hi hn => (k.block i (Nat.lt_of_lt_of_le hi h.size) hn).trans (h.block i hi hn)⟩
theorem Turned.of_st {P : Nat → Prop} {a b : World} (h : St a b) : Turned P a b := ⟨h.os, h.tape, h.output, h.size, fun i hi _ => h.block i hi⟩
theorem Turned.st {P : Nat → Prop} {a b c : World} (h : St a b) (k : Turned P b c) (hP : ∀ i, P i → a.heap.size ≤ i) : St a c :=
  ⟨k.os.trans h.os, k.tape.trans h.tape, k.output.trans h.output, Nat.le_trans h.size k.size, fun i hi => (k.block i (Nat.lt_of_lt_of_le hi h.size) (fun e => by have := hP i e; omega)).trans (h.block i hi)⟩
theorem Blk.turned {P : Nat → Prop} {w w' : World} {g : Nat} {t : TypeId} {cs : Array Value} (h : Blk w g t cs) (k : Turned P w w') (hg : ¬ P g) : Blk w' g t cs := (k.block g h.lt hg).trans h
theorem Blk.st {w w' : World} {g : Nat} {t : TypeId} {cs : Array Value} (h : Blk w g t cs) (s : St w w') : Blk w' g t cs := h.below s h.lt
theorem St.st {a b c : World} (h : St a b) (k : St b c) : St a c := h.trans k
theorem own_below {a b : World} {base : Nat} {e : TypeId} {size n : Nat} {v : Value} {xs : List Value} (h : a.ownsRow base e size v n xs) (hs : St a b) : b.ownsRow base e size v n xs :=
  h.kept (row := none) ⟨hs.os, hs.tape, hs.output, hs.size, fun k hk _ => hs.block k hk⟩ (by cases v.ownBlock <;> simp)
theorem OI.st {a b : World} {base n c : Nat} {e : TypeId} {A : Option Addr} {xs : List Int} (h : OI a base e A n c xs) (s : St a b) : OI b base e A n c xs := own_below h s
theorem add_succ (ad : Addr) (k : Nat) : ad.add (k + 1) = ⟨ad.block, ad.off + (k + 1), none⟩ := by simp [Addr.add]
end Go.Proofs.Ytkhgemgmnchodaa
