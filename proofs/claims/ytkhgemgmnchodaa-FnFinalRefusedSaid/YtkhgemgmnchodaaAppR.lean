/- append of a whole slice, whatever the elements, to a slice of the call's own. -/
import Derived.Test.YtkhgemgmnchodaaApp
namespace Go.Proofs.Ytkhgemgmnchodaa
open Go.RowKit
theorem row_of {w : World} {base e size n : Nat} {v : Value} {xs : List Value} (h : w.ownsRow base e size v n xs) : ∃ A c, v = .slice A n c := by
  rcases h.2 with ⟨rfl, rfl⟩ | ⟨g, cap, cur, h1, _⟩
  · exact ⟨none, 0, rfl⟩
  · exact ⟨_, _, h1⟩
section
variable {P : Program} (w : World)
theorem run_append_rows (base : Nat) (t ty e : TypeId) (size bytes : Nat) (z : Value) (ht : P.underlying t = some (.slice e)) (hI : (P.info? e).map (fun i => (i.zero, i.size, i.bytes)) = some (some z, size, bytes)) (hzs : z.cells.size = size) (hsz : 0 < size)
    (A : Option Addr) (m c : Nat) (ys : List Value) (hown : w.ownsRow base e size (.slice A m c) m ys) (B : Nat) (A' : Option Addr) (m' c' : Nat) (xs : List Value) (hr : Reads w B size A' m' xs) (h1 : ∀ u ∈ xs, u.oneCell' = true)
    (hm : m + m' ≤ 1099511627776) (hb : (m + m') * bytes ≤ 140737488355328) (hbase : base ≤ w.heap.size) :
    ∃ X a w', (Builtin.append_ #[t, t] ty #[.slice A m c, .slice A' m' c']).run P w = .ok (.slice X (m + m') a) w' ∧ w'.ownsRow base e size (.slice X (m + m') a) (m + m') (ys ++ xs) ∧ w.grownBy w' (blockOf A) := by
  obtain ⟨i, hi, hz, hsize, hby⟩ := info_parts hI
  rcases A' with _ | ad
  · have hm0 : m' = 0 := by
      rcases Nat.eq_zero_or_pos m' with h0 | h0
      · exact h0
      · obtain ⟨ad, h, _⟩ := hr.2 h0
        cases h
    subst hm0
    have hn : xs = [] := List.eq_nil_of_length_eq_zero (by have := hr.1; simpa using this)
    subst hn
    refine ⟨A, c, w, ?_, by simpa using hown, World.grownBy.refl w _⟩
    rcases hown.2 with ⟨h1, rfl⟩ | ⟨g, cap, cur, h1, _, _, hnc, _⟩
    · cases h1
      simp [Builtin.append_, run_underlying ht, sizeOf, typeInfo, hi, Builtin.lenOf, Builtin.firstCells]
    · cases h1
      simp [Builtin.append_, run_underlying ht, sizeOf, typeInfo, hi, Builtin.lenOf, Builtin.firstCells, hnc, storeCells]
  · have hcells : ∀ j u, xs[j]? = some u → w.cell? (ad.add j) = some u := by
      intro j u hu
      rcases Nat.eq_zero_or_pos m' with h0 | h0
      · subst h0
        have hn : xs = [] := List.eq_nil_of_length_eq_zero (by simpa using hr.1)
        subst hn
        simp at hu
      · obtain ⟨ad', h, _, hc⟩ := hr.2 h0
        injection h with h
        subst h
        exact hc j u hu
    obtain ⟨v', w', hrun, h2, h3, _⟩ := run_append_own (P := P) w base t ty e i z size bytes ht hi hz hsize hby hzs hsz _ m _ hown ad m' c' xs hr.1 hcells h1 (by unfold maxLen; omega) hb hbase
    obtain ⟨X, a, rfl⟩ := row_of h2
    rw [ownBlock_slice] at h3
    exact ⟨X, a, w', hrun, h2, h3⟩
theorem wp_append_rows {o : Oper} {a : Act} {K : Act → World → Prop} {Q : Exit → Act → World → Prop} (s x : Operand) (t : TypeId)
    (ho : o.op = .call { callee := .builtin .append, args := #[s, x], argTypes := #[t, t] })
    (base : Nat) (e : TypeId) (size bytes : Nat) (z : Value) (ht : P.underlying t = some (.slice e)) (hI : (P.info? e).map (fun i => (i.zero, i.size, i.bytes)) = some (some z, size, bytes)) (hzs : z.cells.size = size) (hsz : 0 < size)
    (A : Option Addr) (m c : Nat) (ys : List Value) (hs : a.eval s = .slice A m c) (hown : w.ownsRow base e size (.slice A m c) m ys) (B : Nat) (A' : Option Addr) (m' c' : Nat) (xs : List Value) (hx : a.eval x = .slice A' m' c') (hr : Reads w B size A' m' xs) (h1 : ∀ u ∈ xs, u.oneCell' = true)
    (hm : m + m' ≤ 1099511627776) (hb : (m + m') * bytes ≤ 140737488355328) (hbase : base ≤ w.heap.size)
    (h : ∀ X b w', w'.ownsRow base e size (.slice X (m + m') b) (m + m') (ys ++ xs) → w.grownBy w' (blockOf A) → K (a.put o.dst (.slice X (m + m') b)) w') : o.wp P a w K Q := by
  obtain ⟨X, b, w', hrun, h2, h3⟩ := run_append_rows (P := P) w base t o.type e size bytes z ht hI hzs hsz A m c ys hown B A' m' c' xs hr h1 hm hb hbase
  unfold Oper.wp execOp
  simp only [ho, resolve, invoke, builtin, Sem.run_bind, Sem.run_pure, Result.andThen_ok, List.map_toArray, List.map_cons, List.map_nil, hs, hx, hrun]
  exact h X b w' h2 h3
theorem wpList_append_rows {ops : Array Oper} {rest : List Oper} {o : Oper} {a : Act} {Q : Exit → Act → World → Prop} (hgd : o.guard = none) (s x : Operand) (t : TypeId)
    (ho : o.op = .call { callee := .builtin .append, args := #[s, x], argTypes := #[t, t] })
    (base : Nat) (e : TypeId) (size bytes : Nat) (z : Value) (ht : P.underlying t = some (.slice e)) (hI : (P.info? e).map (fun i => (i.zero, i.size, i.bytes)) = some (some z, size, bytes)) (hzs : z.cells.size = size) (hsz : 0 < size)
    (A : Option Addr) (m c : Nat) (ys : List Value) (hs : a.eval s = .slice A m c) (hown : w.ownsRow base e size (.slice A m c) m ys) (B : Nat) (A' : Option Addr) (m' c' : Nat) (xs : List Value) (hx : a.eval x = .slice A' m' c') (hr : Reads w B size A' m' xs) (h1 : ∀ u ∈ xs, u.oneCell' = true)
    (hm : m + m' ≤ 1099511627776) (hb : (m + m') * bytes ≤ 140737488355328) (hbase : base ≤ w.heap.size)
    (h : ∀ X b w', w'.ownsRow base e size (.slice X (m + m') b) (m + m') (ys ++ xs) → w.grownBy w' (blockOf A) → wpList P ops Q rest (a.put o.dst (.slice X (m + m') b)) w') : wpList P ops Q (o :: rest) a w :=
  wpList_plain hgd fun _ hK => wp_append_rows w s x t ho base e size bytes z ht hI hzs hsz A m c ys hs hown B A' m' c' xs hx hr h1 hm hb hbase fun X b w' h2 h3 => hK _ _ (h X b w' h2 h3)
theorem step_append_rows {ops : Array Oper} {o : Oper} {a : Act} {K : Act → World → Prop} {Q : Exit → Act → World → Prop} {E : Prop} (hgd : o.guard = none) (s x : Operand) (t : TypeId)
    (ho : o.op = .call { callee := .builtin .append, args := #[s, x], argTypes := #[t, t] })
    (base : Nat) (e : TypeId) (size bytes : Nat) (z : Value) (ht : P.underlying t = some (.slice e)) (hI : (P.info? e).map (fun i => (i.zero, i.size, i.bytes)) = some (some z, size, bytes)) (hzs : z.cells.size = size) (hsz : 0 < size)
    (A : Option Addr) (m c : Nat) (ys : List Value) (hs : a.eval s = .slice A m c) (hown : w.ownsRow base e size (.slice A m c) m ys) (B : Nat) (A' : Option Addr) (m' c' : Nat) (xs : List Value) (hx : a.eval x = .slice A' m' c') (hr : Reads w B size A' m' xs) (h1 : ∀ u ∈ xs, u.oneCell' = true)
    (hm : m + m' ≤ 1099511627776) (hb : (m + m') * bytes ≤ 140737488355328) (hbase : base ≤ w.heap.size)
    (h : ∀ X b w', w'.ownsRow base e size (.slice X (m + m') b) (m + m') (ys ++ xs) → w.grownBy w' (blockOf A) → K (a.put o.dst (.slice X (m + m') b)) w') :
    if Region.wanted o (yielded ops a.tmps) = true then Oper.wp P o a w K Q else E := by
  have hw : Region.wanted o (yielded ops a.tmps) = true := by simp [Region.wanted, hgd]
  rw [if_pos hw]
  exact wp_append_rows w s x t ho base e size bytes z ht hI hzs hsz A m c ys hs hown B A' m' c' xs hx hr h1 hm hb hbase h
end
/-- The cells of a block that was just laid. -/
theorem Reads.one (W : World) (e : TypeId) (cs : Array Value) (size : Nat) (hs : cs.size = size) : Reads (W.alloc (.cells cs e)) (W.heap.size + 1) size (some ⟨W.heap.size, 0, none⟩) 1 cs.toList := by
  refine ⟨by simp [hs], fun _ => ⟨_, rfl, by simp, fun j u hj => ?_⟩⟩
  have h1 := Blk.new W e cs
  have h2 : (⟨W.heap.size, 0, none⟩ : Addr).add j = ⟨W.heap.size, j, none⟩ := by
    unfold Addr.add
    split
    · rename_i h; subst h; rfl
    · simp
  rw [h2]
  exact h1.cell_ (by simpa using hj)
theorem row_lit (w : World) (e : TypeId) (size : Nat) : (w.alloc (.cells #[] e)).ownsRow w.heap.size e size (.slice (some ⟨w.heap.size, 0, none⟩) 0 0) 0 [] := World.ownsRow_lit w #[] 0 (Nat.le_refl _) (Nat.zero_le _) (by simp)
end Go.Proofs.Ytkhgemgmnchodaa
