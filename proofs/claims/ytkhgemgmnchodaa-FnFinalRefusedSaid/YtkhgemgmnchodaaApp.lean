/- append of a whole slice of ints to a slice of the call's own: as a law of a plain region and of one that draws its order. -/
import Derived.Test.YtkhgemgmnchodaaBase
import Derived.Maps.AppendAt
import Derived.RegionTactic
import Derived.OwnWalk
import Derived.Deep.RegionLaw
import Derived.Deep.RegionHeld3
import Derived.Deep.DrawnRows
import Derived.Deep.DeepMust
namespace Go.Proofs.Ytkhgemgmnchodaa
open Go.RowKit
section
variable {P : Program} (w : World)

theorem run_append_src (base : Nat) (t ty e : TypeId) (ht : P.underlying t = some (.slice e)) (hI : (P.info? e).map (fun i => (i.zero, i.size, i.bytes)) = some (some (.int .i64 0), 1, 8))
    (A : Option Addr) (m c : Nat) (ys : List Int) (hown : OI w base e A m c ys) (B : Nat) (A' : Option Addr) (m' c' : Nat) (xs : List Int) (hr : RI w B A' m' xs) (hm : m + m' ≤ 1099511627776) (hbase : base ≤ w.heap.size) :
    ∃ X a w', (Builtin.append_ #[t, t] ty #[.slice A m c, .slice A' m' c']).run P w = .ok (.slice X (m + m') a) w' ∧ OI w' base e X (m + m') a (ys ++ xs) ∧ w.grownBy w' (blockOf A) := by
  obtain ⟨i, hi, hz, hsize, hby⟩ := info_parts hI
  rcases A' with _ | ad
  · have hm0 : m' = 0 := by
      rcases Nat.eq_zero_or_pos m' with h0 | h0
      · exact h0
      · obtain ⟨ad, h, _⟩ := hr.2 h0
        cases h
    subst hm0
    have hn : xs = [] := List.eq_nil_of_length_eq_zero hr.len
    subst hn
    refine ⟨A, c, w, ?_, by simpa using hown, World.grownBy.refl w _⟩
    rcases hown.2 with ⟨h1, rfl⟩ | ⟨g, cap, cur, h1, _, _, hnc, _⟩
    · cases h1
      simp [Builtin.append_, run_underlying ht, sizeOf, typeInfo, hi, Builtin.lenOf, Builtin.firstCells]
    · cases h1
      simp [Builtin.append_, run_underlying ht, sizeOf, typeInfo, hi, Builtin.lenOf, Builtin.firstCells, hnc, storeCells]
  · have hcells : ∀ j u, (xs.map (Value.int .i64))[j]? = some u → w.cell? (ad.add j) = some u := by
      intro j u hu
      rcases Nat.eq_zero_or_pos m' with h0 | h0
      · subst h0
        have hn : xs = [] := List.eq_nil_of_length_eq_zero hr.len
        subst hn
        simp at hu
      · obtain ⟨ad', h, _, hc⟩ := hr.2 h0
        injection h with h
        subst h
        exact hc j u hu
    obtain ⟨v', w', hrun, h2, h3, _⟩ := run_append_own (P := P) w base t ty e i (.int .i64 0) 1 8 ht hi hz hsize hby rfl (by decide) _ m _ hown ad m' c' (xs.map (Value.int .i64)) (by simpa using hr.len) hcells
      (fun u hu => by obtain ⟨z, _, rfl⟩ := List.mem_map.1 hu; rfl) (by unfold maxLen; omega) (by omega) hbase
    rw [← List.map_append] at h2
    obtain ⟨X, a, rfl, h4⟩ := OI.of h2
    rw [ownBlock_slice] at h3
    exact ⟨X, a, w', hrun, h4, h3⟩

theorem wp_append_src {o : Oper} {a : Act} {K : Act → World → Prop} {Q : Exit → Act → World → Prop} (s x : Operand) (t : TypeId)
    (ho : o.op = .call { callee := .builtin .append, args := #[s, x], argTypes := #[t, t] })
    (base : Nat) (e : TypeId) (ht : P.underlying t = some (.slice e)) (hI : (P.info? e).map (fun i => (i.zero, i.size, i.bytes)) = some (some (.int .i64 0), 1, 8))
    (A : Option Addr) (m c : Nat) (ys : List Int) (hs : a.eval s = .slice A m c) (hown : OI w base e A m c ys) (B : Nat) (A' : Option Addr) (m' c' : Nat) (xs : List Int) (hx : a.eval x = .slice A' m' c') (hr : RI w B A' m' xs) (hm : m + m' ≤ 1099511627776) (hbase : base ≤ w.heap.size)
    (h : ∀ X b w', OI w' base e X (m + m') b (ys ++ xs) → w.grownBy w' (blockOf A) → K (a.put o.dst (.slice X (m + m') b)) w') : o.wp P a w K Q := by
  obtain ⟨X, b, w', hrun, h2, h3⟩ := run_append_src (P := P) w base t o.type e ht hI A m c ys hown B A' m' c' xs hr hm hbase
  unfold Oper.wp execOp
  simp only [ho, resolve, invoke, builtin, Sem.run_bind, Sem.run_pure, Result.andThen_ok, List.map_toArray, List.map_cons, List.map_nil, hs, hx, hrun]
  exact h X b w' h2 h3

theorem wpList_append_src {ops : Array Oper} {rest : List Oper} {o : Oper} {a : Act} {Q : Exit → Act → World → Prop} (hgd : o.guard = none) (s x : Operand) (t : TypeId)
    (ho : o.op = .call { callee := .builtin .append, args := #[s, x], argTypes := #[t, t] })
    (base : Nat) (e : TypeId) (ht : P.underlying t = some (.slice e)) (hI : (P.info? e).map (fun i => (i.zero, i.size, i.bytes)) = some (some (.int .i64 0), 1, 8))
    (A : Option Addr) (m c : Nat) (ys : List Int) (hs : a.eval s = .slice A m c) (hown : OI w base e A m c ys) (B : Nat) (A' : Option Addr) (m' c' : Nat) (xs : List Int) (hx : a.eval x = .slice A' m' c') (hr : RI w B A' m' xs) (hm : m + m' ≤ 1099511627776) (hbase : base ≤ w.heap.size)
    (h : ∀ X b w', OI w' base e X (m + m') b (ys ++ xs) → w.grownBy w' (blockOf A) → wpList P ops Q rest (a.put o.dst (.slice X (m + m') b)) w') : wpList P ops Q (o :: rest) a w :=
  wpList_plain hgd fun _ hK => wp_append_src w s x t ho base e ht hI A m c ys hs hown B A' m' c' xs hx hr hm hbase fun X b w' h2 h3 => hK _ _ (h X b w' h2 h3)

theorem step_append_src {ops : Array Oper} {o : Oper} {a : Act} {K : Act → World → Prop} {Q : Exit → Act → World → Prop} {E : Prop} (hgd : o.guard = none) (s x : Operand) (t : TypeId)
    (ho : o.op = .call { callee := .builtin .append, args := #[s, x], argTypes := #[t, t] })
    (base : Nat) (e : TypeId) (ht : P.underlying t = some (.slice e)) (hI : (P.info? e).map (fun i => (i.zero, i.size, i.bytes)) = some (some (.int .i64 0), 1, 8))
    (A : Option Addr) (m c : Nat) (ys : List Int) (hs : a.eval s = .slice A m c) (hown : OI w base e A m c ys) (B : Nat) (A' : Option Addr) (m' c' : Nat) (xs : List Int) (hx : a.eval x = .slice A' m' c') (hr : RI w B A' m' xs) (hm : m + m' ≤ 1099511627776) (hbase : base ≤ w.heap.size)
    (h : ∀ X b w', OI w' base e X (m + m') b (ys ++ xs) → w.grownBy w' (blockOf A) → K (a.put o.dst (.slice X (m + m') b)) w') :
    if Region.wanted o (yielded ops a.tmps) = true then Oper.wp P o a w K Q else E := by
  have hw : Region.wanted o (yielded ops a.tmps) = true := by simp [Region.wanted, hgd]
  rw [if_pos hw]
  exact wp_append_src w s x t ho base e ht hI A m c ys hs hown B A' m' c' xs hx hr hm hbase h
end
end Go.Proofs.Ytkhgemgmnchodaa
