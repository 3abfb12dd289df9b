/- A queue: a row of the call's own, cut at its front; append of one value to it. The cells of an array of pointers. -/
import Derived.Test.YtfdgbbapbpflcaaTr7
import Derived.ArgAppend
namespace Go.Proofs.Ytfdgbbapbpflcaa
open Go.RowKit
structure QU (w : World) (base : Nat) (e : TypeId) (A : Option Addr) (n c : Nat) (vs : List Value) : Prop where
  len : vs.length = n
  nc : n ≤ c
  cm : c ≤ maxLen
  blk : ∃ g i cur, A = some ⟨g, i, none⟩ ∧ base ≤ g ∧ Blk w g e cur ∧ i + c ≤ cur.size ∧ ∀ j v, vs[j]? = some v → cur[i + j]? = some v
section
variable {w w' : World} {base n c : Nat} {e : TypeId} {A : Option Addr} {vs : List Value}
theorem QU.of_own (h : w.ownsRow base e 1 (.slice A n c) n vs) (hn : 0 < n) : QU w base e A n c vs := by
  have hl : vs.length = n := by have := h.1; omega
  have hc := own_cap' h
  refine ⟨hl, hc.1, hc.2, ?_⟩
  rcases h.2 with ⟨_, h2⟩ | ⟨g, cap, cur, h1, hb, hg, _, _, hs, ht⟩
  · omega
  · injection h1 with h1 _ h3
    subst h1 h3
    refine ⟨g, 0, cur, rfl, hb, hg, by omega, fun j v hv => ?_⟩
    rw [← ht, List.getElem?_take] at hv
    split at hv
    · rw [Nat.zero_add]; simpa using hv
    · cases hv
theorem QU.lt (h : QU w base e A n c vs) : ∀ k, blockOf A = some k → base ≤ k ∧ k < w.heap.size := by
  obtain ⟨g, i, cur, rfl, hb, hg, _⟩ := h.blk
  intro k hk
  obtain rfl : g = k := by simpa [blockOf] using hk
  exact ⟨hb, hg.lt⟩
theorem QU.at0 (h : QU w base e A n c vs) (hn : 0 < n) : ∃ ad v, A = some ad ∧ vs[0]? = some v ∧ w.cell? ad = some v := by
  obtain ⟨g, i, cur, rfl, hb, hg, hs, hv⟩ := h.blk
  have hx : vs[0]? = some vs[0]! := by
    have := h.len
    cases vs with
    | nil => simp at this; omega
    | cons v vs => simp
  exact ⟨_, _, rfl, hx, hg.cell_ (hv 0 _ hx)⟩
theorem QU.cut1 (h : QU w base e A n c vs) (hn : 0 < n) : QU w base e (if c = 1 then A else A.map (·.add 1)) (n - 1) (c - 1) (vs.drop 1) := by
  obtain ⟨g, i, cur, rfl, hb, hg, hs, hv⟩ := h.blk
  have hnc := h.nc
  have hcm := h.cm
  refine ⟨by rw [List.length_drop, h.len], by omega, by omega, ?_⟩
  by_cases hc : c = 1
  · rw [if_pos hc]
    refine ⟨g, i, cur, rfl, hb, hg, by omega, fun j v hj => ?_⟩
    rw [List.getElem?_drop] at hj
    have := (List.getElem?_eq_some_iff.1 hj).1
    rw [h.len] at this
    omega
  · rw [if_neg hc]
    refine ⟨g, i + 1, cur, by simp [Addr.add], hb, hg, by omega, fun j v hj => ?_⟩
    rw [List.getElem?_drop] at hj
    rw [Nat.add_assoc]
    exact hv _ _ hj
theorem QU.st (h : QU w base e A n c vs) (s : St w w') : QU w' base e A n c vs := by
  obtain ⟨g, i, cur, rfl, hb, hg, hs, hv⟩ := h.blk
  exact ⟨h.len, h.nc, h.cm, g, i, cur, rfl, hb, hg.st s, hs, hv⟩
theorem QU.grown (h : QU w base e A n c vs) {row : Option Nat} (hg : w.grownBy w' row) (hr : ∀ k, row = some k → blockOf A ≠ some k) : QU w' base e A n c vs := by
  obtain ⟨g, i, cur, rfl, hb, hb2, hs, hv⟩ := h.blk
  exact ⟨h.len, h.nc, h.cm, g, i, cur, rfl, hb, hb2.grown hg (fun e => hr g e.symm rfl), hs, hv⟩
theorem QU.ne_ (h : QU w base e A n c vs) {g : Nat} {t : TypeId} {cs : Array Value} (hb : Blk w g t cs) (hne : e ≠ t) : blockOf A ≠ some g := by
  obtain ⟨g', i, cur, rfl, _, hb2, _⟩ := h.blk
  intro he
  obtain rfl : g' = g := by simpa [blockOf] using he
  exact hb2.ne_ hb hne rfl
end
/-- append of one value of one cell to a queue. -/
theorem wpList_append_que {P : Program} {ops : Array Oper} {rest : List Oper} {o : Oper} {a : Act} {Q : Exit → Act → World → Prop} (W : World) (hgd : o.guard = none) (s x : Operand) (t : TypeId)
    (ho : o.op = .call { callee := .builtin .append, args := #[s, x], argTypes := #[t, t] })
    (base : Nat) (e : TypeId) (z : Value) (ht : P.underlying t = some (.slice e)) (hI : (P.info? e).map (fun i => (i.zero, i.size, i.bytes)) = some (some z, 1, 8)) (hz1 : z.cells.size = 1)
    (A : Option Addr) (m c : Nat) (vs : List Value) (u : Value) (hs : a.eval s = .slice A m c) (hq : QU W base e A m c vs) (h1 : u.oneCell' = true)
    {G : Nat} (hx : a.eval x = .slice (some ⟨G, 0, none⟩) 1 1) (hG : G = W.heap.size) (hm : m + 1 ≤ 1099511627776) (hbase : base ≤ W.heap.size)
    (h : ∀ A' c' w', QU w' base e A' (m + 1) c' (vs ++ [u]) → W.grownBy w' (blockOf A) → wpList P ops Q rest (a.put o.dst (.slice A' (m + 1) c')) w') :
    wpList P ops Q (o :: rest) a (W.alloc (.cells #[u] e)) := by
  subst hG
  obtain ⟨i0, hi0, hz0, hs1, hb8⟩ := info_parts hI
  have hK : ∀ A' c' w', QU w' base e A' (m + 1) c' (vs ++ [u]) → W.grownBy w' (blockOf A) → (Builtin.append_ #[t, t] o.type #[.slice A m c, .slice (some ⟨W.heap.size, 0, none⟩) 1 1]).run P (W.alloc (.cells #[u] e)) = .ok (.slice A' (m + 1) c') w' → wpList P ops Q (o :: rest) a (W.alloc (.cells #[u] e)) := by
    intro A' c' w' q g hr
    refine wpList_plain hgd fun K hK => ?_
    unfold Oper.wp execOp
    simp only [ho, resolve, invoke, builtin, Sem.run_bind, Sem.run_pure, Result.andThen_ok, List.map_toArray, List.map_cons, List.map_nil, hs, hx, hr]
    exact hK _ _ (h A' c' w' q g)
  have hnew : ∀ j v, [u][j]? = some v → (W.alloc (.cells #[u] e)).cell? ((⟨W.heap.size, 0, none⟩ : Addr).add j) = some v := by
    intro j v hj
    cases j with
    | zero =>
      rw [add_zero]
      exact (Blk.new W e #[u]).cell_ (i := 0) (by simpa using hj)
    | succ j => simp at hj
  have q0 := hq
  obtain ⟨g, i, cur, rfl, hb, hg, hsz, hv⟩ := hq.blk
  have hg' := hg.alloc (.cells #[u] e)
  have hg0 : W.grownBy (W.alloc (.cells #[u] e)) (some g) := World.grownBy_alloc _ _ _
  have hnc := hq.nc
  by_cases hroom : m + 1 ≤ c
  · have hr := run_append_room_cells (P := P) (W.alloc (.cells #[u] e)) t o.type e i0 ht hi0 g i m c ⟨W.heap.size, 0, none⟩ 1 1 [u] (by rw [hs1]; rfl) hnew (by intro v hv; rw [List.mem_singleton.1 hv]; exact h1) hroom
      (fun j hj => by
        obtain rfl : j = 0 := by simpa using hj
        rw [hs1, Nat.mul_one, Nat.add_zero, hg'.cell, Array.getElem?_eq_getElem (by omega)]; rfl)
      (fun j hj => hg'.frozen _)
    rw [hs1, Nat.mul_one] at hr
    refine hK _ _ _ ?_ (grown_trans' hg0 ?_) hr
    · have hset := hg'.set_ (i + m) u
      refine ⟨by rw [List.length_append, hq.len]; rfl, hroom, hq.cm, g, i, _, rfl, hb, hset, by rw [Array.size_setIfInBounds]; exact hsz, fun j v hj => ?_⟩
      rw [Array.getElem?_setIfInBounds]
      have hjl := (List.getElem?_eq_some_iff.1 hj).1
      rw [List.length_append, hq.len, List.length_singleton] at hjl
      by_cases he : i + m = i + j
      · obtain rfl : m = j := by omega
        rw [if_pos rfl, if_pos (by omega)]
        rw [List.getElem?_append_right (by rw [hq.len]; exact Nat.le_refl _), hq.len, Nat.sub_self] at hj
        simpa using hj
      · rw [if_neg he]
        rw [List.getElem?_append_left (by rw [hq.len]; omega)] at hj
        exact hv j v hj
    · exact World.grownBy_set _ g (i + m) u
  · have hbyt : (m + 1) * 8 ≤ 140737488355328 := by omega
    obtain ⟨v', w', hr, ho', hgr⟩ := run_append_arg_grows (P := P) (W.alloc (.cells #[u] e)) t o.type e i0 z 1 8 ht hi0 hz0 hs1 hb8 hz1 (by omega) ⟨g, i, none⟩ m c vs (by rw [hq.len]; omega)
      (fun j v hj => by
        have h2 : (⟨g, i, none⟩ : Addr).add j = ⟨g, i + j, none⟩ := by unfold Addr.add; split <;> simp_all
        rw [h2]
        exact hg'.cell_ (hv j v hj))
      ⟨W.heap.size, 0, none⟩ 1 1 [u] rfl hnew (by omega) (by unfold maxLen; omega) hbyt
    obtain ⟨A', c', rfl⟩ := row_of ho'
    have hown := QU.of_own (OI_less_row ho' (show base ≤ (W.alloc (.cells #[u] e)).heap.size by simp; omega)) (by omega)
    exact hK _ _ _ hown (grown_trans' hg0 ⟨hgr.os, hgr.tape, hgr.output, hgr.size, fun k hk _ => hgr.block k hk (by simp)⟩) hr
/-- Twelve pointers, or nil. -/
def fromCells (g : Nat → Nat) (b : Nat → Option Nat) : Array Value :=
  ((List.range 12).map fun j => match b j with | some x => ptr (g x) | none => .pointer none).toArray
def fromAt (g : Nat → Nat) : Option Nat → Value
  | some x => ptr (g x)
  | none => .pointer none
theorem from_at (g : Nat → Nat) (b : Nat → Option Nat) {m : Nat} (h : m < 12) : (fromCells g b)[m]? = some (fromAt g (b m)) := by
  simp [fromCells, h]
  cases b m <;> rfl
theorem from_size (g : Nat → Nat) (b : Nat → Option Nat) : (fromCells g b).size = 12 := by simp [fromCells]
theorem from_set (g : Nat → Nat) (b : Nat → Option Nat) {m : Nat} (x : Nat) (h : m < 12) : (fromCells g b).setIfInBounds m (ptr (g x)) = fromCells g (updB b m x) := by
  apply Array.ext_getElem?
  intro i
  rw [Array.getElem?_setIfInBounds]
  by_cases e : m = i
  · subst e
    rw [if_pos rfl, if_pos (by rw [from_size]; exact h), from_at _ _ h]
    simp [updB, fromAt]
  · rw [if_neg e]
    by_cases hi : i < 12
    · rw [from_at _ _ hi, from_at _ _ hi]
      unfold updB
      rw [if_neg (fun e' => e e'.symm)]
    · rw [Array.getElem?_eq_none (by rw [from_size]; omega), Array.getElem?_eq_none (by rw [from_size]; omega)]
theorem from_nil (g : Nat → Nat) : fromCells g (fun _ => none) = #[.pointer none, .pointer none, .pointer none, .pointer none, .pointer none, .pointer none, .pointer none, .pointer none, .pointer none, .pointer none, .pointer none, .pointer none] := rfl
end Go.Proofs.Ytfdgbbapbpflcaa
