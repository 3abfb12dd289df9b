/- append of a number of zero elements (append(s, make([]T, k)...)) to a slice of the call's own, whose elements are slices. -/
import Derived.Test.YtfdgbbapbpflcaaAppR
import Derived.Test.YtfdgbbapbpflcaaLists
import Derived.Lib.AppendZerosOnto
namespace Go.Proofs.Ytfdgbbapbpflcaa
open Go.RowKit
section
variable {P : Program} (w : World)
theorem run_append_room_zeros (t tn ty e : TypeId) (i : TypeInfo) (z : Value) (kq kn : IntKind) (ht : P.underlying t = some (.slice e)) (htn : P.underlying tn = some (.int kn)) (hi : P.info? e = some i) (hz : i.zero = some z)
    (g sLen sCap : Nat) (cur : Array Value) (hg : w.heap[g]? = some (.cells cur e (0, 0)))
    (k : Nat) (h0 : 0 < k) (hs : 0 < i.size) (h1 : ∀ u ∈ (Builtin.zeroCells z.cells k).toList, u.oneCell' = true) (h48 : k * i.bytes ≤ 281474976710656) (hk : (k : Int) ≤ 9223372036854775807)
    (hroom : sLen + k ≤ sCap) (hfit : sLen * i.size + (Builtin.zeroCells z.cells k).toList.length ≤ cur.size) :
    (Builtin.append_ #[t, tn] ty #[.slice (some ⟨g, 0, none⟩) sLen sCap, .int kq k]).run P w =
      .ok (.slice (some ⟨g, 0, none⟩) (sLen + k) sCap) (w.setRow g (cur.toList.take (sLen * i.size) ++ (Builtin.zeroCells z.cells k).toList ++ cur.toList.drop (sLen * i.size + (Builtin.zeroCells z.cells k).toList.length)).toArray) := by
  have hst := run_storeCells_at P g (sLen * i.size) e (Builtin.zeroCells z.cells k).toList 0 cur w hg (by simpa using hfit) h1
  simp only [Nat.add_zero] at hst
  have hw : IntKind.i64.wrap (k : Int) = k := by rw [IntKind.wrap_i64]; omega
  have h48i : ¬ (281474976710656 < (k : Int) * (i.bytes : Int)) := by
    rw [← Int.natCast_mul]
    omega
  have hneg : ¬ ((k : Int) < 0) := by omega
  have hns : ¬ (k * i.size = 0) := Nat.mul_ne_zero (by omega) (by omega)
  simp only [Array.length_toList] at hst ⊢
  simp [Builtin.append_, run_underlying ht, run_underlying htn, sizeOf, typeInfo, zeroValue, hi, hz, asInt, asIntOf, hw, hneg, hns, h48i, hroom, Addr.add_lit, hst]
theorem zeroCells_slice (k : Nat) : (Builtin.zeroCells (Value.cells (.slice none 0 0)) k).toList = List.replicate k (.slice none 0 0) := by
  apply List.ext_getElem?
  intro j
  have hc : Value.cells (.slice none 0 0) = #[.slice none 0 0] := rfl
  rw [hc]
  by_cases hj : j < k
  · simp [Builtin.zeroCells, hj, Nat.mod_one]
  · simp [Builtin.zeroCells, hj]
/-- The slice's elements are slices: k nil ones more. -/
theorem run_append_nils (base : Nat) (t tn ty e : TypeId) (kq kn : IntKind) (ht : P.underlying t = some (.slice e)) (htn : P.underlying tn = some (.int kn)) (hI : (P.info? e).map (fun i => (i.zero, i.size, i.bytes)) = some (some (.slice none 0 0), 1, 24))
    (A : Option Addr) (m c : Nat) (ys : List Value) (hown : w.ownsRow base e 1 (.slice A m c) m ys) (k : Nat) (h0 : 0 < k) (hm : m + k ≤ 1048576) (hbase : base ≤ w.heap.size) :
    ∃ X a w', (Builtin.append_ #[t, tn] ty #[.slice A m c, .int kq k]).run P w = .ok (.slice X (m + k) a) w' ∧ w'.ownsRow base e 1 (.slice X (m + k) a) (m + k) (ys ++ List.replicate k (.slice none 0 0)) ∧ w.grownBy w' (blockOf A) := by
  obtain ⟨i, hi, hz, hsize, hby⟩ := info_parts hI
  have hlen : (ys ++ List.replicate k (Value.slice none 0 0)).length = (m + k) * 1 := by rw [List.length_append, hown.1, List.length_replicate]; omega
  have hz1 : ∀ u ∈ (Builtin.zeroCells (Value.cells (.slice none 0 0)) k).toList, u.oneCell' = true := by
    rw [zeroCells_slice]
    intro u hu
    rw [List.eq_of_mem_replicate hu]; rfl
  have hzl : (Builtin.zeroCells (Value.cells (.slice none 0 0)) k).toList.length = k := by rw [zeroCells_slice, List.length_replicate]
  have hzs : (Builtin.zeroCells (Value.cells (.slice none 0 0)) k).size = k := by rw [← Array.length_toList, hzl]
  rcases hown.2 with ⟨hA, hm0⟩ | ⟨g, cap, cur, hA, hbg, hg, hnc, hcm, hcs, htake⟩
  · injection hA with hA1 hA2 hA3
    subst hA1 hA2 hA3
    have hys : ys = [] := List.eq_nil_of_length_eq_zero (by simpa using hown.1)
    subst hys
    have hr := Lib.run_append_grow_zeros (P := P) w t tn ty e i (.slice none 0 0) kq kn ht htn hi hz none 0 0 [] (by simp [Builtin.firstCells]) k h0 (by omega) (by omega) (by omega) (by rw [hby]; omega) (growslice_fits (by omega) (by rw [hby]; omega))
    have hge := grownCap_ge w (0 + k) 0 e
    have hcm : grownCap w (0 + k) 0 e ≤ maxLen := grownCap_le_maxLen w (0 + k) 0 e (by unfold maxLen; omega)
    refine ⟨_, _, _, hr, ⟨hlen, .inr ⟨w.heap.size, _, _, rfl, hbase, heap_alloc_new w.drew _, hge, hcm, ?_, ?_⟩⟩, ⟨rfl, rfl, rfl, by simp, fun q hq _ => Below.heap_alloc w.drew _ q hq⟩⟩
    · simp only [Array.size_append, List.size_toArray, List.length_nil, hzs, size_zeroCells, show (Value.cells (.slice none 0 0)).size = 1 from rfl]
      omega
    · simp only [Array.toList_append, zeroCells_slice, List.nil_append]
      rw [Nat.mul_one, List.take_append_of_le_length (by rw [List.length_replicate]; omega)]
      exact List.take_of_length_le (by rw [List.length_replicate]; omega)
  · injection hA with hA1 hA2 hA3
    subst hA1 hA3
    by_cases hroom : m + k ≤ c
    · have hr := run_append_room_zeros (P := P) w t tn ty e i (.slice none 0 0) kq kn ht htn hi hz g m c cur hg k h0 (by omega) hz1 (by rw [hby]; omega) (by omega) hroom (by rw [hzl, hsize, hcs]; omega)
      refine ⟨_, _, _, hr, ⟨hlen, .inr ⟨g, c, _, rfl, hbg, setRow_heap w g cur _ e _ hg, hroom, hcm, ?_, ?_⟩⟩, ⟨rfl, rfl, rfl, by simp, fun k hk hne => setRow_other w g k _ (fun e => hne (by simp [blockOf, e]))⟩⟩
      · simp only [List.size_toArray, List.length_append, List.length_take, List.length_drop, Array.length_toList, hzl, hzs, hsize]
        omega
      · rw [hsize, htake, zeroCells_slice]
        simp only [List.toList_toArray]
        rw [← hlen]
        exact List.take_left
    · have holds : ∀ j u, ys[j]? = some u → w.cell? ((⟨g, 0, none⟩ : Addr).add j) = some u := hown.cells (g := g) rfl
      have hf := run_firstCells_some (P := P) w.drew i.size m ⟨g, 0, none⟩ m c ys (by rw [hsize]; exact hown.1) holds
      have hr := Lib.run_append_grow_zeros (P := P) w t tn ty e i (.slice none 0 0) kq kn ht htn hi hz (some ⟨g, 0, none⟩) m c ys hf k h0 (by omega) (by omega) (by omega) (by rw [hby]; omega) (growslice_fits (by omega) (by rw [hby]; omega))
      have hge := grownCap_ge w (m + k) c e
      have hcm2 : grownCap w (m + k) c e ≤ maxLen := grownCap_le_maxLen w (m + k) c e (by unfold maxLen; omega)
      refine ⟨_, _, _, hr, ⟨hlen, .inr ⟨w.heap.size, _, _, rfl, hbase, heap_alloc_new w.drew _, hge, hcm2, ?_, ?_⟩⟩, ⟨rfl, rfl, rfl, by simp, fun q hq _ => Below.heap_alloc w.drew _ q hq⟩⟩
      · simp only [Array.size_append, List.size_toArray, hown.1, hzs, size_zeroCells, show (Value.cells (.slice none 0 0)).size = 1 from rfl]
        omega
      · simp only [Array.toList_append, List.append_assoc, zeroCells_slice]
        rw [← List.append_assoc, ← hlen]
        exact List.take_left
theorem wpList_append_nils {ops : Array Oper} {rest : List Oper} {o : Oper} {a : Act} {Q : Exit → Act → World → Prop} (hgd : o.guard = none) (s x : Operand) (t tn : TypeId)
    (ho : o.op = .call { callee := .builtin .append, args := #[s, x], argTypes := #[t, tn] })
    (base : Nat) (e : TypeId) (kq kn : IntKind) (ht : P.underlying t = some (.slice e)) (htn : P.underlying tn = some (.int kn)) (hI : (P.info? e).map (fun i => (i.zero, i.size, i.bytes)) = some (some (.slice none 0 0), 1, 24))
    (A : Option Addr) (m c : Nat) (ys : List Value) (hs : a.eval s = .slice A m c) (hown : w.ownsRow base e 1 (.slice A m c) m ys) (k : Nat) (hx : a.eval x = .int kq k) (h0 : 0 < k) (hm : m + k ≤ 1048576) (hbase : base ≤ w.heap.size)
    (h : ∀ X b w', w'.ownsRow base e 1 (.slice X (m + k) b) (m + k) (ys ++ List.replicate k (.slice none 0 0)) → w.grownBy w' (blockOf A) → wpList P ops Q rest (a.put o.dst (.slice X (m + k) b)) w') : wpList P ops Q (o :: rest) a w := by
  obtain ⟨X, b, w', hr, h2, h3⟩ := run_append_nils (P := P) w base t tn o.type e kq kn ht htn hI A m c ys hown k h0 hm hbase
  exact Lib.wpList_append_run w hgd s x t tn ho _ _ hs hx _ _ hr (h X b w' h2 h3)
end
end Go.Proofs.Ytfdgbbapbpflcaa
