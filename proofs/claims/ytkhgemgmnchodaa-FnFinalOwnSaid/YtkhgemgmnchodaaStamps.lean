/- Slices of stamps: how they read; their comparison, their marks. -/
import Derived.Test.YtkhgemgmnchodaaSets
namespace Go.Proofs.Ytkhgemgmnchodaa
open Go.RowKit

/-- A slice of stamps (two ints each) that can be read. -/
structure SS (w : World) (A : Option Addr) (n c : Nat) (ss : List (Int × Int)) : Prop where
  len : ss.length = n
  nc : n ≤ c
  cm : c ≤ maxLen
  rd : 0 < n → ∃ ad, A = some ad ∧ ad.block < w.heap.size ∧ ∀ k, k < n → ∃ t g, w.cell? (ad.add (k * 2)) = some (.int .i64 t) ∧ w.cell? (ad.add (k * 2 + 1)) = some (.int .i64 g) ∧ ss[k]? = some (t, g)
section
variable {w w' : World} {n c : Nat} {A : Option Addr} {ss : List (Int × Int)}
theorem SS.at_ {k : Nat} (h : SS w A n c ss) (hk : k < n) : ∃ ad t g, A = some ad ∧ ad.block < w.heap.size ∧ w.cell? (ad.add (k * 2)) = some (.int .i64 t) ∧ w.cell? ⟨(ad.add (k * 2)).block, (ad.add (k * 2)).off + 1, none⟩ = some (.int .i64 g) ∧ Hid (ss[k]? = some (t, g)) := by
  obtain ⟨ad, h1, h2, h3⟩ := h.rd (by omega)
  obtain ⟨t, g, h4, h5, h6⟩ := h3 k hk
  exact ⟨ad, t, g, h1, h2, h4, by rw [← h5, add_field ad (k * 2) 0], h6⟩
theorem SS.st (h : SS w A n c ss) (hst : St w w') : SS w' A n c ss := by
  refine ⟨h.len, h.nc, h.cm, fun hn => ?_⟩
  obtain ⟨ad, h1, h2, h3⟩ := h.rd hn
  refine ⟨ad, h1, Nat.lt_of_lt_of_le h2 hst.size, fun k hk => ?_⟩
  obtain ⟨t, g, h4, h5, h6⟩ := h3 k hk
  exact ⟨t, g, (hst.below.cell (by rw [block_of_add]; exact h2)).trans h4, (hst.below.cell (by rw [block_of_add]; exact h2)).trans h5, h6⟩
theorem SS.dr (h : SS w A n c ss) (hd : Dr w w') : SS w' A n c ss := h.st hd.st
theorem SS.none_ : SS w none 0 0 [] := ⟨rfl, Nat.le_refl _, by simp [maxLen], fun h => absurd h (by omega)⟩
theorem SS.empty (A : Option Addr) (c : Nat) (hc : c ≤ maxLen) : SS w A 0 c [] := ⟨rfl, Nat.zero_le _, hc, fun h => absurd h (by omega)⟩
end
/-- The cells of stamps. -/
def stampCells (ss : List (Int × Int)) : List Value := ss.flatMap fun s => [.int .i64 s.1, .int .i64 s.2]
theorem stampCells_len (ss : List (Int × Int)) : (stampCells ss).length = ss.length * 2 := by
  induction ss with
  | nil => rfl
  | cons h t ih => simp [stampCells] at ih ⊢; omega
theorem stampCells_snoc (ss : List (Int × Int)) (s : Int × Int) : stampCells (ss ++ [s]) = stampCells ss ++ [.int .i64 s.1, .int .i64 s.2] := by simp [stampCells]
theorem stampCells_at : ∀ (ss : List (Int × Int)) (k : Nat) (t g : Int), ss[k]? = some (t, g) → (stampCells ss)[k * 2]? = some (.int .i64 t) ∧ (stampCells ss)[k * 2 + 1]? = some (.int .i64 g)
  | [], k, _, _, h => by simp at h
  | h :: r, 0, v, t, hk => by
    simp at hk; subst hk
    simp [stampCells]
  | h :: r, k + 1, v, t, hk => by
    simp at hk
    have := stampCells_at r k v t hk
    have e1 : (k + 1) * 2 = k * 2 + 2 := by omega
    have e2 : (k + 1) * 2 + 1 = k * 2 + 1 + 2 := by omega
    rw [e2, e1]
    have hc : stampCells (h :: r) = .int .i64 h.1 :: .int .i64 h.2 :: stampCells r := rfl
    rw [hc]
    simpa using this
/-- Stamps in a row of the call's own. -/
def OS (w : World) (base : Nat) (A : Option Addr) (n c : Nat) (ss : List (Int × Int)) : Prop := ss.length = n ∧ w.ownsRow base 32 2 (.slice A n c) n (stampCells ss)
theorem OS.ss {w : World} {base n c : Nat} {A : Option Addr} {ss : List (Int × Int)} (h : OS w base A n c ss) : SS w A n c ss := by
  refine ⟨h.1, (own_cap' h.2).1, (own_cap' h.2).2, fun hn => ?_⟩
  obtain ⟨ad, h4, h5, h6⟩ := (Reads.of_own h.2).2 hn
  refine ⟨ad, h4, h5, fun k hk => ?_⟩
  have hk' : k < ss.length := by rw [h.1]; exact hk
  obtain ⟨h7, h8⟩ := stampCells_at ss k ss[k].1 ss[k].2 (by simp [hk'])
  exact ⟨_, _, h6 _ _ h7, h6 _ _ h8, by simp [hk']⟩
theorem OS.nil (w : World) (base : Nat) : OS w base none 0 0 [] := ⟨rfl, World.ownsRow_nil _ _ _ _⟩
def eqS (s s' : Int × Int) : Bool := (s.1 == s'.1) && (s.2 == s'.2)
theorem eqS_iff {s s' : Int × Int} : eqS s s' = true ↔ s = s' := by
  obtain ⟨a, b⟩ := s
  obtain ⟨a', b'⟩ := s'
  simp [eqS]
theorem eqStamp_any (t g t' g' : Int) (w : World) :
    Calls Try.prog 71 #[.agg #[.int .i64 t, .int .i64 g], .agg #[.int .i64 t', .int .i64 g']] w fun e w' => e = .returned (.bool (eqS (t, g) (t', g'))) ∧ St w w' := by
  have hdef := hid (show eqS (t, g) (t', g') = ((t == t') && (g == g')) from rfl)
  have s1 := ((St.refl w).alloc (.cells #[.int .i64 t, .int .i64 g] 32)).alloc (.cells #[.int .i64 t', .int .i64 g'] 32)
  have hne := neq_of (x := t) (y := t') rfl
  cases ht : (t == t')
  · rw [ht] at hdef hne
    go_enter Try.func71, Try.ntmps71
    go_wp2
    go_ret
    exact ⟨ret_bool hdef.out.symm, s1⟩
  · rw [ht] at hdef hne
    have hne2 := neq_of (x := g) (y := g') rfl
    cases hg : (g == g')
    · rw [hg] at hdef hne2
      go_enter Try.func71, Try.ntmps71
      go_wp2
      go_ret
      exact ⟨ret_bool hdef.out.symm, s1⟩
    · rw [hg] at hdef hne2
      go_enter Try.func71, Try.ntmps71
      go_wp2
      go_ret
      exact ⟨ret_bool hdef.out.symm, s1⟩
/-- The marks of stamps: k, k+1; k+2, k+3; .. -/
def smarks (k : Int) (n : Nat) : List (Int × Int) := (List.range n).map fun (i : Nat) => (k + 2 * (i : Int), k + 2 * (i : Int) + 1)
theorem smarks_len (k : Int) (n : Nat) : (smarks k n).length = n := by simp [smarks]
theorem smarks_at {k : Int} {n i : Nat} (h : i < n) : (smarks k n)[i]? = some (k + 2 * i, k + 2 * i + 1) := by simp [smarks, h]
theorem smarks_succ (k : Int) (n : Nat) : smarks k (n + 1) = smarks k n ++ [(k + 2 * n, k + 2 * n + 1)] := by simp [smarks, List.range_succ]
theorem stampCells_set (ss : List (Int × Int)) (k : Nat) (u v : Int) : ((stampCells ss).set (k * 2) (.int .i64 u)).set (k * 2 + 1) (.int .i64 v) = stampCells (ss.set k (u, v)) := by
  induction ss generalizing k with
  | nil => simp [stampCells]
  | cons h t ih =>
    have hc : ∀ (s : Int × Int) (r : List (Int × Int)), stampCells (s :: r) = .int .i64 s.1 :: .int .i64 s.2 :: stampCells r := fun _ _ => rfl
    cases k with
    | zero => simp [hc]
    | succ k =>
      have e1 : (k + 1) * 2 = k * 2 + 2 := by omega
      have e2 : (k + 1) * 2 + 1 = (k * 2 + 1) + 2 := by omega
      rw [List.set_cons_succ, hc, hc, ← ih, e2, e1]
      rfl
theorem OS.at_ {w : World} {base n c k : Nat} {A : Option Addr} {ss : List (Int × Int)} (h : OS w base A n c ss) (hk : k < n) : ∃ b t g, A = some ⟨b, 0, none⟩ ∧ base ≤ b ∧ b < w.heap.size ∧ Hid (ss[k]? = some (t, g)) ∧ w.cell? ⟨b, k * 2, none⟩ = some (.int .i64 t) ∧ w.cell? ⟨b, k * 2 + 1, none⟩ = some (.int .i64 g) ∧ w.frozen? ⟨b, k * 2, none⟩ = false ∧ w.frozen? ⟨b, k * 2 + 1, none⟩ = false ∧
    ∀ u v, Hid (OS ((w.setCell ⟨b, k * 2, none⟩ (.int .i64 u)).setCell ⟨b, k * 2 + 1, none⟩ (.int .i64 v)) base A n c (ss.set k (u, v))) ∧ w.grownBy ((w.setCell ⟨b, k * 2, none⟩ (.int .i64 u)).setCell ⟨b, k * 2 + 1, none⟩ (.int .i64 v)) (some b) := by
  obtain ⟨h1, h2⟩ := h
  obtain ⟨g, cap, hv, hb, hlt⟩ := World.ownsRow.form h2 (by omega)
  injection hv with hv1 _ hv2
  subst hv1 hv2
  have hk' : k < ss.length := by omega
  obtain ⟨h7, h8⟩ := stampCells_at ss k ss[k].1 ss[k].2 (by simp [hk'])
  refine ⟨g, ss[k].1, ss[k].2, rfl, hb, hlt, List.getElem?_eq_getElem hk', (World.ownsRow.cellAt h2 (k * 2) (by omega)).trans h7, (World.ownsRow.cellAt h2 (k * 2 + 1) (by omega)).trans h8, World.ownsRow.frozenAt h2 _, World.ownsRow.frozenAt h2 _, fun u v => ?_⟩
  obtain ⟨h3, h4⟩ := World.ownsRow.stored h2 (k * 2) (.int .i64 u)
  obtain ⟨h5, h6⟩ := World.ownsRow.stored h3 (k * 2 + 1) (.int .i64 v)
  refine ⟨⟨by simpa using h1, ?_⟩, grown_trans' h4 h6⟩
  rw [stampCells_set] at h5
  exact h5
end Go.Proofs.Ytkhgemgmnchodaa
