/- Slices of stamps: how they read; their comparison, their marks. -/
import Derived.Test.YtldclkjknhjbfaaSets
namespace Go.Proofs.Ytldclkjknhjbfaa
open Go.RowKit

/-- A slice of stamps (two ints each) that can be read. -/
structure SS (w : World) (A : Option Addr) (n c : Nat) (ss : List (Int × Int)) : Prop where
  len : ss.length = n
  nc : n ≤ c
  cm : c ≤ maxLen
  rd : 0 < n → ∃ ad, A = some ad ∧ ad.block < w.heap.size ∧ ∀ k, k < n → ∃ t g, w.cell? (ad.add (k * 2)) = some (.int .i64 t) ∧ w.cell? (ad.add (k * 2 + 1)) = some (.int .i64 g) ∧ ss[k]? = some (t, g)
section
variable {w w' : World} {n c : Nat} {A : Option Addr} {ss : List (Int × Int)}
theorem SS.at_ {k : Nat} (h : SS w A n c ss) (hk : k < n) : ∃ ad t g, A = some ad ∧ ad.block < w.heap.size ∧ w.cell? (ad.add (k * 2)) = some (.int .i64 t) ∧ w.cell? ⟨(ad.add (k * 2)).block, (ad.add (k * 2)).off + 1, none⟩ = some (.int .i64 g) ∧ Hid (ss[k]? = some (t, g)) := by
  obtain ⟨ad, h1, h2, h3⟩ := h.rd (by omega)
  obtain ⟨t, g, h4, h5, h6⟩ := h3 k hk
  exact ⟨ad, t, g, h1, h2, h4, by rw [← h5, add_field ad (k * 2) 0], h6⟩
theorem SS.st (h : SS w A n c ss) (hst : St w w') : SS w' A n c ss := by
  refine ⟨h.len, h.nc, h.cm, fun hn => ?_⟩
  obtain ⟨ad, h1, h2, h3⟩ := h.rd hn
  refine ⟨ad, h1, Nat.lt_of_lt_of_le h2 hst.size, fun k hk => ?_⟩
  obtain ⟨t, g, h4, h5, h6⟩ := h3 k hk
  exact ⟨t, g, (hst.below.cell (by rw [block_of_add]; exact h2)).trans h4, (hst.below.cell (by rw [block_of_add]; exact h2)).trans h5, h6⟩
theorem SS.dr (h : SS w A n c ss) (hd : Dr w w') : SS w' A n c ss := h.st hd.st
theorem SS.none_ : SS w none 0 0 [] := ⟨rfl, Nat.le_refl _, by simp [maxLen], fun h => absurd h (by omega)⟩
theorem SS.empty (A : Option Addr) (c : Nat) (hc : c ≤ maxLen) : SS w A 0 c [] := ⟨rfl, Nat.zero_le _, hc, fun h => absurd h (by omega)⟩
end
/-- The cells of stamps. -/
def stampCells (ss : List (Int × Int)) : List Value := ss.flatMap fun s => [.int .i64 s.1, .int .i64 s.2]
theorem stampCells_len (ss : List (Int × Int)) : (stampCells ss).length = ss.length * 2 := by
  induction ss with
  | nil => rfl
  | cons h t ih => simp [stampCells] at ih ⊢; omega
theorem stampCells_snoc (ss : List (Int × Int)) (s : Int × Int) : stampCells (ss ++ [s]) = stampCells ss ++ [.int .i64 s.1, .int .i64 s.2] := by simp [stampCells]
theorem stampCells_at : ∀ (ss : List (Int × Int)) (k : Nat) (t g : Int), ss[k]? = some (t, g) → (stampCells ss)[k * 2]? = some (.int .i64 t) ∧ (stampCells ss)[k * 2 + 1]? = some (.int .i64 g)
  | [], k, _, _, h => by simp at h
  | h :: r, 0, v, t, hk => by
    simp at hk; subst hk
    simp [stampCells]
  | h :: r, k + 1, v, t, hk => by
    simp at hk
    have := stampCells_at r k v t hk
    have e1 : (k + 1) * 2 = k * 2 + 2 := by omega
    have e2 : (k + 1) * 2 + 1 = k * 2 + 1 + 2 := by omega
    rw [e2, e1]
    have hc : stampCells (h :: r) = .int .i64 h.1 :: .int .i64 h.2 :: stampCells r := rfl
    rw [hc]
    simpa using this
/-- Stamps in a row of the call's own. -/
def OS (w : World) (base : Nat) (A : Option Addr) (n c : Nat) (ss : List (Int × Int)) : Prop := ss.length = n ∧ w.ownsRow base 45 2 (.slice A n c) n (stampCells ss)
theorem OS.ss {w : World} {base n c : Nat} {A : Option Addr} {ss : List (Int × Int)} (h : OS w base A n c ss) : SS w A n c ss := by
  refine ⟨h.1, (own_cap' h.2).1, (own_cap' h.2).2, fun hn => ?_⟩
  obtain ⟨ad, h4, h5, h6⟩ := (Reads.of_own h.2).2 hn
  refine ⟨ad, h4, h5, fun k hk => ?_⟩
  have hk' : k < ss.length := by rw [h.1]; exact hk
  obtain ⟨h7, h8⟩ := stampCells_at ss k ss[k].1 ss[k].2 (by simp [hk'])
  exact ⟨_, _, h6 _ _ h7, h6 _ _ h8, by simp [hk']⟩
theorem OS.nil (w : World) (base : Nat) : OS w base none 0 0 [] := ⟨rfl, World.ownsRow_nil _ _ _ _⟩
def eqS (s s' : Int × Int) : Bool := (s.1 == s'.1) && (s.2 == s'.2)
theorem eqS_iff {s s' : Int × Int} : eqS s s' = true ↔ s = s' := by
  obtain ⟨a, b⟩ := s
  obtain ⟨a', b'⟩ := s'
  simp [eqS]
theorem eqStamp_any (t g t' g' : Int) (w : World) :
    Calls Try.prog 41 #[.agg #[.int .i64 t, .int .i64 g], .agg #[.int .i64 t', .int .i64 g']] w fun e w' => e = .returned (.bool (eqS (t, g) (t', g'))) ∧ St w w' := by
  have hdef := hid (show eqS (t, g) (t', g') = ((t == t') && (g == g')) from rfl)
  have s1 := ((St.refl w).alloc (.cells #[.int .i64 t, .int .i64 g] 45)).alloc (.cells #[.int .i64 t', .int .i64 g'] 45)
  have hne := neq_of (x := t) (y := t') rfl
  cases ht : (t == t')
  · rw [ht] at hdef hne
    go_enter Try.func41, Try.ntmps41
    go_wp2
    go_ret
    exact ⟨ret_bool hdef.out.symm, s1⟩
  · rw [ht] at hdef hne
    have hne2 := neq_of (x := g) (y := g') rfl
    cases hg : (g == g')
    · rw [hg] at hdef hne2
      go_enter Try.func41, Try.ntmps41
      go_wp2
      go_ret
      exact ⟨ret_bool hdef.out.symm, s1⟩
    · rw [hg] at hdef hne2
      go_enter Try.func41, Try.ntmps41
      go_wp2
      go_ret
      exact ⟨ret_bool hdef.out.symm, s1⟩
def eqSS (ss ss' : List (Int × Int)) : Bool := decide (ss = ss')
theorem eqSS_miss {ss ss' : List (Int × Int)} {k : Nat} {x y : Int × Int} (h : ss[k]? = some x) (h' : ss'[k]? = some y) (hx : eqS x y = false) : eqSS ss ss' = false := by
  simp only [eqSS, decide_eq_false_iff_not]
  rintro rfl
  rw [h] at h'
  injection h' with h'
  subst h'
  rw [eqS_iff.2 rfl] at hx
  cases hx
theorem eqSS_hit {ss ss' : List (Int × Int)} {k : Nat} {x y : Int × Int} (h : ss[k]? = some x) (h' : ss'[k]? = some y) (hx : eqS x y = true) (hk : ss.take k = ss'.take k) : ss.take (k + 1) = ss'.take (k + 1) := by
  rw [take_snoc h, take_snoc h', hk, eqS_iff.1 hx]
theorem eqSS_full {ss ss' : List (Int × Int)} {n : Nat} (h1 : ss.length = n) (h2 : ss'.length = n) (h : ss.take n = ss'.take n) : eqSS ss ss' = true := by
  rw [List.take_of_length_le (by omega), List.take_of_length_le (by omega)] at h
  simp [eqSS, h]
theorem eqSS_len {ss ss' : List (Int × Int)} (h : ss.length ≠ ss'.length) : eqSS ss ss' = false := by
  simp only [eqSS, decide_eq_false_iff_not]
  rintro rfl
  exact h rfl
set_option maxHeartbeats 1000000 in
theorem eqStampS_any (A A' : Option Addr) (n c n' c' : Nat) (ss ss' : List (Int × Int)) (w : World) (h : SS w A n c ss) (h' : SS w A' n' c' ss') (hn : n ≤ 1048576) :
    Calls Try.prog 52 #[.slice A n c, .slice A' n' c'] w fun e w' => e = .returned (.bool (eqSS ss ss')) ∧ St w w' := by
  have HL := hid h.len
  have HL' := hid h'.len
  by_cases hnn : n = n'
  · subst hnn
    go_enter Try.func52, Try.ntmps52
    go_wp2_with fail
    go_loopw [5] (fun i wr => ∃ k : Nat, k ≤ n ∧ i = .int .i64 k ∧ Hid (ss.take k = ss'.take k) ∧ St w wr) (fun i _ => n - (intOf i).toNat)
    case atStart => exact ⟨0, Nat.zero_le _, rfl, rfl, St.refl _⟩
    case round =>
      obtain ⟨k, hk, rfl, hno, hd⟩ := hrel
      have h := h.st hd
      have h' := h'.st hd
      by_cases hlt : k < n
      · obtain ⟨ad, t, g, rfl, hb1, hc1, hc2, hx⟩ := h.at_ hlt
        obtain ⟨ad', t', g', rfl, hb1', hc1', hc2', hx'⟩ := h'.at_ hlt
        have hki : (0 : Int) ≤ (k : Int) := by omega
        have hki2 : (k : Int) < (n : Int) := by omega
        cases he : eqS (t, g) (t', g')
        · have hm := hid (eqSS_miss hx.out hx'.out he)
          go_wp2_with fail
          go_region_held3 (fun w' => w'.cell? (ad.add (k * 2)) = some (.int .i64 t) ∧ w'.cell? ⟨(ad.add (k * 2)).block, (ad.add (k * 2)).off + 1, none⟩ = some (.int .i64 g) ∧ w'.cell? (ad'.add (k * 2)) = some (.int .i64 t') ∧ w'.cell? ⟨(ad'.add (k * 2)).block, (ad'.add (k * 2)).off + 1, none⟩ = some (.int .i64 g')) (first | go_keep | exact ⟨s1.cell hc1, s1.cell hc2, s1.cell hc1', s1.cell hc2'⟩)
            ((go_at_call 41; refine (eqStamp_any _ _ _ _ _).mono ?_; rintro e w1 ⟨rfl, s1⟩))
          go_wp2_with fail
          go_ret
          exact ⟨ret_bool hm.out.symm, hd.drew.trans s1⟩
        · have hm := hid (eqSS_hit hx.out hx'.out he hno.out)
          go_wp2_with fail
          go_region_held3 (fun w' => w'.cell? (ad.add (k * 2)) = some (.int .i64 t) ∧ w'.cell? ⟨(ad.add (k * 2)).block, (ad.add (k * 2)).off + 1, none⟩ = some (.int .i64 g) ∧ w'.cell? (ad'.add (k * 2)) = some (.int .i64 t') ∧ w'.cell? ⟨(ad'.add (k * 2)).block, (ad'.add (k * 2)).off + 1, none⟩ = some (.int .i64 g')) (first | go_keep | exact ⟨s1.cell hc1, s1.cell hc2, s1.cell hc1', s1.cell hc2'⟩)
            ((go_at_call 41; refine (eqStamp_any _ _ _ _ _).mono ?_; rintro e w1 ⟨rfl, s1⟩))
          go_wp2_with fail
          go_roundw
          case rel => exact ⟨k + 1, by omega, by go_num, hm, hd.drew.trans s1⟩
          case measure => simp [intOf]; omega
      · obtain rfl : k = n := by omega
        go_wp2_with fail
        go_ret
        exact ⟨ret_bool (eqSS_full HL.out HL'.out hno.out).symm, hd⟩
  · have hm := hid (eqSS_len (ss := ss) (ss' := ss') (by rw [HL.out, HL'.out]; exact hnn))
    have hne : (n : Int) ≠ (n' : Int) := by omega
    go_enter Try.func52, Try.ntmps52
    go_wp2_with fail
    go_ret
    exact ⟨ret_bool hm.out.symm, St.refl _⟩
/-- The marks of stamps: k, k+1; k+2, k+3; .. -/
def smarks (k : Int) (n : Nat) : List (Int × Int) := (List.range n).map fun (i : Nat) => (k + 2 * (i : Int), k + 2 * (i : Int) + 1)
theorem smarks_len (k : Int) (n : Nat) : (smarks k n).length = n := by simp [smarks]
theorem smarks_at {k : Int} {n i : Nat} (h : i < n) : (smarks k n)[i]? = some (k + 2 * i, k + 2 * i + 1) := by simp [smarks, h]
theorem smarks_succ (k : Int) (n : Nat) : smarks k (n + 1) = smarks k n ++ [(k + 2 * n, k + 2 * n + 1)] := by simp [smarks, List.range_succ]
theorem stampCells_set (ss : List (Int × Int)) (k : Nat) (u v : Int) : ((stampCells ss).set (k * 2) (.int .i64 u)).set (k * 2 + 1) (.int .i64 v) = stampCells (ss.set k (u, v)) := by
  induction ss generalizing k with
  | nil => simp [stampCells]
  | cons h t ih =>
    have hc : ∀ (s : Int × Int) (r : List (Int × Int)), stampCells (s :: r) = .int .i64 s.1 :: .int .i64 s.2 :: stampCells r := fun _ _ => rfl
    cases k with
    | zero => simp [hc]
    | succ k =>
      have e1 : (k + 1) * 2 = k * 2 + 2 := by omega
      have e2 : (k + 1) * 2 + 1 = (k * 2 + 1) + 2 := by omega
      rw [List.set_cons_succ, hc, hc, ← ih, e2, e1]
      rfl
theorem OS.at_ {w : World} {base n c k : Nat} {A : Option Addr} {ss : List (Int × Int)} (h : OS w base A n c ss) (hk : k < n) : ∃ b t g, A = some ⟨b, 0, none⟩ ∧ base ≤ b ∧ b < w.heap.size ∧ Hid (ss[k]? = some (t, g)) ∧ w.cell? ⟨b, k * 2, none⟩ = some (.int .i64 t) ∧ w.cell? ⟨b, k * 2 + 1, none⟩ = some (.int .i64 g) ∧ w.frozen? ⟨b, k * 2, none⟩ = false ∧ w.frozen? ⟨b, k * 2 + 1, none⟩ = false ∧
    ∀ u v, Hid (OS ((w.setCell ⟨b, k * 2, none⟩ (.int .i64 u)).setCell ⟨b, k * 2 + 1, none⟩ (.int .i64 v)) base A n c (ss.set k (u, v))) ∧ w.grownBy ((w.setCell ⟨b, k * 2, none⟩ (.int .i64 u)).setCell ⟨b, k * 2 + 1, none⟩ (.int .i64 v)) (some b) := by
  obtain ⟨h1, h2⟩ := h
  obtain ⟨g, cap, hv, hb, hlt⟩ := World.ownsRow.form h2 (by omega)
  injection hv with hv1 _ hv2
  subst hv1 hv2
  have hk' : k < ss.length := by omega
  obtain ⟨h7, h8⟩ := stampCells_at ss k ss[k].1 ss[k].2 (by simp [hk'])
  refine ⟨g, ss[k].1, ss[k].2, rfl, hb, hlt, List.getElem?_eq_getElem hk', (World.ownsRow.cellAt h2 (k * 2) (by omega)).trans h7, (World.ownsRow.cellAt h2 (k * 2 + 1) (by omega)).trans h8, World.ownsRow.frozenAt h2 _, World.ownsRow.frozenAt h2 _, fun u v => ?_⟩
  obtain ⟨h3, h4⟩ := World.ownsRow.stored h2 (k * 2) (.int .i64 u)
  obtain ⟨h5, h6⟩ := World.ownsRow.stored h3 (k * 2 + 1) (.int .i64 v)
  refine ⟨⟨by simpa using h1, ?_⟩, grown_trans' h4 h6⟩
  rw [stampCells_set] at h5
  exact h5
set_option maxHeartbeats 400000 in
theorem markStampS_any (A : Option Addr) (n c base : Nat) (k : Int) (ss : List (Int × Int)) (w : World) (h : OS w base A n c ss) (hn : n ≤ 1048576) (hk : 0 ≤ k) (hk' : k ≤ 4611686018427387904) :
    Calls Try.prog 53 #[.slice A n c, .int .i64 k] w fun e w' => e = .returned (.int .i64 (k + 2 * n)) ∧ OS w' base A n c (smarks k n) ∧ w.grownBy w' (blockOf A) := by
  have HL := hid h.1
  go_enter Try.func53, Try.ntmps53
  go_wp2_with fail
  go_loopw [1, 5] (fun s t wr => ∃ i : Nat, i ≤ n ∧ t = .int .i64 i ∧ s = .int .i64 (k + 2 * i) ∧ Hid (OS wr base A n c (smarks k i ++ ss.drop i)) ∧ w.grownBy wr (blockOf A)) (fun _ t _ => n - (intOf t).toNat)
  case atStart => exact ⟨0, Nat.zero_le _, rfl, by simp, h, World.grownBy.refl _ _⟩
  case round =>
    obtain ⟨i, hi, rfl, rfl, ho, hg⟩ := hrel
    by_cases hlt : i < n
    · obtain ⟨b, t, g, rfl, hb, hbl, hx, hc0, hc, hfz0, hfz, hset⟩ := ho.out.at_ hlt
      obtain ⟨hs1, hs2⟩ := hset (k + 2 * i) (k + 2 * i + 1)
      clear hset
      go_wp2_with fail
      go_roundw
      case rel =>
        refine ⟨i + 1, by omega, by go_num, ?_, ?_, grown_trans' hg hs2⟩
        · go_num
        · rw [smarks_succ, ← set_front rfl (smarks_len _ _) (by rw [HL.out]; exact hlt)]; exact hs1
      case measure => simp [intOf]; omega
    · obtain rfl : i = n := by omega
      go_wp2_with fail
      go_ret
      refine ⟨rfl, ?_, hg⟩
      have := ho.out
      rwa [List.drop_of_length_le (by rw [HL.out]; omega), List.append_nil] at this
theorem heldStampS_any (A : Option Addr) (n c : Nat) (k : Int) (w : World) (h : SS w A n c (smarks k n)) (hn : n ≤ 1048576) (hk : 0 ≤ k) (hk' : k ≤ 4611686018427387904) :
    Calls Try.prog 54 #[.slice A n c, .int .i64 k] w fun e w' => e = .returned (.int .i64 (k + 2 * n)) ∧ w = w' := by
  go_enter Try.func54, Try.ntmps54
  go_wp2_with fail
  go_loop [1, 5] (fun s t => ∃ i : Nat, i ≤ n ∧ t = .int .i64 i ∧ s = .int .i64 (k + 2 * i)) (fun _ t => n - (intOf t).toNat)
  case atStart => exact ⟨0, Nat.zero_le _, rfl, by simp⟩
  case round =>
    obtain ⟨i, hi, rfl, rfl⟩ := hrel
    by_cases hlt : i < n
    · obtain ⟨ad, t, g, rfl, hb, hc0, hc, hx⟩ := h.at_ hlt
      have hx := hx.out
      rw [smarks_at hlt] at hx
      simp at hx
      obtain ⟨rfl, rfl⟩ := hx
      go_wp2_with fail
      go_round
      case rel => exact ⟨i + 1, by omega, by go_num, by go_num⟩
      case measure => simp [intOf]; omega
    · obtain rfl : i = n := by omega
      go_wp2_with fail
      go_ret
      exact ⟨rfl, rfl⟩
end Go.Proofs.Ytldclkjknhjbfaa
