/- TraceCycle, both; the reference's search. -/
import Derived.Test.YtfdgbbapbpflcaaTrC
namespace Go.Proofs.Ytfdgbbapbpflcaa
open Go.RowKit
/-- What TraceCycle returns. -/
def tcN (xss : List (List Int)) : List Nat := if valT xss then bestC (nF xss) 12 else []
def tcV (xss : List (List Int)) : List Int := ints (tcN xss)
theorem cyc_len (nx : Nat → Nat → Bool) (s : Nat) : (cyc nx s).length ≤ 13 := by
  unfold cyc
  split
  · simp
  · exact back_len _ _ _ _
theorem best_len (nx : Nat → Nat → Bool) : ∀ k, (bestC nx k).length ≤ 13
  | 0 => by simp [bestC]
  | k + 1 => by
    rw [bestC]
    split
    · exact cyc_len _ _
    · exact best_len nx k
theorem best_take {nx : Nat → Nat → Bool} {k m n : Nat} (h1 : (cyc nx k).length = m) (h2 : (bestC nx k).length = n) (h3 : 0 < m) (h4 : n = 0 ∨ m < n) : bestC nx (k + 1) = cyc nx k := by
  subst h1; subst h2
  rw [bestC, if_pos ⟨by omega, h4⟩]
theorem best_keep {nx : Nat → Nat → Bool} {k m n : Nat} (h1 : (cyc nx k).length = m) (h2 : (bestC nx k).length = n) (h : m = 0 ∨ (0 < n ∧ n ≤ m)) : bestC nx (k + 1) = bestC nx k := by
  subst h1; subst h2
  rw [bestC, if_neg]
  rintro ⟨h1, h2⟩
  omega
theorem tcN_len (xss : List (List Int)) : (tcN xss).length ≤ 13 := by
  unfold tcN
  split
  · exact best_len _ _
  · simp
theorem tcV_len (xss : List (List Int)) : (tcV xss).length ≤ 13 := by
  unfold tcV; rw [ints_len]; exact tcN_len xss
set_option maxRecDepth 100000 in
set_option maxHeartbeats 2000000 in
theorem TraceCycle_any (A : Option Addr) (n c : Nat) (xss : List (List Int)) (w : World) (h : SLL w A n c xss) (hn : n ≤ 1048576) (hn2 : ∀ xs ∈ xss, xs.length ≤ 1048576) :
    Calls Try.prog 40 #[.slice A n c] w (BackEnd (tcN xss) w) := by
  have HN2 := hid hn2
  clear hn2
  cases hv : valT xss
  · have hb := hid (show tcN xss = [] by unfold tcN; rw [hv]; rfl)
    go_enter Try.func40, Try.ntmps40
    go_wp2_with fail
    refine (TracesValid_any _ _ _ _ _ h hn HN2.out).mono ?_
    rintro e w1 ⟨rfl, s1⟩
    rw [hv]
    go_wp2_with fail
    go_ret
    exact ⟨_, _, _, rfl, by rw [hb.out]; exact World.ownsRow_nil _ _ _ _, s1⟩
  have HV := hid hv
  have HB := hid (show tcN xss = bestC (nF xss) 12 by unfold tcN; rw [hv]; rfl)
  go_enter Try.func40, Try.ntmps40
  go_wp2_with fail
  refine (TracesValid_any _ _ _ _ _ h hn HN2.out).mono ?_
  rintro e w1 ⟨rfl, s1⟩
  rw [hv]
  clear hv
  have h1 := h.st s1
  go_wp2_with fail
  refine (linked_any _ _ _ _ _ h1 hn (fun xs hx => ⟨HN2.out xs hx, valT_tr HV.out xs hx⟩)).mono ?_
  rintro e w2 ⟨A2, c2, g, rfl, l2, s2⟩
  have a2 := (St.refl w2).alloc (.cells #[] 3)
  have L2 := hid (l2.st a2)
  have S2 := hid ((s1.trans s2).trans a2)
  have HZ := hid (show w.heap.size ≤ w2.heap.size from (s1.trans s2).le)
  have HO := hid (OI.less (OI.lit (w := w2) (e := 3)) HZ.out)
  clear h h1 s1 s2 l2 a2
  go_wp2_with fail
  go_loopw [4, 13] (fun v i wr => ∃ (k m a : Nat) (X : Option Addr), k ≤ 12 ∧ i = .int .i64 (k : Int) ∧ v = .slice X m a ∧ Hid (OI wr w.heap.size 3 X m a (ints (bestC (nF xss) k))) ∧ Hid (LK wr w1.heap.size A2 12 c2 g (tF xss) (nF xss)) ∧ Hid (St w wr)) (fun _ i _ => 12 - (intOf i).toNat)
  case atStart => exact ⟨0, 0, 0, _, Nat.zero_le _, rfl, rfl, HO, L2, S2⟩
  case round =>
    obtain ⟨k, m, a, X, hk, rfl, rfl, ho, hl, hs⟩ := hrel
    by_cases hlt : k < 12
    · have hki : (k : Int) < 12 := by omega
      go_wp2_with fail
      refine (cycleFrom_any hl.out hlt).mono ?_
      rintro e w3 ⟨X3, n3, a3, rfl, o3, s3⟩
      have HM3 := hid (show (cyc (nF xss) k).length = n3 by have := o3.len; rwa [ints_len] at this)
      have HM := hid (show (bestC (nF xss) k).length = m by have := ho.out.len; rwa [ints_len] at this)
      have hb3 : n3 ≤ 13 := by rw [← HM3.out]; exact cyc_len _ _
      have hb : m ≤ 13 := by rw [← HM.out]; exact best_len _ _
      have O3 := hid (OI.less o3 hs.out.le)
      have O := hid (own_below ho.out s3)
      have L3 := hid (hl.out.st s3)
      have S3 := hid (hs.out.trans s3)
      clear o3 s3
      by_cases h0 : n3 = 0
      · have HBK := hid (best_keep HM3.out HM.out (.inl h0))
        subst h0
        rw [← HBK.out] at O
        go_wp2_with fail
        go_roundw
        case rel => exact ⟨k + 1, m, a, _, by omega, by go_num, rfl, O, L3, S3⟩
        case measure => simp [intOf]; omega
      · have h0i : (0 : Int) < (n3 : Int) := by omega
        by_cases h1 : m = 0
        · have HBK := hid (best_take HM3.out HM.out (by omega) (.inl h1))
          subst h1
          rw [← HBK.out] at O3
          go_wp2_with fail
          go_roundw
          case rel => exact ⟨k + 1, n3, a3, _, by omega, by go_num, rfl, O3, L3, S3⟩
          case measure => simp [intOf]; omega
        · have h1i : ((m : Int) == 0) = false := by simp; omega
          by_cases h2 : n3 < m
          · have HBK := hid (best_take HM3.out HM.out (by omega) (.inr h2))
            have h2i : (n3 : Int) < (m : Int) := by omega
            rw [← HBK.out] at O3
            go_wp2_with fail
            go_roundw
            case rel => exact ⟨k + 1, n3, a3, _, by omega, by go_num, rfl, O3, L3, S3⟩
            case measure => simp [intOf]; omega
          · have HBK := hid (best_keep HM3.out HM.out (.inr (by omega)))
            have h2i : ¬ (n3 : Int) < (m : Int) := by omega
            rw [← HBK.out] at O
            go_wp2_with fail
            go_roundw
            case rel => exact ⟨k + 1, m, a, _, by omega, by go_num, rfl, O, L3, S3⟩
            case measure => simp [intOf]; omega
    · obtain rfl : k = 12 := by omega
      have h12 : ¬ (12 : Int) < 12 := by omega
      go_wp2_with fail
      go_ret
      exact ⟨_, _, _, rfl, by rw [HB.out]; exact ho.out, hs.out⟩
/-- The reference's list of who was seen before whom. -/
def befI (b : Nat → Option Nat) : List Int := (List.range 12).map fun j => match b j with
  | some y => (y : Int)
  | none => -1
def befAt : Option Nat → Int
  | some y => (y : Int)
  | none => -1
theorem bef_at (b : Nat → Option Nat) {m : Nat} (h : m < 12) : (befI b)[m]? = some (befAt (b m)) := by
  simp [befI, h]
  cases b m <;> rfl
theorem bef_size (b : Nat → Option Nat) : (befI b).length = 12 := by simp [befI]
theorem bef_set (b : Nat → Option Nat) {m : Nat} (x : Nat) (_ : m < 12) : (befI b).set m (x : Int) = befI (updB b m x) := by
  apply List.ext_getElem?
  intro i
  rw [List.getElem?_set]
  by_cases e : m = i
  · subst e
    rename_i h
    rw [if_pos rfl, if_pos (by rw [bef_size]; exact h), bef_at _ h]
    simp [updB, befAt]
  · rw [if_neg e]
    by_cases hi : i < 12
    · rw [bef_at _ hi, bef_at _ hi]
      unfold updB
      rw [if_neg (fun e' => e e'.symm)]
    · rw [List.getElem?_eq_none (by rw [bef_size]; omega), List.getElem?_eq_none (by rw [bef_size]; omega)]
theorem bef_none : befI (fun _ => none) = List.replicate 12 (-1) := rfl
theorem bef_neg {b : Option Nat} : (befAt b < 0) ↔ b = none := by
  cases b with
  | none => simp [befAt]
  | some y => simp [befAt]
end Go.Proofs.Ytfdgbbapbpflcaa
