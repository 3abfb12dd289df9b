/- FnStuckNever returns true. -/
import Derived.Test.YtggjfbakekfdhaaLawCr
namespace Go.Proofs.Ytggjfbakekfdhaa
open Go.RowKit Go.Sort
/-- Has anybody of the first q a credit of the group, or is there none? -/
def fnd (hs : List (List Int × Int)) (t : Int) (q : Nat) : Bool := decide (t < 0) || (hs.take q).any fun h => has h.1 t
theorem fnd_succ {hs : List (List Int × Int)} {q : Nat} {y : List Int × Int} (t : Int) (h : hs[q]? = some y) : fnd hs t (q + 1) = (fnd hs t q || has y.1 t) := by
  unfold fnd
  rw [take_snoc h, List.any_append, Bool.or_assoc]; simp
theorem fnd_all {hs : List (List Int × Int)} {t : Int} {q : Nat} (h : fnd hs t q = true) : t < 0 ∨ ∃ (k : Nat) (g : List Int × Int), hs[k]? = some g ∧ has g.1 t = true := by
  unfold fnd at h
  rw [Bool.or_eq_true, decide_eq_true_eq, List.any_eq_true] at h
  rcases h with h | ⟨x, hx, hh⟩
  · exact .inl h
  · obtain ⟨k, hk⟩ := List.getElem?_of_mem (List.mem_of_mem_take hx)
    exact .inr ⟨k, x, hk, hh⟩
set_option maxRecDepth 100000 in
set_option maxHeartbeats 4000000 in
theorem walkStuckNever (A : Option Addr) (n c : Nat) (bs : List Nat) {w : World} (h : RB w w.heap.size A n bs) (hnc : n ≤ c ∧ c ≤ maxLen) :
    Calls Try.prog 9 #[.slice A n c] w fun e w' => e = .returned (.bool true) ∧ Below w.heap.size w w' := by
  obtain ⟨hnc, hcm⟩ := hnc
  have HCM := hid hcm
  clear hcm
  by_cases hn : 1048576 < n
  · have hn : (1048576 : Int) < (n : Int) := by omega
    go_enter Try.func9, Try.ntmps9
    go_wp2_with fail
    go_ret
    exact ⟨rfl, Below.refl _ _⟩
  have hni : ¬ (1048576 : Int) < (n : Int) := by omega
  go_enter Try.func9, Try.ntmps9
  go_wp2_with fail
  refine (DrawCreditsOrdered_any _ _ _ _ _ h (by omega) hnc HCM.out).mono ?_
  rintro e w1 ⟨A1, n1, c1, B1, m1, d1, fs, hs, rfl, i1, f1, s1⟩
  have hn1 : n1 ≤ 1048576 := by have := i1.sl.len; have := f1.n; omega
  have hm1 : m1 ≤ 1048576 := by have := i1.sh.len; have := f1.m; omega
  have X := hid (LC.new i1 s1)
  have F := hid f1
  clear i1 s1 f1
  go_wp2_with fail
  generalize w1.alloc (.cells #[.slice A1 n1 c1, .slice B1 m1 d1] 25) = w2 at *
  generalize w1.heap.size = bx at *
  have q0 := X.out.k.cell_ (i := 0) (v := .slice A1 n1 c1) rfl
  have q1 := X.out.k.cell_ (i := 1) (v := .slice B1 m1 d1) rfl
  go_wp2_with fail
  refine (CreditsOrdered_any _ _ _ _ _ _ _ _ _ X.out.i.sl X.out.i.sh hn1 F.out.h2).mono ?_
  rintro e w3 ⟨rfl, s3⟩
  replace X := hid (X.out.st s3)
  replace q0 := s3.cell q0
  replace q1 := s3.cell q1
  clear s3
  go_wp2_with fail
  refine (specCreditsOrdered_any _ _ _ _ _ _ _ _ _ X.out.i.sl X.out.i.sh hn1 F.out.h2).mono ?_
  rintro e w4 ⟨rfl, s4⟩
  replace X := hid (X.out.st s4)
  replace q0 := s4.cell q0
  replace q1 := s4.cell q1
  clear s4
  cases ho : crOrd fs hs
  · go_wp2_with fail
    go_ret
    exact ⟨rfl, X.out.s⟩
  have HO := hid ho
  clear ho q0 q1
  have HLN := hid X.out.i.sh.len
  go_wp2_with fail
  go_loopw [6] (fun i wr => ∃ k : Nat, k ≤ m1 ∧ i = .int .i64 (k : Int) ∧ Hid (Dr w4 wr) ∧ Hid (∀ i x, i < k → hs[i]? = some x → fnd hs x.2 m1 = true)) (fun i _ => m1 - (intOf i).toNat)
  case atStart => exact ⟨0, Nat.zero_le _, rfl, Dr.refl _, hid (fun i x h => absurd h (by omega))⟩
  case round =>
    obtain ⟨wa, rfl⟩ : ∃ wo : World, wo = wr := ⟨_, rfl⟩
    obtain ⟨k, hk, rfl, hd, hall⟩ := hrel
    have X1 := hid (X.out.st hd.out.st)
    have q0 := X1.out.k.cell_ (i := 0) (v := .slice A1 n1 c1) rfl
    have q1 := X1.out.k.cell_ (i := 1) (v := .slice B1 m1 d1) rfl
    have hki : (0 : Int) ≤ (k : Int) := by omega
    by_cases hlt : k < m1
    · have hki2 : (k : Int) < (m1 : Int) := by omega
      obtain ⟨ad, Ak, nk, ck, xs, t, rfl, hb1, ca0, ca1, hx, hsl⟩ := X.out.i.sh.at_ hlt
      have HX := hid hx.out
      have cd1 := (hd.out.cell _).trans ca1
      clear hsl hx ca0
      go_wp2_with fail
      go_loopw [7, 8] (fun v i wr => ∃ j : Nat, j ≤ m1 ∧ i = .int .i64 (j : Int) ∧ v = .bool (fnd hs t j) ∧ Hid (Dr w4 wr)) (fun _ i _ => m1 - (intOf i).toNat)
      case atStart => exact ⟨0, Nat.zero_le _, rfl, by simp [fnd], hd⟩
      case round =>
        obtain ⟨wb, rfl⟩ : ∃ wo : World, wo = wr := ⟨_, rfl⟩
        obtain ⟨j, hj, rfl, rfl, hd2⟩ := hrel
        clear q0 q1 cd1
        have X2 := hid (X.out.st hd2.out.st)
        have q0 := X2.out.k.cell_ (i := 0) (v := .slice A1 n1 c1) rfl
        have q1 := X2.out.k.cell_ (i := 1) (v := .slice (some ad) m1 d1) rfl
        have cd1' := (hd2.out.cell _).trans ca1
        have hj0 : (0 : Int) ≤ (j : Int) := by omega
        by_cases hltj : j < m1
        · have hji : (j : Int) < (m1 : Int) := by omega
          obtain ⟨ad', Aj, nj, cj, ys, u, ea, hbh, f0, f1, hy, hsj⟩ := X2.out.i.sh.at_ hltj
          injection ea with ea
          subst ea
          have hnj : nj ≤ 1048576 := by have h8 := F.out.h2 _ (List.mem_of_getElem? hy.out); rw [hsj.len] at h8; exact h8
          have HS := hid (fnd_succ t hy.out)
          obtain ⟨b, hb0⟩ : ∃ b, fnd hs t j = b := ⟨_, rfl⟩
          rw [hb0] at HS ⊢
          clear hb0
          cases b
          · have HC := hid (fun (m : Nat) => quiet_left (hasInt_any Aj nj cj _ ys t (wb.drewN m) (hsj.ri.dr ⟨_, rfl⟩) (by omega)))
            have HS2 := hid (HS.out.trans (by rw [Bool.false_or]))
            go_wp2_with fail
            go_quiet ((go_at_call 34; exact HC.out _))
            go_wp2_with fail
            go_roundw
            case rel => exact ⟨j + 1, by omega, by go_num, by rw [HS2.out], hd2.out.more _⟩
            case measure => simp [intOf]; omega
          · have HS2 := hid (HS.out.trans (by rw [Bool.true_or]))
            go_wp2_with fail
            go_quiet (fail)
            go_wp2_with fail
            go_roundw
            case rel => exact ⟨j + 1, by omega, by go_num, by rw [HS2.out], hd2.out.more _⟩
            case measure => simp [intOf]; omega
        · obtain rfl : j = m1 := by omega
          have hji : ¬ ((j : Int) < (j : Int)) := by omega
          obtain ⟨b, hb0⟩ : ∃ b, fnd hs t j = b := ⟨_, rfl⟩
          rw [hb0]
          cases b
          · clear hb0
            go_wp2_with fail
            go_ret
            exact ⟨rfl, X2.out.s⟩
          · have HN : Hid (∀ i x, i < k + 1 → hs[i]? = some x → fnd hs x.2 j = true) := by
              intro i x hi hx
              by_cases e : i = k
              · subst e
                rw [HX.out] at hx
                injection hx with hx
                subst hx
                exact hb0
              · exact hall.out i x (by omega) hx
            clear hb0
            go_wp2_with fail
            go_roundw
            case rel => exact ⟨k + 1, by omega, by go_num, hd2, HN⟩
            case measure => simp [intOf]; omega
    · obtain rfl : k = m1 := by omega
      have hki2 : ¬ ((k : Int) < (k : Int)) := by omega
      have HZ : Hid (crStuck fs hs = []) := by
        show crStuck fs hs = []
        have := ord_never HO.out (fun i x hx => fnd_all (hall.out i x (by have := (List.getElem?_eq_some_iff.1 hx).1; have := HLN.out; omega) hx))
        unfold crStuck
        rw [this]
        simp
      clear hall
      go_wp2_with fail
      refine (CreditsStuck_any _ _ _ _ _ _ _ _ _ X1.out.i.sl X1.out.i.sh hn1 F.out.h2).mono ?_
      rintro e w9 ⟨Z, a, rfl, o9, s9⟩
      rw [HZ.out]
      go_wp2_with fail
      go_ret
      exact ⟨rfl, X1.out.s.trans s9⟩
end Go.Proofs.Ytggjfbakekfdhaa
