/- FnOrdered returns true. -/
import Derived.Test.YtggjfbakekfdhaaLawCr
namespace Go.Proofs.Ytggjfbakekfdhaa
open Go.RowKit Go.Sort
set_option maxRecDepth 100000 in
set_option maxHeartbeats 4000000 in
theorem walkOrdered (A : Option Addr) (n c : Nat) (bs : List Nat) {w : World} (h : RB w w.heap.size A n bs) (hnc : n ≤ c ∧ c ≤ maxLen) :
    Calls Try.prog 7 #[.slice A n c] w fun e w' => e = .returned (.bool true) ∧ Below w.heap.size w w' := by
  obtain ⟨hnc, hcm⟩ := hnc
  have HCM := hid hcm
  clear hcm
  by_cases hn : 1048576 < n
  · have hn : (1048576 : Int) < (n : Int) := by omega
    go_enter Try.func7, Try.ntmps7
    go_wp2_with fail
    go_ret
    exact ⟨rfl, Below.refl _ _⟩
  have hni : ¬ (1048576 : Int) < (n : Int) := by omega
  go_enter Try.func7, Try.ntmps7
  go_wp2_with fail
  refine (DrawCreditsOrdered_any _ _ _ _ _ h (by omega) hnc HCM.out).mono ?_
  rintro e w1 ⟨A1, n1, c1, B1, m1, d1, fs, hs, rfl, i1, f1, s1⟩
  have hn1 : n1 ≤ 1048576 := by have := i1.sl.len; have := f1.n; omega
  have hm1 : m1 ≤ 1048576 := by have := i1.sh.len; have := f1.m; omega
  have X := hid (LC.new i1 s1)
  have F := hid f1
  clear i1 s1 f1
  go_wp2_with fail
  generalize w1.alloc (.cells #[.slice A1 n1 c1, .slice B1 m1 d1] 25) = w2 at *
  generalize w1.heap.size = bx at *
  have q0 := X.out.k.cell_ (i := 0) (v := .slice A1 n1 c1) rfl
  have q1 := X.out.k.cell_ (i := 1) (v := .slice B1 m1 d1) rfl
  go_wp2_with fail
  refine (CreditsOrdered_any _ _ _ _ _ _ _ _ _ X.out.i.sl X.out.i.sh hn1 F.out.h2).mono ?_
  rintro e w3 ⟨rfl, s3⟩
  replace X := hid (X.out.st s3)
  replace q0 := s3.cell q0
  replace q1 := s3.cell q1
  clear s3
  go_wp2_with fail
  refine (specCreditsOrdered_any _ _ _ _ _ _ _ _ _ X.out.i.sl X.out.i.sh hn1 F.out.h2).mono ?_
  rintro e w4 ⟨rfl, s4⟩
  replace X := hid (X.out.st s4)
  replace q0 := s4.cell q0
  replace q1 := s4.cell q1
  clear s4
  cases ho : crOrd fs hs
  · go_wp2_with fail
    go_ret
    exact ⟨rfl, X.out.s⟩
  have HO := hid ho
  clear ho q0 q1
  go_wp2_with fail
  go_loopw [6] (fun i wr => ∃ k : Nat, k ≤ m1 ∧ i = .int .i64 (k : Int) ∧ Hid (Dr w4 wr)) (fun i _ => m1 - (intOf i).toNat)
  case atStart => exact ⟨0, Nat.zero_le _, rfl, Dr.refl _⟩
  case round =>
    obtain ⟨wa, rfl⟩ : ∃ wo : World, wo = wr := ⟨_, rfl⟩
    obtain ⟨k, hk, rfl, hd⟩ := hrel
    have X1 := hid (X.out.st hd.out.st)
    have q0 := X1.out.k.cell_ (i := 0) (v := .slice A1 n1 c1) rfl
    have q1 := X1.out.k.cell_ (i := 1) (v := .slice B1 m1 d1) rfl
    have hki : (0 : Int) ≤ (k : Int) := by omega
    by_cases hlt : k < m1
    · have hki2 : (k : Int) < (m1 : Int) := by omega
      obtain ⟨ad, Ak, nk, ck, xs, t, rfl, hb1, ca0, ca1, hx, hsl⟩ := X.out.i.sh.at_ hlt
      have HX := hid hx.out
      have HSL := hid hsl
      have hnk : nk ≤ 1048576 := by have h8 := F.out.h2 _ (List.mem_of_getElem? hx.out); rw [hsl.len] at h8; exact h8
      have cd0 := (hd.out.cell _).trans ca0
      clear hsl hx
      go_wp2_with fail
      go_loopw [7] (fun i wr => ∃ j : Nat, j ≤ nk ∧ i = .int .i64 (j : Int) ∧ Hid (Dr w4 wr)) (fun i _ => nk - (intOf i).toNat)
      case atStart => exact ⟨0, Nat.zero_le _, rfl, hd⟩
      case round =>
        obtain ⟨wb, rfl⟩ : ∃ wo : World, wo = wr := ⟨_, rfl⟩
        obtain ⟨j, hj, rfl, hd2⟩ := hrel
        clear q0 q1 cd0
        have X2 := hid (X.out.st hd2.out.st)
        have q0 := X2.out.k.cell_ (i := 0) (v := .slice A1 n1 c1) rfl
        have q1 := X2.out.k.cell_ (i := 1) (v := .slice (some ad) m1 d1) rfl
        have cd0 := (hd2.out.cell _).trans ca0
        have cd1' := (hd2.out.cell _).trans ca1
        have hj0 : (0 : Int) ≤ (j : Int) := by omega
        by_cases hltj : j < nk
        · have hji : (j : Int) < (nk : Int) := by omega
          obtain ⟨ah, g, rfl, hbh, hgx, hcg⟩ := RI.at_ (k := j) HSL.out.ri hltj
          have e0 := (hd2.out.cell _).trans hcg
          by_cases ht : 0 ≤ t
          · have hgt := ord_less HO.out HX.out ht (List.mem_of_getElem? hgx.out)
            have hgt2 : ¬ t ≤ g := by omega
            have htb : decide (0 ≤ t) = true := decide_eq_true ht
            go_wp2_with fail
            go_quiet (fail)
            go_wp2_with fail
            go_roundw
            case rel => exact ⟨j + 1, by omega, by go_num, hd2.out.more _⟩
            case measure => simp [intOf]; omega
          · have htb : decide (0 ≤ t) = false := decide_eq_false ht
            go_wp2_with fail
            go_quiet (fail)
            go_wp2_with fail
            go_roundw
            case rel => exact ⟨j + 1, by omega, by go_num, hd2.out.more _⟩
            case measure => simp [intOf]; omega
        · obtain rfl : j = nk := by omega
          have hji : ¬ ((j : Int) < (j : Int)) := by omega
          go_wp2_with fail
          go_roundw
          case rel => exact ⟨k + 1, by omega, by go_num, hd2⟩
          case measure => simp [intOf]; omega
    · obtain rfl : k = m1 := by omega
      have hki2 : ¬ ((k : Int) < (k : Int)) := by omega
      go_wp2_with fail
      go_ret
      exact ⟨rfl, X1.out.s⟩
end Go.Proofs.Ytggjfbakekfdhaa
