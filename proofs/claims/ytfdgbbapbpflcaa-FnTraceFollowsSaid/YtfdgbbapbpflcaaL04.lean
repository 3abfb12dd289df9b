/- FnTraceFollows returns true. -/
import Derived.Test.YtfdgbbapbpflcaaTr4
import Derived.Test.YtfdgbbapbpflcaaDrawTr
namespace Go.Proofs.Ytfdgbbapbpflcaa
open Go.RowKit
set_option maxHeartbeats 400000 in
theorem walkTraceFollows (A : Option Addr) (n c : Nat) (bs : List Nat) {w : World} (h : RB w w.heap.size A n bs) (hnc : n ≤ c ∧ c ≤ maxLen) :
    Calls Try.prog 6 #[.slice A n c] w fun e w' => e = .returned (.bool true) ∧ Below w.heap.size w w' := by
  obtain ⟨hnc, hcm⟩ := hnc
  have HCM := hid hcm
  clear hcm
  by_cases hn : 1048576 < n
  · have hn : (1048576 : Int) < (n : Int) := by omega
    go_enter Try.func6, Try.ntmps6
    go_wp2_with fail
    go_ret
    exact ⟨rfl, Below.refl _ _⟩
  have hni : ¬ (1048576 : Int) < (n : Int) := by omega
  go_enter Try.func6, Try.ntmps6
  go_wp2_with fail
  refine (DrawTraceFollows_any _ _ _ _ _ h (by omega) hnc HCM.out).mono ?_
  rintro e w1 ⟨A1, n1, c1, xs, A2, n2, c2, ys, rfl, h1, h2, hn1, hn2, s1⟩
  go_wp2_with fail
  refine (TraceFollows_any _ _ _ _ _ _ _ _ _ _ h1.ri h2.ri (by omega) (by omega) h1.nc h1.cm (Nat.le_refl _)).mono ?_
  rintro e w2 ⟨rfl, b2⟩
  have h1 := h1.st b2
  have h2 := h2.st b2
  have s2 := s1.trans b2
  clear s1 b2
  go_wp2_with fail
  refine (specTraceFollows_any _ _ _ _ _ _ _ _ _ _ h1.ri h2.ri (by omega) (by omega) h1.nc h2.nc).mono ?_
  rintro e w3 ⟨rfl, d3⟩
  have h1 := h1.dr d3
  have h2 := h2.dr d3
  have s3 := s2.dr d3
  clear s2 d3
  cases hf : follows xs ys
  · go_wp2_with fail
    go_ret
    exact ⟨rfl, s3⟩
  have HF := hid hf
  go_wp2_with fail
  go_loopw [7] (fun i wr => ∃ k : Nat, k ≤ n1 ∧ i = .int .i64 k ∧ Dr w3 wr) (fun i _ => n1 - (intOf i).toNat)
  case atStart => exact ⟨0, Nat.zero_le _, rfl, Dr.refl _⟩
  case round =>
    obtain ⟨k, hk, rfl, hd⟩ := hrel
    have h1 := h1.dr hd
    have h2 := h2.dr hd
    rename_i wr
    by_cases hlt : k < n1
    · obtain ⟨ad, x, rfl, hb, hx, hc⟩ := h1.ri.at_ hlt
      have hh := follows_has HF.out hx.out
      go_wp2_with fail
      refine (hasInt_any _ _ _ _ _ _ _ h2.ri (by omega)).mono ?_
      rintro e w4 ⟨rfl, rfl⟩
      go_wp2_with fail
      go_loopw [8] (fun j wq => ∃ i : Nat, i ≤ k ∧ j = .int .i64 i ∧ Dr wr wq) (fun j _ => k - (intOf j).toNat)
      case atStart => exact ⟨0, Nat.zero_le _, rfl, Dr.refl _⟩
      case round =>
        obtain ⟨i, hi, rfl, hdq⟩ := hrel
        have h1 := h1.dr hdq
        have h2 := h2.dr hdq
        by_cases hlti : i < k
        · obtain ⟨ad', y, he, hb', hy, hc'⟩ := h1.ri.at_ (k := i) (by omega)
          cases he
          have hc2 := (hdq.cell (ad.add k)).trans hc
          have hbf := follows_bef HF.out hy.out hx.out hlti
          go_wp2_with fail
          go_quiet ((go_at_call 30; exact quiet_left (before_any _ _ _ _ _ _ _ _ (Reads.drewN h2.ri _) (by omega) h2.nc)))
          go_wp2_with fail
          go_roundw
          case rel => exact ⟨i + 1, by omega, by go_num, hdq.more _⟩
          case measure => simp [intOf]; omega
        · obtain rfl : i = k := by omega
          go_wp2_with fail
          go_roundw
          case rel => exact ⟨i + 1, by omega, by go_num, hd.trans hdq⟩
          case measure => simp [intOf]; omega
    · obtain rfl : k = n1 := by omega
      go_wp2_with fail
      go_ret
      exact ⟨rfl, s3.dr hd⟩
end Go.Proofs.Ytfdgbbapbpflcaa
