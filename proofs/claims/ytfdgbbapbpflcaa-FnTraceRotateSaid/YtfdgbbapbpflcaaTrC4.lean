/- The reference's TraceCycle. -/
import Derived.Test.YtfdgbbapbpflcaaTrC3
namespace Go.Proofs.Ytfdgbbapbpflcaa
open Go.RowKit
def TCEndS (xss : List (List Int)) (w : World) (e : Ending) (w' : World) : Prop := ∃ A n c, e = .returned (.slice A n c) ∧ SL w' A n c (tcV xss) ∧ St w w'
set_option maxRecDepth 100000 in
set_option maxHeartbeats 2000000 in
theorem specTraceCycle_any (A : Option Addr) (n c : Nat) (xss : List (List Int)) (w : World) (h : SLL w A n c xss) (hn : n ≤ 1048576) (hn2 : ∀ xs ∈ xss, xs.length ≤ 1048576) :
    Calls Try.prog 41 #[.slice A n c] w (TCEndS xss w) := by
  have HN2 := hid hn2
  have H := hid h
  clear hn2 h
  obtain ⟨va, hva⟩ : ∃ b, valT xss = b := ⟨_, rfl⟩
  have HV := hid hva
  clear hva
  have a2 := (St.refl w).alloc (.cells #[] 3)
  have HO := hid (OI.lit (w := w) (e := 3))
  have S2 := hid a2
  clear a2
  go_enter Try.func41, Try.ntmps41
  go_wp2_with fail
  go_loopw [3, 4] (fun v i wr => ∃ (k m a : Nat) (X : Option Addr), k ≤ 12 ∧ i = .int .i64 (k : Int) ∧ v = .slice X m a ∧ Hid (OI wr w.heap.size 3 X m a (ints (bestC (nF xss) k))) ∧ Hid (va = false → k = 0) ∧ Hid (St w wr)) (fun _ i _ => 12 - (intOf i).toNat)
  case atStart => exact ⟨0, 0, 0, _, Nat.zero_le _, rfl, rfl, HO, hid (fun _ => rfl), S2⟩
  case round =>
    clear HO S2
    obtain ⟨k, m, a, X, hk, rfl, rfl, ho, hz, hs⟩ := hrel
    by_cases hlt : k < 12
    · have hki : (k : Int) < 12 := by omega
      have H1 := hid (H.out.st hs.out)
      go_wp2_with fail
      refine (specTracesValid_any _ _ _ _ _ H1.out hn HN2.out).mono ?_
      rintro e w1 ⟨rfl, s1⟩
      have s1 := s1.st
      rw [HV.out]
      have O1 := hid (OI.st ho.out s1)
      have S1 := hid (hs.out.trans s1)
      have H2 := hid (H1.out.st s1)
      clear ho hs s1 H1
      cases va
      · have hk0 := hz.out rfl
        subst hk0
        go_wp2_with fail
        go_ret
        refine ⟨_, _, _, rfl, ?_, S1.out⟩
        have e : tcV xss = ints (bestC (nF xss) 0) := by unfold tcV tcN; rw [HV.out]; rfl
        rw [e]
        exact O1.out.sl
      · go_wp2_with fail
        refine (l21Path_any _ _ _ _ _ _ H2.out hn HN2.out hlt).mono ?_
        rintro e w3 ⟨X3, n3, a3, rfl, o3, s3⟩
        have HM3 := hid (show (cyc (nF xss) k).length = n3 by have := o3.len; rwa [ints_len] at this)
        have HM := hid (show (bestC (nF xss) k).length = m by have := O1.out.len; rwa [ints_len] at this)
        have hb3 : n3 ≤ 13 := by rw [← HM3.out]; exact cyc_len _ _
        have hb : m ≤ 13 := by rw [← HM.out]; exact best_len _ _
        have O3 := hid (OI.less o3 S1.out.le)
        have O := hid (OI.st O1.out s3)
        have S3 := hid (S1.out.trans s3)
        have HZ := hid (show true = false → k + 1 = 0 from fun h => by cases h)
        clear o3 s3 O1 H2 S1
        by_cases h0 : n3 = 0
        · have HBK := hid (best_keep HM3.out HM.out (.inl h0))
          subst h0
          rw [← HBK.out] at O
          go_wp2_with fail
          go_roundw
          case rel => exact ⟨k + 1, m, a, _, by omega, by go_num, rfl, O, HZ, S3⟩
          case measure => simp [intOf]; omega
        · have h0i : (0 : Int) < (n3 : Int) := by omega
          by_cases h1 : m = 0
          · have HBK := hid (best_take HM3.out HM.out (by omega) (.inl h1))
            subst h1
            rw [← HBK.out] at O3
            go_wp2_with fail
            go_roundw
            case rel => exact ⟨k + 1, n3, a3, _, by omega, by go_num, rfl, O3, HZ, S3⟩
            case measure => simp [intOf]; omega
          · have h1i : ((m : Int) == 0) = false := by simp; omega
            by_cases h2 : n3 < m
            · have HBK := hid (best_take HM3.out HM.out (by omega) (.inr h2))
              have h2i : (n3 : Int) < (m : Int) := by omega
              rw [← HBK.out] at O3
              go_wp2_with fail
              go_roundw
              case rel => exact ⟨k + 1, n3, a3, _, by omega, by go_num, rfl, O3, HZ, S3⟩
              case measure => simp [intOf]; omega
            · have HBK := hid (best_keep HM3.out HM.out (.inr (by omega)))
              have h2i : ¬ (n3 : Int) < (m : Int) := by omega
              rw [← HBK.out] at O
              go_wp2_with fail
              go_roundw
              case rel => exact ⟨k + 1, m, a, _, by omega, by go_num, rfl, O, HZ, S3⟩
              case measure => simp [intOf]; omega
    · obtain rfl : k = 12 := by omega
      have h12 : ¬ (12 : Int) < 12 := by omega
      cases va
      · exact absurd (hz.out rfl) (by omega)
      go_wp2_with fail
      go_ret
      refine ⟨_, _, _, rfl, ?_, hs.out⟩
      have e : tcV xss = ints (bestC (nF xss) 12) := by unfold tcV tcN; rw [HV.out]; rfl
      rw [e]
      exact ho.out.sl
theorem TraceCycle_sl {A : Option Addr} {n c : Nat} {xss : List (List Int)} {w : World} (h : SLL w A n c xss) (hn : n ≤ 1048576) (hn2 : ∀ xs ∈ xss, xs.length ≤ 1048576) : Calls Try.prog 40 #[.slice A n c] w (TCEndS xss w) :=
  (TraceCycle_any A n c xss w h hn hn2).mono fun _ _ ⟨A', n', c', he, ho, hs⟩ => ⟨A', n', c', he, ho.sl, hs⟩
end Go.Proofs.Ytfdgbbapbpflcaa
