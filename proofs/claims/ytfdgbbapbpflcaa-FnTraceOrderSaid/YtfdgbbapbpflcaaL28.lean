/- FnTraceOrder returns true. -/
import Derived.Test.YtfdgbbapbpflcaaTrL
namespace Go.Proofs.Ytfdgbbapbpflcaa
open Go.RowKit
set_option maxRecDepth 100000 in
set_option maxHeartbeats 4000000 in
theorem walkTraceOrder (A : Option Addr) (n c : Nat) (bs : List Nat) {w : World} (h : RB w w.heap.size A n bs) (hnc : n ≤ c ∧ c ≤ maxLen) :
    Calls Try.prog 16 #[.slice A n c] w fun e w' => e = .returned (.bool true) ∧ Below w.heap.size w w' := by
  obtain ⟨hnc, hcm⟩ := hnc
  have HCM := hid hcm
  clear hcm
  by_cases hn : 1048576 < n
  · have hn : (1048576 : Int) < (n : Int) := by omega
    go_enter Try.func16, Try.ntmps16
    go_wp2_with fail
    go_ret
    exact ⟨rfl, Below.refl _ _⟩
  have hni : ¬ (1048576 : Int) < (n : Int) := by omega
  go_enter Try.func16, Try.ntmps16
  go_wp2_with fail
  refine (DrawTraceOrder_any _ _ _ _ _ h (by omega) hnc HCM.out).mono ?_
  rintro e w1 ⟨A1, n1, c1, xss, rfl, i1, hn1, ll, s1⟩
  have I := hid i1
  have LL := hid ll
  have BIG := hid (big_of ll)
  have S := hid s1
  have HLEN := hid i1.len
  clear i1 ll s1
  obtain ⟨ok, hok⟩ : ∃ b, toOk xss = b := ⟨_, rfl⟩
  have HOK := hid hok
  have HV12 := hid (toV_le' xss)
  clear hok
  go_wp2_with fail
  refine (TraceOrder_any _ _ _ _ _ I.out (by omega) BIG.out).mono ?_
  rintro e w2 ⟨A2, n2, c2, rfl, o2, s2⟩
  rw [HOK.out]
  have O := hid o2.sl
  have HON := hid o2.len
  replace I := hid (I.out.st s2)
  replace S := hid (S.out.st s2)
  clear o2 s2
  go_wp2_with fail
  refine (specTraceOrder_any _ _ _ _ _ I.out (by omega) BIG.out).mono ?_
  rintro e w3 ⟨A3, n3, c3, rfl, o3, s3⟩
  rw [HOK.out]
  have W := hid o3
  replace I := hid (I.out.st s3)
  replace S := hid (S.out.st s3)
  replace O := hid (O.out.st s3)
  clear o3 s3
  have hoo : (ok == ok) = true := by simp
  have hon : (ok != ok) = false := by simp
  cases ok
  · go_wp2_with fail
    refine (sameInts_same O.out W.out (by have := HV12.out; omega)).mono ?_
    rintro e w4 ⟨rfl, s4⟩
    replace I := hid (I.out.st s4)
    replace S := hid (S.out.st s4)
    replace O := hid (O.out.st s4)
    replace W := hid (W.out.st s4)
    clear s4
    go_wp2_with fail
    refine (sameInts_same O.out W.out (by have := HV12.out; omega)).mono ?_
    rintro e w5 ⟨rfl, s5⟩
    replace I := hid (I.out.st s5)
    replace S := hid (S.out.st s5)
    replace O := hid (O.out.st s5)
    replace W := hid (W.out.st s5)
    clear s5
    go_wp2_with fail
    go_ret
    exact ⟨rfl, S.out⟩
  go_wp2_with fail
  refine (sameInts_same O.out W.out (by have := HV12.out; omega)).mono ?_
  rintro e w4 ⟨rfl, s4⟩
  replace I := hid (I.out.st s4)
  replace S := hid (S.out.st s4)
  replace O := hid (O.out.st s4)
  replace W := hid (W.out.st s4)
  clear s4
  have hn12 : n2 ≤ 12 := by have h1 := HON.out; have h2 := HV12.out; omega
  go_wp2_with fail
  go_loopw [9] (fun i wr => ∃ k : Nat, k ≤ n1 ∧ i = .int .i64 (k : Int) ∧ Hid (St w4 wr)) (fun i _ => n1 - (intOf i).toNat)
  case atStart => exact ⟨0, Nat.zero_le _, rfl, St.refl _⟩
  case round =>
    obtain ⟨k, hk, rfl, hs⟩ := hrel
    have I := I.out.st hs.out
    have O := hid (O.out.st hs.out)
    by_cases hlt : k < n1
    · obtain ⟨ad, Ak, nk, ck, xs, rfl, hc, hx, hsk⟩ := I.at_' hlt
      have hxm := List.mem_of_getElem? hx.out
      have hnk : nk ≤ 10 := by have := LL.out xs hxm; rw [hsk.out.len] at this; exact this
      have HF := hid (toV_follows HOK.out hxm)
      clear hxm
      go_wp2_with fail
      refine (TraceFollows_any _ _ _ _ _ _ _ _ _ _ hsk.out.ri O.out.ri (by omega) (by omega) hsk.out.nc hsk.out.cm (Nat.le_refl _)).mono ?_
      rintro e w5 ⟨rfl, b5⟩
      rw [HF.out]
      have hs2 := hid (hs.out.trans b5)
      clear b5
      go_wp2_with fail
      go_roundw
      case rel => exact ⟨k + 1, by omega, by go_num, hs2⟩
      case measure => simp [intOf]; omega
    · obtain rfl : k = n1 := by omega
      have HI := hid I
      clear I
      go_wp2_with fail
      go_loop [8, 10] (fun v i => ∃ m : Nat, m ≤ 12 ∧ i = .int .i64 (m : Int) ∧ v = .int .i64 ((upM (tF xss) m).length : Int)) (fun _ i => 12 - (intOf i).toNat)
      case atStart => exact ⟨0, Nat.zero_le _, rfl, rfl⟩
      case round =>
        obtain ⟨m, hm, rfl, rfl⟩ := hrel
        by_cases hlt2 : m < 12
        · have hmi : (m : Int) < 12 := by omega
          have hup := hid (upM_succ (tF xss) m)
          have hupl := upM_le (tF xss) m
          have hhas := hid (toV_has HOK.out hlt2)
          go_wp2_with fail
          go_loop [11, 12] (fun f i => ∃ q : Nat, q ≤ k ∧ i = .int .i64 (q : Int) ∧ f = .bool (toldLL (xss.take q) (m : Int))) (fun _ i => k - (intOf i).toNat)
          case atStart => exact ⟨0, Nat.zero_le _, rfl, by simp [toldLL]⟩
          case round =>
            obtain ⟨q, hq, rfl, rfl⟩ := hrel
            by_cases hlt3 : q < k
            · obtain ⟨ad, Ak, nk, ck, xs, rfl, hc, hx, hsk⟩ := HI.out.at_' hlt3
              have hnk : nk ≤ 10 := by have := LL.out xs (List.mem_of_getElem? hx.out); rw [hsk.out.len] at this; exact this
              have hst := hid (toldLL_take hx.out (m : Int))
              obtain ⟨b, hb0⟩ : ∃ b, toldLL (xss.take q) (m : Int) = b := ⟨_, rfl⟩
              rw [hb0] at hst ⊢
              clear hb0
              cases b
              · go_wp2_with fail
                refine (hasInt_any _ _ _ _ _ _ _ hsk.out.ri (by omega)).mono ?_
                rintro e w6 ⟨rfl, rfl⟩
                go_wp2_with fail
                go_round
                case rel => exact ⟨q + 1, by omega, by go_num, by rw [hst.out]; rfl⟩
                case measure => simp [intOf]; omega
              · go_wp2_with fail
                go_round
                case rel => exact ⟨q + 1, by omega, by go_num, by rw [hst.out]; rfl⟩
                case measure => simp [intOf]; omega
            · obtain rfl : q = k := by omega
              have hf : toldLL (xss.take q) (m : Int) = tF xss m := by
                rw [List.take_of_length_le (by rw [HLEN.out]; omega)]; rfl
              rw [hf]
              clear hf
              cases hT : tF xss m
              · rw [hT] at hup hhas
                clear hT
                go_wp2_with fail
                refine (hasInt_any _ _ _ _ _ _ _ O.out.ri (by omega)).mono ?_
                rintro e w6 ⟨rfl, rfl⟩
                rw [hhas.out]
                go_wp2_with fail
                go_round
                case rel => exact ⟨m + 1, by omega, by go_num, by rw [hup.out]; simp⟩
                case measure => simp [intOf]; omega
              · rw [hT] at hup hhas
                clear hT
                go_wp2_with fail
                refine (hasInt_any _ _ _ _ _ _ _ O.out.ri (by omega)).mono ?_
                rintro e w6 ⟨rfl, rfl⟩
                rw [hhas.out]
                go_wp2_with fail
                go_round
                case rel => exact ⟨m + 1, by omega, by go_num, by rw [hup.out]; simp⟩
                case measure => simp [intOf]; omega
        · obtain rfl : m = 12 := by omega
          have h12 : ¬ (12 : Int) < 12 := by omega
          have hcnt := hid (show (((upM (tF xss) 12).length : Int) == (n2 : Int)) = true by
            have h1 := toV_len HOK.out
            have h2 := HON.out
            have h3 : (upM (tF xss) 12).length = cntM (tF xss) := rfl
            simp; omega)
          generalize (upM (tF xss) 12).length = L at hcnt
          have hcn : L = n2 := by have h := hcnt.out; simp at h; omega
          subst hcn
          go_wp2_with fail
          go_ret
          exact ⟨rfl, S.out.trans hs.out⟩
end Go.Proofs.Ytfdgbbapbpflcaa
