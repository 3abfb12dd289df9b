/- FnTraceCertificate returns true. -/
import Derived.Test.YtfdgbbapbpflcaaTrC5
import Derived.Test.YtfdgbbapbpflcaaTrL2
namespace Go.Proofs.Ytfdgbbapbpflcaa
open Go.RowKit
set_option maxRecDepth 100000 in
set_option maxHeartbeats 4000000 in
theorem walkTraceCertificate (A : Option Addr) (n c : Nat) (bs : List Nat) {w : World} (h : RB w w.heap.size A n bs) (hnc : n ≤ c ∧ c ≤ maxLen) :
    Calls Try.prog 17 #[.slice A n c] w fun e w' => e = .returned (.bool true) ∧ Below w.heap.size w w' := by
  obtain ⟨hnc, hcm⟩ := hnc
  have HCM := hid hcm
  clear hcm
  by_cases hn : 1048576 < n
  · have hn : (1048576 : Int) < (n : Int) := by omega
    go_enter Try.func17, Try.ntmps17
    go_wp2_with fail
    go_ret
    exact ⟨rfl, Below.refl _ _⟩
  have hni : ¬ (1048576 : Int) < (n : Int) := by omega
  go_enter Try.func17, Try.ntmps17
  go_wp2_with fail
  refine (DrawTraceOrder_any _ _ _ _ _ h (by omega) hnc HCM.out).mono ?_
  rintro e w1 ⟨A1, n1, c1, xss, rfl, i1, hn1, ll, s1⟩
  have I := hid i1
  have LL := hid ll
  have BIG := hid (big_of ll)
  have S := hid s1
  have HLEN := hid i1.len
  clear i1 ll s1
  obtain ⟨ok, hok⟩ : ∃ b, toOk xss = b := ⟨_, rfl⟩
  have HOK := hid hok
  have HV12 := hid (toV_le' xss)
  clear hok
  go_wp2_with fail
  refine (TraceOrder_any _ _ _ _ _ I.out (by omega) BIG.out).mono ?_
  rintro e w2 ⟨A2, n2, c2, rfl, o2, s2⟩
  rw [HOK.out]
  have O := hid o2.sl
  have HON := hid o2.len
  replace I := hid (I.out.st s2)
  replace S := hid (S.out.st s2)
  clear o2 s2
  go_wp2_with fail
  refine (specTraceOrder_any _ _ _ _ _ I.out (by omega) BIG.out).mono ?_
  rintro e w3 ⟨A3, n3, c3, rfl, o3, s3⟩
  rw [HOK.out]
  have W := hid o3
  replace I := hid (I.out.st s3)
  replace S := hid (S.out.st s3)
  replace O := hid (O.out.st s3)
  clear o3 s3
  have hoo : (ok == ok) = true := by simp
  have hon : (ok != ok) = false := by simp
  go_wp2_with fail
  refine (sameInts_same O.out W.out (by have := HV12.out; omega)).mono ?_
  rintro e w4 ⟨rfl, s4⟩
  replace I := hid (I.out.st s4)
  replace S := hid (S.out.st s4)
  replace O := hid (O.out.st s4)
  replace W := hid (W.out.st s4)
  clear s4
  have hn12 : n2 ≤ 12 := by have h1 := HON.out; have h2 := HV12.out; omega
  obtain ⟨va, hva⟩ : ∃ b, valT xss = b := ⟨_, rfl⟩
  have HVA := hid hva
  clear hva
  go_wp2_with fail
  refine (specTracesValid_any _ _ _ _ _ I.out (by omega) BIG.out).mono ?_
  rintro e w5 ⟨rfl, s5⟩
  have s5 := s5.st
  rw [HVA.out]
  replace I := hid (I.out.st s5)
  replace S := hid (S.out.st s5)
  replace O := hid (O.out.st s5)
  replace W := hid (W.out.st s5)
  clear s5
  cases va
  · go_wp2_with fail
    refine (sameInts_same O.out W.out (by have := HV12.out; omega)).mono ?_
    rintro e w6 ⟨rfl, s6⟩
    go_wp2_with fail
    go_ret
    exact ⟨rfl, S.out.trans s6⟩
  clear O W hon hoo
  have HCE := hid ((HOK.out).symm.trans (cert_law HVA.out))
  go_wp2_with fail
  refine (TraceCycle_sl I.out (by omega) BIG.out).mono ?_
  rintro e w6 ⟨A6, n6, c6, rfl, o6, s6⟩
  have HN6 := hid (show (tcN xss).length = n6 by have := o6.len; unfold tcV at this; rwa [ints_len] at this)
  have HC2 := hid (show ok = decide (n6 = 0) by have := HCE.out; rwa [HN6.out] at this)
  have hb6 : n6 ≤ 13 := by rw [← HN6.out]; exact tcN_len xss
  clear o6
  by_cases h0 : n6 = 0
  · subst h0
    have HC3 := HC2.out
    simp only [decide_true] at HC3
    subst HC3
    go_wp2_with fail
    go_ret
    exact ⟨rfl, S.out.trans s6⟩
  · have h0i : ((n6 : Int) == 0) = false := by simp; omega
    have HC3 := HC2.out
    rw [decide_eq_false h0] at HC3
    subst HC3
    go_wp2_with fail
    go_ret
    exact ⟨rfl, S.out.trans s6⟩
end Go.Proofs.Ytfdgbbapbpflcaa
