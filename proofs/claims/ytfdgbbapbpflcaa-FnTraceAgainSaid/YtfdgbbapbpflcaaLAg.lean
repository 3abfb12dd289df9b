/- FnTraceAgain returns true. -/
import Derived.Test.YtfdgbbapbpflcaaTrL2
namespace Go.Proofs.Ytfdgbbapbpflcaa
open Go.RowKit
set_option maxRecDepth 100000 in
set_option maxHeartbeats 4000000 in
theorem walkTraceAgain (A : Option Addr) (n c : Nat) (bs : List Nat) {w : World} (h : RB w w.heap.size A n bs) (hnc : n ≤ c ∧ c ≤ maxLen) :
    Calls Try.prog 9 #[.slice A n c] w fun e w' => e = .returned (.bool true) ∧ Below w.heap.size w w' := by
  obtain ⟨hnc, hcm⟩ := hnc
  have HCM := hid hcm
  clear hcm
  by_cases hn : 1048576 < n
  · have hn : (1048576 : Int) < (n : Int) := by omega
    go_enter Try.func9, Try.ntmps9
    go_wp2_with fail
    go_ret
    exact ⟨rfl, Below.refl _ _⟩
  have hni : ¬ (1048576 : Int) < (n : Int) := by omega
  go_enter Try.func9, Try.ntmps9
  go_wp2_with fail
  refine (DrawTraceOrder_any _ _ _ _ _ h (by omega) hnc HCM.out).mono ?_
  rintro e w1 ⟨A1, n1, c1, xss, rfl, i1, hn1, ll, s1⟩
  have I := hid i1
  have LL := hid ll
  have BIG := hid (big_of ll)
  have S := hid s1
  have HLEN := hid i1.len
  clear i1 ll s1
  obtain ⟨ok, hok⟩ : ∃ b, toOk xss = b := ⟨_, rfl⟩
  have HOK := hid hok
  have HV12 := hid (toV_le' xss)
  clear hok
  go_wp2_with fail
  refine (TraceOrder_any _ _ _ _ _ I.out (by omega) BIG.out).mono ?_
  rintro e w2 ⟨A2, n2, c2, rfl, o2, s2⟩
  rw [HOK.out]
  have O := hid o2.sl
  have HON := hid o2.len
  replace I := hid (I.out.st s2)
  replace S := hid (S.out.st s2)
  clear o2 s2
  go_wp2_with fail
  refine (specTraceOrder_any _ _ _ _ _ I.out (by omega) BIG.out).mono ?_
  rintro e w3 ⟨A3, n3, c3, rfl, o3, s3⟩
  rw [HOK.out]
  have W := hid o3
  replace I := hid (I.out.st s3)
  replace S := hid (S.out.st s3)
  replace O := hid (O.out.st s3)
  clear o3 s3
  have hoo : (ok == ok) = true := by simp
  have hon : (ok != ok) = false := by simp
  cases ok
  · go_wp2_with fail
    refine (sameInts_same O.out W.out (by have := HV12.out; omega)).mono ?_
    rintro e w4 ⟨rfl, s4⟩
    replace I := hid (I.out.st s4)
    replace S := hid (S.out.st s4)
    replace O := hid (O.out.st s4)
    replace W := hid (W.out.st s4)
    clear s4
    go_wp2_with fail
    refine (sameInts_same O.out W.out (by have := HV12.out; omega)).mono ?_
    rintro e w5 ⟨rfl, s5⟩
    replace I := hid (I.out.st s5)
    replace S := hid (S.out.st s5)
    replace O := hid (O.out.st s5)
    replace W := hid (W.out.st s5)
    clear s5
    go_wp2_with fail
    go_ret
    exact ⟨rfl, S.out⟩
  go_wp2_with fail
  refine (sameInts_same O.out W.out (by have := HV12.out; omega)).mono ?_
  rintro e w4 ⟨rfl, s4⟩
  replace I := hid (I.out.st s4)
  replace S := hid (S.out.st s4)
  replace O := hid (O.out.st s4)
  replace W := hid (W.out.st s4)
  clear s4
  have hn12 : n2 ≤ 12 := by have h1 := HON.out; have h2 := HV12.out; omega
  by_cases h6 : n1 = 6
  · subst h6
    go_wp2_with fail
    refine (sameInts_same O.out W.out (by have := HV12.out; omega)).mono ?_
    rintro e w5 ⟨rfl, s5⟩
    replace I := hid (I.out.st s5)
    replace S := hid (S.out.st s5)
    replace O := hid (O.out.st s5)
    replace W := hid (W.out.st s5)
    clear s5
    go_wp2_with fail
    go_ret
    exact ⟨rfl, S.out⟩
  have h6i : ((n1 : Int) == 6) = false := by simp; omega
  have h60 : n1 ≤ 6 := by
    have := (toOk_full HOK.out).1
    simp only [valT, Bool.and_eq_true, decide_eq_true_eq] at this
    rw [← HLEN.out]
    exact this.1
  have h61 : n1 ≤ 5 := by omega
  clear hoo hon W
  obtain ⟨hs, hrow⟩ := I.out.row_
  have s5 := (St.refl w4).alloc (.cells #[] 22)
  have HR := hid (hrow.st s5)
  have HR0 := hid hrow
  have HO := hid (row_lit w4 22 1)
  have ht5 := s5.le
  clear hrow
  go_wp2_with (first | (at_builtin; refine wpList_append_rows _ rfl _ _ 29 rfl w4.heap.size 22 1 24 (.slice none 0 0) Try.underlying29 sliceInfo rfl (by omega) (some ⟨w4.heap.size, 0, none⟩) 0 0 [] rfl HO.out _ A1 n1 c1 hs rfl HR.out.1 HR.out.one (by omega) (by omega) ht5 ?_; intro X6 b6 w6 o6 g6; simp only [Nat.zero_add, List.nil_append] at o6 ⊢; have S6 := hid (s5.grown g6 (fun g hg => by simp [blockOf] at hg; omega)); have A7 := hid ((St.refl w6).alloc (.cells #[.slice A2 n2 c2] 22)); have S7 := hid (S6.out.trans A7.out); have HO7 := hid (own_below o6 A7.out); have RO := hid (Reads.one w6 22 #[.slice A2 n2 c2] 1 rfl); have ht7 := S7.out.le; clear o6 g6 s5 ht5 HO) | (at_builtin; refine wpList_append_rows _ rfl _ _ 29 rfl w4.heap.size 22 1 24 (.slice none 0 0) Try.underlying29 sliceInfo rfl (by omega) X6 n1 b6 hs rfl HO7.out _ _ 1 1 _ rfl RO.out (by intro u hu; simp at hu; subst hu; rfl) (by omega) (by omega) ht7 ?_; intro X8 b8 w8 o8 g8; have O8 := hid o8; have hbX := hid (fun q hq => (World.ownsRow.lt HO7.out q (by rw [ownBlock_slice]; exact hq)).1); have S8 := hid (S7.out.grown g8 hbX.out); clear o8 g8 ht7 RO A7 hbX))
  have I8 := hid (SLL.of_own (xss := xss ++ [toV xss]) (by rw [List.length_append, HLEN.out]; rfl) O8.out (inner_app HR.out.len HLEN.out (fun k hk => by
    obtain ⟨Ak, nk, ck, xs, e1, e2, e3⟩ := HR0.out.2 k hk
    exact ⟨Ak, nk, ck, xs, e1, e2, e3.st S8.out⟩) (fun k hk => by
    obtain rfl : k = 0 := by omega
    exact ⟨A2, n2, c2, toV xss, rfl, rfl, O.out.st S8.out⟩)))
  have HAG := hid (again_order HOK.out (by rw [HLEN.out]; omega))
  have BIG8 := hid (show ∀ xs ∈ xss ++ [toV xss], xs.length ≤ 1048576 from fun xs hx => by
    rcases List.mem_append.1 hx with h | h
    · exact BIG.out xs h
    · rw [List.mem_singleton] at h
      subst h
      have := HV12.out
      omega)
  replace S := hid (S.out.st S8.out)
  replace O := hid (O.out.st S8.out)
  clear HO7 S7 S6 HR HR0 O8
  refine (TraceOrder_any _ _ _ _ _ I8.out (by omega) BIG8.out).mono ?_
  rintro e w9 ⟨A9, n9, c9, rfl, o9, s9⟩
  rw [HAG.out.1]
  rw [HAG.out.2] at o9
  have N := hid o9.sl
  replace S := hid (S.out.st s9)
  replace O := hid (O.out.st s9)
  clear o9 s9 I8
  go_wp2_with fail
  refine (sameInts_same N.out O.out (by have := HV12.out; omega)).mono ?_
  rintro e w10 ⟨rfl, s10⟩
  replace S := hid (S.out.st s10)
  go_wp2_with fail
  go_ret
  exact ⟨rfl, S.out⟩
end Go.Proofs.Ytfdgbbapbpflcaa
