/- FnTraceRotate returns true. -/
import Derived.Test.YtfdgbbapbpflcaaTrC5
import Derived.Test.YtfdgbbapbpflcaaTrL2
namespace Go.Proofs.Ytfdgbbapbpflcaa
open Go.RowKit
theorem tcN_rev (xss : List (List Int)) : tcN xss.reverse = tcN xss := by
  obtain ⟨_, _, _, h1, h2⟩ := rev_order xss
  unfold tcN
  rw [h1, h2]
theorem rev_step {α : Type} {hs : List α} {p : Nat} {x : α} (h : hs[p]? = some x) : (hs.drop p).reverse = (hs.drop (p + 1)).reverse ++ [x] := by
  obtain ⟨hp, e⟩ := List.getElem?_eq_some_iff.1 h
  rw [List.drop_eq_getElem_cons hp, List.reverse_cons, e]
set_option maxRecDepth 100000 in
set_option maxHeartbeats 4000000 in
theorem walkTraceRotate (A : Option Addr) (n c : Nat) (bs : List Nat) {w : World} (h : RB w w.heap.size A n bs) (hnc : n ≤ c ∧ c ≤ maxLen) :
    Calls Try.prog 18 #[.slice A n c] w fun e w' => e = .returned (.bool true) ∧ Below w.heap.size w w' := by
  obtain ⟨hnc, hcm⟩ := hnc
  have HCM := hid hcm
  clear hcm
  by_cases hn : 1048576 < n
  · have hn : (1048576 : Int) < (n : Int) := by omega
    go_enter Try.func18, Try.ntmps18
    go_wp2_with fail
    go_ret
    exact ⟨rfl, Below.refl _ _⟩
  have hni : ¬ (1048576 : Int) < (n : Int) := by omega
  go_enter Try.func18, Try.ntmps18
  go_wp2_with fail
  refine (DrawTraceOrder_any _ _ _ _ _ h (by omega) hnc HCM.out).mono ?_
  rintro e w1 ⟨A1, n1, c1, xss, rfl, i1, hn1, ll, s1⟩
  have I := hid i1
  have LL := hid ll
  have BIG := hid (big_of ll)
  have S := hid s1
  have HLEN := hid i1.len
  clear i1 ll s1
  obtain ⟨ok, hok⟩ : ∃ b, toOk xss = b := ⟨_, rfl⟩
  have HOK := hid hok
  have HV12 := hid (toV_le' xss)
  clear hok
  go_wp2_with fail
  refine (TraceOrder_any _ _ _ _ _ I.out (by omega) BIG.out).mono ?_
  rintro e w2 ⟨A2, n2, c2, rfl, o2, s2⟩
  rw [HOK.out]
  have O := hid o2.sl
  have HON := hid o2.len
  replace I := hid (I.out.st s2)
  replace S := hid (S.out.st s2)
  clear o2 s2
  go_wp2_with fail
  refine (specTraceOrder_any _ _ _ _ _ I.out (by omega) BIG.out).mono ?_
  rintro e w3 ⟨A3, n3, c3, rfl, o3, s3⟩
  rw [HOK.out]
  have W := hid o3
  replace I := hid (I.out.st s3)
  replace S := hid (S.out.st s3)
  replace O := hid (O.out.st s3)
  clear o3 s3
  have hoo : (ok == ok) = true := by simp
  have hon : (ok != ok) = false := by simp
  go_wp2_with fail
  refine (sameInts_same O.out W.out (by have := HV12.out; omega)).mono ?_
  rintro e w4 ⟨rfl, s4⟩
  replace I := hid (I.out.st s4)
  replace S := hid (S.out.st s4)
  replace O := hid (O.out.st s4)
  replace W := hid (W.out.st s4)
  clear s4
  have hn12 : n2 ≤ 12 := by have h1 := HON.out; have h2 := HV12.out; omega
  obtain ⟨va, hva⟩ : ∃ b, valT xss = b := ⟨_, rfl⟩
  have HVA := hid hva
  clear hva
  go_wp2_with fail
  refine (specTracesValid_any _ _ _ _ _ I.out (by omega) BIG.out).mono ?_
  rintro e w5 ⟨rfl, s5⟩
  have s5 := s5.st
  rw [HVA.out]
  replace I := hid (I.out.st s5)
  replace S := hid (S.out.st s5)
  replace O := hid (O.out.st s5)
  replace W := hid (W.out.st s5)
  clear s5
  cases va
  · go_wp2_with fail
    refine (sameInts_same O.out W.out (by have := HV12.out; omega)).mono ?_
    rintro e w6 ⟨rfl, s6⟩
    go_wp2_with fail
    go_ret
    exact ⟨rfl, S.out.trans s6⟩
  clear W hon
  have hn6 : n1 ≤ 6 := by
    have := HVA.out
    simp only [valT, Bool.and_eq_true, decide_eq_true_eq] at this
    rw [← HLEN.out]
    exact this.1
  obtain ⟨hs, hrow⟩ := I.out.row_
  have HR := hid hrow
  have HHL := hid hrow.len
  clear hrow
  have a6 := (St.refl w5).alloc (.cells #[] 22)
  have HO := hid (show (w5.alloc (.cells #[] 22)).ownsRow w5.heap.size 22 1 (.slice (some ⟨w5.heap.size, 0, none⟩) 0 0) (n1 - n1) ((hs.drop n1).reverse) by
    rw [Nat.sub_self, List.drop_of_length_le (by rw [HHL.out]; exact Nat.le_refl _)]
    exact row_lit w5 22 1)
  have S6 := hid a6
  clear a6
  go_wp2_with fail
  go_loopw [8, 9] (fun v t wr => ∃ (q a : Nat) (z : Int) (X : Option Addr), q ≤ n1 ∧ z = (q : Int) - 1 ∧ t = .int .i64 z ∧ v = .slice X (n1 - q) a ∧ Hid (wr.ownsRow w5.heap.size 22 1 (.slice X (n1 - q) a) (n1 - q) ((hs.drop q).reverse)) ∧ Hid (St w5 wr)) (fun _ t _ => (intOf t + 1).toNat)
  case atStart => exact ⟨n1, 0, (n1 : Int) - 1, _, Nat.le_refl _, rfl, by go_num, by rw [Nat.sub_self], by rw [Nat.sub_self] at HO ⊢; exact HO, S6⟩
  case round =>
    clear HO S6
    obtain ⟨q, a, z, X, hq, hz, rfl, rfl, ho, hst⟩ := hrel
    cases q with
    | succ p =>
      obtain rfl : z = (p : Int) := by omega
      clear hz
      have hp1 : p < n1 := by omega
      have H1 := hid (HR.out.st hst.out)
      obtain ⟨Ak, nk, ck, xs, h1, h2, h3⟩ := HR.out.2 p hp1
      obtain ⟨ad, rfl, hb, hcc⟩ := H1.out.1.2 (by omega)
      have hcc := hcc p _ h1
      have HST := hid (rev_step h1)
      have hp0 : (0 : Int) ≤ (p : Int) := by omega
      have hp2 : (p : Int) < (n1 : Int) := by omega
      have hnp : n1 - (p + 1) + 1 = n1 - p := by omega
      have HA := hid (World.ownsRow.alloc ho.out (.cells #[.slice Ak nk ck] 22))
      have RO := hid (Reads.one wr 22 #[.slice Ak nk ck] 1 rfl)
      have S7 := hid (hst.out.alloc (.cells #[.slice Ak nk ck] 22))
      have ht7 := S7.out.le
      have HLT := hid (fun q hq => (World.ownsRow.lt ho.out q (by rw [ownBlock_slice]; exact hq)).1)
      clear h1 h2 h3
      go_wp2_with (at_builtin; refine wpList_append_rows _ rfl _ _ 29 rfl w5.heap.size 22 1 24 (.slice none 0 0) Try.underlying29 sliceInfo rfl (by omega) X (n1 - (p + 1)) a _ rfl HA.out _ _ 1 1 _ rfl RO.out (by intro u hu; simp at hu; subst hu; rfl) (by omega) (by omega) ht7 ?_; intro X8 b8 w8 o8 g8; have O8 := hid o8; have S8 := hid (S7.out.grown g8 HLT.out); rw [hnp] at O8 ⊢)
      have O9 := hid (show w8.ownsRow w5.heap.size 22 1 (.slice X8 (n1 - p) b8) (n1 - p) ((hs.drop p).reverse) by rw [HST.out]; exact O8.out)
      go_roundw
      case rel => exact ⟨p, b8, (p : Int) - 1, X8, by omega, rfl, by go_num, rfl, O9, S8⟩
      case measure => simp [intOf]
    | zero =>
      subst hz
      have HB := hid (SLL.of_own (xss := xss.reverse) (n := n1) (by rw [List.length_reverse, HLEN.out]) (by have := ho.out; rwa [Nat.sub_zero, List.drop_zero] at this) (fun k hk => by
        obtain ⟨Ak, nk, ck, xs, h1, h2, h3⟩ := HR.out.2 (n1 - 1 - k) (by omega)
        refine ⟨Ak, nk, ck, xs, ?_, ?_, h3.st hst.out⟩
        · rw [List.getElem?_reverse (by rw [HHL.out]; exact hk), HHL.out]; exact h1
        · rw [List.getElem?_reverse (by rw [HLEN.out]; exact hk), HLEN.out]; exact h2))
      have BIGR := hid (show ∀ xs ∈ xss.reverse, xs.length ≤ 1048576 from fun xs hx => BIG.out xs (List.mem_reverse.1 hx))
      have HRV := hid (rev_order xss)
      have HTC := hid (tcN_rev xss)
      replace I := hid (I.out.st hst.out)
      replace S := hid (S.out.st hst.out)
      replace O := hid (O.out.st hst.out)
      clear ho hst HR
      go_wp2_with fail
      refine (TraceOrder_any _ _ _ _ _ HB.out (by omega) BIGR.out).mono ?_
      rintro e w9 ⟨A9, n9, c9, rfl, o9, s9⟩
      rw [HRV.out.1, HOK.out]
      rw [HRV.out.2.1] at o9
      have N := hid o9.sl
      replace I := hid (I.out.st s9)
      replace S := hid (S.out.st s9)
      replace O := hid (O.out.st s9)
      replace HB := hid (HB.out.st s9)
      clear o9 s9
      go_wp2_with fail
      refine (sameInts_same N.out O.out (by have := HV12.out; omega)).mono ?_
      rintro e w10 ⟨rfl, s10⟩
      replace I := hid (I.out.st s10)
      replace S := hid (S.out.st s10)
      replace HB := hid (HB.out.st s10)
      clear s10 N O
      go_wp2_with fail
      refine (TraceCycle_sl HB.out (by omega) BIGR.out).mono ?_
      rintro e w11 ⟨A11, n11, c11, rfl, o11, s11⟩
      have C1 := hid (show SL w11 A11 n11 c11 (tcV xss) by have := o11; unfold tcV at this ⊢; rwa [HTC.out] at this)
      replace I := hid (I.out.st s11)
      replace S := hid (S.out.st s11)
      clear o11 s11 HB
      go_wp2_with fail
      refine (TraceCycle_sl I.out (by omega) BIG.out).mono ?_
      rintro e w12 ⟨A12, n12, c12, rfl, o12, s12⟩
      have C2 := hid o12
      replace S := hid (S.out.st s12)
      replace C1 := hid (C1.out.st s12)
      clear o12 s12
      go_wp2_with fail
      refine (sameInts_same C1.out C2.out (by have := tcV_len xss; omega)).mono ?_
      rintro e w13 ⟨rfl, s13⟩
      go_wp2_with fail
      go_ret
      exact ⟨rfl, S.out.trans s13⟩
end Go.Proofs.Ytfdgbbapbpflcaa
