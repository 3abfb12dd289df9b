/- FnCreditsNew returns true. -/
import Derived.Test.YtggjfbakekfdhaaSameCr
namespace Go.Proofs.Ytggjfbakekfdhaa
open Go.RowKit Go.Sort
theorem rep_at {α : Type} {n k : Nat} {x y : α} (h : (List.replicate n x)[k]? = some y) : y = x := by
  rw [List.getElem?_replicate] at h
  split at h
  · injection h with h; exact h.symm
  · cases h
theorem new_valid {xs : List Int} {s : Int} (h : newOk xs s = true) : crValid (newFr xs s) (List.replicate (newN xs s) ([], -1)) = true ∧ (newN xs s : Int) = s ∧ newN xs s ≤ 6 := by
  have h0 := h
  simp only [newOk, Bool.and_eq_true, inB_iff] at h
  have e1 : newFr xs s = xs := by simp [newFr, h0]
  have e2 : newN xs s = s.toNat := by simp [newN, h0]
  rw [e1, e2]
  refine ⟨?_, by omega, by omega⟩
  simp only [crValid, Bool.and_eq_true, inB_iff, List.length_replicate, List.all_eq_true]
  refine ⟨h.1, by omega, fun x hx => ?_⟩
  rw [List.eq_of_mem_replicate hx]
  rfl
theorem new_ordered {xs : List Int} {s : Int} (h : newOk xs s = true) : crOrd (newFr xs s) (List.replicate (newN xs s) ([], -1)) = true := by
  simp only [crOrd, Bool.and_eq_true, List.all_eq_true]
  exact ⟨(new_valid h).1, fun x hx => by rw [List.eq_of_mem_replicate hx]; rfl⟩
theorem new_stuck (xs : List Int) (s : Int) : crStuck (newFr xs s) (List.replicate (newN xs s) ([], -1)) = [] := by
  unfold crStuck
  split
  · unfold stuckOf
    rw [List.map_eq_nil_iff, List.filter_eq_nil_iff]
    intro i hi
    rw [List.mem_range, List.length_replicate] at hi
    have : FreeP (List.replicate (newN xs s) ([], -1)) i := .idle (h := ([], -1)) (by rw [List.getElem?_replicate, if_pos hi]) (by decide)
    simp [this]
  · rfl
set_option maxRecDepth 100000 in
set_option maxHeartbeats 4000000 in
theorem walkCreditsNew (A : Option Addr) (n c : Nat) (bs : List Nat) {w : World} (h : RB w w.heap.size A n bs) (hnc : n ≤ c ∧ c ≤ maxLen) :
    Calls Try.prog 4 #[.slice A n c] w fun e w' => e = .returned (.bool true) ∧ Below w.heap.size w w' := by
  obtain ⟨hnc, hcm⟩ := hnc
  have HCM := hid hcm
  clear hcm
  by_cases hn : 1048576 < n
  · have hn : (1048576 : Int) < (n : Int) := by omega
    go_enter Try.func4, Try.ntmps4
    go_wp2_with fail
    go_ret
    exact ⟨rfl, Below.refl _ _⟩
  have hni : ¬ (1048576 : Int) < (n : Int) := by omega
  go_enter Try.func4, Try.ntmps4
  go_wp2_with fail
  refine (DrawCreditsNew_any _ _ _ _ _ h (by omega) hnc HCM.out).mono ?_
  rintro e w1 ⟨s, A1, n1, c1, xs, rfl, h1, hn1, s1⟩
  have S1 := hid s1
  have H1 := hid h1
  have hfl := newFr_le xs s
  have hnl := newN_le xs s
  clear s1
  go_wp2_with fail
  refine (CreditsNew_one _ _ _ _ s _ h1.ri (by omega)).mono ?_
  rintro e w2 ⟨A2, c2, B2, d2, rfl, o2, p2, _, s2⟩
  have I2 := hid (show RdCr w2 A2 (newFr xs s).length c2 B2 (newN xs s) d2 (newFr xs s) (List.replicate (newN xs s) ([], -1)) from ⟨o2.sl, by have := p2.sh; simpa using this⟩)
  have a2 := (St.refl w2).alloc (.cells #[.slice A2 (newFr xs s).length c2, .slice B2 (newN xs s) d2] 25)
  have K2 := hid (Blk.new w2 25 #[.slice A2 (newFr xs s).length c2, .slice B2 (newN xs s) d2])
  have I3 := hid (I2.out.st a2)
  have S3 := hid ((S1.out.trans s2).trans a2)
  have r3 := (H1.out.st (s2.trans a2)).ri
  clear o2 p2 s2 a2 I2 S1 H1 h1
  go_wp2_with fail
  generalize w2.alloc (.cells #[.slice A2 (newFr xs s).length c2, .slice B2 (newN xs s) d2] 25) = w3 at K2 I3 S3 r3 ⊢
  refine (specCreditsNew_one _ _ _ _ s _ r3 (by omega)).mono ?_
  rintro e w4 ⟨A4, c4, B4, d4, rfl, i4, j4, s4⟩
  have a4 := (St.refl w4).alloc (.cells #[.slice A4 (newFr xs s).length c4, .slice B4 (newN xs s) d4] 25)
  have L5 := hid (Blk.new w4 25 #[.slice A4 (newFr xs s).length c4, .slice B4 (newN xs s) d4])
  have J5 := hid (show RdCr _ A4 (newFr xs s).length c4 B4 (newN xs s) d4 (newFr xs s) (List.replicate (newN xs s) ([], -1)) from ⟨i4.st a4, j4.st a4⟩)
  have s5 := s4.trans a4
  have K5 := hid (K2.out.below s5 K2.out.lt)
  have I5 := hid (I3.out.st s5)
  have S5 := hid (S3.out.trans s5)
  have FR := hid (show FitCr (newFr xs s) (List.replicate (newN xs s) ([], -1)) from ⟨by omega, by rw [List.length_replicate]; omega, fun x hx => by rw [List.eq_of_mem_replicate hx]; simp⟩)
  clear K2 I3 S3 r3 i4 j4 s4 a4 s5
  have q0 := K5.out.cell_ (i := 0) (v := .slice A2 (newFr xs s).length c2) rfl
  have q1 := K5.out.cell_ (i := 1) (v := .slice B2 (newN xs s) d2) rfl
  have r0 := L5.out.cell_ (i := 0) (v := .slice A4 (newFr xs s).length c4) rfl
  have r1 := L5.out.cell_ (i := 1) (v := .slice B4 (newN xs s) d4) rfl
  have hoo : (newOk xs s == newOk xs s) = true := by simp
  have hon : (newOk xs s != newOk xs s) = false := by simp
  go_wp2_with fail
  refine (sameCredits_same I5.out J5.out FR.out).mono ?_
  rintro e w6 ⟨rfl, s6⟩
  have K6 := hid (K5.out.below s6 K5.out.lt)
  have L6 := hid (L5.out.below s6 L5.out.lt)
  have I6 := hid (I5.out.st s6)
  have J6 := hid (J5.out.st s6)
  have S6 := hid (S5.out.trans s6)
  clear q0 q1 r0 r1 K5 L5 I5 J5 S5 s6
  have q0 := K6.out.cell_ (i := 0) (v := .slice A2 (newFr xs s).length c2) rfl
  have q1 := K6.out.cell_ (i := 1) (v := .slice B2 (newN xs s) d2) rfl
  cases hok : newOk xs s
  · have r0 := L6.out.cell_ (i := 0) (v := .slice A4 (newFr xs s).length c4) rfl
    have r1 := L6.out.cell_ (i := 1) (v := .slice B4 (newN xs s) d4) rfl
    rw [hok] at hoo hon
    clear hok
    go_wp2_with fail
    refine (sameCredits_same I6.out J6.out FR.out).mono ?_
    rintro e w7 ⟨rfl, s7⟩
    go_wp2_with fail
    go_ret
    exact ⟨rfl, S6.out.trans s7⟩
  · have HV := hid (new_valid hok)
    have HO := hid (new_ordered hok)
    have HK := hid (new_stuck xs s)
    rw [hok] at hoo hon
    clear hok L6 J6 q0
    go_wp2_with fail
    clear q1
    go_loopw [9] (fun i wr => ∃ k : Nat, k ≤ newN xs s ∧ i = .int .i64 k ∧ Hid (w6 = wr)) (fun i _ => newN xs s - (intOf i).toNat)
    case atStart => exact ⟨0, Nat.zero_le _, rfl, by first | exact hid rfl | exact hid trivial⟩
    case round =>
      obtain ⟨k, hk, rfl, hd⟩ := hrel
      obtain rfl := hd.out
      have q0 := K6.out.cell_ (i := 0) (v := .slice A2 (newFr xs s).length c2) rfl
      have q1 := K6.out.cell_ (i := 1) (v := .slice B2 (newN xs s) d2) rfl
      by_cases hlt : k < newN xs s
      · obtain ⟨ad, Ak, nk, ck, ys, t, rfl, hb1, hc1, hc2, hx, hsk⟩ := I6.out.sh.at_ hlt
        have hyt := rep_at hx.out
        injection hyt with hy ht
        subst hy ht
        have hnk : nk = 0 := by have := hsk.len; simpa using this.symm
        subst hnk
        go_wp2_with fail
        go_roundw
        case rel => exact ⟨k + 1, by omega, by go_num, by first | exact hid trivial | exact hid rfl⟩
        case measure => simp [intOf]; omega
      · obtain rfl : k = newN xs s := by omega
        have hki : ¬ ((newN xs s : Int) < (newN xs s : Int)) := by omega
        go_wp2_with fail
        refine (CreditsValid_any _ _ _ _ _ _ _ _ _ I6.out.sl I6.out.sh (by omega) FR.out.h2).mono ?_
        rintro e w7 ⟨rfl, s7⟩
        rw [HV.out.1]
        have K7 := hid (K6.out.below s7 K6.out.lt)
        have I7 := hid (I6.out.st s7)
        have S7 := hid (S6.out.trans s7)
        clear q0 q1 s7
        have q0 := K7.out.cell_ (i := 0) (v := .slice A2 (newFr xs s).length c2) rfl
        have q1 := K7.out.cell_ (i := 1) (v := .slice B2 (newN xs s) d2) rfl
        go_wp2_with fail
        refine (CreditsOrdered_any _ _ _ _ _ _ _ _ _ I7.out.sl I7.out.sh (by omega) FR.out.h2).mono ?_
        rintro e w8 ⟨rfl, s8⟩
        rw [HO.out]
        have K8 := hid (K7.out.below s8 K7.out.lt)
        have I8 := hid (I7.out.st s8)
        have S8 := hid (S7.out.trans s8)
        clear q0 q1 s8
        have q0 := K8.out.cell_ (i := 0) (v := .slice A2 (newFr xs s).length c2) rfl
        have q1 := K8.out.cell_ (i := 1) (v := .slice B2 (newN xs s) d2) rfl
        go_wp2_with fail
        refine (CreditsStuck_any _ _ _ _ _ _ _ _ _ I8.out.sl I8.out.sh (by omega) FR.out.h2).mono ?_
        rintro e w9 ⟨X, a, rfl, o9, s9⟩
        rw [HK.out]
        have K9 := hid (K8.out.below s9 K8.out.lt)
        have S9 := hid (S8.out.trans s9)
        clear q0 q1 s9 o9
        have q1 := K9.out.cell_ (i := 1) (v := .slice B2 (newN xs s) d2) rfl
        have hss : ((newN xs s : Int) == s) = true := by simp [HV.out.2.1]
        go_wp2_with fail
        go_ret
        exact ⟨ret_bool (by first | rfl | exact hss), S9.out⟩
end Go.Proofs.Ytggjfbakekfdhaa
