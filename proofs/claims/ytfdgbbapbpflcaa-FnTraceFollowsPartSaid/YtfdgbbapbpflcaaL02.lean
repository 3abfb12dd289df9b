/- FnTraceFollowsPart returns true. -/
import Derived.Test.YtfdgbbapbpflcaaTr4
import Derived.Test.YtfdgbbapbpflcaaDrawTr
import Derived.Test.YtfdgbbapbpflcaaApp
namespace Go.Proofs.Ytfdgbbapbpflcaa
open Go.RowKit
theorem rest_of_sub : ∀ (ys xs : List Int), xs.Sublist ys → rest xs ys = []
  | [], xs, h => List.sublist_nil.1 h
  | y :: ys, [], _ => rest_of_nil _
  | y :: ys, x :: xs, h => by
    show rest (stepR (x :: xs) y) ys = []
    unfold stepR
    by_cases hxy : (x == y) = true
    · simp only [hxy, if_true]
      cases h with
      | cons _ h => exact rest_of_sub ys xs ((List.sublist_cons_self x xs).trans h)
      | cons_cons _ h => exact rest_of_sub ys xs h
    · simp only [hxy, if_false, Bool.false_eq_true]
      cases h with
      | cons _ h => exact rest_of_sub ys (x :: xs) h
      | cons_cons _ h => simp at hxy
theorem sub_part {xs ys : List Int} (h : follows xs ys = true) (k : Nat) : follows (xs.take k ++ xs.drop (k + 1)) ys = true := by
  simp only [follows, Bool.and_eq_true, List.isEmpty_iff] at h ⊢
  obtain ⟨⟨h1, h2⟩, h3⟩ := h
  have hs : (xs.take k ++ xs.drop (k + 1)).Sublist xs := by
    have := List.Sublist.append (List.Sublist.refl (xs.take k)) (List.drop_sublist_drop_left xs (Nat.le_succ k))
    rwa [List.take_append_drop] at this
  refine ⟨⟨?_, h2⟩, rest_of_sub _ _ (hs.trans (rest_sub ys xs h3))⟩
  simp only [isTr, Bool.and_eq_true, decide_eq_true_eq, List.all_eq_true] at h1 ⊢
  exact ⟨fun x hx => h1.1 x (hs.subset hx), h1.2.sublist hs⟩
set_option maxHeartbeats 1000000 in
theorem walkTraceFollowsPart (A : Option Addr) (n c : Nat) (bs : List Nat) {w : World} (h : RB w w.heap.size A n bs) (hnc : n ≤ c ∧ c ≤ maxLen) (A' : Option Addr) (n' c' : Nat) (bs' : List Nat) (h' : RB w w.heap.size A' n' bs') (_ : n' ≤ c' ∧ c' ≤ maxLen) :
    Calls Try.prog 4 #[.slice A n c, .slice A' n' c'] w fun e w' => e = .returned (.bool true) ∧ Below w.heap.size w w' := by
  obtain ⟨hnc, hcm⟩ := hnc
  have HCM := hid hcm
  clear hcm
  by_cases hn : 1048576 < n
  · have hn : (1048576 : Int) < (n : Int) := by omega
    go_enter Try.func4, Try.ntmps4
    go_wp2_with fail
    go_ret
    exact ⟨rfl, Below.refl _ _⟩
  by_cases hn' : 1048576 < n'
  · have hn : ¬ (1048576 : Int) < (n : Int) := by omega
    have hn' : (1048576 : Int) < (n' : Int) := by omega
    go_enter Try.func4, Try.ntmps4
    go_wp2_with fail
    go_ret
    exact ⟨rfl, Below.refl _ _⟩
  have hni : ¬ (1048576 : Int) < (n : Int) := by omega
  have hni' : ¬ (1048576 : Int) < (n' : Int) := by omega
  go_enter Try.func4, Try.ntmps4
  go_wp2_with fail
  refine (DrawTraceFollows_any _ _ _ _ _ h (by omega) hnc HCM.out).mono ?_
  rintro e w1 ⟨A1, n1, c1, xs, A2, n2, c2, ys, rfl, h1, h2, hn1, hn2, s1⟩
  go_wp2_with fail
  refine (TraceFollows_any _ _ _ _ _ _ _ _ _ _ h1.ri h2.ri (by omega) (by omega) h1.nc h1.cm (Nat.le_refl _)).mono ?_
  rintro e w2 ⟨rfl, b2⟩
  have h1 := h1.st b2
  have h2 := h2.st b2
  have s2 := s1.trans b2
  clear s1 b2
  go_wp2_with fail
  refine (specTraceFollows_any _ _ _ _ _ _ _ _ _ _ h1.ri h2.ri (by omega) (by omega) h1.nc h2.nc).mono ?_
  rintro e w3 ⟨rfl, d3⟩
  have h1 := h1.dr d3
  have h2 := h2.dr d3
  have s3 := s2.dr d3
  clear s2 d3
  cases hf : follows xs ys
  · go_wp2_with fail
    go_ret
    exact ⟨rfl, s3⟩
  by_cases hn0 : n1 = 0
  · subst hn0
    go_wp2_with fail
    go_ret
    exact ⟨rfl, s3⟩
  have hnz : ((n1 : Int) == 0) = false := by simp; omega
  obtain ⟨k, hk, hkn⟩ : ∃ k : Nat, (n' : Int) % (n1 : Int) = (k : Int) ∧ k < n1 := ⟨n' % n1, by simp, Nat.mod_lt _ (by omega)⟩
  have HP := hid (sub_part hf k)
  have hkc : (k : Int) ≤ (c1 : Int) := by have := h1.nc; omega
  have hk1 : ((k : Int) + 1) ≤ (n1 : Int) := by omega
  have hv : IntKind.i64.wrap ((k : Int) + 1) = (k : Int) + 1 := IntWalk.i64_in _ (by omega)
  obtain ⟨X, hrun, hcut⟩ := cut_from h1.ri (c := c1) (k + 1) ((k : Int) + 1) (by omega) (by omega) h1.nc
  have HC := hid hcut
  have HU := hid (h1.ri.upto (k := k) (by omega))
  clear hcut
  have HO := hid (OI.lit (w := w3) (e := 3))
  have HA := hid ((HU.out.alloc (Nat.le_refl _) (.cells #[] 3)))
  have HB := hid ((HC.out.alloc (Nat.le_refl _) (.cells #[] 3)))
  go_wp2_with fail
  go_region_held3 (fun _ => True) (trivial) (first
    | (refine step_append_src _ rfl (.tmp 49) (.tmp 52) 22 rfl w3.heap.size 3 Try.underlying22 intInfo (some ⟨w3.heap.size, 0, none⟩) 0 0 [] (by rfl) (HO.out.dr ⟨1, rfl⟩) _ A1 k c1 (xs.take k) (by rfl) (HA.out.dr ⟨1, rfl⟩) (by omega) (by simp) ?_; intro X1 a1 w4 ho4 hg4; have s4 : St w3 w4 := St.grown (((St.refl w3).alloc _).drew) hg4 (fun g hg => by injection hg with hg; simp at hg; omega); have hz4 := hg4.size; have hb4 := Reads.grown (HB.out.dr ⟨1, rfl⟩) hg4 (by simp) (fun g hg => by injection hg with hg; simp at hg; omega); simp only [Nat.zero_add, List.nil_append] at ho4 hz4 ⊢)
    | (refine step_append_src _ rfl (.tmp 53) (.tmp 57) 22 rfl w3.heap.size 3 Try.underlying22 intInfo X1 k a1 (xs.take k) (by rfl) ho4 _ X (n1 - (k + 1)) (c1 - (k + 1)) (xs.drop (k + 1)) (by rfl) hb4 (by omega) (by simp at hz4; omega) ?_; intro X2 a2 w5 ho5 hg5; have s5 : St w3 w5 := St.grown s4 hg5 (fun g hg => (ho4.lt g hg).1); have h5 := h2.st s5)
    | (go_at_call 21; refine (TraceFollows_any _ _ _ _ _ _ _ _ _ _ ho5.ri h5.ri (by omega) (by omega) ho5.cap.1 ho5.cap.2 (Nat.le_refl _)).mono ?_; rintro e w6 ⟨rfl, b6⟩))
  go_wp2_with fail
  go_ret
  exact ⟨ret_bool HP.out, s3.trans (s5.trans b6)⟩
end Go.Proofs.Ytfdgbbapbpflcaa
