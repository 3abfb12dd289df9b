/- FnRoundNew returns true. -/
import Derived.Test.YtldclkjknhjbfaaSameRd
import Derived.Test.YtldclkjknhjbfaaRd6
import Derived.Test.YtldclkjknhjbfaaDrawRd
namespace Go.Proofs.Ytldclkjknhjbfaa
open Go.RowKit Go.Sort
theorem rdMiss_new {m : Int} {xs : List Int} (hm : isMsg m = true) (hg : gset xs = true) : rdValid m xs [] = true ∧ rdMiss m xs [] = xs ∧ rfOk m xs [] = false := by
  have hv : rdValid m xs [] = true := by simp [rdValid, hm, hg, gotOk]
  refine ⟨hv, ?_, ?_⟩
  · rw [rdMiss_filter hv, List.filter_eq_self]
    intro a _
    simp [answered]
  · have := rdValid_len hv
    unfold rfOk
    rw [hv, Bool.true_and, decide_eq_false_iff_not]
    simp
    intro h
    rw [h] at this
    simp at this
/-- A message and a set that are drawn. -/
def DrawnRN (w : World) (e : Ending) (w' : World) : Prop := ∃ (m : Int) (A : Option Addr) (n c : Nat) (xs : List Int), e = .returned (.tuple #[.int .i64 m, .slice A n c]) ∧ SL w' A n c xs ∧ n ≤ 6 ∧ St w w'
theorem DrawRoundNew_any (A : Option Addr) (n c : Nat) (bs : List Nat) (w : World) (h : RB w w.heap.size A n bs) (hn : n ≤ 1048576) (hnc : n ≤ c) (hc : c ≤ maxLen) :
    Calls Try.prog 28 #[.slice A n c] w (DrawnRN w) := by
  go_enter Try.func28, Try.ntmps28
  go_wp2_with fail
  refine (l6Open_any _ _ _ _ _ h hn hnc hc).mono ?_
  rintro e w1 ⟨rfl, hr1, b1⟩
  have z1 : w.heap.size < w1.heap.size := hr1.lt
  have b1 : St w w1 := b1
  go_wp2_with fail
  refine (l91Message_any _ _ _ hr1 (by omega)).mono ?_
  rintro e w2 ⟨m, rfl, hr2, hg2⟩
  have b2 : St w w2 := St.grown b1 hg2 (fun k hk => by injection hk with hk; omega)
  go_wp2_with fail
  refine (l91Set_any _ _ _ hr2 (by omega)).mono ?_
  rintro e w3 ⟨A3, n3, c3, xs3, rfl, ho3, hn3, hr3, hg3⟩
  have b3 : St w w3 := St.grown b2 hg3 (fun k hk => by injection hk with hk; omega)
  go_wp2_with fail
  go_ret2
  exact ⟨m, A3, n3, c3, xs3, rfl, ho3.sl, hn3, b3⟩
set_option maxRecDepth 100000 in
set_option maxHeartbeats 2000000 in
theorem walkRoundNew (A : Option Addr) (n c : Nat) (bs : List Nat) {w : World} (h : RB w w.heap.size A n bs) (hnc : n ≤ c ∧ c ≤ maxLen) :
    Calls Try.prog 5 #[.slice A n c] w fun e w' => e = .returned (.bool true) ∧ Below w.heap.size w w' := by
  obtain ⟨hnc, hcm⟩ := hnc
  have HCM := hid hcm
  clear hcm
  by_cases hn : 1048576 < n
  · have hn : (1048576 : Int) < (n : Int) := by omega
    go_enter Try.func5, Try.ntmps5
    go_wp2_with fail
    go_ret
    exact ⟨rfl, Below.refl _ _⟩
  have hni : ¬ (1048576 : Int) < (n : Int) := by omega
  go_enter Try.func5, Try.ntmps5
  go_wp2_with fail
  refine (DrawRoundNew_any _ _ _ _ _ h (by omega) hnc HCM.out).mono ?_
  rintro e w1 ⟨m, A1, n1, c1, xs, rfl, h1, hn1, s1⟩
  have S1 := hid s1
  have H1 := hid h1
  have hq := rnG_le m xs
  rw [h1.len] at hq
  clear s1
  go_wp2_with fail
  refine (RoundNew_one m _ _ _ _ _ h1.ri (by omega)).mono ?_
  rintro e w2 ⟨A2, c2, B2, d2, rfl, o2, p2, _, s2⟩
  have I2 := hid (show RdRd w2 (rnM m xs) A2 (rnG m xs).length c2 B2 0 d2 (rnG m xs) [] from ⟨o2.sl, p2.ss⟩)
  have a2 := (St.refl w2).alloc (.cells #[.int .i64 (rnM m xs), .slice A2 (rnG m xs).length c2, .slice B2 0 d2] 25)
  have K2 := hid (Blk.new w2 25 #[.int .i64 (rnM m xs), .slice A2 (rnG m xs).length c2, .slice B2 0 d2])
  have I3 := hid (I2.out.st a2)
  have S3 := hid ((S1.out.trans s2).trans a2)
  have H3 := hid (H1.out.st (s2.trans a2))
  have r3 := H3.out.ri
  clear o2 p2 s2 a2 I2 S1 H1 h1
  go_wp2_with fail
  generalize w2.alloc (.cells #[.int .i64 (rnM m xs), .slice A2 (rnG m xs).length c2, .slice B2 0 d2] 25) = w3 at K2 I3 S3 H3 r3 ⊢
  refine (specRoundNew_any m _ _ _ _ _ r3 (by omega)).mono ?_
  rintro e w4 ⟨A4, c4, B4, d4, rfl, i4, j4, s4⟩
  have a4 := (St.refl w4).alloc (.cells #[.int .i64 (rnM m xs), .slice A4 (rnG m xs).length c4, .slice B4 0 d4] 25)
  have L5 := hid (Blk.new w4 25 #[.int .i64 (rnM m xs), .slice A4 (rnG m xs).length c4, .slice B4 0 d4])
  have J5 := hid (show RdRd _ (rnM m xs) A4 (rnG m xs).length c4 B4 0 d4 (rnG m xs) [] from ⟨i4.st a4, j4.st a4⟩)
  have s5 := s4.trans a4
  have K5 := hid (K2.out.below s5 K2.out.lt)
  have I5 := hid (I3.out.st s5)
  have S5 := hid (S3.out.trans s5)
  have H5 := hid (H3.out.st s5)
  have FR := hid (show FitRd (rnG m xs) [] from ⟨by omega, by simp⟩)
  clear K2 I3 S3 H3 r3 i4 j4 s4 a4 s5
  have q0 := K5.out.cell_ (i := 0) (v := .int .i64 (rnM m xs)) rfl
  have q1 := K5.out.cell_ (i := 1) (v := .slice A2 (rnG m xs).length c2) rfl
  have q2 := K5.out.cell_ (i := 2) (v := .slice B2 0 d2) rfl
  have r0 := L5.out.cell_ (i := 0) (v := .int .i64 (rnM m xs)) rfl
  have r1 := L5.out.cell_ (i := 1) (v := .slice A4 (rnG m xs).length c4) rfl
  have r2 := L5.out.cell_ (i := 2) (v := .slice B4 0 d4) rfl
  have hoo : (rnOk m xs == rnOk m xs) = true := by simp
  have hon : (rnOk m xs != rnOk m xs) = false := by simp
  go_wp2_with fail
  refine (sameRound_same I5.out J5.out FR.out).mono ?_
  rintro e w6 ⟨rfl, s6⟩
  have K6 := hid (K5.out.below s6 K5.out.lt)
  have L6 := hid (L5.out.below s6 L5.out.lt)
  have I6 := hid (I5.out.st s6)
  have J6 := hid (J5.out.st s6)
  have S6 := hid (S5.out.trans s6)
  have H6 := hid (H5.out.st s6)
  clear q0 q1 q2 r0 r1 r2 K5 L5 I5 J5 S5 H5 s6
  have q0 := K6.out.cell_ (i := 0) (v := .int .i64 (rnM m xs)) rfl
  have q1 := K6.out.cell_ (i := 1) (v := .slice A2 (rnG m xs).length c2) rfl
  have q2 := K6.out.cell_ (i := 2) (v := .slice B2 0 d2) rfl
  cases hok : rnOk m xs
  · have r0 := L6.out.cell_ (i := 0) (v := .int .i64 (rnM m xs)) rfl
    have r1 := L6.out.cell_ (i := 1) (v := .slice A4 (rnG m xs).length c4) rfl
    have r2 := L6.out.cell_ (i := 2) (v := .slice B4 0 d4) rfl
    rw [hok] at hoo hon
    clear hok
    go_wp2_with fail
    refine (sameRound_same I6.out J6.out FR.out).mono ?_
    rintro e w7 ⟨rfl, s7⟩
    go_wp2_with fail
    go_ret
    exact ⟨rfl, S6.out.trans s7⟩
  · have e1 : rnM m xs = m := by simp [rnM, hok]
    have e2 : rnG m xs = xs := by simp [rnG, hok]
    have hmg : isMsg m = true ∧ gset xs = true := by simpa [rnOk] using hok
    have HN := hid (rdMiss_new hmg.1 hmg.2)
    rw [hok] at hoo hon
    simp only [e1, e2] at K6 I6 J6 q0 q1 FR
    have HX := hid H6.out.len
    simp only [e1, e2]
    clear hok e1 e2 hmg L6
    go_wp2_with fail
    refine (RoundFinal_r I6.out FR.out).mono ?_
    rintro e w7 ⟨rfl, s7⟩
    rw [HN.out.2.2]
    have a7 := s7.alloc (.cells #[.int .i64 (rfV m xs []).1, .int .i64 (rfV m xs []).2] 45)
    have K7 := hid (K6.out.below a7 K6.out.lt)
    have I7 := hid (I6.out.st a7)
    have S7 := hid (S6.out.trans a7)
    have H7 := hid (H6.out.st a7)
    clear q0 q1 q2 K6 I6 S6 H6 s7 a7
    have q0 := K7.out.cell_ (i := 0) (v := .int .i64 m) rfl
    have q1 := K7.out.cell_ (i := 1) (v := .slice A2 xs.length c2) rfl
    have q2 := K7.out.cell_ (i := 2) (v := .slice B2 0 d2) rfl
    go_wp2_with fail
    generalize w7.alloc (.cells #[.int .i64 (rfV m xs []).1, .int .i64 (rfV m xs []).2] 45) = w8 at K7 I7 S7 H7 q0 q1 q2 ⊢
    refine (RoundValid_r I7.out FR.out).mono ?_
    rintro e w9 ⟨rfl, s9⟩
    rw [HN.out.1]
    have K9 := hid (K7.out.below s9 K7.out.lt)
    have I9 := hid (I7.out.st s9)
    have S9 := hid (S7.out.trans s9)
    have H9 := hid (H7.out.st s9)
    clear q0 q1 q2 K7 I7 S7 H7 s9
    have q0 := K9.out.cell_ (i := 0) (v := .int .i64 m) rfl
    have q1 := K9.out.cell_ (i := 1) (v := .slice A2 xs.length c2) rfl
    have q2 := K9.out.cell_ (i := 2) (v := .slice B2 0 d2) rfl
    go_wp2_with fail
    refine (RoundMissing_r I9.out FR.out).mono ?_
    rintro e w10 ⟨A10, n10, c10, rfl, o10, s10⟩
    have o11 := o10.sl
    rw [HN.out.2.1] at o11
    have H10 := H9.out.st s10
    have S10 := hid (S9.out.trans s10)
    clear q0 q1 q2 K9 I9 S9 H9 s10 o10
    go_wp2_with fail
    refine (sameInts_same o11 H10 FR.out.n).mono ?_
    rintro e w12 ⟨rfl, s12⟩
    go_wp2_with fail
    go_ret
    exact ⟨rfl, S10.out.trans s12⟩
end Go.Proofs.Ytldclkjknhjbfaa
