/- FnStuck returns true. -/
import Derived.Test.YtggjfbakekfdhaaLawCr
namespace Go.Proofs.Ytggjfbakekfdhaa
open Go.RowKit Go.Sort
/-- Does nobody who is stuck, of the first q, have a credit of the group? -/
def fre (hs : List (List Int × Int)) (out : List Int) (t : Int) (q : Nat) : Bool := decide (t < 0) || (List.range q).any fun k => has (hs.getD k ([], 0)).1 t && !has out (k : Int)
theorem fre_succ {hs : List (List Int × Int)} {q : Nat} {y : List Int × Int} (out : List Int) (t : Int) (h : hs[q]? = some y) : fre hs out t (q + 1) = (fre hs out t q || (has y.1 t && !has out (q : Int))) := by
  unfold fre
  rw [List.range_succ, List.any_append, Bool.or_assoc]
  simp [List.getD_eq_getElem?_getD, h]
theorem fre_all {hs : List (List Int × Int)} {i : Nat} {x : List Int × Int} (h : hs[i]? = some x) : fre hs (stuckOf hs) x.2 hs.length = !has (stuckOf hs) (i : Int) := by
  have hi := (List.getElem?_eq_some_iff.1 h).1
  rw [Bool.eq_iff_iff, Bool.not_eq_true', ← Bool.not_eq_true, stuck_mem hi, Classical.not_not, free_iff h]
  unfold fre
  rw [Bool.or_eq_true, decide_eq_true_eq, List.any_eq_true]
  constructor
  · rintro (h1 | ⟨k, hk, h2⟩)
    · exact .inl h1
    · rw [List.mem_range] at hk
      rw [Bool.and_eq_true, Bool.not_eq_true', ← Bool.not_eq_true, stuck_mem hk, Classical.not_not] at h2
      exact .inr ⟨k, hs[k], List.getElem?_eq_getElem hk, by simpa [List.getD_eq_getElem?_getD, List.getElem?_eq_getElem hk] using h2.1, h2.2⟩
  · rintro (h1 | ⟨k, g, h1, h2, h3⟩)
    · exact .inl h1
    · have hk := (List.getElem?_eq_some_iff.1 h1).1
      refine .inr ⟨k, List.mem_range.2 hk, ?_⟩
      rw [Bool.and_eq_true, Bool.not_eq_true', ← Bool.not_eq_true, stuck_mem hk, Classical.not_not]
      exact ⟨by simpa [List.getD_eq_getElem?_getD, h1] using h2, h3⟩
set_option maxRecDepth 100000 in
set_option maxHeartbeats 4000000 in
theorem walkStuck (A : Option Addr) (n c : Nat) (bs : List Nat) {w : World} (h : RB w w.heap.size A n bs) (hnc : n ≤ c ∧ c ≤ maxLen) :
    Calls Try.prog 10 #[.slice A n c] w fun e w' => e = .returned (.bool true) ∧ Below w.heap.size w w' := by
  obtain ⟨hnc, hcm⟩ := hnc
  have HCM := hid hcm
  clear hcm
  by_cases hn : 1048576 < n
  · have hn : (1048576 : Int) < (n : Int) := by omega
    go_enter Try.func10, Try.ntmps10
    go_wp2_with fail
    go_ret
    exact ⟨rfl, Below.refl _ _⟩
  have hni : ¬ (1048576 : Int) < (n : Int) := by omega
  go_enter Try.func10, Try.ntmps10
  go_wp2_with fail
  refine (DrawCreditsStuck_any _ _ _ _ _ h (by omega) hnc HCM.out).mono ?_
  rintro e w1 ⟨A1, n1, c1, B1, m1, d1, fs, hs, rfl, i1, f1, s1⟩
  have hn1 : n1 ≤ 1048576 := by have := i1.sl.len; have := f1.n; omega
  have hm1 : m1 ≤ 1048576 := by have := i1.sh.len; have := f1.m; omega
  have X := hid (LC.new i1 s1)
  have F := hid f1
  clear i1 s1 f1
  go_wp2_with fail
  generalize w1.alloc (.cells #[.slice A1 n1 c1, .slice B1 m1 d1] 25) = w2 at *
  generalize w1.heap.size = bx at *
  have q0 := X.out.k.cell_ (i := 0) (v := .slice A1 n1 c1) rfl
  have q1 := X.out.k.cell_ (i := 1) (v := .slice B1 m1 d1) rfl
  go_wp2_with fail
  refine (CreditsStuck_any _ _ _ _ _ _ _ _ _ X.out.i.sl X.out.i.sh hn1 F.out.h2).mono ?_
  rintro e w3 ⟨A3, c3, rfl, o3, s3⟩
  have HLE := hid (CreditsStuck_r_le F.out)
  have O := hid (OI.sl o3)
  replace X := hid (X.out.st s3)
  replace q0 := s3.cell q0
  replace q1 := s3.cell q1
  clear s3 o3
  go_wp2_with fail
  refine (specCreditsStuck_any _ _ _ _ _ _ _ _ _ X.out.i.sl X.out.i.sh hn1 F.out.h2).mono ?_
  rintro e w4 ⟨A4, c4, rfl, o4, s4⟩
  have P := hid (OI.sl o4)
  replace X := hid (X.out.st s4)
  replace O := hid (O.out.st s4)
  replace q0 := s4.cell q0
  replace q1 := s4.cell q1
  clear s4 o4
  go_wp2_with fail
  refine (sameInts_same O.out P.out HLE.out).mono ?_
  rintro e w5 ⟨rfl, s5⟩
  have s5 := s5.st
  replace X := hid (X.out.st s5)
  replace O := hid (O.out.st s5)
  replace P := hid (P.out.st s5)
  replace q0 := s5.cell q0
  replace q1 := s5.cell q1
  clear s5
  go_wp2_with fail
  refine (specCreditsValid_any _ _ _ _ _ _ _ _ _ X.out.i.sl X.out.i.sh hn1 F.out.h2).mono ?_
  rintro e w6 ⟨rfl, s6⟩
  replace X := hid (X.out.st s6)
  replace O := hid (O.out.st s6)
  replace P := hid (P.out.st s6)
  replace q0 := s6.cell q0
  replace q1 := s6.cell q1
  clear s6
  cases hv : crValid fs hs
  · go_wp2_with fail
    refine (sameInts_same O.out P.out HLE.out).mono ?_
    rintro e w7 ⟨rfl, s7⟩
    go_wp2_with fail
    go_ret
    exact ⟨rfl, X.out.s.trans s7.st⟩
  have HCS := hid (show crStuck fs hs = stuckOf hs by unfold crStuck; rw [hv]; rfl)
  have hle := HLE.out
  rw [HCS.out] at O hle ⊢
  clear hv q0 q1 P HCS HLE
  generalize hL : (stuckOf hs).length = L at O hle ⊢
  have HLN := hid X.out.i.sh.len
  clear hL
  go_wp2_with fail
  go_loopw [6] (fun i wr => ∃ k : Nat, k ≤ m1 ∧ i = .int .i64 (k : Int) ∧ Hid (Dr w6 wr)) (fun i _ => m1 - (intOf i).toNat)
  case atStart => exact ⟨0, Nat.zero_le _, rfl, Dr.refl _⟩
  case round =>
    obtain ⟨wa, rfl⟩ : ∃ wo : World, wo = wr := ⟨_, rfl⟩
    obtain ⟨k, hk, rfl, hd⟩ := hrel
    have X1 := hid (X.out.st hd.out.st)
    have q0 := X1.out.k.cell_ (i := 0) (v := .slice A1 n1 c1) rfl
    have q1 := X1.out.k.cell_ (i := 1) (v := .slice B1 m1 d1) rfl
    have hki : (0 : Int) ≤ (k : Int) := by omega
    by_cases hlt : k < m1
    · have hki2 : (k : Int) < (m1 : Int) := by omega
      obtain ⟨ad, Ak, nk, ck, xs, t, rfl, hb1, ca0, ca1, hx, hsl⟩ := X.out.i.sh.at_ hlt
      have HX := hid (fre_all hx.out)
      rw [HLN.out] at HX
      have cd1 := (hd.out.cell _).trans ca1
      clear hsl hx ca0
      go_wp2_with fail
      go_loopw [7, 8] (fun v i wr => ∃ j : Nat, j ≤ m1 ∧ i = .int .i64 (j : Int) ∧ v = .bool (fre hs (stuckOf hs) t j) ∧ Hid (Dr w6 wr)) (fun _ i _ => m1 - (intOf i).toNat)
      case atStart => exact ⟨0, Nat.zero_le _, rfl, by simp [fre], hd⟩
      case round =>
        obtain ⟨wb, rfl⟩ : ∃ wo : World, wo = wr := ⟨_, rfl⟩
        obtain ⟨j, hj, rfl, rfl, hd2⟩ := hrel
        clear q0 q1 cd1
        have X2 := hid (X.out.st hd2.out.st)
        have O2 := hid (O.out.dr hd2.out)
        have q0 := X2.out.k.cell_ (i := 0) (v := .slice A1 n1 c1) rfl
        have q1 := X2.out.k.cell_ (i := 1) (v := .slice (some ad) m1 d1) rfl
        have cd1' := (hd2.out.cell _).trans ca1
        have hj0 : (0 : Int) ≤ (j : Int) := by omega
        by_cases hltj : j < m1
        · have hji : (j : Int) < (m1 : Int) := by omega
          obtain ⟨ad', Aj, nj, cj, ys, u, ea, hbh, f0, f1, hy, hsj⟩ := X2.out.i.sh.at_ hltj
          injection ea with ea
          subst ea
          have hnj : nj ≤ 1048576 := by have h8 := F.out.h2 _ (List.mem_of_getElem? hy.out); rw [hsj.len] at h8; exact h8
          have HS := hid (fre_succ (stuckOf hs) t hy.out)
          obtain ⟨b, hb0⟩ : ∃ b, fre hs (stuckOf hs) t j = b := ⟨_, rfl⟩
          rw [hb0] at HS ⊢
          clear hb0
          cases b
          · obtain ⟨b1, hb1⟩ : ∃ b, has ys t = b := ⟨_, rfl⟩
            obtain ⟨b2, hb2⟩ : ∃ b, has (stuckOf hs) (j : Int) = b := ⟨_, rfl⟩
            have HC := hid (fun (m : Nat) => quiet_left (hasInt_any Aj nj cj _ ys t (wb.drewN m) (hsj.ri.dr ⟨_, rfl⟩) (by omega)))
            have HD := hid (fun (m : Nat) => quiet_left (hasInt_any A3 L c3 _ (stuckOf hs) (j : Int) (wb.drewN m) (O2.out.ri.dr ⟨_, rfl⟩) (by omega)))
            have HS2 := hid (HS.out.trans (by rw [Bool.false_or, hb1, hb2]))
            rw [hb1] at HC
            rw [hb2] at HD
            clear hb1 hb2
            cases b1
            · go_wp2_with fail
              go_quiet ((go_at_call 34; first | with_reducible exact HC.out _ | with_reducible exact HD.out _))
              go_wp2_with fail
              go_roundw
              case rel => exact ⟨j + 1, by omega, by go_num, by rw [HS2.out]; rfl, hd2.out.more _⟩
              case measure => simp [intOf]; omega
            · go_wp2_with fail
              go_quiet ((go_at_call 34; first | with_reducible exact HC.out _ | with_reducible exact HD.out _))
              go_wp2_with fail
              go_roundw
              case rel => exact ⟨j + 1, by omega, by go_num, by rw [HS2.out]; cases b2 <;> rfl, hd2.out.more _⟩
              case measure => simp [intOf]; omega
          · have HS2 := hid (HS.out.trans (by rw [Bool.true_or]))
            go_wp2_with fail
            go_quiet (fail)
            go_wp2_with fail
            go_roundw
            case rel => exact ⟨j + 1, by omega, by go_num, by rw [HS2.out], hd2.out.more _⟩
            case measure => simp [intOf]; omega
        · obtain rfl : j = m1 := by omega
          have hji : ¬ ((j : Int) < (j : Int)) := by omega
          rw [HX.out]
          obtain ⟨b, hb0⟩ : ∃ b, has (stuckOf hs) (k : Int) = b := ⟨_, rfl⟩
          rw [hb0]
          go_wp2_with fail
          refine (hasInt_any _ _ _ _ _ _ _ O2.out.ri (by omega)).mono ?_
          rintro e w8 ⟨rfl, rfl⟩
          rw [hb0]
          clear hb0
          cases b
          · go_wp2_with fail
            go_roundw
            case rel => exact ⟨k + 1, by omega, by go_num, hd2⟩
            case measure => simp [intOf]; omega
          · go_wp2_with fail
            go_roundw
            case rel => exact ⟨k + 1, by omega, by go_num, hd2⟩
            case measure => simp [intOf]; omega
    · obtain rfl : k = m1 := by omega
      have hki2 : ¬ ((k : Int) < (k : Int)) := by omega
      go_wp2_with fail
      go_ret
      exact ⟨rfl, X1.out.s⟩
end Go.Proofs.Ytggjfbakekfdhaa
