/- FnRoundMissing returns true. -/
import Derived.Test.YtldclkjknhjbfaaL15
import Derived.Test.YtldclkjknhjbfaaRd5
namespace Go.Proofs.Ytldclkjknhjbfaa
open Go.RowKit Go.Sort
set_option maxRecDepth 100000 in
set_option maxHeartbeats 2000000 in
theorem walkRoundMissing (A : Option Addr) (n c : Nat) (bs : List Nat) {w : World} (h : RB w w.heap.size A n bs) (hnc : n ≤ c ∧ c ≤ maxLen) :
    Calls Try.prog 6 #[.slice A n c] w fun e w' => e = .returned (.bool true) ∧ Below w.heap.size w w' := by
  obtain ⟨hnc, hcm⟩ := hnc
  have HCM := hid hcm
  clear hcm
  by_cases hn : 1048576 < n
  · have hn : (1048576 : Int) < (n : Int) := by omega
    go_enter Try.func6, Try.ntmps6
    go_wp2_with fail
    go_ret
    exact ⟨rfl, Below.refl _ _⟩
  have hni : ¬ (1048576 : Int) < (n : Int) := by omega
  go_enter Try.func6, Try.ntmps6
  go_wp2_with fail
  refine (DrawRoundMissing_any _ _ _ _ _ h (by omega) hnc HCM.out).mono ?_
  rintro e w1 ⟨M, A1, n1, c1, B1, q1, d1, xs, ss, rfl, i1, f1, hn1, hq1, s1⟩
  have X2 := hid (LX.new i1 s1)
  have HL := hid i1.sl.len
  have HL' := hid i1.sh.len
  clear i1 s1 f1
  obtain ⟨va, hva⟩ : ∃ b, rdValid M xs ss = b := ⟨_, rfl⟩
  obtain ⟨ms, hms⟩ : ∃ b, rdMiss M xs ss = b := ⟨_, rfl⟩
  obtain ⟨L, hL⟩ : ∃ L, ms.length = L := ⟨_, rfl⟩
  have hL5 : L ≤ 5 := by rw [← hL, ← hms]; exact rdMiss_le M xs ss
  have HM := hid hms
  have HML := hid hL
  have q0 := X2.out.k.cell_ (i := 0) (v := .int .i64 M) rfl
  have q1' := X2.out.k.cell_ (i := 1) (v := .slice A1 n1 c1) rfl
  have q2 := X2.out.k.cell_ (i := 2) (v := .slice B1 q1 d1) rfl
  go_wp2_with fail
  generalize w1.alloc (.cells #[.int .i64 M, .slice A1 n1 c1, .slice B1 q1 d1] 25) = w2 at X2 q0 q1' q2 ⊢
  generalize hbx : w1.heap.size = bx at X2 q0 q1' q2 ⊢
  clear hbx
  refine (RoundMissing_any M A1 B1 n1 c1 q1 d1 xs ss _ X2.out.i.sl X2.out.i.sh (by omega)).mono ?_
  rintro e w3 ⟨A3, c3, rfl, o3, s3⟩
  have X3 := hid (X2.out.st s3)
  have O3 := hid o3.sl
  clear X2 q0 q1' q2 s3 o3
  have q0 := X3.out.k.cell_ (i := 0) (v := .int .i64 M) rfl
  have q1' := X3.out.k.cell_ (i := 1) (v := .slice A1 n1 c1) rfl
  have q2 := X3.out.k.cell_ (i := 2) (v := .slice B1 q1 d1) rfl
  rw [hms, hL] at O3 ⊢
  go_wp2_with fail
  refine (specRoundMissing_any M A1 B1 n1 c1 q1 d1 xs ss _ X3.out.i.sl X3.out.i.sh (by omega)).mono ?_
  rintro e w4 ⟨A4, c4, rfl, o4, s4⟩
  have X4 := hid (X3.out.st s4)
  have O4 := hid (O3.out.st s4)
  have P4 := hid o4.sl
  clear X3 O3 q0 q1' q2 s4 o4
  rw [hms, hL] at P4 ⊢
  go_wp2_with fail
  refine (sameInts_same O4.out P4.out (by omega)).mono ?_
  rintro e w5 ⟨rfl, s5⟩
  have X5 := hid (X4.out.st s5)
  have O5 := hid (O4.out.st s5)
  have P5 := hid (P4.out.st s5)
  clear X4 O4 P4 s5
  have q0 := X5.out.k.cell_ (i := 0) (v := .int .i64 M) rfl
  have q1' := X5.out.k.cell_ (i := 1) (v := .slice A1 n1 c1) rfl
  have q2 := X5.out.k.cell_ (i := 2) (v := .slice B1 q1 d1) rfl
  go_wp2_with fail
  refine (specRoundValid_any M A1 B1 n1 c1 q1 d1 xs ss _ X5.out.i.sl X5.out.i.sh (by omega)).mono ?_
  rintro e w6 ⟨rfl, s6⟩
  have X6 := hid (X5.out.st s6)
  have O6 := hid (O5.out.st s6)
  have P6 := hid (P5.out.st s6)
  clear X5 O5 P5 s6 q0 q1' q2
  rw [hva]
  cases va
  · go_wp2_with fail
    refine (sameInts_same O6.out P6.out (by omega)).mono ?_
    rintro e w7 ⟨rfl, s7⟩
    go_wp2_with fail
    go_ret
    exact ⟨rfl, X6.out.s.trans s7⟩
  have hcount : L + q1 = n1 := by have := rdMiss_count hva; rw [hms, hL, HL'.out, HL.out] at this; exact this
  have hhas : ∀ y ∈ xs, has ms y = !answered ss y := by
    intro y hy
    rw [← hms, rdMiss_filter hva]
    cases hb : answered ss y
    · exact has_iff.2 (List.mem_filter.2 ⟨hy, by simp [hb]⟩)
    · cases hc : has (xs.filter fun g => !answered ss g) y
      · rfl
      · have := (List.mem_filter.1 (has_iff.1 hc)).2
        rw [hb] at this
        cases this
  have HH := hid hhas
  clear hhas P6 hms hL hva
  have hqd := X6.out.i.sh.nc
  go_wp2_with fail
  go_loopw [6] (fun i wr => ∃ (k : Nat), k ≤ n1 ∧ i = .int .i64 (k : Int) ∧ Hid (LX w wr bx M A1 n1 c1 B1 q1 d1 xs ss) ∧ Hid (SL wr A3 L c3 ms)) (fun i _ => n1 - (intOf i).toNat)
  case atStart => exact ⟨0, Nat.zero_le _, rfl, X6, O6⟩
  case round =>
    obtain ⟨k, hk, rfl, hx, ho⟩ := hrel
    obtain ⟨wa, rfl⟩ : ∃ wo : World, wo = wr := ⟨_, rfl⟩
    have q0 := hx.out.k.cell_ (i := 0) (v := .int .i64 M) rfl
    have q1' := hx.out.k.cell_ (i := 1) (v := .slice A1 n1 c1) rfl
    have q2 := hx.out.k.cell_ (i := 2) (v := .slice B1 q1 d1) rfl
    by_cases hlt : k < n1
    · obtain ⟨ad, y, rfl, hb, hy, hc⟩ := hx.out.i.sl.ri.at_ hlt
      have hki : (0 : Int) ≤ (k : Int) := by omega
      have hki2 : (k : Int) < (n1 : Int) := by omega
      have hyx := hid (HH.out y (List.mem_of_getElem? hy.out))
      go_wp2_with fail
      go_loopw [7, 8] (fun v i wb => ∃ (j : Nat), j ≤ q1 ∧ i = .int .i64 (j : Int) ∧ v = .bool (answered (ss.take j) y) ∧ Hid (Dr wa wb)) (fun _ i _ => q1 - (intOf i).toNat)
      case atStart => exact ⟨0, Nat.zero_le _, rfl, rfl, Dr.refl _⟩
      case round =>
        obtain ⟨j, hj, rfl, rfl, hd⟩ := hrel
        have hkc := hid (hx.out.k.dr hd.out)
        have r1 := hkc.out.cell_ (i := 1) (v := .slice (some ad) n1 c1) rfl
        have r2 := hkc.out.cell_ (i := 2) (v := .slice B1 q1 d1) rfl
        have hcy := (hd.out.cell (ad.add k)).trans hc
        by_cases hltj : j < q1
        · obtain ⟨ad', t, g, rfl, hb1, hc1, hc2, hxx⟩ := (hx.out.i.sh.dr hd.out).at_ hltj
          have hji : (0 : Int) ≤ (j : Int) := by omega
          have hji2 : (j : Int) < (q1 : Int) := by omega
          clear q0 q1' q2 hc
          cases ha : answered (ss.take j) y
          · have ht := hid (answered_take hxx.out ha)
            cases hg : (g == y)
            · have ht2 := hid (ht.out.trans hg)
              clear ha
              go_wp2_with fail
              go_quiet (fail)
              go_wp2_with fail
              go_roundw
              case rel => exact ⟨j + 1, by omega, by go_num, by rw [ht2.out], hd.out.more _⟩
              case measure => simp [intOf]; omega
            · have ht2 := hid (ht.out.trans hg)
              clear ha
              go_wp2_with fail
              go_quiet (fail)
              go_wp2_with fail
              go_roundw
              case rel => exact ⟨j + 1, by omega, by go_num, by rw [ht2.out], hd.out.more _⟩
              case measure => simp [intOf]; omega
          · have ht2 : Hid (answered (ss.take (j + 1)) y = true) := by
              unfold answered at ha ⊢
              rw [take_snoc hxx.out, List.any_append, ha]; rfl
            clear ha
            go_wp2_with fail
            go_quiet (fail)
            go_wp2_with fail
            go_roundw
            case rel => exact ⟨j + 1, by omega, by go_num, by rw [ht2.out], hd.out.more _⟩
            case measure => simp [intOf]; omega
        · obtain rfl : j = q1 := by omega
          have e1 : answered (ss.take j) y = answered ss y := by rw [List.take_of_length_le (by rw [HL'.out]; omega)]
          have hx2 := hid (hx.out.st hd.out.st)
          have ho2 := hid (ho.out.st hd.out.st)
          clear q0 q1' q2 hc
          rw [e1]
          clear e1
          go_wp2_with fail
          refine (hasInt_any _ _ _ _ _ _ _ ho2.out.ri (by omega)).mono ?_
          rintro e w8 ⟨rfl, rfl⟩
          rw [hyx.out]
          cases ha : answered ss y
          · clear ha
            go_wp2_with fail
            go_roundw
            case rel => exact ⟨k + 1, by omega, by go_num, hx2, ho2⟩
            case measure => simp [intOf]; omega
          · clear ha
            go_wp2_with fail
            go_roundw
            case rel => exact ⟨k + 1, by omega, by go_num, hx2, ho2⟩
            case measure => simp [intOf]; omega
    · obtain rfl : k = n1 := by omega
      have hci : (L : Int) + (q1 : Int) = (k : Int) := by omega
      go_wp2_with fail
      go_ret
      first
        | exact ⟨rfl, hx.out.s⟩
        | (refine ⟨?_, hx.out.s⟩; simp [hci]; done)
end Go.Proofs.Ytldclkjknhjbfaa
