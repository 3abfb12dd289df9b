/- FnExactRoundNew returns true. -/
import Derived.Test.YtldclkjknhjbfaaRd1
namespace Go.Proofs.Ytldclkjknhjbfaa
open Go.RowKit
set_option maxHeartbeats 1000000 in
theorem walkExactRoundNew (s : Int) {w : World} (_ : (Lit.int .i64 s).wf = true) (A : Option Addr) (n c : Nat) (xs : List Int) (h : SL w A n c xs) (_ : ∀ x ∈ xs, (Lit.int .i64 x).wf = true) :
    Calls Try.prog 3 #[.int .i64 s, .slice A n c] w fun e w' => e = .returned (.bool true) ∧ Below w.heap.size w w' := by
  by_cases hn : 1048576 < n
  · have hn : (1048576 : Int) < (n : Int) := by omega
    go_enter Try.func3, Try.ntmps3
    go_wp2_with fail
    go_ret
    exact ⟨rfl, Below.refl _ _⟩
  have hni : ¬ (1048576 : Int) < (n : Int) := by omega
  have hnn : n ≤ 1048576 := by omega
  have HI := hid (fun A c w h => RoundNew_one s A n c xs w h hnn)
  have HS := hid (fun A c w h => specRoundNew_any s A n c xs w h hnn)
  have hq := rnG_le s xs
  rw [h.len] at hq
  generalize rnG s xs = fr at HI HS hq
  generalize rnM s xs = M at HI HS
  generalize rnOk s xs = ok at HI HS
  have HF := hid (rfl : fr.length = fr.length)
  generalize hfl : fr.length = q at HI HS hq
  have HQ := hid hfl
  clear hfl HF
  go_enter Try.func3, Try.ntmps3
  go_wp2_with fail
  refine (toIntS_any _ _ _ _ _ _ h.ri (by omega) (Nat.le_refl _)).mono ?_
  rintro e w1 ⟨rfl, o1, b1, _⟩
  go_wp2_with fail
  refine (HS.out _ _ _ o1.ri).mono ?_
  rintro e w2 ⟨A2, c2, B2, d2, rfl, i2, j2, s2⟩
  have s2 : St w w2 := St.trans b1 s2
  have t2 := (St.refl w2).alloc (.cells #[.int .i64 M, .slice A2 q c2, .slice B2 0 d2] 25)
  have S3 := s2.trans t2
  have i3 := i2.st t2
  have j3 := j2.st t2
  have k3 := Blk.new w2 25 #[.int .i64 M, .slice A2 q c2, .slice B2 0 d2]
  clear b1 o1 s2 t2 i2 j2
  have HK := hid k3
  have HI3 := hid i3
  have HJ3 := hid j3
  have HS3 := hid S3
  clear k3 i3 j3 S3
  go_wp2_with fail
  generalize w2.alloc (.cells #[.int .i64 M, .slice A2 q c2, .slice B2 0 d2] 25) = W3 at HK HI3 HJ3 HS3 ⊢
  refine (toIntS_any _ _ _ _ _ _ (h.st HS3.out).ri hnn (Nat.le_refl _)).mono ?_
  rintro e w4 ⟨rfl, x4, b4, z4⟩
  have t4 : St W3 w4 := b4
  go_wp2_with fail
  refine (HI.out _ _ _ x4.ri).mono ?_
  rintro e w5 ⟨A5, c5, B5, d5, rfl, o5, p5, dis5, s5⟩
  have HX5 := hid (x4.below s5 (fun g hg => (x4.lt g hg).2))
  have HD := hid dis5
  have HT5 := hid (t4.trans s5)
  have HO := hid (World.ownsRow.alloc o5 (.cells #[.int .i64 M, .slice A5 q c5, .slice B5 0 d5] 25))
  have HP := hid (World.ownsRow.alloc p5.2 (.cells #[.int .i64 M, .slice A5 q c5, .slice B5 0 d5] 25))
  have HP1 := hid p5.1
  have HK5 := hid (Blk.new w5 25 #[.int .i64 M, .slice A5 q c5, .slice B5 0 d5])
  have z5 := s5.le
  have HLo := hid (show ∀ g, blockOf A5 = some g → w4.heap.size ≤ g ∧ g < w5.heap.size from o5.lt)
  have HLp := hid (show ∀ g, blockOf B5 = some g → w4.heap.size ≤ g ∧ g < w5.heap.size from fun g hg => World.ownsRow.lt p5.2 g (by rw [ownBlock_slice]; exact hg))
  clear b4 t4 x4 s5 o5 p5 dis5
  have HX := hid (World.ownsRow.alloc HX5.out (.cells #[.int .i64 M, .slice A5 q c5, .slice B5 0 d5] 25))
  have HT := hid (HT5.out.alloc (.cells #[.int .i64 M, .slice A5 q c5, .slice B5 0 d5] 25))
  have HZ6 := hid (show w5.heap.size < (w5.alloc (.cells #[.int .i64 M, .slice A5 q c5, .slice B5 0 d5] 25)).heap.size by simp)
  have m5 := (HK.out.below HT5.out HK.out.lt).alloc (.cells #[.int .i64 M, .slice A5 q c5, .slice B5 0 d5] 25)
  have HK6 := hid m5
  have m50 := m5.cell_ (i := 1) (v := .slice A2 q c2) rfl
  have m52 := m5.cell_ (i := 0) (v := .int .i64 M) rfl
  have m51 := m5.cell_ (i := 2) (v := .slice B2 0 d2) rfl
  have n50 := HK5.out.cell_ (i := 1) (v := .slice A5 q c5) rfl
  have n52 := HK5.out.cell_ (i := 0) (v := .int .i64 M) rfl
  have n51 := HK5.out.cell_ (i := 2) (v := .slice B5 0 d5) rfl
  clear HX5 HT5 m5
  go_wp2_with fail
  generalize w5.alloc (.cells #[.int .i64 M, .slice A5 q c5, .slice B5 0 d5] 25) = W6 at HK6 HK5 HX HT HO HP HZ6 m50 m51 m52 n50 n51 n52 ⊢
  have O6 : OI W6 w4.heap.size 3 A5 q c5 fr := HO.out
  have P6 : OS W6 w4.heap.size B5 0 d5 [] := ⟨HP1.out, HP.out⟩
  have P6s := P6.ss
  refine (eqRound_same _ _ _ _ _ _ _ _ _ _ _ _ _ _ _ _ O6.sl P6s (HI3.out.st HT.out) (HJ3.out.st HT.out) (by omega) (by omega)).mono ?_
  rintro e w7 ⟨rfl, s7⟩
  clear m50 m51 m52 n50 n51 n52 O6 P6 P6s
  have HT7 := hid (HT.out.trans s7)
  have HX7 := hid (show OI w7 W3.heap.size 3 (some ⟨W3.heap.size, 0, none⟩) n n xs from OI.below HX.out s7 (fun g hg => (World.ownsRow.lt HX.out g hg).2))
  have HO7 := hid (show OI w7 w4.heap.size 3 A5 q c5 fr from OI.below HO.out s7 (fun g hg => by have := (HLo.out g hg).2; have := HZ6.out; omega))
  have HP7 := hid (show OS w7 w4.heap.size B5 0 d5 [] from ⟨HP1.out, own_below HP.out s7⟩)
  have HKa := hid (HK5.out.below s7 HK5.out.lt)
  have HKb := hid (HK6.out.below s7 HK6.out.lt)
  have HZ7 := hid (Nat.lt_of_lt_of_le HZ6.out s7.le)
  clear s7 HK5 HK6 HX HT HO HP HZ6
  go_wp2_with fail
  refine (toIntS_any _ _ _ _ _ _ (h.st (HS3.out.trans HT7.out)).ri hnn (Nat.le_refl _)).mono ?_
  rintro e w8 ⟨rfl, x8, b8, _⟩
  have s8 : St w7 w8 := b8
  have x7 : RI w8 w8.heap.size (some ⟨W3.heap.size, 0, none⟩) n xs := (HX7.out.ri.below s8).more s8.le
  have X8 := x8.ri
  have HT8 := hid (HT7.out.trans s8)
  have HX8 := hid (show OI w8 W3.heap.size 3 (some ⟨W3.heap.size, 0, none⟩) n n xs from OI.below HX7.out s8 (fun g hg => (World.ownsRow.lt HX7.out g hg).2))
  have HO8 := hid (show OI w8 w4.heap.size 3 A5 q c5 fr from own_below HO7.out s8)
  have HP8 := hid (show OS w8 w4.heap.size B5 0 d5 [] from ⟨HP1.out, own_below HP7.out.2 s8⟩)
  have HKa8 := hid (HKa.out.below s8 HKa.out.lt)
  have HKb8 := hid (HKb.out.below s8 HKb.out.lt)
  have HZ8 := hid (Nat.lt_of_lt_of_le HZ7.out s8.le)
  clear HT7 HX7 HO7 HP7 HKa HKb HZ7 b8 s8 x8
  go_wp2_with fail
  refine (eqIntS_same _ _ _ _ _ _ _ _ _ x7 X8 (by omega)).mono ?_
  rintro e w9 ⟨rfl, d9⟩
  have s9 := d9.st
  clear x7 X8 d9
  have HT9 := hid (HT8.out.trans s9)
  have HX9 := hid (show OI w9 W3.heap.size 3 (some ⟨W3.heap.size, 0, none⟩) n n xs from own_below HX8.out s9)
  have HO9 := hid (show OI w9 w4.heap.size 3 A5 q c5 fr from own_below HO8.out s9)
  have HP9 := hid (show OS w9 w4.heap.size B5 0 d5 [] from ⟨HP1.out, own_below HP8.out.2 s9⟩)
  have HKa9 := hid (HKa8.out.below s9 HKa8.out.lt)
  have HKb9 := hid (HKb8.out.below s9 HKb8.out.lt)
  have HZ9 := hid (Nat.lt_of_lt_of_le HZ8.out s9.le)
  clear HT8 HX8 HO8 HP8 HKa8 HKb8 HZ8 s9
  go_wp2_with fail
  refine (markIntS_any _ _ _ _ _ _ _ HX9.out hnn (by omega) (by omega)).mono ?_
  rintro e w10 ⟨rfl, _, g10⟩
  have g10 : w9.grownBy w10 (some W3.heap.size) := g10
  have HT10 := hid (HT9.out.grown g10 (fun k hk => by injection hk with hk; omega))
  have HO10 := hid (HO9.out.row g10 z4)
  have HP10 := hid (show OS w10 w4.heap.size B5 0 d5 [] from ⟨HP1.out, World.ownsRow.kept HP9.out.2 g10 (.inr (by rw [ownBlock_slice]; intro e; have := (HLp.out _ e).1; omega))⟩)
  have HKa10 := hid (HKa9.out.grown g10 (by intro e; injection e with e; omega))
  have HKb10 := hid (HKb9.out.grown g10 (by intro e; injection e with e; have := HK.out.lt; omega))
  have HZ10 := hid (Nat.lt_of_lt_of_le HZ9.out g10.size)
  clear HT9 HX9 HO9 HP9 HKa9 HKb9 HZ9 g10
  have m0 := HKb10.out.cell_ (i := 1) (v := .slice A2 q c2) rfl
  have m2 := HKb10.out.cell_ (i := 0) (v := .int .i64 M) rfl
  have m1 := HKb10.out.cell_ (i := 2) (v := .slice B2 0 d2) rfl
  have n0 := HKa10.out.cell_ (i := 1) (v := .slice A5 q c5) rfl
  have n2 := HKa10.out.cell_ (i := 0) (v := .int .i64 M) rfl
  have n1 := HKa10.out.cell_ (i := 2) (v := .slice B5 0 d5) rfl
  go_wp2_with fail
  clear m0 m1 m2 n0 n1 n2
  have P10s := HP10.out.ss
  refine (eqRound_same _ _ _ _ _ _ _ _ _ _ _ _ _ _ _ _ HO10.out.sl P10s (HI3.out.st HT10.out) (HJ3.out.st HT10.out) (by omega) (by omega)).mono ?_
  rintro e w11 ⟨rfl, s11⟩
  have HT11 := hid (HT10.out.trans s11)
  have HO11 := hid (show OI w11 w4.heap.size 3 A5 q c5 fr from own_below HO10.out s11)
  have HP11 := hid (show OS w11 w4.heap.size B5 0 d5 [] from ⟨HP1.out, own_below HP10.out.2 s11⟩)
  have HKa11 := hid (HKa10.out.below s11 HKa10.out.lt)
  have HKb11 := hid (HKb10.out.below s11 HKb10.out.lt)
  have HZ11 := hid (Nat.lt_of_lt_of_le HZ10.out s11.le)
  clear HT10 HO10 HP10 HKa10 HKb10 HZ10 s11 P10s
  have m0 := HKb11.out.cell_ (i := 1) (v := .slice A2 q c2) rfl
  have m2 := HKb11.out.cell_ (i := 0) (v := .int .i64 M) rfl
  have m1 := HKb11.out.cell_ (i := 2) (v := .slice B2 0 d2) rfl
  have n0 := HKa11.out.cell_ (i := 1) (v := .slice A5 q c5) rfl
  have n2 := HKa11.out.cell_ (i := 0) (v := .int .i64 M) rfl
  have n1 := HKa11.out.cell_ (i := 2) (v := .slice B5 0 d5) rfl
  go_wp2_with fail
  refine (markRound_any _ _ _ _ _ _ _ _ _ _ _ _ HO11.out HP11.out HD.out (by omega) (by omega) (by omega) (by omega)).mono ?_
  rintro e w12 ⟨rfl, o12, p12, t12⟩
  have HLop : ∀ g, (blockOf A5 = some g ∨ blockOf B5 = some g) → w4.heap.size ≤ g ∧ g < w5.heap.size := fun g hg => hg.elim (HLo.out g) (HLp.out g)
  have hk3 := HK.out.lt
  have HT12 := hid (Turned.st HT11.out t12 (fun g hg => by have := (HLop g hg).1; omega))
  have HKa12 := hid (HKa11.out.turned t12 (fun hg => by have := (HLop _ hg).2; omega))
  have HKb12 := hid (HKb11.out.turned t12 (fun hg => by have := (HLop _ hg).1; omega))
  clear HLop hk3
  have HO12 := hid o12.sl
  have HP12 := hid p12.ss
  clear HT11 HO11 HP11 HKa11 HKb11 o12 p12 t12 m0 m1 m2 n0 n1 n2
  have n0 := HKa12.out.cell_ (i := 1) (v := .slice A5 q c5) rfl
  have n2 := HKa12.out.cell_ (i := 0) (v := .int .i64 M) rfl
  have n1 := HKa12.out.cell_ (i := 2) (v := .slice B5 0 d5) rfl
  go_wp2_with fail
  refine (heldRound_any _ _ _ _ _ _ _ _ _ HO12.out HP12.out (by omega) (by omega) (by omega) (by omega)).mono ?_
  rintro e w13 ⟨rfl, s13⟩
  have HT13 := hid (HT12.out.trans s13)
  have HO13 := hid (HO12.out.st s13)
  have HP13 := hid (HP12.out.st s13)
  have HKa13 := hid (HKa12.out.below s13 HKa12.out.lt)
  have HKb13 := hid (HKb12.out.below s13 HKb12.out.lt)
  clear HT12 HO12 HP12 HKa12 HKb12 s13 n0 n1 n2
  go_wp2_with fail
  refine (toIntS_any _ _ _ _ _ _ (h.st (HS3.out.trans HT13.out)).ri hnn (Nat.le_refl _)).mono ?_
  rintro e w14 ⟨rfl, x14, b14, _⟩
  have s14 : St w13 w14 := b14
  go_wp2_with fail
  refine (HI.out _ _ _ x14.ri).mono ?_
  rintro e w15 ⟨A15, c15, B15, d15, rfl, o15, p15, _, s15⟩
  have s15 := (s14.trans s15).alloc (.cells #[.int .i64 M, .slice A15 q c15, .slice B15 0 d15] 25)
  have HT15 := hid (HT13.out.trans s15)
  have HO15 := hid (HO13.out.st s15)
  have HP15 := hid (HP13.out.st s15)
  have HKa15 := hid (HKa13.out.below s15 HKa13.out.lt)
  have HKb15 := hid (HKb13.out.below s15 HKb13.out.lt)
  have t15 := (St.refl w15).alloc (.cells #[.int .i64 M, .slice A15 q c15, .slice B15 0 d15] 25)
  have Ho := hid (o15.sl.st t15)
  have Hp := hid (p15.ss.st t15)
  have HK15 := hid (Blk.new w15 25 #[.int .i64 M, .slice A15 q c15, .slice B15 0 d15])
  clear HT13 HO13 HP13 HKa13 HKb13 b14 s14 x14 o15 p15 s15 t15
  have m0 := HKb15.out.cell_ (i := 1) (v := .slice A2 q c2) rfl
  have m2 := HKb15.out.cell_ (i := 0) (v := .int .i64 M) rfl
  have m1 := HKb15.out.cell_ (i := 2) (v := .slice B2 0 d2) rfl
  have n0 := HK15.out.cell_ (i := 1) (v := .slice A15 q c15) rfl
  have n2 := HK15.out.cell_ (i := 0) (v := .int .i64 M) rfl
  have n1 := HK15.out.cell_ (i := 2) (v := .slice B15 0 d15) rfl
  go_wp2_with fail
  generalize w15.alloc (.cells #[.int .i64 M, .slice A15 q c15, .slice B15 0 d15] 25) = W15 at HT15 HO15 HP15 HKa15 HKb15 Ho Hp HK15 m0 m1 m2 n0 n1 n2 ⊢
  refine (eqRound_same _ _ _ _ _ _ _ _ _ _ _ _ _ _ _ _ Ho.out Hp.out (HI3.out.st HT15.out) (HJ3.out.st HT15.out) (by omega) (by omega)).mono ?_
  rintro e w16 ⟨rfl, s16⟩
  have HT16 := hid (HT15.out.trans s16)
  have HO16 := hid (HO15.out.st s16)
  have HP16 := hid (HP15.out.st s16)
  have HKa16 := HKa15.out.below s16 HKa15.out.lt
  clear HT15 HO15 HP15 HKa15 HKb15 Ho Hp HK15 m0 m1 m2 n0 n1 n2 s16
  have n0 := HKa16.cell_ (i := 1) (v := .slice A5 q c5) rfl
  have n2 := HKa16.cell_ (i := 0) (v := .int .i64 M) rfl
  have n1 := HKa16.cell_ (i := 2) (v := .slice B5 0 d5) rfl
  go_wp2_with fail
  refine (heldRound_any _ _ _ _ _ _ _ _ _ HO16.out HP16.out (by omega) (by omega) (by omega) (by omega)).mono ?_
  rintro e w17 ⟨rfl, s17⟩
  go_wp2_with fail
  go_ret
  exact ⟨rfl, (HS3.out.trans HT16.out).trans s17⟩
end Go.Proofs.Ytldclkjknhjbfaa
