/- FnExactGroupTrace returns true. -/
import Derived.Test.YtfepegellpegdaaKindGr
namespace Go.Proofs.Ytfepegellpegdaa
open Go.RowKit
set_option maxRecDepth 100000 in
set_option maxHeartbeats 4000000 in
theorem walkExactGroupTrace (I : Int) (K : Int) (A : Option Addr) (n : Nat) (c : Nat) (B : Option Addr) (m : Nat) (d : Nat) (ps : List Ent) (ds : List Ent) {w : World} (hf0 : SE w A n c ps) (hf1 : SE w B m d ds) :
    Calls Try.prog 5 #[grV I K A n c B m d] w fun e w' => e = .returned (.bool true) ∧ Below w.heap.size w w' := by
  have hR : RdGr w I K A n c B m d ps ds := ⟨hf0, hf1⟩
  clear hf0 hf1
  have S0 := hid ((St.refl w).alloc (.cells #[.int .i64 I, .int .i64 K, .slice A n c, .slice B m d] 41))
  have K0 := hid (Blk.new w 41 #[.int .i64 I, .int .i64 K, .slice A n c, .slice B m d])
  have q0 := K0.out.cell_ (i := 0) (v := .int .i64 I) rfl
  have q1 := K0.out.cell_ (i := 1) (v := .int .i64 K) rfl
  have q2 := K0.out.cell_ (i := 2) (v := .slice A n c) rfl
  have q3 := K0.out.cell_ (i := 3) (v := .slice B m d) rfl
  have h1 := hR.st S0.out
  go_enter Try.func5, Try.ntmps5
  go_wp2_with fail
  refine (gr_sz h1).mono ?_
  rintro e w1 ⟨⟨r, rfl, hr⟩, s1⟩
  have S1 := hid (S0.out.trans s1)
  have K1 := hid (K0.out.below s1 K0.out.lt)
  clear h1 S0 K0 s1 q0 q1 q2 q3
  have q0 := K1.out.cell_ (i := 0) (v := .int .i64 I) rfl
  have q1 := K1.out.cell_ (i := 1) (v := .int .i64 K) rfl
  have q2 := K1.out.cell_ (i := 2) (v := .slice A n c) rfl
  have q3 := K1.out.cell_ (i := 3) (v := .slice B m d) rfl
  by_cases hz : r < 0
  · go_wp2_with fail
    go_ret
    exact ⟨rfl, S1.out⟩
  have hF := hr.resolve_left hz
  have HF := hid hF
  clear hr hF
  go_wp2_with fail
  refine (gr_to (hR.st S1.out) HF.out).mono ?_
  rintro e w2 ⟨A2, n2, c2, B2, m2, d2, rfl, o2, s2⟩
  have S2 := hid (S1.out.trans s2)
  have K2 := hid (K1.out.below s2 K1.out.lt)
  clear K1 s2 S1 q0 q1 q2 q3
  have hR2 := o2.rd
  go_wp2_with fail
  refine (specGroupTrace_r hR2 HF.out).mono ?_
  rintro e w3 ⟨A3, n3, c3, rfl, i3, s3⟩
  have S3 := hid (S2.out.trans s3)
  have K3 := hid (K2.out.below s3 K2.out.lt)
  clear o2 hR2 S2 K2 s3
  have q0 := K3.out.cell_ (i := 0) (v := .int .i64 I) rfl
  have q1 := K3.out.cell_ (i := 1) (v := .int .i64 K) rfl
  have q2 := K3.out.cell_ (i := 2) (v := .slice A n c) rfl
  have q3 := K3.out.cell_ (i := 3) (v := .slice B m d) rfl
  have I3 := hid i3
  have HLT := hid (show w.heap.size < w3.heap.size from K3.out.lt)
  clear i3
  go_wp2_with fail
  refine (gr_to (hR.st S3.out) HF.out).mono ?_
  rintro e w4 ⟨A4, n4, c4, B4, m4, d4, rfl, o4, s4⟩
  have W4 := hid (gr_wr (P := fun g => w3.heap.size ≤ g ∧ g < w4.heap.size) o4 HF.out (fun g h1 h2 => ⟨h1, h2⟩))
  have R4 := hid o4.rd
  have t4 := (St.refl w4).alloc (.cells #[.int .i64 I, .int .i64 K, .slice A4 n4 c4, .slice B4 m4 d4] 25)
  have T5 := hid (s4.trans t4)
  have K5 := hid ((K3.out.below s4 K3.out.lt).alloc (.cells #[.int .i64 I, .int .i64 K, .slice A4 n4 c4, .slice B4 m4 d4] 25))
  have X5 := hid (Blk.new w4 25 #[.int .i64 I, .int .i64 K, .slice A4 n4 c4, .slice B4 m4 d4])
  have W5 := hid (W4.out.kept (Kept.of_st t4))
  have R5 := hid (R4.out.st t4)
  have Z5 := hid (show w4.heap.size < (w4.alloc (.cells #[.int .i64 I, .int .i64 K, .slice A4 n4 c4, .slice B4 m4 d4] 25)).heap.size by simp)
  clear o4 W4 R4 t4 s4 K3 q0 q1 q2 q3
  go_wp2_with fail
  generalize w4.alloc (.cells #[.int .i64 I, .int .i64 K, .slice A4 n4 c4, .slice B4 m4 d4] 25) = W5w at T5 K5 X5 W5 R5 Z5 ⊢
  have r0 := X5.out.cell_ (i := 0) (v := .int .i64 I) rfl
  have r1 := X5.out.cell_ (i := 1) (v := .int .i64 K) rfl
  have r2 := X5.out.cell_ (i := 2) (v := .slice A4 n4 c4) rfl
  have r3 := X5.out.cell_ (i := 3) (v := .slice B4 m4 d4) rfl
  go_wp2_with fail
  refine (GroupTrace_r R5.out HF.out).mono ?_
  rintro e w6 ⟨A6, n6, c6, rfl, o6, s6⟩
  have O5 := hid o6
  have HLE := hid (show w3.heap.size ≤ W5w.heap.size from T5.out.le)
  have LN := hid o6.len
  have T6 := hid (T5.out.trans s6)
  have K6 := hid (K5.out.below s6 K5.out.lt)
  have X6 := hid (X5.out.below s6 X5.out.lt)
  have W6 := hid (W5.out.kept (Kept.of_st s6))
  have R6 := hid (R5.out.st s6)
  clear T5 K5 X5 W5 R5 s6
  have O6 := O5
  clear O5 o6 r0 r1 r2 r3
  have i6 := I3.out.st T6.out
  go_wp2_with fail
  refine (is_same O6.out.sl i6 (GroupTrace_r_le HF.out)).mono ?_
  rintro e w7 ⟨rfl, s7⟩
  clear i6
  have T7 := hid (T6.out.trans s7)
  have K7 := hid (K6.out.below s7 K6.out.lt)
  have X7 := hid (X6.out.below s7 X6.out.lt)
  have W7 := hid (W6.out.kept (Kept.of_st s7))
  have R7 := hid (R6.out.st s7)
  have O7 := hid (own_below O6.out s7)
  clear T6 K6 X6 W6 R6 O6 s7
  go_wp2_with fail
  have q0 := K7.out.cell_ (i := 0) (v := .int .i64 I) rfl
  have q1 := K7.out.cell_ (i := 1) (v := .int .i64 K) rfl
  have q2 := K7.out.cell_ (i := 2) (v := .slice A n c) rfl
  have q3 := K7.out.cell_ (i := 3) (v := .slice B m d) rfl
  have r0 := X7.out.cell_ (i := 0) (v := .int .i64 I) rfl
  have r1 := X7.out.cell_ (i := 1) (v := .int .i64 K) rfl
  have r2 := X7.out.cell_ (i := 2) (v := .slice A4 n4 c4) rfl
  have r3 := X7.out.cell_ (i := 3) (v := .slice B4 m4 d4) rfl
  go_region_held3 (fun w' => w'.cell? ⟨w4.heap.size, 0, none⟩ = some (.int .i64 I) ∧ w'.cell? ⟨w4.heap.size, 1, none⟩ = some (.int .i64 K) ∧ w'.cell? ⟨w4.heap.size, 2, none⟩ = some (.slice A4 n4 c4) ∧ w'.cell? ⟨w4.heap.size, 3, none⟩ = some (.slice B4 m4 d4) ∧ w'.cell? ⟨w.heap.size, 0, none⟩ = some (.int .i64 I) ∧ w'.cell? ⟨w.heap.size, 1, none⟩ = some (.int .i64 K) ∧ w'.cell? ⟨w.heap.size, 2, none⟩ = some (.slice A n c) ∧ w'.cell? ⟨w.heap.size, 3, none⟩ = some (.slice B m d)) (first | go_keep | exact ⟨s8.cell r0, s8.cell r1, s8.cell r2, s8.cell r3, s8.cell q0, s8.cell q1, s8.cell q2, s8.cell q3⟩ | exact ⟨s9.cell (s8.cell r0), s9.cell (s8.cell r1), s9.cell (s8.cell r2), s9.cell (s8.cell r3), s9.cell (s8.cell q0), s9.cell (s8.cell q1), s9.cell (s8.cell q2), s9.cell (s8.cell q3)⟩)
    (first
    | (go_at_call 25; refine (gr_to (hR.st (((S3.out.trans T7.out)).trans (Dr.st ⟨1, rfl⟩))) HF.out).mono ?_; rintro e w8 ⟨A8, n8, c8, B8, m8, d8, rfl, o8, s8⟩; have s78 := St.trans (Dr.st ⟨1, rfl⟩) s8)
    | (go_at_call 27; refine (gr_same (R7.out.st s78) o8.rd HF.out).mono ?_; rintro e w9 ⟨rfl, s9⟩))
  have s79 := s78.trans s9
  clear s8 s78 s9 o8 q0 q1 q2 q3 r0 r1 r2 r3
  have T9 := hid (T7.out.trans s79)
  have K9 := hid (K7.out.below s79 K7.out.lt)
  have X9 := hid (X7.out.below s79 X7.out.lt)
  have W9 := hid (W7.out.kept (Kept.of_st s79))
  have R9 := hid (R7.out.st s79)
  have O9 := hid (own_below O7.out s79)
  clear T7 K7 X7 W7 R7 O7 s79
  clear R9
  have r0 := X9.out.cell_ (i := 0) (v := .int .i64 I) rfl
  have r1 := X9.out.cell_ (i := 1) (v := .int .i64 K) rfl
  have r2 := X9.out.cell_ (i := 2) (v := .slice A4 n4 c4) rfl
  have r3 := X9.out.cell_ (i := 3) (v := .slice B4 m4 d4) rfl
  go_wp2_with fail
  refine (gr_mark W9.out HF.out).mono ?_
  rintro e w10 ⟨⟨k10, rfl, hk10⟩, k10k⟩
  have hk10n : ¬ k10 < 0 := by omega
  have T10 := hid (Turned.st T9.out k10k.tu (fun g hg => hg.1))
  have K10 := hid (K9.out.turned k10k.tu (fun hg => by have := HLT.out; omega))
  have O10 := hid (OI.turned O9.out k10k.tu (fun g hg => Nat.lt_of_lt_of_le hg.2 (Nat.le_of_lt Z5.out)))
  clear T9 W9 O9 k10k K9 X9 r0 r1 r2 r3
  have i10 := I3.out.st T10.out
  go_wp2_with fail
  refine (is_same O10.out.sl i10 (GroupTrace_r_le HF.out)).mono ?_
  rintro e w11 ⟨rfl, s11⟩
  clear i10
  have T11 := hid (T10.out.trans s11)
  have K11 := hid (K10.out.below s11 K10.out.lt)
  have O11 := hid (own_below O10.out s11)
  clear T10 K10 O10 s11
  go_wp2_with fail
  refine (is_mark O11.out (GroupTrace_r_le HF.out)).mono ?_
  rintro e w12 ⟨rfl, hm12, g12⟩
  have T12 := hid (T11.out.grown g12 (fun k hk => by have h1 := (OI.lt O11.out k hk).1; have h2 := Z5.out; have h3 := HLE.out; omega))
  have K12 := hid (K11.out.grown g12 (fun e => by have h1 := (OI.lt O11.out _ e.symm).1; have h2 := Z5.out; have h3 := HLE.out; have h4 := HLT.out; omega))
  have H12 := hid hm12
  clear T11 O11 g12 hm12 K11
  go_wp2_with fail
  refine (is_held H12.out (GroupTrace_r_le HF.out) LN.out).mono ?_
  rintro e w13 ⟨rfl, s13⟩
  have T13 := hid (T12.out.trans s13)
  have K13 := hid (K12.out.below s13 K12.out.lt)
  have H13 := hid (H12.out.st s13)
  clear T12 K12 H12 s13
  have q0 := K13.out.cell_ (i := 0) (v := .int .i64 I) rfl
  have q1 := K13.out.cell_ (i := 1) (v := .int .i64 K) rfl
  have q2 := K13.out.cell_ (i := 2) (v := .slice A n c) rfl
  have q3 := K13.out.cell_ (i := 3) (v := .slice B m d) rfl
  go_wp2_with fail
  refine (gr_to (hR.st (S3.out.trans T13.out)) HF.out).mono ?_
  rintro e w14 ⟨A14, n14, c14, B14, m14, d14, rfl, o14, s14⟩
  have r14 := o14.rd
  have T14 := hid (T13.out.trans s14)
  have K14 := hid (K13.out.below s14 K13.out.lt)
  have H14 := hid (H13.out.st s14)
  clear T13 K13 H13 s14
  go_wp2_with fail
  refine (GroupTrace_r r14 HF.out).mono ?_
  rintro e w15 ⟨A15, n15, c15, rfl, o15, s15⟩
  have T15 := hid (T14.out.trans s15)
  have K15 := hid (K14.out.below s15 K14.out.lt)
  have H15 := hid (H14.out.st s15)
  clear T14 K14 H14 s15
  have i15 := I3.out.st T15.out
  have o15s := o15.sl
  clear r14 o14 q0 q1 q2 q3
  go_wp2_with fail
  refine (is_same o15s i15 (GroupTrace_r_le HF.out)).mono ?_
  rintro e w16 ⟨rfl, s16⟩
  have T16 := hid (T15.out.trans s16)
  have K16 := hid (K15.out.below s16 K15.out.lt)
  have H16 := hid (H15.out.st s16)
  clear T15 K15 H15 s16
  go_wp2_with fail
  refine (is_held H16.out (GroupTrace_r_le HF.out) LN.out).mono ?_
  rintro e w17 ⟨rfl, s17⟩
  go_wp2_with fail
  go_ret
  exact ⟨rfl, (S3.out.trans T16.out).trans s17⟩
end Go.Proofs.Ytfepegellpegdaa
