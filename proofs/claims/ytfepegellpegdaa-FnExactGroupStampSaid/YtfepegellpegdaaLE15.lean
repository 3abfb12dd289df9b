/- FnExactGroupStamp returns true. -/
import Derived.Test.YtfepegellpegdaaKindGr
namespace Go.Proofs.Ytfepegellpegdaa
open Go.RowKit
set_option maxRecDepth 100000 in
set_option maxHeartbeats 4000000 in
theorem walkExactGroupStamp (I : Int) (K : Int) (A : Option Addr) (n : Nat) (c : Nat) (B : Option Addr) (m : Nat) (d : Nat) (ps : List Ent) (ds : List Ent) {w : World} (hf0 : SE w A n c ps) (hf1 : SE w B m d ds) (x : Int) (_ : (Lit.int .i64 x).wf = true) :
    Calls Try.prog 7 #[grV I K A n c B m d, .int .i64 x] w fun e w' => e = .returned (.bool true) ∧ Below w.heap.size w w' := by
  have hR : RdGr w I K A n c B m d ps ds := ⟨hf0, hf1⟩
  clear hf0 hf1
  have S0 := hid ((St.refl w).alloc (.cells #[.int .i64 I, .int .i64 K, .slice A n c, .slice B m d] 41))
  have K0 := hid (Blk.new w 41 #[.int .i64 I, .int .i64 K, .slice A n c, .slice B m d])
  have q0 := K0.out.cell_ (i := 0) (v := .int .i64 I) rfl
  have q1 := K0.out.cell_ (i := 1) (v := .int .i64 K) rfl
  have q2 := K0.out.cell_ (i := 2) (v := .slice A n c) rfl
  have q3 := K0.out.cell_ (i := 3) (v := .slice B m d) rfl
  have h1 := hR.st S0.out
  go_enter Try.func7, Try.ntmps7
  go_wp2_with fail
  refine (gr_sz h1).mono ?_
  rintro e w1 ⟨⟨r, rfl, hr⟩, s1⟩
  have S1 := hid (S0.out.trans s1)
  have K1 := hid (K0.out.below s1 K0.out.lt)
  clear h1 S0 K0 s1 q0 q1 q2 q3
  have q0 := K1.out.cell_ (i := 0) (v := .int .i64 I) rfl
  have q1 := K1.out.cell_ (i := 1) (v := .int .i64 K) rfl
  have q2 := K1.out.cell_ (i := 2) (v := .slice A n c) rfl
  have q3 := K1.out.cell_ (i := 3) (v := .slice B m d) rfl
  by_cases hz : r < 0
  · go_wp2_with fail
    go_ret
    exact ⟨rfl, S1.out⟩
  have hF := hr.resolve_left hz
  have HF := hid hF
  clear hr hF
  go_wp2_with fail
  refine (gr_to (hR.st S1.out) HF.out).mono ?_
  rintro e w2 ⟨A2, n2, c2, B2, m2, d2, rfl, o2, s2⟩
  have S2 := hid (S1.out.trans s2)
  have K2 := hid (K1.out.below s2 K1.out.lt)
  clear K1 s2 S1 q0 q1 q2 q3
  have hR2 := o2.rd
  go_wp2_with fail
  refine (specGroupStamp_r x hR2 HF.out).mono ?_
  rintro e w3a ⟨rfl, s3⟩
  have V3 := hid (Blk.new w3a 31 #[.int .i64 (stE I K ps ds x).1, .int .i64 (stE I K ps ds x).2.1.1, .int .i64 (stE I K ps ds x).2.1.2, .bool (stE I K ps ds x).2.2])
  have s3 := s3.alloc (.cells #[.int .i64 (stE I K ps ds x).1, .int .i64 (stE I K ps ds x).2.1.1, .int .i64 (stE I K ps ds x).2.1.2, .bool (stE I K ps ds x).2.2] 31)
  have S3 := hid (S2.out.trans s3)
  have K3 := hid (K2.out.below s3 K2.out.lt)
  clear o2 hR2 S2 K2 s3
  have q0 := K3.out.cell_ (i := 0) (v := .int .i64 I) rfl
  have q1 := K3.out.cell_ (i := 1) (v := .int .i64 K) rfl
  have q2 := K3.out.cell_ (i := 2) (v := .slice A n c) rfl
  have q3 := K3.out.cell_ (i := 3) (v := .slice B m d) rfl
  go_wp2_with fail
  generalize w3a.alloc (.cells #[.int .i64 (stE I K ps ds x).1, .int .i64 (stE I K ps ds x).2.1.1, .int .i64 (stE I K ps ds x).2.1.2, .bool (stE I K ps ds x).2.2] 31) = w3 at V3 S3 K3 q0 q1 q2 q3 ⊢
  refine (gr_to (hR.st S3.out) HF.out).mono ?_
  rintro e w4 ⟨A4, n4, c4, B4, m4, d4, rfl, o4, s4⟩
  have R4 := hid o4.rd
  have t4 := (St.refl w4).alloc (.cells #[.int .i64 I, .int .i64 K, .slice A4 n4 c4, .slice B4 m4 d4] 25)
  have T5 := hid (s4.trans t4)
  have K5 := hid ((K3.out.below s4 K3.out.lt).alloc (.cells #[.int .i64 I, .int .i64 K, .slice A4 n4 c4, .slice B4 m4 d4] 25))
  have V5 := hid ((V3.out.below s4 V3.out.lt).alloc (.cells #[.int .i64 I, .int .i64 K, .slice A4 n4 c4, .slice B4 m4 d4] 25))
  have X5 := hid (Blk.new w4 25 #[.int .i64 I, .int .i64 K, .slice A4 n4 c4, .slice B4 m4 d4])
  have R5 := hid (R4.out.st t4)
  clear o4 R4 t4 s4 K3 q0 q1 q2 q3 V3
  go_wp2_with fail
  generalize w4.alloc (.cells #[.int .i64 I, .int .i64 K, .slice A4 n4 c4, .slice B4 m4 d4] 25) = W5w at T5 K5 X5 R5 V5 ⊢
  have r0 := X5.out.cell_ (i := 0) (v := .int .i64 I) rfl
  have r1 := X5.out.cell_ (i := 1) (v := .int .i64 K) rfl
  have r2 := X5.out.cell_ (i := 2) (v := .slice A4 n4 c4) rfl
  have r3 := X5.out.cell_ (i := 3) (v := .slice B4 m4 d4) rfl
  go_wp2_with fail
  refine (GroupStamp_r x R5.out HF.out).mono ?_
  rintro e w6 ⟨rfl, s6⟩
  clear r0 r1 r2 r3
  have t6 := (St.refl w6).alloc (.cells #[.int .i64 (stE I K ps ds x).1, .int .i64 (stE I K ps ds x).2.1.1, .int .i64 (stE I K ps ds x).2.1.2, .bool (stE I K ps ds x).2.2] 31)
  have G6 := hid (Blk.new w6 31 #[.int .i64 (stE I K ps ds x).1, .int .i64 (stE I K ps ds x).2.1.1, .int .i64 (stE I K ps ds x).2.1.2, .bool (stE I K ps ds x).2.2])
  have s6b := s6.trans t6
  clear t6 s6
  have T6 := hid (T5.out.trans s6b)
  have K6 := hid (K5.out.below s6b K5.out.lt)
  have X6 := hid (X5.out.below s6b X5.out.lt)
  have V6 := hid (V5.out.below s6b V5.out.lt)
  have R6 := hid (R5.out.st s6b)
  clear T5 K5 X5 R5 V5 s6b
  have v0 := V6.out.cell_ (i := 0) (v := .int .i64 (stE I K ps ds x).1) rfl
  have g0 := G6.out.cell_ (i := 0) (v := .int .i64 (stE I K ps ds x).1) rfl
  have v1 := V6.out.cell_ (i := 1) (v := .int .i64 (stE I K ps ds x).2.1.1) rfl
  have g1 := G6.out.cell_ (i := 1) (v := .int .i64 (stE I K ps ds x).2.1.1) rfl
  have v2 := V6.out.cell_ (i := 2) (v := .int .i64 (stE I K ps ds x).2.1.2) rfl
  have g2 := G6.out.cell_ (i := 2) (v := .int .i64 (stE I K ps ds x).2.1.2) rfl
  have v3 := V6.out.cell_ (i := 3) (v := .bool (stE I K ps ds x).2.2) rfl
  have g3 := G6.out.cell_ (i := 3) (v := .bool (stE I K ps ds x).2.2) rfl
  have hrr := (show ((stB I K ps ds x) == (stB I K ps ds x)) = true by simp)
  have hrn := (show ((stB I K ps ds x) != (stB I K ps ds x)) = false by simp)
  go_wp2_with fail
  refine (en_self _ _ _ _ _).mono ?_
  rintro e w7 ⟨rfl, s7⟩
  clear v0 v1 v2 v3 g0 g1 g2 g3 G6
  have T7 := hid (T6.out.trans s7)
  have K7 := hid (K6.out.below s7 K6.out.lt)
  have X7 := hid (X6.out.below s7 X6.out.lt)
  have V7 := hid (V6.out.below s7 V6.out.lt)
  have R7 := hid (R6.out.st s7)
  clear T6 K6 X6 R6 V6 s7
  have q0 := K7.out.cell_ (i := 0) (v := .int .i64 I) rfl
  have q1 := K7.out.cell_ (i := 1) (v := .int .i64 K) rfl
  have q2 := K7.out.cell_ (i := 2) (v := .slice A n c) rfl
  have q3 := K7.out.cell_ (i := 3) (v := .slice B m d) rfl
  have r0 := X7.out.cell_ (i := 0) (v := .int .i64 I) rfl
  have r1 := X7.out.cell_ (i := 1) (v := .int .i64 K) rfl
  have r2 := X7.out.cell_ (i := 2) (v := .slice A4 n4 c4) rfl
  have r3 := X7.out.cell_ (i := 3) (v := .slice B4 m4 d4) rfl
  go_wp2_with fail
  go_region_held3 (fun w' => w'.cell? ⟨w4.heap.size, 0, none⟩ = some (.int .i64 I) ∧ w'.cell? ⟨w4.heap.size, 1, none⟩ = some (.int .i64 K) ∧ w'.cell? ⟨w4.heap.size, 2, none⟩ = some (.slice A4 n4 c4) ∧ w'.cell? ⟨w4.heap.size, 3, none⟩ = some (.slice B4 m4 d4) ∧ w'.cell? ⟨w.heap.size, 0, none⟩ = some (.int .i64 I) ∧ w'.cell? ⟨w.heap.size, 1, none⟩ = some (.int .i64 K) ∧ w'.cell? ⟨w.heap.size, 2, none⟩ = some (.slice A n c) ∧ w'.cell? ⟨w.heap.size, 3, none⟩ = some (.slice B m d)) (first | go_keep | exact ⟨s8.cell r0, s8.cell r1, s8.cell r2, s8.cell r3, s8.cell q0, s8.cell q1, s8.cell q2, s8.cell q3⟩ | exact ⟨s9.cell (s8.cell r0), s9.cell (s8.cell r1), s9.cell (s8.cell r2), s9.cell (s8.cell r3), s9.cell (s8.cell q0), s9.cell (s8.cell q1), s9.cell (s8.cell q2), s9.cell (s8.cell q3)⟩)
    (first
    | (go_at_call 25; refine (gr_to (hR.st ((S3.out.trans T7.out).trans (Dr.st ⟨1, rfl⟩))) HF.out).mono ?_; rintro e w8 ⟨A8, n8, c8, B8, m8, d8, rfl, o8, s8⟩; have s78 := St.trans (Dr.st ⟨1, rfl⟩) s8)
    | (go_at_call 27; refine (gr_same (R7.out.st s78) o8.rd HF.out).mono ?_; rintro e w9 ⟨rfl, s9⟩))
  go_wp2_with fail
  go_ret
  exact ⟨rfl, ((S3.out.trans T7.out).trans s78).trans s9⟩
end Go.Proofs.Ytfepegellpegdaa
