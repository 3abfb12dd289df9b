/- FnExactTraceCycle returns true. -/
import Derived.Test.YtfdgbbapbpflcaaKindTc
namespace Go.Proofs.Ytfdgbbapbpflcaa
open Go.RowKit
set_option maxRecDepth 100000 in
set_option maxHeartbeats 4000000 in
theorem walkExactTraceCycle (A : Option Addr) (n : Nat) (c : Nat) (xss : List (List Int)) {w : World} (hf0 : SLL w A n c xss) :
    Calls Try.prog 13 #[.slice A n c] w fun e w' => e = .returned (.bool true) ∧ Below w.heap.size w w' := by
  have hR : RdIss w A n c xss := hf0
  clear hf0
  have S0 := hid (St.refl w)
  have h1 := hR.st S0.out
  go_enter Try.func13, Try.ntmps13
  go_wp2_with fail
  refine (iss_sz h1).mono ?_
  rintro e w1 ⟨⟨r, rfl, hr⟩, s1⟩
  have S1 := hid (S0.out.trans s1)
  clear h1 S0 s1
  by_cases hz : r < 0
  · go_wp2_with fail
    go_ret
    exact ⟨rfl, S1.out⟩
  have hF := hr.resolve_left hz
  have HF := hid hF
  clear hr hF
  go_wp2_with fail
  refine (iss_to (hR.st S1.out) HF.out).mono ?_
  rintro e w2 ⟨A2, n2, c2, rfl, o2, s2⟩
  have S2 := hid (S1.out.trans s2)
  clear s2 S1
  have hR2 := o2.rd
  go_wp2_with fail
  refine (specTraceCycle_r hR2 HF.out).mono ?_
  rintro e w3 ⟨A3, n3, c3, rfl, i3, s3⟩
  have S3 := hid (S2.out.trans s3)
  clear o2 hR2 S2 s3
  have I3 := hid i3
  clear i3
  go_wp2_with fail
  refine (iss_to (hR.st S3.out) HF.out).mono ?_
  rintro e w4 ⟨A4, n4, c4, rfl, o4, s4⟩
  have W4 := hid (iss_wr (P := fun g => w3.heap.size ≤ g ∧ g < w4.heap.size) o4 HF.out (fun g h1 h2 => ⟨h1, h2⟩))
  have R4 := hid o4.rd
  have T5 := hid s4
  have W5 := W4
  have R5 := R4
  have Z5 := hid (Nat.le_refl w4.heap.size)
  clear o4 W4 R4 s4
  go_wp2_with fail
  refine (TraceCycle_r R5.out HF.out).mono ?_
  rintro e w6 ⟨A6, n6, c6, rfl, o6, s6⟩
  have O5 := hid o6
  have HLE := hid (show w3.heap.size ≤ w4.heap.size from T5.out.le)
  have LN := hid o6.len
  have T6 := hid (T5.out.trans s6)
  have W6 := hid (W5.out.kept (Kept.of_st s6))
  have R6 := hid (R5.out.st s6)
  clear T5 W5 R5 s6
  have O6 := O5
  clear O5 o6
  have i6 := I3.out.st T6.out
  go_wp2_with fail
  refine (is_same O6.out.sl i6 (TraceCycle_r_le HF.out)).mono ?_
  rintro e w7 ⟨rfl, s7⟩
  clear i6
  have T7 := hid (T6.out.trans s7)
  have W7 := hid (W6.out.kept (Kept.of_st s7))
  have R7 := hid (R6.out.st s7)
  have O7 := hid (own_below O6.out s7)
  clear T6 W6 R6 O6 s7
  go_wp2_with fail
  refine (iss_to (hR.st (S3.out.trans T7.out)) HF.out).mono ?_
  rintro e w8 ⟨A8, n8, c8, rfl, o8, s8⟩
  have r8 := R7.out.st s8
  have o8r := o8.rd
  go_wp2_with fail
  refine (iss_same r8 o8r HF.out).mono ?_
  rintro e w9 ⟨rfl, s9⟩
  have s79 := s8.trans s9
  clear s8 s9 o8 o8r r8
  have T9 := hid (T7.out.trans s79)
  have W9 := hid (W7.out.kept (Kept.of_st s79))
  have R9 := hid (R7.out.st s79)
  have O9 := hid (own_below O7.out s79)
  clear T7 W7 R7 O7 s79
  clear R9
  go_wp2_with fail
  refine (iss_mark W9.out HF.out).mono ?_
  rintro e w10 ⟨⟨k10, rfl, hk10⟩, k10k⟩
  have hk10n : ¬ k10 < 0 := by omega
  have T10 := hid (Turned.st T9.out k10k.tu (fun g hg => hg.1))
  have O10 := hid (OI.turned O9.out k10k.tu (fun g hg => Nat.lt_of_lt_of_le hg.2 (Nat.le_refl _)))
  clear T9 W9 O9 k10k
  have i10 := I3.out.st T10.out
  go_wp2_with fail
  refine (is_same O10.out.sl i10 (TraceCycle_r_le HF.out)).mono ?_
  rintro e w11 ⟨rfl, s11⟩
  clear i10
  have T11 := hid (T10.out.trans s11)
  have O11 := hid (own_below O10.out s11)
  clear T10 O10 s11
  go_wp2_with fail
  refine (is_mark O11.out (TraceCycle_r_le HF.out)).mono ?_
  rintro e w12 ⟨rfl, hm12, g12⟩
  have T12 := hid (T11.out.grown g12 (fun k hk => by have h1 := (OI.lt O11.out k hk).1; have h2 := Z5.out; have h3 := HLE.out; omega))
  have H12 := hid hm12
  clear T11 O11 g12 hm12
  go_wp2_with fail
  refine (is_held H12.out (TraceCycle_r_le HF.out) LN.out).mono ?_
  rintro e w13 ⟨rfl, s13⟩
  have T13 := hid (T12.out.trans s13)
  have H13 := hid (H12.out.st s13)
  clear T12 H12 s13
  go_wp2_with fail
  refine (iss_to (hR.st (S3.out.trans T13.out)) HF.out).mono ?_
  rintro e w14 ⟨A14, n14, c14, rfl, o14, s14⟩
  have r14 := o14.rd
  have T14 := hid (T13.out.trans s14)
  have H14 := hid (H13.out.st s14)
  clear T13 H13 s14
  go_wp2_with fail
  refine (TraceCycle_r r14 HF.out).mono ?_
  rintro e w15 ⟨A15, n15, c15, rfl, o15, s15⟩
  have T15 := hid (T14.out.trans s15)
  have H15 := hid (H14.out.st s15)
  clear T14 H14 s15
  have i15 := I3.out.st T15.out
  have o15s := o15.sl
  clear r14 o14
  go_wp2_with fail
  refine (is_same o15s i15 (TraceCycle_r_le HF.out)).mono ?_
  rintro e w16 ⟨rfl, s16⟩
  have T16 := hid (T15.out.trans s16)
  have H16 := hid (H15.out.st s16)
  clear T15 H15 s16
  go_wp2_with fail
  refine (is_held H16.out (TraceCycle_r_le HF.out) LN.out).mono ?_
  rintro e w17 ⟨rfl, s17⟩
  go_wp2_with fail
  go_ret
  exact ⟨rfl, (S3.out.trans T16.out).trans s17⟩
end Go.Proofs.Ytfdgbbapbpflcaa
