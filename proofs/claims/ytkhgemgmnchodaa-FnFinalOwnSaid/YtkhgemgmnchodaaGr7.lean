/- The reference on groups: the entry of a message, the delivered messages, the first pending one. -/
import Derived.Test.YtkhgemgmnchodaaGr6
namespace Go.Proofs.Ytkhgemgmnchodaa
open Go.RowKit Go.Sort
set_option maxRecDepth 100000 in
set_option maxHeartbeats 2000000 in
theorem specGroupBlocked_any (I K : Int) (A B : Option Addr) (n c m d : Nat) (ps ds : List Ent) (w : World) (h : SE w A n c ps) (h' : SE w B m d ds) :
    Calls Try.prog 13 #[grV I K A n c B m d] w fun e w' => e = .returned (.int .i64 (blockedG ⟨I, K, ps, ds⟩)) ∧ St w w' := by
  have s0 := (St.refl w).alloc (.cells (grC I K A n c B m d) 25)
  have K0 := hid (Blk.new w 25 (grC I K A n c B m d))
  have H0 := hid (h.st s0)
  have H0' := hid (h'.st s0)
  have S0 := hid s0
  have HL := hid h.len
  clear s0 h h'
  go_enter Try.func13, Try.ntmps13
  go_wp2_with fail
  generalize w.alloc (.cells _ 25) = w0 at *
  have g0 := K0.out.cell_ (i := 0) (v := .int .i64 I) rfl
  have g1 := K0.out.cell_ (i := 1) (v := .int .i64 K) rfl
  have g2 := K0.out.cell_ (i := 2) (v := .slice A n c) rfl
  have g3 := K0.out.cell_ (i := 3) (v := .slice B m d) rfl
  refine (specGroupValid_any _ _ _ _ _ _ _ _ _ _ _ H0.out H0'.out).mono ?_
  rintro e w1 ⟨rfl, s1⟩
  replace K0 := hid (K0.out.st s1)
  replace H0 := hid (H0.out.st s1)
  replace g0 := s1.cell g0
  replace g1 := s1.cell g1
  replace g2 := s1.cell g2
  replace g3 := s1.cell g3
  have S1 := hid (S0.out.trans s1)
  clear s1 S0 H0'
  cases hv : grOk ⟨I, K, ps, ds⟩
  · have HB := hid (show blockedG ⟨I, K, ps, ds⟩ = -1 by unfold blockedG; rw [hv]; rfl)
    go_wp2_with fail
    go_ret
    exact ⟨ret_int HB.out.symm, S1.out⟩
  · by_cases hn0 : n = 0
    · subst hn0
      have HB := hid (show blockedG ⟨I, K, ps, ds⟩ = -1 by rw [List.eq_nil_of_length_eq_zero HL.out]; unfold blockedG; split <;> rfl)
      clear hv
      go_wp2_with fail
      go_ret
      exact ⟨ret_int HB.out.symm, S1.out⟩
    · obtain ⟨ad, m1, t1, g1', f1, rfl, hb1, hx, c0, c1, c2, c3⟩ := H0.out.at_ (k := 0) (by omega)
      have HB := hid (blocked_at hv hx.out)
      rw [Nat.zero_mul, add_zero] at c0
      have hn1 : (0 : Int) < (n : Int) := by omega
      have hn2 : ¬ ((n : Int) = 0) := by omega
      clear hv
      go_wp2_with fail
      go_ret
      exact ⟨ret_int HB.out.symm, S1.out⟩
end Go.Proofs.Ytkhgemgmnchodaa
