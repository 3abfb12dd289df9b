/- The laws' own comparison of groups, of two that read alike. -/
import Derived.Test.YtkhgemgmnchodaaLawGr
namespace Go.Proofs.Ytkhgemgmnchodaa
open Go.RowKit Go.Sort
set_option maxHeartbeats 1000000 in
theorem sameEntries_same {A A' : Option Addr} {n c n' c' : Nat} {es : List Ent} {w : World} (h : SE w A n c es) (h' : SE w A' n' c' es) (hn : n ≤ 1048576) :
    Calls Try.prog 49 #[.slice A n c, .slice A' n' c'] w fun e w' => e = .returned (.bool true) ∧ Dr w w' := by
  obtain rfl : n = n' := h.len.symm.trans h'.len
  go_enter Try.func49, Try.ntmps49
  go_wp2_with fail
  go_loopw [5] (fun i wr => ∃ k : Nat, k ≤ n ∧ i = .int .i64 k ∧ Hid (Dr w wr)) (fun i _ => n - (intOf i).toNat)
  case atStart => exact ⟨0, Nat.zero_le _, rfl, Dr.refl _⟩
  case round =>
    obtain ⟨k, hk, rfl, hd⟩ := hrel
    by_cases hlt : k < n
    · obtain ⟨ad, m, t, g, f, rfl, hb1, hx, c0, c1, c2, c3⟩ := (h.dr hd.out).at_ hlt
      obtain ⟨ad', m', t', g', f', rfl, hb1', hx', c0', c1', c2', c3'⟩ := (h'.dr hd.out).at_ hlt
      have he := hx.out
      rw [hx'.out] at he
      injection he with he
      injection he with e1 e2
      injection e2 with e2 e3
      injection e2 with e2 e4
      subst e1 e2 e3 e4
      have hki : (0 : Int) ≤ (k : Int) := by omega
      have hki2 : (k : Int) < (n : Int) := by omega
      go_wp2_with fail
      go_quiet (fail)
      go_wp2_with fail
      go_roundw
      case rel => exact ⟨k + 1, by omega, by go_num, hd.out.more _⟩
      case measure => simp [intOf]; omega
    · obtain rfl : k = n := by omega
      go_wp2_with fail
      go_ret
      exact ⟨rfl, hd.out⟩
set_option maxHeartbeats 1000000 in
theorem sameGroup_same {I K : Int} {A A' B B' : Option Addr} {n c n' c' m d m' d' : Nat} {ps ds : List Ent} {w : World} (h : SE w A n c ps) (i : SE w B m d ds) (h' : SE w A' n' c' ps) (i' : SE w B' m' d' ds) (hn : n ≤ 1048576) (hm : m ≤ 1048576) :
    Calls Try.prog 18 #[grV I K A n c B m d, grV I K A' n' c' B' m' d'] w fun e w' => e = .returned (.bool true) ∧ St w w' := by
  have S0 := hid (((St.refl w).alloc (.cells (grC I K A n c B m d) 25)).alloc (.cells (grC I K A' n' c' B' m' d') 25))
  have K0 := hid ((Blk.new w 25 (grC I K A n c B m d)).alloc (.cells (grC I K A' n' c' B' m' d') 25))
  have K1 := hid (blk_second w (.cells (grC I K A n c B m d) 25) 25 (grC I K A' n' c' B' m' d'))
  have h1 := hid (h.st S0.out)
  have h1' := hid (h'.st S0.out)
  have i1 := hid (i.st S0.out)
  have i1' := hid (i'.st S0.out)
  clear h h' i i'
  go_enter Try.func18, Try.ntmps18
  go_upto_region 1 with (fail)
  generalize (w.alloc (.cells _ 25)).alloc (.cells _ 25) = w0 at *
  have k0 := K0.out.cell_ (i := 0) (v := .int .i64 I) rfl
  have k1 := K0.out.cell_ (i := 1) (v := .int .i64 K) rfl
  have k2 := K0.out.cell_ (i := 2) (v := .slice A n c) rfl
  have k3 := K0.out.cell_ (i := 3) (v := .slice B m d) rfl
  have l0 := K1.out.cell_ (i := 0) (v := .int .i64 I) rfl
  have l1 := K1.out.cell_ (i := 1) (v := .int .i64 K) rfl
  have l2 := K1.out.cell_ (i := 2) (v := .slice A' n' c') rfl
  have l3 := K1.out.cell_ (i := 3) (v := .slice B' m' d') rfl
  go_wp2_with fail
  refine (sameEntries_same h1.out h1'.out hn).mono ?_
  rintro e w1 ⟨rfl, d1⟩
  have s1 := d1.st
  replace K0 := hid (K0.out.st s1)
  replace K1 := hid (K1.out.st s1)
  replace i1 := hid (i1.out.st s1)
  replace i1' := hid (i1'.out.st s1)
  replace k0 := s1.cell k0
  replace k1 := s1.cell k1
  replace k2 := s1.cell k2
  replace k3 := s1.cell k3
  replace l0 := s1.cell l0
  replace l1 := s1.cell l1
  replace l2 := s1.cell l2
  replace l3 := s1.cell l3
  have S1 := hid (S0.out.trans s1)
  clear d1 s1 S0
  go_wp2_with fail
  refine (sameEntries_same i1.out i1'.out hm).mono ?_
  rintro e w2 ⟨rfl, d2⟩
  go_wp2_with fail
  go_ret
  exact ⟨rfl, S1.out.trans d2.st⟩
end Go.Proofs.Ytkhgemgmnchodaa
