/- FnGroupTrace returns true. -/
import Derived.Test.YtfepegellpegdaaLawGr
import Derived.Test.YtfepegellpegdaaGr7
namespace Go.Proofs.Ytfepegellpegdaa
open Go.RowKit Go.Sort
theorem trace_facts (g : Grp) : (traceG g).Nodup ∧ (∀ x ∈ traceG g, x ∉ msgs g.pend) ∧ (traceG g).length ≤ g.done.length := by
  unfold traceG
  cases h : grOk g
  · exact ⟨List.nodup_nil, by simp, Nat.zero_le _⟩
  · have v := grOk_iff.1 h
    exact ⟨v.ndd, fun x hx => v.dis hx, by simp [msgs]⟩
set_option maxRecDepth 100000 in
set_option maxHeartbeats 2000000 in
theorem walkTrace (A : Option Addr) (n c : Nat) (bs : List Nat) {w : World} (h : RB w w.heap.size A n bs) (hnc : n ≤ c ∧ c ≤ maxLen) :
    Calls Try.prog 4 #[.slice A n c] w fun e w' => e = .returned (.bool true) ∧ Below w.heap.size w w' := by
  obtain ⟨hnc, hcm⟩ := hnc
  have HCM := hid hcm
  clear hcm
  by_cases hn : 1048576 < n
  · have hn : (1048576 : Int) < (n : Int) := by omega
    go_enter Try.func4, Try.ntmps4
    go_wp2_with fail
    go_ret
    exact ⟨rfl, Below.refl _ _⟩
  have hni : ¬ (1048576 : Int) < (n : Int) := by omega
  go_enter Try.func4, Try.ntmps4
  go_wp2_with fail
  refine (DrawGroupTrace_any _ _ _ _ _ h (by omega) hnc HCM.out).mono ?_
  rintro e w1 ⟨I, K, A1, n1, c1, B1, m1, d1, ps, ds, rfl, D⟩
  have hn1 := D.n
  have hm1 := D.m
  have X := hid (LG.new (I := I) (K := K) D.i D.j D.s)
  clear D
  go_upto_region 4 with (fail)
  generalize w1.alloc (.cells (grC I K A1 n1 c1 B1 m1 d1) 25) = w2 at *
  generalize w1.heap.size = bx at *
  have q0 := X.out.k.cell_ (i := 0) (v := .int .i64 I) rfl
  have q1 := X.out.k.cell_ (i := 1) (v := .int .i64 K) rfl
  have q2 := X.out.k.cell_ (i := 2) (v := .slice A1 n1 c1) rfl
  have q3 := X.out.k.cell_ (i := 3) (v := .slice B1 m1 d1) rfl
  go_wp2_with fail
  refine (GroupTrace_any _ _ _ _ _ _ _ _ _ _ _ X.out.i X.out.j (by omega) (by omega)).mono ?_
  rintro e w3 ⟨A3, c3, rfl, o3, s3⟩
  have O := hid o3
  replace X := hid (X.out.st s3)
  replace q0 := s3.cell q0
  replace q1 := s3.cell q1
  replace q2 := s3.cell q2
  replace q3 := s3.cell q3
  clear s3 o3
  go_wp2_with fail
  refine (specGroupTrace_any _ _ _ _ _ _ _ _ _ _ _ X.out.i X.out.j (by omega)).mono ?_
  rintro e w4 ⟨A4, c4, rfl, o4, s4⟩
  have P := hid (OI.sl o4)
  have O := hid (OI.st O.out s4)
  replace X := hid (X.out.st s4)
  replace q0 := s4.cell q0
  replace q1 := s4.cell q1
  replace q2 := s4.cell q2
  replace q3 := s4.cell q3
  clear s4 o4
  have HT := hid (trace_facts ⟨I, K, ps, ds⟩)
  have hjl := X.out.j.len
  have hil := hid X.out.i.len
  have htl := HT.out.2.2
  simp only at htl
  generalize traceG ⟨I, K, ps, ds⟩ = L at *
  obtain ⟨q, hq⟩ : ∃ q, L.length = q := ⟨_, rfl⟩
  have HLL := hid hq
  rw [hq] at O P htl ⊢
  clear hq
  go_wp2_with fail
  refine (sameInts_same (OI.sl O.out) P.out (by have := HLL.out; omega)).mono ?_
  rintro e w5 ⟨rfl, s5⟩
  have O := hid (OI.dr O.out s5)
  have s5 := s5.st
  replace X := hid (X.out.st s5)
  replace q0 := s5.cell q0
  replace q1 := s5.cell q1
  replace q2 := s5.cell q2
  replace q3 := s5.cell q3
  clear s5 P
  clear q0 q1 q2 q3
  go_wp2_with fail
  go_loopw [6] (fun v wr => ∃ k : Nat, k ≤ q ∧ v = .int .i64 (k : Int) ∧ Hid (Dr w5 wr)) (fun v _ => q - (intOf v).toNat)
  case atStart => exact ⟨0, Nat.zero_le _, rfl, Dr.refl _⟩
  case round =>
    obtain ⟨wa, rfl⟩ : ∃ wo : World, wo = wr := ⟨_, rfl⟩
    obtain ⟨k, hk, rfl, hd⟩ := hrel
    have hk0 : (0 : Int) ≤ (k : Int) := by omega
    by_cases hlt : k < q
    · have hki : (k : Int) < (q : Int) := by omega
      obtain ⟨g, x, rfl, _, _, hx, cx, _, _⟩ := O.out.at_ hlt
      have HX := hid hx.out
      have hc3 : (k : Int) ≤ (c3 : Int) := by have := (OI.sl O.out).nc; omega
      have HF := hid (take_fresh HT.out.1 hx.out)
      have HM := hid (HT.out.2.1 x (List.mem_of_getElem? hx.out))
      have cd := (hd.out.cell _).trans cx
      have HC := hid (fun (m : Nat) => quiet_left (hasInt_any (some ⟨g, 0, none⟩) k c3 _ (L.take k) x (wa.drewN m) (((OI.ri O.out).upto (Nat.le_of_lt hlt)).dr (hd.out.trans ⟨_, rfl⟩)) (by omega)))
      rw [HF.out] at HC
      clear hx
      go_wp2_with fail
      go_quiet ((go_at_call 23; exact HC.out _))
      go_wp2_with fail
      clear cd
      go_loopw [7] (fun v wr => ∃ j : Nat, j ≤ n1 ∧ v = .int .i64 (j : Int) ∧ Hid (Dr w5 wr)) (fun v _ => n1 - (intOf v).toNat)
      case atStart => exact ⟨0, Nat.zero_le _, rfl, hd.out.trans ⟨_, rfl⟩⟩
      case round =>
        obtain ⟨wb, rfl⟩ : ∃ wo : World, wo = wr := ⟨_, rfl⟩
        obtain ⟨j, hj, rfl, hd2⟩ := hrel
        have X2 := hid (X.out.st hd2.out.st)
        have q2 := X2.out.k.cell_ (i := 2) (v := .slice A1 n1 c1) rfl
        have hj0 : (0 : Int) ≤ (j : Int) := by omega
        by_cases hltj : j < n1
        · have hji : (j : Int) < (n1 : Int) := by omega
          obtain ⟨ad, m', t', g', f', rfl, _, hy, c0, _, _, _⟩ := X2.out.i.at_ hltj
          have cd := (hd2.out.cell _).trans cx
          have hne : (m' == x) = false := by
            rw [beq_eq_false_iff_ne]
            intro e
            exact HM.out (List.mem_map.2 ⟨_, List.mem_of_getElem? hy.out, e⟩)
          go_wp2_with fail
          go_quiet (fail)
          go_wp2_with fail
          go_roundw
          case rel => exact ⟨j + 1, by omega, by go_num, hd2.out.trans ⟨_, rfl⟩⟩
          case measure => simp [intOf]; omega
        · obtain rfl : j = n1 := by omega
          have hji : ¬ ((j : Int) < (j : Int)) := by omega
          go_wp2_with fail
          go_roundw
          case rel => exact ⟨k + 1, by omega, by go_num, hd2⟩
          case measure => simp [intOf]; omega
    · obtain rfl : k = q := by omega
      have hki : ¬ ((k : Int) < (k : Int)) := by omega
      go_wp2_with fail
      go_ret
      exact ⟨rfl, X.out.s.trans hd.out.st⟩
end Go.Proofs.Ytfepegellpegdaa
