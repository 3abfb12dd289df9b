/- FnFinalEager returns true. -/
import Derived.Test.YtfepegellpegdaaLawGr
import Derived.Test.YtfepegellpegdaaGr7
namespace Go.Proofs.Ytfepegellpegdaa
open Go.RowKit Go.Sort
theorem blocked_bad {g : Grp} (h : grOk g = false ∨ g.pend = []) : blockedG g = -1 := by
  unfold blockedG
  rcases h with h | h
  · rw [h]; rfl
  · rw [h]; split <;> rfl
set_option maxRecDepth 100000 in
set_option maxHeartbeats 1000000 in
theorem walkEager (A : Option Addr) (n c : Nat) (bs : List Nat) {w : World} (h : RB w w.heap.size A n bs) (hnc : n ≤ c ∧ c ≤ maxLen) :
    Calls Try.prog 3 #[.slice A n c] w fun e w' => e = .returned (.bool true) ∧ Below w.heap.size w w' := by
  obtain ⟨hnc, hcm⟩ := hnc
  have HCM := hid hcm
  clear hcm
  by_cases hn : 1048576 < n
  · have hn : (1048576 : Int) < (n : Int) := by omega
    go_enter Try.func3, Try.ntmps3
    go_wp2_with fail
    go_ret
    exact ⟨rfl, Below.refl _ _⟩
  have hni : ¬ (1048576 : Int) < (n : Int) := by omega
  go_enter Try.func3, Try.ntmps3
  go_wp2_with fail
  refine (DrawGroupBlocked_any _ _ _ _ _ h (by omega) hnc HCM.out).mono ?_
  rintro e w1 ⟨I, K, A1, n1, c1, B1, m1, d1, ps, ds, rfl, D⟩
  have hn1 := D.n
  have hm1 := D.m
  have X := hid (LG.new (I := I) (K := K) D.i D.j D.s)
  clear D
  go_upto_region 4 with (fail)
  generalize w1.alloc (.cells (grC I K A1 n1 c1 B1 m1 d1) 25) = w2 at *
  generalize w1.heap.size = bx at *
  have q0 := X.out.k.cell_ (i := 0) (v := .int .i64 I) rfl
  have q1 := X.out.k.cell_ (i := 1) (v := .int .i64 K) rfl
  have q2 := X.out.k.cell_ (i := 2) (v := .slice A1 n1 c1) rfl
  have q3 := X.out.k.cell_ (i := 3) (v := .slice B1 m1 d1) rfl
  go_wp2_with fail
  refine (GroupBlocked_any _ _ _ _ _ _ _ _ _ _ _ X.out.i X.out.j (by omega) (by omega)).mono ?_
  rintro e w3 ⟨rfl, s3⟩
  replace X := hid (X.out.st s3)
  replace q0 := s3.cell q0
  replace q1 := s3.cell q1
  replace q2 := s3.cell q2
  replace q3 := s3.cell q3
  clear s3
  go_wp2_with fail
  refine (specGroupBlocked_any _ _ _ _ _ _ _ _ _ _ _ X.out.i X.out.j).mono ?_
  rintro e w4 ⟨rfl, s4⟩
  replace X := hid (X.out.st s4)
  replace q0 := s4.cell q0
  replace q1 := s4.cell q1
  replace q2 := s4.cell q2
  replace q3 := s4.cell q3
  clear s4
  by_cases hbad : grOk ⟨I, K, ps, ds⟩ = false ∨ ps = []
  · rw [blocked_bad hbad]
    go_wp2_with fail
    go_ret
    exact ⟨rfl, X.out.s⟩
  rw [not_or, Bool.not_eq_false] at hbad
  obtain ⟨hok, hps⟩ := hbad
  obtain ⟨p, t, rfl⟩ : ∃ p t, ps = p :: t := by cases ps with | nil => exact absurd rfl hps | cons p t => exact ⟨p, t, rfl⟩
  have V := hid (grOk_iff.1 hok)
  have HB : blockedG ⟨I, K, p :: t, ds⟩ = p.1 := blocked_at hok rfl
  have HS := hid (V.out.stampP (e := p) (by simp))
  have hf : p.2.2 = false := (V.out.hd p t rfl).1
  have hp0 : 0 ≤ p.1 := (inB_iff.1 (entOk_iff.1 (V.out.pe p (by simp))).1).1
  have hln := X.out.i.len
  rw [HB]
  obtain ⟨m, ⟨st, sg⟩, f⟩ := p
  simp only at hf hp0 HS ⊢
  subst hf
  have hn0 : 0 < n1 := by rw [← hln]; simp
  have hn0i : (0 : Int) < (n1 : Int) := by omega
  clear hok hps HB hln
  have hm0 : ¬ m < 0 := by omega
  go_wp2_with fail
  refine (GroupStamp_any _ _ _ _ _ _ _ _ _ _ m _ X.out.i X.out.j (by omega) (by omega)).mono ?_
  rintro e w5 ⟨rfl, s5⟩
  replace X := hid (X.out.st s5)
  replace q0 := s5.cell q0
  replace q1 := s5.cell q1
  replace q2 := s5.cell q2
  replace q3 := s5.cell q3
  rw [HS.out, show stRes (some (m, (st, sg), false)) = .tuple #[enV m st sg false, .bool true] from rfl]
  have sa := (St.refl w5).alloc (.cells (entA (m, (st, sg), false)) 31)
  have E6 := hid (Blk.new w5 31 (entA (m, (st, sg), false)))
  replace X := hid (X.out.st sa)
  replace q0 := sa.cell q0
  replace q1 := sa.cell q1
  replace q2 := sa.cell q2
  replace q3 := sa.cell q3
  clear s5 sa
  go_upto_region 9 with (fail)
  generalize w5.alloc (.cells _ 31) = w6 at *
  have e0 := E6.out.cell_ (i := 0) (v := .int .i64 m) rfl
  have e1 := E6.out.cell_ (i := 1) (v := .int .i64 st) rfl
  have e2 := E6.out.cell_ (i := 2) (v := .int .i64 sg) rfl
  have e3 := E6.out.cell_ (i := 3) (v := .bool false) rfl
  obtain ⟨ad, m', t', g', f', rfl, hb, hx, c0, c1', c2, c3⟩ := X.out.i.at_ hn0
  have hx := hx.out
  simp only [List.getElem?_cons_zero, Option.some.injEq, Prod.mk.injEq] at hx
  obtain ⟨rfl, ⟨rfl, rfl⟩, rfl⟩ := hx
  have had : ad.add (0 * 4) = ad := by cases ad; simp [Addr.add]
  rw [had] at c0 c1' c2 c3
  go_wp2_with fail
  go_quiet (fail)
  go_wp2_with fail
  go_ret
  exact ⟨rfl, X.out.s.trans (Dr.st ⟨_, rfl⟩)⟩
end Go.Proofs.Ytfepegellpegdaa
