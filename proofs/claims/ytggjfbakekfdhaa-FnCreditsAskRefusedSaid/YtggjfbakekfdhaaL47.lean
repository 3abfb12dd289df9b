/- FnCreditsAskRefused returns true. -/
import Derived.Test.YtggjfbakekfdhaaLawCr2
namespace Go.Proofs.Ytggjfbakekfdhaa
open Go.RowKit Go.Sort
set_option maxRecDepth 100000 in
set_option maxHeartbeats 4000000 in
theorem walkCreditsAskRefused (A : Option Addr) (n c : Nat) (bs : List Nat) {w : World} (h : RB w w.heap.size A n bs) (hnc : n ≤ c ∧ c ≤ maxLen) :
    Calls Try.prog 12 #[.slice A n c] w fun e w' => e = .returned (.bool true) ∧ Below w.heap.size w w' := by
  obtain ⟨hnc, hcm⟩ := hnc
  have HCM := hid hcm
  clear hcm
  by_cases hn : 1048576 < n
  · have hn : (1048576 : Int) < (n : Int) := by omega
    go_enter Try.func12, Try.ntmps12
    go_wp2_with fail
    go_ret
    exact ⟨rfl, Below.refl _ _⟩
  have hni : ¬ (1048576 : Int) < (n : Int) := by omega
  go_enter Try.func12, Try.ntmps12
  go_wp2_with fail
  refine (DrawCreditsAsk_any _ _ _ _ _ h (by omega) hnc HCM.out).mono ?_
  rintro e w1 ⟨A1, n1, c1, B1, m1, d1, fs, hs, s, g, rfl, i1, f1, s1⟩
  have hn1 : n1 ≤ 1048576 := by have := i1.sl.len; have := f1.n; omega
  have hm1 : m1 ≤ 1048576 := by have := i1.sh.len; have := f1.m; omega
  have HLm := hid i1.sh.len
  have HLn := hid i1.sl.len
  have X := hid (LC.new i1 s1)
  have F := hid f1
  clear i1 s1 f1
  go_wp2_with fail
  generalize w1.alloc (.cells #[.slice A1 n1 c1, .slice B1 m1 d1] 25) = w2 at *
  generalize w1.heap.size = bx at *
  have q0 := X.out.k.cell_ (i := 0) (v := .slice A1 n1 c1) rfl
  have q1 := X.out.k.cell_ (i := 1) (v := .slice B1 m1 d1) rfl
  go_wp2_with fail
  refine (CreditsAsk_any _ _ _ _ _ _ _ _ s g _ X.out.i F.out).mono ?_
  rintro e w3 ⟨A3, n3, c3, B3, m3, d3, rfl, C3, s3⟩
  replace X := hid (X.out.st s3)
  obtain ⟨⟨fs2, hs2⟩, hM⟩ : ∃ M, askM fs hs s g = M := ⟨_, rfl⟩
  obtain ⟨ok, hok⟩ : ∃ b, askB fs hs s g = b := ⟨_, rfl⟩
  have HM := hid hM
  have HOK := hid hok
  rw [hM] at C3
  rw [hok]
  have FR := hid (show FitCr fs2 hs2 from by have := ask_fit F.out s g; rw [hM] at this; exact this)
  have hL3 := C3.hl
  have hl3 := C3.fr.len
  have Y := hid (LC.new C3.rd X.out.s)
  have a3 := (St.refl w3).alloc (.cells #[.slice A3 n3 c3, .slice B3 m3 d3] 25)
  replace X := hid (X.out.st a3)
  clear s3 a3 C3 q0 q1 hM hok
  have q0 := X.out.k.cell_ (i := 0) (v := .slice A1 n1 c1) rfl
  have q1 := X.out.k.cell_ (i := 1) (v := .slice B1 m1 d1) rfl
  go_wp2_with fail
  generalize w3.alloc (.cells #[.slice A3 n3 c3, .slice B3 m3 d3] 25) = w4 at *
  generalize w3.heap.size = by_ at *
  refine (specCreditsAsk_any _ _ _ _ _ _ _ _ s g _ X.out.i F.out).mono ?_
  rintro e w5 ⟨A5, n5, c5, B5, m5, d5, rfl, C5, s5⟩
  rw [HM.out] at C5
  rw [HOK.out]
  have hL5 := C5.hl
  have hl5 := C5.fr.len
  obtain rfl : m3 = m5 := by rw [← hL3, ← hL5]
  obtain rfl : n3 = n5 := by rw [← hl3, ← hl5]
  replace X := hid (X.out.st s5)
  replace Y := hid (Y.out.st s5)
  have Z := hid (LC.new C5.rd X.out.s)
  have a5 := (St.refl w5).alloc (.cells #[.slice A5 n3 c5, .slice B5 m3 d5] 25)
  replace X := hid (X.out.st a5)
  replace Y := hid (Y.out.st a5)
  clear s5 a5 C5 q0 q1 hL5 hl5
  have HL3 := hid hL3
  have Hl3 := hid hl3
  clear hL3 hl3
  have y0 := Y.out.k.cell_ (i := 0) (v := .slice A3 n3 c3) rfl
  have y1 := Y.out.k.cell_ (i := 1) (v := .slice B3 m3 d3) rfl
  have y0' := y0
  go_wp2_with fail
  generalize w5.alloc (.cells #[.slice A5 n3 c5, .slice B5 m3 d5] 25) = w6 at *
  generalize w5.heap.size = bz at *
  refine (sameCredits_same Y.out.i Z.out.i FR.out).mono ?_
  rintro e w7 ⟨rfl, s7⟩
  replace X := hid (X.out.st s7)
  replace Y := hid (Y.out.st s7)
  replace Z := hid (Z.out.st s7)
  replace y0 := s7.cell y0
  replace y1 := s7.cell y1
  clear s7 y0'
  have q0 := X.out.k.cell_ (i := 0) (v := .slice A1 n1 c1) rfl
  have q1 := X.out.k.cell_ (i := 1) (v := .slice B1 m1 d1) rfl
  have z0 := Z.out.k.cell_ (i := 0) (v := .slice A5 n3 c5) rfl
  have z1 := Z.out.k.cell_ (i := 1) (v := .slice B5 m3 d5) rfl
  by_cases hm0 : m3 = 0
  · subst hm0
    go_wp2_with fail
    refine (sameCredits_same Y.out.i Z.out.i FR.out).mono ?_
    rintro e w8 ⟨rfl, s8⟩
    go_wp2_with fail
    go_ret
    exact ⟨rfl, X.out.s.trans s8⟩
  have hmz : ¬ (m3 : Int) = 0 := by omega
  have hmb : ((m3 : Int) == 0) = false := by simpa using hm0
  have hAO : askOk fs hs s g = true := by
    cases h : askOk fs hs s g with
    | true => rfl
    | false =>
      exfalso
      have h1 := (askM_bad h).1
      rw [HM.out] at h1
      injection h1 with _ h2
      have h3 := HL3.out
      rw [h2] at h3
      exact hm0 h3.symm
  have HOB := hid (show ok = !askBad hs s g by rw [← HOK.out]; unfold askB; rw [hAO]; rfl)
  have HAO := hid hAO
  obtain ⟨v, ⟨k, x, rfl, hk⟩, hg⟩ := askOk_iff.1 HAO.out
  have hkm : k < m1 := by have := (List.getElem?_eq_some_iff.1 hk).1; have := HLm.out; omega
  have hki : (0 : Int) ≤ (k : Int) := by omega
  have hki2 : (k : Int) < (m1 : Int) := by omega
  obtain ⟨ad, Ak, nk, ck, xs, t, rfl, hb1, ca0, ca1, hx, hsl⟩ := X.out.i.sh.at_ hkm
  have hxe : x = (xs, t) := by have := hx.out; rw [hk] at this; injection this
  subst hxe
  have hnk : nk ≤ 1048576 := by have h8 := F.out.h2 _ (List.mem_of_getElem? hk); rw [hsl.len] at h8; exact h8
  have HBD := hid (show askBad hs (k : Int) g = (decide (0 ≤ t) || has xs g) by unfold askBad; rw [holdAt_of hk])
  clear hAO v hk hx
  by_cases ht : 0 ≤ t
  · have HB := askM_no HAO.out (HBD.out.trans (by rw [decide_eq_true ht]; rfl))
    obtain rfl : ok = false := by rw [HOB.out, HBD.out, decide_eq_true ht]; rfl
    have he := HM.out
    rw [HB.1] at he
    injection he with he1 he2
    subst he1 he2
    clear HB HM HOK HOB
    go_wp2_with fail
    refine (sameCredits_same Y.out.i X.out.i FR.out).mono ?_
    rintro e w8 ⟨rfl, s8⟩
    go_wp2_with fail
    go_ret
    exact ⟨rfl, X.out.s.trans s8⟩
  · have htb : decide (0 ≤ t) = false := decide_eq_false ht
    go_wp2_with fail
    refine (hasInt_any _ _ _ _ _ _ _ hsl.ri (by omega)).mono ?_
    rintro e w8 ⟨rfl, rfl⟩
    cases hh : has xs g
    · obtain rfl : ok = true := by rw [HOB.out, HBD.out, decide_eq_false (show ¬ 0 ≤ t by omega), hh]; rfl
      go_wp2_with fail
      go_ret
      exact ⟨rfl, X.out.s⟩
    · have HB := askM_no HAO.out (HBD.out.trans (by rw [hh, Bool.or_true]))
      obtain rfl : ok = false := by rw [HOB.out, HBD.out, hh, Bool.or_true]; rfl
      have he := HM.out
      rw [HB.1] at he
      injection he with he1 he2
      subst he1 he2
      clear HB HM HOK HOB
      go_wp2_with fail
      refine (sameCredits_same Y.out.i X.out.i FR.out).mono ?_
      rintro e w8 ⟨rfl, s8⟩
      go_wp2_with fail
      go_ret
      exact ⟨rfl, X.out.s.trans s8⟩
end Go.Proofs.Ytggjfbakekfdhaa
