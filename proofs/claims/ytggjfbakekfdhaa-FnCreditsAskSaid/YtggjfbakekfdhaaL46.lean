/- FnCreditsAsk returns true. -/
import Derived.Test.YtggjfbakekfdhaaLawCr2
namespace Go.Proofs.Ytggjfbakekfdhaa
open Go.RowKit Go.Sort
set_option maxRecDepth 100000 in
set_option maxHeartbeats 4000000 in
theorem walkCreditsAsk (A : Option Addr) (n c : Nat) (bs : List Nat) {w : World} (h : RB w w.heap.size A n bs) (hnc : n ≤ c ∧ c ≤ maxLen) :
    Calls Try.prog 11 #[.slice A n c] w fun e w' => e = .returned (.bool true) ∧ Below w.heap.size w w' := by
  obtain ⟨hnc, hcm⟩ := hnc
  have HCM := hid hcm
  clear hcm
  by_cases hn : 1048576 < n
  · have hn : (1048576 : Int) < (n : Int) := by omega
    go_enter Try.func11, Try.ntmps11
    go_wp2_with fail
    go_ret
    exact ⟨rfl, Below.refl _ _⟩
  have hni : ¬ (1048576 : Int) < (n : Int) := by omega
  go_enter Try.func11, Try.ntmps11
  go_wp2_with fail
  refine (DrawCreditsAsk_any _ _ _ _ _ h (by omega) hnc HCM.out).mono ?_
  rintro e w1 ⟨A1, n1, c1, B1, m1, d1, fs, hs, s, g, rfl, i1, f1, s1⟩
  have hn1 : n1 ≤ 1048576 := by have := i1.sl.len; have := f1.n; omega
  have hm1 : m1 ≤ 1048576 := by have := i1.sh.len; have := f1.m; omega
  have HLm := hid i1.sh.len
  have HLn := hid i1.sl.len
  have X := hid (LC.new i1 s1)
  have F := hid f1
  clear i1 s1 f1
  go_wp2_with fail
  generalize w1.alloc (.cells #[.slice A1 n1 c1, .slice B1 m1 d1] 25) = w2 at *
  generalize w1.heap.size = bx at *
  have q0 := X.out.k.cell_ (i := 0) (v := .slice A1 n1 c1) rfl
  have q1 := X.out.k.cell_ (i := 1) (v := .slice B1 m1 d1) rfl
  go_wp2_with fail
  refine (CreditsAsk_any _ _ _ _ _ _ _ _ s g _ X.out.i F.out).mono ?_
  rintro e w3 ⟨A3, n3, c3, B3, m3, d3, rfl, C3, s3⟩
  replace X := hid (X.out.st s3)
  obtain ⟨⟨fs2, hs2⟩, hM⟩ : ∃ M, askM fs hs s g = M := ⟨_, rfl⟩
  obtain ⟨ok, hok⟩ : ∃ b, askB fs hs s g = b := ⟨_, rfl⟩
  have HM := hid hM
  have HOK := hid hok
  rw [hM] at C3
  rw [hok]
  have FR := hid (show FitCr fs2 hs2 from by have := ask_fit F.out s g; rw [hM] at this; exact this)
  have hL3 := C3.hl
  have hl3 := C3.fr.len
  have Y := hid (LC.new C3.rd X.out.s)
  have a3 := (St.refl w3).alloc (.cells #[.slice A3 n3 c3, .slice B3 m3 d3] 25)
  replace X := hid (X.out.st a3)
  clear s3 a3 C3 q0 q1 hM hok
  have q0 := X.out.k.cell_ (i := 0) (v := .slice A1 n1 c1) rfl
  have q1 := X.out.k.cell_ (i := 1) (v := .slice B1 m1 d1) rfl
  go_wp2_with fail
  generalize w3.alloc (.cells #[.slice A3 n3 c3, .slice B3 m3 d3] 25) = w4 at *
  generalize w3.heap.size = by_ at *
  refine (specCreditsAsk_any _ _ _ _ _ _ _ _ s g _ X.out.i F.out).mono ?_
  rintro e w5 ⟨A5, n5, c5, B5, m5, d5, rfl, C5, s5⟩
  rw [HM.out] at C5
  rw [HOK.out]
  have hL5 := C5.hl
  have hl5 := C5.fr.len
  obtain rfl : m3 = m5 := by rw [← hL3, ← hL5]
  obtain rfl : n3 = n5 := by rw [← hl3, ← hl5]
  replace X := hid (X.out.st s5)
  replace Y := hid (Y.out.st s5)
  have Z := hid (LC.new C5.rd X.out.s)
  have a5 := (St.refl w5).alloc (.cells #[.slice A5 n3 c5, .slice B5 m3 d5] 25)
  replace X := hid (X.out.st a5)
  replace Y := hid (Y.out.st a5)
  clear s5 a5 C5 q0 q1 hL5 hl5
  have HL3 := hid hL3
  have Hl3 := hid hl3
  clear hL3 hl3
  have y0 := Y.out.k.cell_ (i := 0) (v := .slice A3 n3 c3) rfl
  have y1 := Y.out.k.cell_ (i := 1) (v := .slice B3 m3 d3) rfl
  have y0' := y0
  go_wp2_with fail
  generalize w5.alloc (.cells #[.slice A5 n3 c5, .slice B5 m3 d5] 25) = w6 at *
  generalize w5.heap.size = bz at *
  refine (sameCredits_same Y.out.i Z.out.i FR.out).mono ?_
  rintro e w7 ⟨rfl, s7⟩
  replace X := hid (X.out.st s7)
  replace Y := hid (Y.out.st s7)
  replace Z := hid (Z.out.st s7)
  replace y0 := s7.cell y0
  replace y1 := s7.cell y1
  clear s7 y0'
  have q0 := X.out.k.cell_ (i := 0) (v := .slice A1 n1 c1) rfl
  have q1 := X.out.k.cell_ (i := 1) (v := .slice B1 m1 d1) rfl
  have z0 := Z.out.k.cell_ (i := 0) (v := .slice A5 n3 c5) rfl
  have z1 := Z.out.k.cell_ (i := 1) (v := .slice B5 m3 d5) rfl
  cases ok
  · go_wp2_with fail
    refine (sameCredits_same Y.out.i Z.out.i FR.out).mono ?_
    rintro e w8 ⟨rfl, s8⟩
    go_wp2_with fail
    go_ret
    exact ⟨rfl, X.out.s.trans s8⟩
  have hAB : askOk fs hs s g = true ∧ askBad hs s g = false := by
    have h1 := HOK.out
    unfold askB at h1
    simpa using h1
  have HAO := hid hAB.1
  have HNB := hid hAB.2
  clear hAB HOK
  obtain ⟨v, ⟨k, x, rfl, hk⟩, hg⟩ := askOk_iff.1 HAO.out
  obtain ⟨gn, rfl⟩ : ∃ gn : Nat, g = (gn : Int) := ⟨g.toNat, by omega⟩
  obtain rfl : n1 = 5 := by have := v.f5; have := HLn.out; omega
  have V := hid v
  have hkm : k < m1 := by have := (List.getElem?_eq_some_iff.1 hk).1; have := HLm.out; omega
  have hki : (0 : Int) ≤ (k : Int) := by omega
  have hki2 : (k : Int) < (m1 : Int) := by omega
  have hg5 : gn < 5 := by omega
  have hgi : (0 : Int) ≤ (gn : Int) := by omega
  have hgi2 : (gn : Int) < 5 := by omega
  obtain ⟨xs, t⟩ := x
  obtain ⟨y, hyx, hgd, hy0, hy9⟩ := V.out.free (g := (gn : Int)) (by omega)
  rw [Int.toNat_natCast] at hyx hgd
  have HX := hid hk
  have HYX := hid hyx
  have HCASE : Hid ((0 < y ∧ fs2 = fs.set gn (y - 1) ∧ hs2 = hs.set k (insC xs gn, -1)) ∨ (¬ 0 < y ∧ fs2 = fs ∧ hs2 = hs.set k (xs, (gn : Int)))) := by
    by_cases hyp : 0 < y
    · left
      have h1 := (askM_take HAO.out HNB.out (by rw [Int.toNat_natCast, hgd]; exact hyp)).1
      rw [HM.out, Int.toNat_natCast, takeC_of hk hyx] at h1
      injection h1 with e1 e2
      exact ⟨hyp, e1, e2⟩
    · right
      have h1 := (askM_wait HAO.out HNB.out (by rw [Int.toNat_natCast, hgd]; exact hyp)).1
      rw [HM.out, Int.toNat_natCast, holdAt_of hk] at h1
      injection h1 with e1 e2
      exact ⟨hyp, e1, e2⟩
  have HSAME := hid (show ∀ i, i ≠ k → hs2[i]? = hs[i]? from fun i hi => by
    rcases HCASE.out with ⟨_, _, e⟩ | ⟨_, _, e⟩ <;> rw [e, List.getElem?_set_ne (fun h => hi h.symm)])
  obtain rfl : m3 = m1 := by
    have h1 := HL3.out
    have h2 := HLm.out
    rcases HCASE.out with ⟨_, _, e⟩ | ⟨_, _, e⟩ <;> rw [e, List.length_set] at h1 <;> omega
  obtain rfl : n3 = 5 := by
    have h1 := Hl3.out
    have h2 := HLn.out
    rcases HCASE.out with ⟨_, e, _⟩ | ⟨_, e, _⟩
    · rw [e, List.length_set] at h1; omega
    · rw [e] at h1; omega
  clear v hk hyx hgd HM HAO HNB HL3 Hl3 Z z0 z1 q0 q1 y0 y1
  have q0 := X.out.k.cell_ (i := 0) (v := .slice A1 5 c1) rfl
  go_wp2_with fail
  clear q0
  go_loopw [10] (fun i wr => ∃ j : Nat, j ≤ m3 ∧ i = .int .i64 (j : Int) ∧ Hid (St w7 wr)) (fun i _ => m3 - (intOf i).toNat)
  case atStart => exact ⟨0, Nat.zero_le _, rfl, St.refl _⟩
  case round =>
    obtain ⟨wa, rfl⟩ : ∃ wo : World, wo = wr := ⟨_, rfl⟩
    obtain ⟨j, hj, rfl, hd⟩ := hrel
    have X1 := hid (X.out.st hd.out)
    have Y1 := hid (Y.out.st hd.out)
    have q0 := X1.out.k.cell_ (i := 0) (v := .slice A1 5 c1) rfl
    have q1 := X1.out.k.cell_ (i := 1) (v := .slice B1 m3 d1) rfl
    have y0 := Y1.out.k.cell_ (i := 0) (v := .slice A3 5 c3) rfl
    have y1 := Y1.out.k.cell_ (i := 1) (v := .slice B3 m3 d3) rfl
    have hj0 : (0 : Int) ≤ (j : Int) := by omega
    by_cases hlt : j < m3
    · have hji : (j : Int) < (m3 : Int) := by omega
      by_cases hjk : j = k
      · have hb1 : ((j : Int) != (k : Int)) = false := by subst hjk; simp
        have hb2 : (j : Int) = (k : Int) := by omega
        have hb3 : decide ((j : Int) = (k : Int)) = true := decide_eq_true hb2
        subst hjk
        go_wp2_with fail
        go_quiet (fail)
        have sx := (Dr.st ⟨nq, rfl⟩ : St (wa) (World.drewN (wa) nq))
        generalize World.drewN (wa) nq = wx at sx ⊢
        clear nq
        have hd2 := hid (hd.out.trans sx)
        clear sx
        go_wp2_with fail
        go_roundw
        case rel => exact ⟨j + 1, by omega, by go_num, hd2⟩
        case measure => simp [intOf]; omega
      · have hb2 : ¬ (j : Int) = (k : Int) := by omega
        have hb1 : ((j : Int) != (k : Int)) = true := by simpa using hb2
        have hb3 : ((j : Int) == (k : Int)) = false := by simpa using hb2
        obtain ⟨ad, Aj, nj, cj, xj, tj, rfl, hz1, ca0, ca1, hx, hsl⟩ := X1.out.i.sh.at_ hlt
        obtain ⟨ad', Aj', nj', cj', xj', tj', rfl, hz1', cb0, cb1, hx', hsl'⟩ := Y1.out.i.sh.at_ hlt
        have hxe : (xj', tj') = (xj, tj) := by have := hx'.out; rw [HSAME.out j hjk, hx.out] at this; injection this with this; exact this.symm
        injection hxe with e1 e2
        subst e1 e2
        have hxl : xj'.length ≤ 1048576 := F.out.h2 _ (List.mem_of_getElem? hx.out)
        have HC := hid (fun (q : Nat) => quiet_dr (sameInts_same (hsl'.dr (w' := wa.drewN q) ⟨q, rfl⟩) (hsl.dr ⟨q, rfl⟩) hxl))
        clear hx hx'
        go_wp2_with fail
        go_quiet ((go_at_call 36; exact HC.out _))
        have hd2 := hid (hd.out.trans (Dr.st ⟨nq, rfl⟩ : St wa (wa.drewN nq)))
        go_wp2_with fail
        go_roundw
        case rel => exact ⟨j + 1, by omega, by go_num, hd2⟩
        case measure => simp [intOf]; omega
    · obtain rfl : j = m3 := by omega
      have hji : ¬ (j : Int) < (j : Int) := by omega
      obtain ⟨ad, Ak, nk, ck, xk, tk, rfl, hz1, ca0, ca1, hx, hsl⟩ := X1.out.i.sh.at_ hkm
      obtain ⟨ad', Ak', nk', ck', xk', tk', rfl, hz1', cb0, cb1, hx', hsl'⟩ := Y1.out.i.sh.at_ hkm
      have hxe : (xk, tk) = (xs, t) := by have := hx.out; rw [HX.out] at this; injection this with this; exact this.symm
      injection hxe with e1 e2
      subst e1 e2
      have hkl : k < hs.length := (List.getElem?_eq_some_iff.1 HX.out).1
      obtain ⟨af, yf, rfl, hbf, hyf, hcf⟩ := RI.at_ (k := gn) X1.out.i.sl.ri hg5
      have hye : yf = y := by have := hyf.out; rw [HYX.out] at this; injection this with this; exact this.symm
      subst hye
      obtain ⟨af', yf', rfl, hbf', hyf', hcf'⟩ := RI.at_ (k := gn) Y1.out.i.sl.ri hg5
      have sa := (St.refl wa).alloc (.cells #[.slice Ak' nk' ck', .int .i64 tk'] 38)
      have P := hid (Blk.new wa 38 #[.slice Ak' nk' ck', .int .i64 tk'])
      have X2 := hid (X1.out.st sa)
      have Y2 := hid (Y1.out.st sa)
      have hsl2 := hid (hsl.st sa)
      have hsl2' := hid (hsl'.st sa)
      have fa0 := sa.cell ca0
      have fcf := sa.cell hcf
      have fcf' := sa.cell hcf'
      have S2 := hid (X1.out.s.trans sa)
      clear sa hsl hsl' X
      rcases HCASE.out with ⟨hyp, e1, e2⟩ | ⟨hyp, e1, e2⟩
      · have hxe : (xk', tk') = (insC xk gn, -1) := by have := hx'.out; rw [e2, List.getElem?_set_self hkl] at this; injection this with this; exact this.symm
        injection hxe with e3 e4
        subst e3 e4
        have hy2 : yf' = yf - 1 := by have := hyf'.out; rw [e1, List.getElem?_set_self (List.getElem?_eq_some_iff.1 HYX.out).1] at this; injection this with this; exact this.symm
        subst hy2
        have q5 : IntKind.i64.wrap (yf - 1) = yf - 1 := IntWalk.i64_in _ (by omega)
        have hnk' : nk' ≤ 5 := by have := hsl2'.out.len; have h5 := insC_le xk gn; omega
        clear e1 e2 hx hx' hyf hyf'
        have p0 := P.out.cell_ (i := 0) (v := .slice Ak' nk' ck') rfl
        have p1 := P.out.cell_ (i := 1) (v := .int .i64 (-1)) rfl
        clear q0 q1 y0 y1
        have u1 := X1.out.k.cell_ (i := 0) (v := .slice (some af) 5 c1) rfl
        have u2 := X1.out.k.cell_ (i := 1) (v := .slice (some ad) j d1) rfl
        have u3 := Y1.out.k.cell_ (i := 1) (v := .slice (some ad') j d3) rfl
        have q0 := X2.out.k.cell_ (i := 0) (v := .slice (some af) 5 c1) rfl
        have q1 := X2.out.k.cell_ (i := 1) (v := .slice (some ad) j d1) rfl
        have y0 := Y2.out.k.cell_ (i := 0) (v := .slice (some af') 5 c3) rfl
        have y1 := Y2.out.k.cell_ (i := 1) (v := .slice (some ad') j d3) rfl
        have HI := hid (insC_has xk (g := (gn : Int)) (by omega))
        go_wp2_with fail
        generalize wa.alloc (.cells #[.slice Ak' nk' ck', .int .i64 (-1)] 38) = wb at *
        have HC := hid (fun (q : Nat) => quiet_left (hasInt_any Ak' nk' ck' _ (insC xk gn) (gn : Int) (wb.drewN q) (hsl2'.out.ri.dr ⟨q, rfl⟩) (by omega)))
        rw [HI.out] at HC
        go_quiet ((go_at_call 34; exact HC.out _))
        have S3 := hid (S2.out.trans (Dr.st ⟨nq, rfl⟩ : St wb (wb.drewN nq)))
        go_wp2_with fail
        go_ret
        exact ⟨rfl, S3.out⟩
      · have hxe : (xk', tk') = (xk, (gn : Int)) := by have := hx'.out; rw [e2, List.getElem?_set_self hkl] at this; injection this with this; exact this.symm
        injection hxe with e3 e4
        subst e3 e4
        subst e1
        have hxl : xk'.length ≤ 1048576 := F.out.h2 _ (List.mem_of_getElem? HX.out)
        have hfl : fs2.length ≤ 1048576 := F.out.n
        clear e2 hx hx' hyf hyf'
        have p0 := P.out.cell_ (i := 0) (v := .slice Ak' nk' ck') rfl
        have p1 := P.out.cell_ (i := 1) (v := .int .i64 (gn : Int)) rfl
        clear q0 q1 y0 y1
        have u1 := X1.out.k.cell_ (i := 0) (v := .slice (some af) 5 c1) rfl
        have u2 := X1.out.k.cell_ (i := 1) (v := .slice (some ad) j d1) rfl
        have u3 := Y1.out.k.cell_ (i := 1) (v := .slice (some ad') j d3) rfl
        have q0 := X2.out.k.cell_ (i := 0) (v := .slice (some af) 5 c1) rfl
        have q1 := X2.out.k.cell_ (i := 1) (v := .slice (some ad) j d1) rfl
        have y0 := Y2.out.k.cell_ (i := 0) (v := .slice (some af') 5 c3) rfl
        have y1 := Y2.out.k.cell_ (i := 1) (v := .slice (some ad') j d3) rfl
        go_wp2_with fail
        generalize wa.alloc (.cells #[.slice Ak' nk' ck', .int .i64 (gn : Int)] 38) = wb at *
        have HC := hid (fun (q : Nat) => quiet_dr (sameInts_same (hsl2'.out.dr (w' := wb.drewN q) ⟨q, rfl⟩) (hsl2.out.dr ⟨q, rfl⟩) hxl))
        have HD := hid (fun (q : Nat) => quiet_dr (sameInts_same (Y2.out.i.sl.dr (w' := wb.drewN q) ⟨q, rfl⟩) (X2.out.i.sl.dr ⟨q, rfl⟩) hfl))
        go_quiet ((go_at_call 36; first | with_reducible exact HC.out _ | with_reducible exact HD.out _))
        have S3 := hid (S2.out.trans (Dr.st ⟨nq, rfl⟩ : St wb (wb.drewN nq)))
        go_wp2_with fail
        go_ret
        exact ⟨rfl, S3.out⟩
end Go.Proofs.Ytggjfbakekfdhaa
