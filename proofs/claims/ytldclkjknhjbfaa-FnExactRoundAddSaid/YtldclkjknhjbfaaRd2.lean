/- RoundValid, both. -/
import Derived.Test.YtldclkjknhjbfaaRd1
import Derived.Lib.QuietBelow
namespace Go.Proofs.Ytldclkjknhjbfaa
open Go.RowKit Go.Sort

/-- Is a stamp in range? -/
def stOk (s : Int × Int) : Bool := inB s.1 1 999 && inB s.2 0 4
theorem StampValid_any (t g : Int) (w : World) : Calls Try.prog 61 #[.agg #[.int .i64 t, .int .i64 g]] w fun e w' => e = .returned (.bool (stOk (t, g))) ∧ St w w' := by
  have hdef := hid (show stOk (t, g) = (inB t 1 999 && inB g 0 4) from rfl)
  have s1 := hid ((St.refl w).alloc (.cells #[.int .i64 t, .int .i64 g] 45))
  by_cases h1 : 1 ≤ t
  · by_cases h2 : t ≤ 999
    · have hi := hid (hdef.out.trans (by rw [show inB t 1 999 = true from inB_iff.2 ⟨h1, h2⟩, Bool.true_and] : _ = inB g 0 4))
      go_enter Try.func61, Try.ntmps61
      go_wp2_with fail
      refine (isGroup_any _ _).mono ?_
      rintro e w1 ⟨rfl, rfl⟩
      go_wp2_with fail
      go_ret
      exact ⟨ret_bool hi.out.symm, s1.out⟩
    · have hi := hid (hdef.out.trans (by rw [show inB t 1 999 = false by simp [inB]; omega, Bool.false_and] : _ = false))
      go_enter Try.func61, Try.ntmps61
      go_wp2_with fail
      go_ret
      exact ⟨ret_bool hi.out.symm, s1.out⟩
  · have hi := hid (hdef.out.trans (by rw [show inB t 1 999 = false by simp [inB]; omega, Bool.false_and] : _ = false))
    go_enter Try.func61, Try.ntmps61
    go_wp2_with fail
    go_ret
    exact ⟨ret_bool hi.out.symm, s1.out⟩
theorem specStampValid_any (t g : Int) (w : World) : Calls Try.prog 45 #[.agg #[.int .i64 t, .int .i64 g]] w fun e w' => e = .returned (.bool (stOk (t, g))) ∧ St w w' := by
  have hdef := hid (show stOk (t, g) = (inB t 1 999 && inB g 0 4) from rfl)
  have s1 := hid ((St.refl w).alloc (.cells #[.int .i64 t, .int .i64 g] 45))
  cases h1 : inB t 1 999
  · rw [h1, Bool.false_and] at hdef
    go_enter Try.func45, Try.ntmps45
    go_wp2_with fail
    refine (l6In_any _ _ _ _).mono ?_
    rintro e w1 ⟨rfl, rfl⟩
    rw [h1]
    go_wp2_with fail
    go_ret
    exact ⟨ret_bool hdef.out.symm, s1.out⟩
  · rw [h1, Bool.true_and] at hdef
    go_enter Try.func45, Try.ntmps45
    go_wp2_with fail
    refine (l6In_any _ _ _ _).mono ?_
    rintro e w1 ⟨rfl, rfl⟩
    rw [h1]
    go_wp2_with fail
    refine (l1Group_any _ _).mono ?_
    rintro e w1 ⟨rfl, rfl⟩
    go_wp2_with fail
    go_ret
    exact ⟨ret_bool hdef.out.symm, s1.out⟩
/-- Is stamp number i of a round in order? -/
def gotAt (gs : List Int) (ss : List (Int × Int)) (i : Nat) : Bool :=
  stOk (ss.getD i (0, 0)) && (has gs (ss.getD i (0, 0)).2 && (decide (i = 0) || decide ((ss.getD (i - 1) (0, 0)).2 < (ss.getD i (0, 0)).2)))
def gotOk (gs : List Int) (ss : List (Int × Int)) (k : Nat) : Bool := (List.range k).all (gotAt gs ss)
def rdValid (m : Int) (gs : List Int) (ss : List (Int × Int)) : Bool := (isMsg m && gset gs) && gotOk gs ss ss.length
theorem gotOk_succ {gs : List Int} {ss : List (Int × Int)} {k : Nat} (h : gotOk gs ss k = true) : gotOk gs ss (k + 1) = gotAt gs ss k := by
  unfold gotOk at h ⊢
  rw [List.range_succ, List.all_append, h]; simp
theorem gotOk_bad {gs : List Int} {ss : List (Int × Int)} {k n : Nat} (h : gotAt gs ss k = false) (hk : k < n) : gotOk gs ss n = false := by
  unfold gotOk
  rw [Bool.eq_false_iff]
  intro ha
  rw [List.all_eq_true] at ha
  have := ha k (List.mem_range.2 hk)
  rw [h] at this; cases this
theorem getD_of {α : Type} {xs : List α} {k : Nat} {x d : α} (h : xs[k]? = some x) : xs.getD k d = x := by rw [List.getD_eq_getElem?_getD, h]; rfl
theorem gotAt_zero {gs : List Int} {ss : List (Int × Int)} {s : Int × Int} (h : ss[0]? = some s) : gotAt gs ss 0 = (stOk s && has gs s.2) := by
  simp [gotAt, h]
theorem gotAt_next {gs : List Int} {ss : List (Int × Int)} {j : Nat} {s p : Int × Int} (h : ss[j + 1]? = some s) (h' : ss[j]? = some p) : gotAt gs ss (j + 1) = (stOk s && (has gs s.2 && decide (p.2 < s.2))) := by
  simp [gotAt, h, h']
theorem gotAt_stamp {gs : List Int} {ss : List (Int × Int)} {k : Nat} {s : Int × Int} (h : ss[k]? = some s) (h1 : stOk s = false) : gotAt gs ss k = false := by
  simp [gotAt, h, h1]
theorem gotAt_has {gs : List Int} {ss : List (Int × Int)} {k : Nat} {s : Int × Int} (h : ss[k]? = some s) (h1 : has gs s.2 = false) : gotAt gs ss k = false := by
  simp [gotAt, h, h1]
theorem roundOf_any (m : Int) (A B : Option Addr) (n c q d : Nat) (w : World) : Calls Try.prog 59 #[rdV m A n c B q d] w fun e w' => e = .returned (.agg #[.slice A n c, .slice B q d]) ∧ St w w' := by
  have s1 := hid (((St.refl w).alloc (.cells #[.int .i64 m, .slice A n c, .slice B q d] 25)).alloc (.cells #[.slice A n c, .slice B q d] 70))
  go_enter Try.func59, Try.ntmps59
  go_wp2_with fail
  refine bodyPost_ret (v := .agg #[.slice A n c, .slice B q d]) (by simp [results, Try.results59, go_sem]) rfl ⟨rfl, s1.out⟩
set_option maxRecDepth 100000 in
set_option maxHeartbeats 4000000 in
theorem RoundValid_any (m : Int) (A B : Option Addr) (n c q d : Nat) (xs : List Int) (ss : List (Int × Int)) (w : World) (h : SL w A n c xs) (h' : SS w B q d ss) (hn : n ≤ 1048576) :
    Calls Try.prog 27 #[rdV m A n c B q d] w fun e w' => e = .returned (.bool (rdValid m xs ss)) ∧ St w w' := by
  have hdef := hid (show rdValid m xs ss = ((isMsg m && gset xs) && gotOk xs ss ss.length) from rfl)
  have HL := hid h'.len
  rw [HL.out] at hdef
  have hqd := h'.nc
  have hdm := h'.cm
  unfold maxLen at hdm
  have s0 := hid ((St.refl w).alloc (.cells #[.int .i64 m, .slice A n c, .slice B q d] 25))
  have K0 := hid (Blk.new w 25 #[.int .i64 m, .slice A n c, .slice B q d])
  go_enter Try.func27, Try.ntmps27
  go_wp2_with fail
  refine (roundOf_any _ _ _ _ _ _ _ _).mono ?_
  rintro e w1 ⟨rfl, s1⟩
  have S2 := hid ((s0.out.trans s1).alloc (.cells #[.slice A n c, .slice B q d] 70))
  have K2 := hid ((K0.out.below s1 K0.out.lt).alloc (.cells #[.slice A n c, .slice B q d] 70))
  have C2 := hid (Blk.new w1 70 #[.slice A n c, .slice B q d])
  have q0 := K2.out.cell_ (i := 0) (v := .int .i64 m) rfl
  have q2 := K2.out.cell_ (i := 2) (v := .slice B q d) rfl
  have h2 := h.st S2.out
  clear K0 s0 s1
  cases hm : isMsg m
  · have HF := hid (hdef.out.trans (by rw [hm]; rfl : _ = false))
    go_wp2_with fail
    refine (isMessage_any _ _).mono ?_
    rintro e w2 ⟨rfl, rfl⟩
    rw [hm]
    go_wp2_with fail
    go_ret
    exact ⟨ret_bool HF.out.symm, S2.out⟩
  cases hg : gset xs
  · have HF := hid (hdef.out.trans (by rw [hm, hg]; rfl : _ = false))
    go_wp2_with fail
    refine (isMessage_any _ _).mono ?_
    rintro e w2 ⟨rfl, rfl⟩
    rw [hm]
    go_wp2_with fail
    refine (validSet_any _ _ _ _ _ _ h2.ri (by omega)).mono ?_
    rintro e w2 ⟨rfl, d2⟩
    rw [hg]
    go_wp2_with fail
    go_ret
    exact ⟨ret_bool HF.out.symm, S2.out.dr d2⟩
  rw [hm, hg, Bool.and_self, Bool.true_and] at hdef
  go_wp2_with fail
  refine (isMessage_any _ _).mono ?_
  rintro e w2 ⟨rfl, rfl⟩
  rw [hm]
  go_wp2_with fail
  refine (validSet_any _ _ _ _ _ _ h2.ri (by omega)).mono ?_
  rintro e w2 ⟨rfl, d2⟩
  rw [hg]
  have HZ := hid (show w1.heap.size < (w1.alloc (.cells #[.slice A n c, .slice B q d] 70)).heap.size by simp)
  have S3 := hid (S2.out.dr d2)
  have K3 := hid (K2.out.dr d2)
  have C3 := hid (C2.out.dr d2)
  clear S2 K2 C2 q0 q2 h2 hm hg d2 HZ
  have q2 := K3.out.cell_ (i := 2) (v := .slice B q d) rfl
  go_wp2_with fail
  clear q2
  go_loopw [21] (fun i wr => ∃ k : Nat, k ≤ q ∧ i = .int .i64 k ∧ Hid (gotOk xs ss k = true) ∧ Hid (St w2 wr)) (fun i _ => q - (intOf i).toNat)
  case atStart => exact ⟨0, Nat.zero_le _, rfl, hid rfl, St.refl _⟩
  case round =>
    obtain ⟨k, hk, rfl, hno, hd⟩ := hrel
    by_cases hlt : k < q
    · obtain ⟨ad, t, g, rfl, hb1, hc1, hc2, hx⟩ := ((h'.st S3.out).st hd.out).at_ hlt
      have S4 := hid ((S3.out.trans hd.out).alloc (.cells #[.int .i64 t, .int .i64 g] 45))
      have T4 := hid (hd.out.alloc (.cells #[.int .i64 t, .int .i64 g] 45))
      have K4 := hid ((K3.out.below hd.out K3.out.lt).alloc (.cells #[.int .i64 t, .int .i64 g] 45))
      have C4 := hid ((C3.out.below hd.out C3.out.lt).alloc (.cells #[.int .i64 t, .int .i64 g] 45))
      have B4 := hid (Blk.new wr 45 #[.int .i64 t, .int .i64 g])
      have hki : (0 : Int) ≤ (k : Int) := by omega
      have hki2 : (k : Int) < (q : Int) := by omega
      have hsu := hid (gotOk_succ hno.out)
      have h4 := h.st S4.out
      have z0 := cell_regrown (B4.out.cell_ (i := 0) (v := .int .i64 t) rfl)
      have z1 := cell_regrown (B4.out.cell_ (i := 1) (v := .int .i64 g) rfl)
      have z2 := cell_regrown (C4.out.cell_ (i := 0) (v := .slice A n c) rfl)
      have z3 := cell_regrown (K4.out.cell_ (i := 2) (v := .slice (some ad) q d) rfl)
      have HV := hid (fun (d2 : Nat) (os : Array Obj) => Calls.regrown_of (StampValid_any t g (grow (redrawn (wr.alloc (.cells #[.int .i64 t, .int .i64 g] 45)) d2) os)))
      have HH := hid (fun (d2 : Nat) (os : Array Obj) => Calls.regrown_of ((hasSet_any A n c _ xs g (grow (redrawn (wr.alloc (.cells #[.int .i64 t, .int .i64 g] 45)) d2) os) (h4.st (below_regrown _ d2 os)).ri (by omega)).mono fun e w' ⟨a, b⟩ => ⟨a, by rw [← b]; exact Below.refl _ _⟩))
      cases hv : stOk (t, g)
      · have hbad := hid (hdef.out.trans (gotOk_bad (gotAt_stamp hx.out hv) hlt))
        rw [hv] at HV
        go_wp2_with fail
        refine wp_region_quiet_below (by kernel_rfl) (by kernel_rfl) ?_
        repeat (first | go_big_quiet_step ((first | exact HV.out _ _ | exact HH.out _ _)) | quiet_step ((first | exact HV.out _ _ | exact HH.out _ _)))
        refine wpQuiet_nil ?_
        intro _ hw'
        obtain ⟨⟨nd, ns⟩, hw''⟩ := hw'
        subst hw''
        have s5 := below_regrown (wr.alloc (.cells #[.int .i64 t, .int .i64 g] 45)) nd ns
        generalize grow (redrawn (wr.alloc (.cells #[.int .i64 t, .int .i64 g] 45)) nd) ns = w5 at s5 ⊢
        go_wp2_with fail
        go_ret
        exact ⟨ret_bool hbad.out.symm, S4.out.trans s5⟩
      cases hh : has xs g
      · have hbad := hid (hdef.out.trans (gotOk_bad (gotAt_has hx.out hh) hlt))
        rw [hv] at HV
        rw [hh] at HH
        go_wp2_with fail
        refine wp_region_quiet_below (by kernel_rfl) (by kernel_rfl) ?_
        repeat (first | go_big_quiet_step ((first | exact HV.out _ _ | exact HH.out _ _)) | quiet_step ((first | exact HV.out _ _ | exact HH.out _ _)))
        refine wpQuiet_nil ?_
        intro _ hw'
        obtain ⟨⟨nd, ns⟩, hw''⟩ := hw'
        subst hw''
        have s5 := below_regrown (wr.alloc (.cells #[.int .i64 t, .int .i64 g] 45)) nd ns
        generalize grow (redrawn (wr.alloc (.cells #[.int .i64 t, .int .i64 g] 45)) nd) ns = w5 at s5 ⊢
        go_wp2_with fail
        go_ret
        exact ⟨ret_bool hbad.out.symm, S4.out.trans s5⟩
      rw [hv] at HV
      rw [hh] at HH
      rcases k with _ | j
      · have hz : decide ((0 : Int) < ((0 : Nat) : Int)) = false := by simp
        have hok := hid (hsu.out.trans (by rw [gotAt_zero hx.out, hv, hh]; rfl : _ = true))
        clear hv hh
        have hc10 : wr.cell? ad = some (.int .i64 t) := by rw [Nat.zero_mul, add_zero] at hc1; exact hc1
        have hc20 : wr.cell? ⟨ad.block, ad.off + 1, none⟩ = some (.int .i64 g) := by rw [Nat.zero_mul, add_zero] at hc2; exact hc2
        go_wp2_with fail
        refine wp_region_quiet_below (by kernel_rfl) (by kernel_rfl) ?_
        repeat (first | go_big_quiet_step ((first | exact HV.out _ _ | exact HH.out _ _)) | quiet_step ((first | exact HV.out _ _ | exact HH.out _ _)))
        refine wpQuiet_nil ?_
        intro _ hw'
        obtain ⟨⟨nd, ns⟩, hw''⟩ := hw'
        subst hw''
        have s5 := below_regrown (wr.alloc (.cells #[.int .i64 t, .int .i64 g] 45)) nd ns
        generalize grow (redrawn (wr.alloc (.cells #[.int .i64 t, .int .i64 g] 45)) nd) ns = w5 at s5 ⊢
        go_wp2_with fail
        go_roundw
        case rel => exact ⟨1, by omega, by go_num, hok, T4.out.trans s5⟩
        case measure => simp [intOf]; omega
      · obtain ⟨ad', t', g', he, hb1', hc1', hc2', hx'⟩ := ((h'.st S3.out).st hd.out).at_ (k := j) (by omega)
        injection he with he
        subst he
        have z4 := cell_regrown (((St.refl wr).alloc (.cells #[.int .i64 t, .int .i64 g] 45)).cell hc2')
        have q1 : IntKind.i64.wrap (j : Int) = (j : Int) := IntWalk.i64_in _ (by omega)
        have q2 : ((j : Int) + 1).toNat = j + 1 := by omega
        have q3 : (0 : Int) ≤ (j : Int) + 1 := by omega
        have q4 : (j : Int) + 1 < (q : Int) := by omega
        have q5 : (0 : Int) < (j : Int) + 1 := by omega
        have q6 : (j : Int) < (q : Int) := by omega
        have q7 : decide ((0 : Int) < (j : Int) + 1) = true := decide_eq_true q5
        clear hki hki2
        by_cases hlt2 : g' < g
        · have hok := hid (hsu.out.trans (by rw [gotAt_next hx.out hx'.out, hv, hh]; simp [hlt2] : _ = true))
          have hd1 : decide (g ≤ g') = false := by simp <;> omega
          clear hv hh hlt2
          go_wp2_with fail
          refine wp_region_quiet_below (by kernel_rfl) (by kernel_rfl) ?_
          repeat (first | go_big_quiet_step ((first | exact HV.out _ _ | exact HH.out _ _)) | quiet_step ((first | exact HV.out _ _ | exact HH.out _ _)))
          refine wpQuiet_nil ?_
          intro _ hw'
          obtain ⟨⟨nd, ns⟩, hw''⟩ := hw'
          subst hw''
          have s5 := below_regrown (wr.alloc (.cells #[.int .i64 t, .int .i64 g] 45)) nd ns
          generalize grow (redrawn (wr.alloc (.cells #[.int .i64 t, .int .i64 g] 45)) nd) ns = w5 at s5 ⊢
          clear q1 q2 q7
          go_wp2_with fail
          go_roundw
          case rel => exact ⟨j + 1 + 1, by omega, by go_num, hok, T4.out.trans s5⟩
          case measure => simp [intOf]; omega
        · have hbad := hid (hdef.out.trans (gotOk_bad (by rw [gotAt_next hx.out hx'.out, hv, hh]; simp <;> omega : gotAt xs ss (j + 1) = false) hlt))
          have hd1 : decide (g ≤ g') = true := by simp <;> omega
          clear hv hh hlt2
          go_wp2_with fail
          refine wp_region_quiet_below (by kernel_rfl) (by kernel_rfl) ?_
          repeat (first | go_big_quiet_step ((first | exact HV.out _ _ | exact HH.out _ _)) | quiet_step ((first | exact HV.out _ _ | exact HH.out _ _)))
          refine wpQuiet_nil ?_
          intro _ hw'
          obtain ⟨⟨nd, ns⟩, hw''⟩ := hw'
          subst hw''
          have s5 := below_regrown (wr.alloc (.cells #[.int .i64 t, .int .i64 g] 45)) nd ns
          generalize grow (redrawn (wr.alloc (.cells #[.int .i64 t, .int .i64 g] 45)) nd) ns = w5 at s5 ⊢
          clear q1 q2 q7
          go_wp2_with fail
          go_ret
          exact ⟨ret_bool hbad.out.symm, S4.out.trans s5⟩
    · obtain rfl : k = q := by omega
      have hfin := hid (hdef.out.trans hno.out)
      go_wp2_with fail
      go_ret
      exact ⟨ret_bool hfin.out.symm, S3.out.trans hd.out⟩
set_option maxRecDepth 100000 in
set_option maxHeartbeats 4000000 in
theorem specRoundValid_any (m : Int) (A B : Option Addr) (n c q d : Nat) (xs : List Int) (ss : List (Int × Int)) (w : World) (h : SL w A n c xs) (h' : SS w B q d ss) (hn : n ≤ 1048576) :
    Calls Try.prog 25 #[rdV m A n c B q d] w fun e w' => e = .returned (.bool (rdValid m xs ss)) ∧ St w w' := by
  have hdef := hid (show rdValid m xs ss = ((isMsg m && gset xs) && gotOk xs ss ss.length) from rfl)
  have HL := hid h'.len
  rw [HL.out] at hdef
  have hqd := h'.nc
  have hdm := h'.cm
  unfold maxLen at hdm
  have S3 := hid ((St.refl w).alloc (.cells #[.int .i64 m, .slice A n c, .slice B q d] 25))
  have K3 := hid (Blk.new w 25 #[.int .i64 m, .slice A n c, .slice B q d])
  go_enter Try.func25, Try.ntmps25
  go_wp2_with fail
  generalize w.alloc (.cells #[.int .i64 m, .slice A n c, .slice B q d] 25) = w2 at S3 K3 ⊢
  go_loopw [3] (fun i wr => ∃ k : Nat, k ≤ q ∧ i = .int .i64 k ∧ Hid (gotOk xs ss k = true) ∧ Hid (St w2 wr)) (fun i _ => q - (intOf i).toNat)
  case atStart => exact ⟨0, Nat.zero_le _, rfl, hid rfl, St.refl _⟩
  case round =>
    obtain ⟨k, hk, rfl, hno, hd⟩ := hrel
    have S4 := hid (S3.out.trans hd.out)
    have K4 := hid (K3.out.below hd.out K3.out.lt)
    have q2 := K4.out.cell_ (i := 2) (v := .slice B q d) rfl
    by_cases hlt : k < q
    · obtain ⟨ad, t, g, rfl, hb1, hc1, hc2, hx⟩ := (h'.st S4.out).at_ hlt
      have hki : (0 : Int) ≤ (k : Int) := by omega
      have hki2 : (k : Int) < (q : Int) := by omega
      have hsu := hid (gotOk_succ hno.out)
      have h4 := h.st S4.out
      have z0 := cell_regrown hc1
      have z1 := cell_regrown hc2
      have z2 := cell_regrown (K4.out.cell_ (i := 1) (v := .slice A n c) rfl)
      have z3 := cell_regrown q2
      have HV := hid (fun (d2 : Nat) (os : Array Obj) => Calls.regrown_of (specStampValid_any t g (grow (redrawn wr d2) os)))
      have HH := hid (fun (d2 : Nat) (os : Array Obj) => Calls.regrown_of ((l1Has_any A n c _ xs g (grow (redrawn wr d2) os) (h4.st (below_regrown _ d2 os)).ri (by omega)).mono fun e w' ⟨a, b⟩ => ⟨a, by rw [← b]; exact Below.refl _ _⟩))
      rcases k with _ | j
      · have hz : decide ((0 : Int) < ((0 : Nat) : Int)) = false := by simp
        have hc10 : wr.cell? ad = some (.int .i64 t) := by rw [Nat.zero_mul, add_zero] at hc1; exact hc1
        have hc20 : wr.cell? ⟨ad.block, ad.off + 1, none⟩ = some (.int .i64 g) := by rw [Nat.zero_mul, add_zero] at hc2; exact hc2
        have z5 := cell_regrown hc10
        have z6 := cell_regrown hc20
        cases hv : stOk (t, g)
        · have hbad := hid (hdef.out.trans (by rw [gotOk_bad (gotAt_stamp hx.out hv) hlt, Bool.and_false]))
          rw [hv] at HV
          go_wp2_with fail
          refine wp_region_quiet_below (by kernel_rfl) (by kernel_rfl) ?_
          repeat (first | go_big_quiet_step ((first | exact HV.out _ _ | exact HH.out _ _)) | quiet_step ((first | exact HV.out _ _ | exact HH.out _ _)))
          refine wpQuiet_nil ?_
          intro _ hw'
          obtain ⟨⟨nd, ns⟩, hw''⟩ := hw'
          subst hw''
          have s5 := below_regrown (wr) nd ns
          generalize grow (redrawn (wr) nd) ns = w5 at s5 ⊢
          go_wp2_with fail
          go_ret
          exact ⟨ret_bool hbad.out.symm, S4.out.trans s5⟩
        cases hh : has xs g
        · have hbad := hid (hdef.out.trans (by rw [gotOk_bad (gotAt_has hx.out hh) hlt, Bool.and_false]))
          rw [hv] at HV
          rw [hh] at HH
          go_wp2_with fail
          refine wp_region_quiet_below (by kernel_rfl) (by kernel_rfl) ?_
          repeat (first | go_big_quiet_step ((first | exact HV.out _ _ | exact HH.out _ _)) | quiet_step ((first | exact HV.out _ _ | exact HH.out _ _)))
          refine wpQuiet_nil ?_
          intro _ hw'
          obtain ⟨⟨nd, ns⟩, hw''⟩ := hw'
          subst hw''
          have s5 := below_regrown (wr) nd ns
          generalize grow (redrawn (wr) nd) ns = w5 at s5 ⊢
          go_wp2_with fail
          go_ret
          exact ⟨ret_bool hbad.out.symm, S4.out.trans s5⟩
        rw [hv] at HV
        rw [hh] at HH
        have hok := hid (hsu.out.trans (by rw [gotAt_zero hx.out, hv, hh]; rfl : _ = true))
        clear hv hh
        go_wp2_with fail
        refine wp_region_quiet_below (by kernel_rfl) (by kernel_rfl) ?_
        repeat (first | go_big_quiet_step ((first | exact HV.out _ _ | exact HH.out _ _)) | quiet_step ((first | exact HV.out _ _ | exact HH.out _ _)))
        refine wpQuiet_nil ?_
        intro _ hw'
        obtain ⟨⟨nd, ns⟩, hw''⟩ := hw'
        subst hw''
        have s5 := below_regrown (wr) nd ns
        generalize grow (redrawn (wr) nd) ns = w5 at s5 ⊢
        go_wp2_with fail
        go_roundw
        case rel => exact ⟨1, by omega, by go_num, hok, hd.out.trans s5⟩
        case measure => simp [intOf]; omega
      · obtain ⟨ad', t', g', he, hb1', hc1', hc2', hx'⟩ := (h'.st S4.out).at_ (k := j) (by omega)
        injection he with he
        subst he
        have z4 := cell_regrown hc2'
        have q1 : IntKind.i64.wrap (j : Int) = (j : Int) := IntWalk.i64_in _ (by omega)
        have q2 : ((j : Int) + 1).toNat = j + 1 := by omega
        have q3 : (0 : Int) ≤ (j : Int) + 1 := by omega
        have q4 : (j : Int) + 1 < (q : Int) := by omega
        have q5 : (0 : Int) < (j : Int) + 1 := by omega
        have q6 : (j : Int) < (q : Int) := by omega
        have q7 : decide ((0 : Int) < (j : Int) + 1) = true := decide_eq_true q5
        clear hki hki2
        cases hv : stOk (t, g)
        · have hbad := hid (hdef.out.trans (by rw [gotOk_bad (gotAt_stamp hx.out hv) hlt, Bool.and_false]))
          rw [hv] at HV
          go_wp2_with fail
          refine wp_region_quiet_below (by kernel_rfl) (by kernel_rfl) ?_
          repeat (first | go_big_quiet_step ((first | exact HV.out _ _ | exact HH.out _ _)) | quiet_step ((first | exact HV.out _ _ | exact HH.out _ _)))
          refine wpQuiet_nil ?_
          intro _ hw'
          obtain ⟨⟨nd, ns⟩, hw''⟩ := hw'
          subst hw''
          have s5 := below_regrown (wr) nd ns
          generalize grow (redrawn (wr) nd) ns = w5 at s5 ⊢
          clear q1 q2 q7
          go_wp2_with fail
          go_ret
          exact ⟨ret_bool hbad.out.symm, S4.out.trans s5⟩
        cases hh : has xs g
        · have hbad := hid (hdef.out.trans (by rw [gotOk_bad (gotAt_has hx.out hh) hlt, Bool.and_false]))
          rw [hv] at HV
          rw [hh] at HH
          go_wp2_with fail
          refine wp_region_quiet_below (by kernel_rfl) (by kernel_rfl) ?_
          repeat (first | go_big_quiet_step ((first | exact HV.out _ _ | exact HH.out _ _)) | quiet_step ((first | exact HV.out _ _ | exact HH.out _ _)))
          refine wpQuiet_nil ?_
          intro _ hw'
          obtain ⟨⟨nd, ns⟩, hw''⟩ := hw'
          subst hw''
          have s5 := below_regrown (wr) nd ns
          generalize grow (redrawn (wr) nd) ns = w5 at s5 ⊢
          clear q1 q2 q7
          go_wp2_with fail
          go_ret
          exact ⟨ret_bool hbad.out.symm, S4.out.trans s5⟩
        rw [hv] at HV
        rw [hh] at HH
        by_cases hlt2 : g' < g
        · have hok := hid (hsu.out.trans (by rw [gotAt_next hx.out hx'.out, hv, hh]; simp [hlt2] : _ = true))
          have hd1 : decide (g ≤ g') = false := by simp <;> omega
          clear hv hh hlt2
          go_wp2_with fail
          refine wp_region_quiet_below (by kernel_rfl) (by kernel_rfl) ?_
          repeat (first | go_big_quiet_step ((first | exact HV.out _ _ | exact HH.out _ _)) | quiet_step ((first | exact HV.out _ _ | exact HH.out _ _)))
          refine wpQuiet_nil ?_
          intro _ hw'
          obtain ⟨⟨nd, ns⟩, hw''⟩ := hw'
          subst hw''
          have s5 := below_regrown (wr) nd ns
          generalize grow (redrawn (wr) nd) ns = w5 at s5 ⊢
          clear q1 q2 q7
          go_wp2_with fail
          go_roundw
          case rel => exact ⟨j + 1 + 1, by omega, by go_num, hok, hd.out.trans s5⟩
          case measure => simp [intOf]; omega
        · have hbad := hid (hdef.out.trans (by rw [gotOk_bad (by rw [gotAt_next hx.out hx'.out, hv, hh]; simp <;> omega : gotAt xs ss (j + 1) = false) hlt, Bool.and_false]))
          have hd1 : decide (g ≤ g') = true := by simp <;> omega
          clear hv hh hlt2
          go_wp2_with fail
          refine wp_region_quiet_below (by kernel_rfl) (by kernel_rfl) ?_
          repeat (first | go_big_quiet_step ((first | exact HV.out _ _ | exact HH.out _ _)) | quiet_step ((first | exact HV.out _ _ | exact HH.out _ _)))
          refine wpQuiet_nil ?_
          intro _ hw'
          obtain ⟨⟨nd, ns⟩, hw''⟩ := hw'
          subst hw''
          have s5 := below_regrown (wr) nd ns
          generalize grow (redrawn (wr) nd) ns = w5 at s5 ⊢
          clear q1 q2 q7
          go_wp2_with fail
          go_ret
          exact ⟨ret_bool hbad.out.symm, S4.out.trans s5⟩
    · obtain rfl : k = q := by omega
      rw [hno.out, Bool.and_true] at hdef
      have h4 := h.st S4.out
      have q0 := K4.out.cell_ (i := 0) (v := .int .i64 m) rfl
      have q1 := K4.out.cell_ (i := 1) (v := .slice A n c) rfl
      cases hm : isMsg m
      · rw [hm, Bool.false_and] at hdef
        go_wp2_with fail
        refine (l11Message_any _ _).mono ?_
        rintro e w5 ⟨rfl, rfl⟩
        rw [hm]
        go_wp2_with fail
        go_ret
        exact ⟨ret_bool hdef.out.symm, S4.out⟩
      · rw [hm, Bool.true_and] at hdef
        go_wp2_with fail
        refine (l11Message_any _ _).mono ?_
        rintro e w5 ⟨rfl, rfl⟩
        rw [hm]
        go_wp2_with fail
        refine (specGroupsValid_any _ _ _ _ _ _ h4.ri (by omega)).mono ?_
        rintro e w5 ⟨rfl, d5⟩
        go_wp2_with fail
        go_ret
        exact ⟨ret_bool hdef.out.symm, S4.out.dr d5⟩
end Go.Proofs.Ytldclkjknhjbfaa
