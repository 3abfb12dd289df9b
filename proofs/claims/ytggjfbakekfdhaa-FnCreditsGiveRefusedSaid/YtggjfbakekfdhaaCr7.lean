/- CreditsOrdered, both. -/
import Derived.Test.YtggjfbakekfdhaaCr6
namespace Go.Proofs.Ytggjfbakekfdhaa
open Go.RowKit

/-- Is a hold ordered: does it not wait for a group before its last? -/
def ordOk (h : List Int × Int) : Bool := !(decide (0 ≤ h.2) && (decide (0 < h.1.length) && decide (h.2 < h.1.getD (h.1.length - 1) 0)))
def crOrd (free : List Int) (hs : List (List Int × Int)) : Bool := crValid free hs && hs.all ordOk
theorem ord_take {hs : List (List Int × Int)} {k : Nat} {h : List Int × Int} (hk : hs[k]? = some h) (ht : (hs.take k).all ordOk = true) : (hs.take (k + 1)).all ordOk = ordOk h := by
  rw [take_snoc hk, List.all_append, ht]; simp
theorem ord_bad {hs : List (List Int × Int)} {k : Nat} {h : List Int × Int} (hk : hs[k]? = some h) (ht : ordOk h = false) : hs.all ordOk = false := by
  rw [Bool.eq_false_iff]
  intro ha
  rw [List.all_eq_true] at ha
  have := ha h (List.mem_of_getElem? hk)
  rw [ht] at this; cases this
theorem crValid_wait {fs : List Int} {hs : List (List Int × Int)} {k : Nat} {h : List Int × Int} (hv : crValid fs hs = true) (hk : hs[k]? = some h) : h.2 = -1 ∨ (0 ≤ h.2 ∧ h.2 ≤ 4) := by
  simp only [crValid, Bool.and_eq_true, List.all_eq_true] at hv
  have := hv.2.2 h (List.mem_of_getElem? hk)
  simp only [holdOk, Bool.and_eq_true, waitOk, Bool.or_eq_true, beq_iff_eq, inB_iff] at this
  rcases this.2 with h | h
  · exact .inl h
  · have h3 := h.1
    first | exact .inr ⟨h3.1, h3.2⟩ | exact .inr ⟨by omega, by omega⟩
theorem crValid_len {fs : List Int} {hs : List (List Int × Int)} (hv : crValid fs hs = true) : hs.length ≤ 6 := by
  simp only [crValid, Bool.and_eq_true, inB_iff] at hv
  omega
set_option maxHeartbeats 2000000 in
theorem CreditsOrdered_any (A B : Option Addr) (n c m d : Nat) (fs : List Int) (hs : List (List Int × Int)) (w : World) (h : SL w A n c fs) (h' : SH w B m d hs) (hn : n ≤ 1048576) (hm2 : ∀ x ∈ hs, x.1.length ≤ 1048576) :
    Calls Try.prog 25 #[crV A n c B m d] w fun e w' => e = .returned (.bool (crOrd fs hs)) ∧ St w w' := by
  have HM2 := hid hm2
  clear hm2
  have s0 := (St.refl w).alloc (.cells #[.slice A n c, .slice B m d] 25)
  have h1 := h.st s0
  have h1' := h'.st s0
  have HB := hid (Blk.new w 25 #[.slice A n c, .slice B m d])
  have q0 := HB.out.cell_ (i := 0) (v := .slice A n c) rfl
  have q1 := HB.out.cell_ (i := 1) (v := .slice B m d) rfl
  have hdef := hid (show crOrd fs hs = (crValid fs hs && hs.all ordOk) from rfl)
  have HL := hid h'.len
  cases hv : crValid fs hs
  · rw [hv, Bool.false_and] at hdef
    go_enter Try.func25, Try.ntmps25
    go_wp2_with fail
    refine (CreditsValid_any _ _ _ _ _ _ _ _ _ h1 h1' hn HM2.out).mono ?_
    rintro e w1 ⟨rfl, s1⟩
    rw [hv]
    go_wp2_with fail
    go_ret
    exact ⟨ret_bool hdef.out.symm, s0.trans s1⟩
  · rw [hv, Bool.true_and] at hdef
    have HV := hid hv
    have hm6 := crValid_len hv
    rw [HL.out] at hm6
    go_enter Try.func25, Try.ntmps25
    go_wp2_with fail
    refine (CreditsValid_any _ _ _ _ _ _ _ _ _ h1 h1' hn HM2.out).mono ?_
    rintro e w1 ⟨rfl, s1⟩
    rw [HV.out]
    have S1 := s0.trans s1
    have K1 := HB.out.below s1 HB.out.lt
    have r1 := K1.cell_ (i := 1) (v := .slice B m d) rfl
    have HS1 := hid S1
    clear q0 q1 s0 s1 h1 h1' HB S1
    go_wp2_with fail
    go_loopw [11] (fun i wr => ∃ k : Nat, k ≤ m ∧ i = .int .i64 k ∧ Hid ((hs.take k).all ordOk = true) ∧ St w wr) (fun i _ => m - (intOf i).toNat)
    case atStart => exact ⟨0, Nat.zero_le _, rfl, rfl, HS1.out⟩
    case round =>
      obtain ⟨k, hk, rfl, hno, hd⟩ := hrel
      rename_i wr
      have hr := h'.st hd
      by_cases hlt : k < m
      · obtain ⟨ad, Ak, nk, ck, xs, t, rfl, hb1, hc1, hc2, hx, hsk⟩ := hr.at_ hlt
        have hw := crValid_wait HV.out hx.out
        have hs1 := hd.alloc (.cells #[.slice Ak nk ck, .int .i64 t] 38)
        have K := Blk.new wr 38 #[.slice Ak nk ck, .int .i64 t]
        have k0 := K.cell_ (i := 0) (v := .slice Ak nk ck) rfl
        have k1 := K.cell_ (i := 1) (v := .int .i64 t) rfl
        have hki : (0 : Int) ≤ (k : Int) := by omega
        have hki2 : (k : Int) < (m : Int) := by omega
        rcases hw with ht | ⟨ht1, ht2⟩
        · have ht : t = -1 := ht
          subst ht
          have hok := hid ((ord_take hx.out hno.out).trans (show ordOk (xs, -1) = true by unfold ordOk; rw [show decide ((0:Int) ≤ (xs, (-1 : Int)).2) = false from rfl]; rfl))
          go_wp2_with fail
          go_quiet (fail)
          go_wp2_with fail
          go_roundw
          case rel => exact ⟨k + 1, by omega, by go_num, hok, hs1.dr ⟨_, rfl⟩⟩
          case measure => simp [intOf]; omega
        · have ht1 : 0 ≤ t := ht1
          have ht2 : t ≤ 4 := ht2
          have hne1 : (t == -1) = false := by simp; omega
          have hne2 := neg_ne hne1
          by_cases hnk : nk = 0
          · subst hnk
            have hxs : xs = [] := List.length_eq_zero_iff.1 hsk.len
            have hok := hid ((ord_take hx.out hno.out).trans (show ordOk (xs, t) = true by rw [hxs]; simp [ordOk]))
            go_wp2_with fail
            go_quiet (fail)
            go_wp2_with fail
            go_roundw
            case rel => exact ⟨k + 1, by omega, by go_num, hok, hs1.dr ⟨_, rfl⟩⟩
            case measure => simp [intOf]; omega
          · obtain ⟨q, rfl⟩ : ∃ q, nk = q + 1 := ⟨nk - 1, by omega⟩
            have hnk1 : (0 : Int) < ((q + 1 : Nat) : Int) := by omega
            obtain ⟨af, y, rfl, hbf, hxf, hcf⟩ := RI.at_ (k := q) hsk.ri (by omega)
            have hqm := hsk.cm
            have hqn := hsk.nc
            unfold maxLen at hqm
            have e1 : IntKind.i64.wrap (((q + 1 : Nat) : Int) - 1) = (q : Int) := by rw [show ((q + 1 : Nat) : Int) - 1 = (q : Int) by omega]; exact IntWalk.i64_in _ (by omega)
            have e2 : (0 : Int) ≤ (q : Int) := by omega
            have e3 : (q : Int) < ((q + 1 : Nat) : Int) := by omega
            have hcf' := (((St.refl wr).alloc (.cells #[.slice (some af) (q + 1) ck, .int .i64 t] 38)).cell hcf)
            have hdd : ordOk (xs, t) = !(decide (t < y)) := by
              have h1 : xs.length = q + 1 := hsk.len
              have h2 : xs.getD q 0 = y := by rw [List.getD_eq_getElem?_getD, hxf.out]; rfl
              simp only [ordOk, h1, Nat.add_sub_cancel, h2]
              simp [ht1]
            by_cases hlt2 : t < y
            · have hbad := hid (hdef.out.trans (ord_bad hx.out (show ordOk (xs, t) = false by rw [hdd]; simp [hlt2])))
              go_wp2_with fail
              go_quiet (fail)
              go_wp2_with fail
              go_ret
              exact ⟨ret_bool hbad.out.symm, hs1.dr ⟨_, rfl⟩⟩
            · have hok := hid ((ord_take hx.out hno.out).trans (show ordOk (xs, t) = true by rw [hdd]; simp [hlt2]))
              go_wp2_with fail
              go_quiet (fail)
              go_wp2_with fail
              go_roundw
              case rel => exact ⟨k + 1, by omega, by go_num, hok, hs1.dr ⟨_, rfl⟩⟩
              case measure => simp [intOf]; omega
      · obtain rfl : k = m := by omega
        have hfin : Hid (crOrd fs hs = true) := by
          have := hno.out
          rw [List.take_of_length_le (by rw [HL.out]; omega)] at this
          exact hdef.out.trans this
        go_wp2_with fail
        go_ret
        exact ⟨ret_bool hfin.out.symm, hd⟩
set_option maxHeartbeats 2000000 in
theorem specCreditsOrdered_any (A B : Option Addr) (n c m d : Nat) (fs : List Int) (hs : List (List Int × Int)) (w : World) (h : SL w A n c fs) (h' : SH w B m d hs) (hn : n ≤ 1048576) (hm2 : ∀ x ∈ hs, x.1.length ≤ 1048576) :
    Calls Try.prog 30 #[crV A n c B m d] w fun e w' => e = .returned (.bool (crOrd fs hs)) ∧ St w w' := by
  have HM2 := hid hm2
  clear hm2
  have s0 := (St.refl w).alloc (.cells #[.slice A n c, .slice B m d] 25)
  have h1 := h.st s0
  have h1' := h'.st s0
  have HB := hid (Blk.new w 25 #[.slice A n c, .slice B m d])
  have q0 := HB.out.cell_ (i := 0) (v := .slice A n c) rfl
  have q1 := HB.out.cell_ (i := 1) (v := .slice B m d) rfl
  have hdef := hid (show crOrd fs hs = (crValid fs hs && hs.all ordOk) from rfl)
  have HL := hid h'.len
  cases hv : crValid fs hs
  · rw [hv, Bool.false_and] at hdef
    go_enter Try.func30, Try.ntmps30
    go_wp2_with fail
    refine (specCreditsValid_any _ _ _ _ _ _ _ _ _ h1 h1' hn HM2.out).mono ?_
    rintro e w1 ⟨rfl, s1⟩
    rw [hv]
    go_wp2_with fail
    go_ret
    exact ⟨ret_bool hdef.out.symm, s0.trans s1⟩
  · rw [hv, Bool.true_and] at hdef
    have HV := hid hv
    have hm6 := crValid_len hv
    rw [HL.out] at hm6
    go_enter Try.func30, Try.ntmps30
    go_wp2_with fail
    refine (specCreditsValid_any _ _ _ _ _ _ _ _ _ h1 h1' hn HM2.out).mono ?_
    rintro e w1 ⟨rfl, s1⟩
    rw [HV.out]
    have S1 := s0.trans s1
    have K1 := HB.out.below s1 HB.out.lt
    have r1 := K1.cell_ (i := 1) (v := .slice B m d) rfl
    have HS1 := hid S1
    have HK1 := hid K1
    clear q0 q1 s0 s1 h1 h1' HB S1
    go_wp2_with fail
    go_loopw [3] (fun i wr => ∃ k : Nat, k ≤ m ∧ i = .int .i64 k ∧ Hid ((hs.take k).all ordOk = true) ∧ St w1 wr) (fun i _ => m - (intOf i).toNat)
    case atStart => exact ⟨0, Nat.zero_le _, rfl, rfl, St.refl _⟩
    case round =>
      obtain ⟨k, hk, rfl, hno, hd⟩ := hrel
      rename_i wr
      have kb := HK1.out.below hd HK1.out.lt
      have q0 := kb.cell_ (i := 0) (v := .slice A n c) rfl
      have q1 := kb.cell_ (i := 1) (v := .slice B m d) rfl
      clear kb
      have hd0 := hid hd
      have hd := HS1.out.trans hd
      have hr := h'.st hd
      by_cases hlt : k < m
      · obtain ⟨ad, Ak, nk, ck, xs, t, rfl, hb1, hc1, hc2, hx, hsk⟩ := hr.at_ hlt
        have hw := crValid_wait HV.out hx.out
        have hs0 := hid hd
        have hs1 := hd0.out.alloc (.cells #[.slice Ak nk ck, .int .i64 t] 38)
        have K := Blk.new wr 38 #[.slice Ak nk ck, .int .i64 t]
        have k0 := K.cell_ (i := 0) (v := .slice Ak nk ck) rfl
        have k1 := K.cell_ (i := 1) (v := .int .i64 t) rfl
        have hki : (0 : Int) ≤ (k : Int) := by omega
        have hki2 : (k : Int) < (m : Int) := by omega
        rcases hw with ht | ⟨ht1, ht2⟩
        · have ht : t = -1 := ht
          subst ht
          have hok := hid ((ord_take hx.out hno.out).trans (show ordOk (xs, -1) = true by unfold ordOk; rw [show decide ((0:Int) ≤ (xs, (-1 : Int)).2) = false from rfl]; rfl))
          go_wp2_with fail
          go_quiet (fail)
          go_wp2_with fail
          go_roundw
          case rel => exact ⟨k + 1, by omega, by go_num, hok, hs1.dr ⟨_, rfl⟩⟩
          case measure => simp [intOf]; omega
        · have ht1 : 0 ≤ t := ht1
          have ht2 : t ≤ 4 := ht2
          have hne1 : (t == -1) = false := by simp; omega
          have hne2 := neg_ne hne1
          by_cases hnk : nk = 0
          · subst hnk
            have hxs : xs = [] := List.length_eq_zero_iff.1 hsk.len
            have hok := hid ((ord_take hx.out hno.out).trans (show ordOk (xs, t) = true by rw [hxs]; simp [ordOk]))
            go_wp2_with fail
            go_quiet (fail)
            go_wp2_with fail
            go_roundw
            case rel => exact ⟨k + 1, by omega, by go_num, hok, hs1.dr ⟨_, rfl⟩⟩
            case measure => simp [intOf]; omega
          · obtain ⟨q, rfl⟩ : ∃ q, nk = q + 1 := ⟨nk - 1, by omega⟩
            have hnk1 : (0 : Int) < ((q + 1 : Nat) : Int) := by omega
            obtain ⟨af, y, rfl, hbf, hxf, hcf⟩ := RI.at_ (k := q) hsk.ri (by omega)
            have hqm := hsk.cm
            have hqn := hsk.nc
            unfold maxLen at hqm
            have e1 : IntKind.i64.wrap (((q + 1 : Nat) : Int) - 1) = (q : Int) := by rw [show ((q + 1 : Nat) : Int) - 1 = (q : Int) by omega]; exact IntWalk.i64_in _ (by omega)
            have e2 : (0 : Int) ≤ (q : Int) := by omega
            have e3 : (q : Int) < ((q + 1 : Nat) : Int) := by omega
            have hcf' := (((St.refl wr).alloc (.cells #[.slice (some af) (q + 1) ck, .int .i64 t] 38)).cell hcf)
            have hdd : ordOk (xs, t) = !(decide (t < y)) := by
              have h1 : xs.length = q + 1 := hsk.len
              have h2 : xs.getD q 0 = y := by rw [List.getD_eq_getElem?_getD, hxf.out]; rfl
              simp only [ordOk, h1, Nat.add_sub_cancel, h2]
              simp [ht1]
            by_cases hlt2 : t < y
            · have hbad := hid (hdef.out.trans (ord_bad hx.out (show ordOk (xs, t) = false by rw [hdd]; simp [hlt2])))
              go_wp2_with fail
              go_quiet (fail)
              go_wp2_with fail
              go_ret
              exact ⟨ret_bool hbad.out.symm, HS1.out.trans (hs1.dr ⟨_, rfl⟩)⟩
            · have hok := hid ((ord_take hx.out hno.out).trans (show ordOk (xs, t) = true by rw [hdd]; simp [hlt2]))
              go_wp2_with fail
              go_quiet (fail)
              go_wp2_with fail
              go_roundw
              case rel => exact ⟨k + 1, by omega, by go_num, hok, hs1.dr ⟨_, rfl⟩⟩
              case measure => simp [intOf]; omega
      · obtain rfl : k = m := by omega
        have hfin : Hid (crOrd fs hs = true) := by
          have := hno.out
          rw [List.take_of_length_le (by rw [HL.out]; omega)] at this
          exact hdef.out.trans this
        go_wp2_with fail
        go_ret
        exact ⟨ret_bool hfin.out.symm, hd⟩
end Go.Proofs.Ytggjfbakekfdhaa
