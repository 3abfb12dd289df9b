/- Credits: how they read; the comparison of two credits. -/
import Derived.Test.YtggjfbakekfdhaaInts
import Derived.Test.YtggjfbakekfdhaaSets
namespace Go.Proofs.Ytggjfbakekfdhaa
open Go.RowKit

def freeOk (xs : List Int) : Bool := decide (xs.length = 5) && xs.all (inB · 0 9)
theorem areFree_any (A : Option Addr) (n c B : Nat) (xs : List Int) (w : World) (h : RI w B A n xs) (hn : n ≤ 9223372036854775807) :
    Calls Try.prog 45 #[.slice A n c] w fun e w' => e = .returned (.bool (freeOk xs)) ∧ w = w' := by
  have hdef := hid (show freeOk xs = (decide (xs.length = 5) && xs.all (inB · 0 9)) from rfl)
  rw [h.len] at hdef
  by_cases h5 : n = 5
  · subst h5
    go_enter Try.func45, Try.ntmps45
    go_wp2_with fail
    refine (inRange_any _ _ _ _ _ _ _ _ h hn).mono ?_
    rintro e w1 ⟨rfl, rfl⟩
    go_wp2_with fail
    go_ret
    exact ⟨ret_bool (by rw [hdef.out]; simp), rfl⟩
  · have h5i : ((n : Int) == 5) = false := by simp; omega
    go_enter Try.func45, Try.ntmps45
    go_wp2_with fail
    go_ret
    exact ⟨ret_bool (by rw [hdef.out]; simp [h5]), rfl⟩
theorem l22Free_any (A : Option Addr) (n c B : Nat) (xs : List Int) (w : World) (h : RI w B A n xs) (hn : n ≤ 9223372036854775807) :
    Calls Try.prog 43 #[.slice A n c] w fun e w' => e = .returned (.bool (freeOk xs)) ∧ w = w' := by
  have HL := hid h.len
  have hdef := hid (show freeOk xs = (decide (xs.length = 5) && xs.all (inB · 0 9)) from rfl)
  rw [h.len] at hdef
  go_enter Try.func43, Try.ntmps43
  go_wp2_with fail
  go_loop [3] (fun i => ∃ k : Nat, k ≤ n ∧ i = .int .i64 k ∧ Hid ((xs.take k).all (inB · 0 9) = true)) (fun i => n - (intOf i).toNat)
  case atStart => exact ⟨0, Nat.zero_le _, rfl, hid rfl⟩
  case round =>
    obtain ⟨k, hk, rfl, hno⟩ := hrel
    by_cases hlt : k < n
    · obtain ⟨ad, x, rfl, hb, hx, hc⟩ := h.at_ hlt
      have hm := hid (all_take_in hx.out hno.out)
      go_wp2_with fail
      refine (l6In_any _ _ _ _).mono ?_
      rintro e w1 ⟨rfl, rfl⟩
      cases hin : inB x 0 9
      · have hbad := hid (hdef.out.trans (by rw [all_in_bad hx.out hin, Bool.and_false]))
        go_wp2_with fail
        go_ret
        exact ⟨ret_bool hbad.out.symm, rfl⟩
      · rw [hin] at hm
        go_wp2_with fail
        go_round
        case rel => exact ⟨k + 1, by omega, by go_num, hm⟩
        case measure => simp [intOf]; omega
    · obtain rfl : k = n := by omega
      have hfin : Hid (freeOk xs = decide ((k : Int) = 5)) := by
        have := hno.out
        rw [List.take_of_length_le (by rw [HL.out]; omega)] at this
        show freeOk xs = _
        rw [hdef.out, this, Bool.and_true, decide_eq_decide]; omega
      go_wp2_with fail
      go_ret
      exact ⟨ret_bool (by rw [hfin.out]; rfl), rfl⟩
/-- A slice of holds (a slice of ints and an int each) that can be read. -/
structure SH (w : World) (A : Option Addr) (n c : Nat) (hs : List (List Int × Int)) : Prop where
  len : hs.length = n
  nc : n ≤ c
  cm : c ≤ maxLen
  rd : 0 < n → ∃ ad, A = some ad ∧ ad.block < w.heap.size ∧ ∀ k, k < n → ∃ Ak nk ck xs t, w.cell? (ad.add (k * 2)) = some (.slice Ak nk ck) ∧ w.cell? (ad.add (k * 2 + 1)) = some (.int .i64 t) ∧ hs[k]? = some (xs, t) ∧ SL w Ak nk ck xs
section
variable {w w' : World} {n c : Nat} {A : Option Addr} {hs : List (List Int × Int)}
theorem SH.at_ {k : Nat} (h : SH w A n c hs) (hk : k < n) : ∃ ad Ak nk ck xs t, A = some ad ∧ ad.block < w.heap.size ∧ w.cell? (ad.add (k * 2)) = some (.slice Ak nk ck) ∧ w.cell? ⟨(ad.add (k * 2)).block, (ad.add (k * 2)).off + 1, none⟩ = some (.int .i64 t) ∧ Hid (hs[k]? = some (xs, t)) ∧ SL w Ak nk ck xs := by
  obtain ⟨ad, h1, h2, h3⟩ := h.rd (by omega)
  obtain ⟨Ak, nk, ck, xs, t, h4, h5, h6, h7⟩ := h3 k hk
  exact ⟨ad, Ak, nk, ck, xs, t, h1, h2, h4, by rw [← h5, add_field ad (k * 2) 0], h6, h7⟩
theorem SH.st (h : SH w A n c hs) (hst : St w w') : SH w' A n c hs := by
  refine ⟨h.len, h.nc, h.cm, fun hn => ?_⟩
  obtain ⟨ad, h1, h2, h3⟩ := h.rd hn
  refine ⟨ad, h1, Nat.lt_of_lt_of_le h2 hst.size, fun k hk => ?_⟩
  obtain ⟨Ak, nk, ck, xs, t, h4, h5, h6, h7⟩ := h3 k hk
  exact ⟨Ak, nk, ck, xs, t, (hst.below.cell (by rw [block_of_add]; exact h2)).trans h4, (hst.below.cell (by rw [block_of_add]; exact h2)).trans h5, h6, h7.st hst⟩
theorem SH.dr (h : SH w A n c hs) (hd : Dr w w') : SH w' A n c hs := h.st hd.st
theorem SH.none_ : SH w none 0 0 [] := ⟨rfl, Nat.le_refl _, by simp [maxLen], fun h => absurd h (by omega)⟩
end
/-- Credits by value. -/
abbrev crV (A : Option Addr) (n c : Nat) (A' : Option Addr) (n' c' : Nat) : Value := .agg #[.slice A n c, .slice A' n' c']
def eqH (h h' : List Int × Int) : Bool := eqI h.1 h'.1 && (h.2 == h'.2)
set_option maxHeartbeats 400000 in
theorem eqHold_any (A A' : Option Addr) (n c n' c' : Nat) (xs ys : List Int) (t t' : Int) (w : World) (h : SL w A n c xs) (h' : SL w A' n' c' ys) (hn : n ≤ 1048576) :
    Calls Try.prog 69 #[.agg #[.slice A n c, .int .i64 t], .agg #[.slice A' n' c', .int .i64 t']] w fun e w' => e = .returned (.bool (eqH (xs, t) (ys, t'))) ∧ St w w' := by
  have hdef := hid (show eqH (xs, t) (ys, t') = (eqI xs ys && (t == t')) from rfl)
  have s1 := ((St.refl w).alloc (.cells #[.slice A n c, .int .i64 t] 38)).alloc (.cells #[.slice A' n' c', .int .i64 t'] 38)
  have h1 := h.st s1
  have h1' := h'.st s1
  have k1 : ((w.alloc (.cells #[.slice A n c, .int .i64 t] 38)).alloc (.cells #[.slice A' n' c', .int .i64 t'] 38)).cell? ⟨w.heap.size, 1, none⟩ = some (.int .i64 t) :=
    ((Blk.new w 38 #[.slice A n c, .int .i64 t]).alloc _).cell_ rfl
  have k2 : ((w.alloc (.cells #[.slice A n c, .int .i64 t] 38)).alloc (.cells #[.slice A' n' c', .int .i64 t'] 38)).cell? ⟨w.heap.size + 1, 1, none⟩ = some (.int .i64 t') := by
    have hz : (w.alloc (.cells #[.slice A n c, .int .i64 t] 38)).heap.size = w.heap.size + 1 := by simp
    have := (Blk.new (w.alloc (.cells #[.slice A n c, .int .i64 t] 38)) 38 #[.slice A' n' c', .int .i64 t']).cell_ (i := 1) (v := .int .i64 t') rfl
    rw [hz] at this
    exact this
  have K1 := hid k1
  have K2 := hid k2
  clear k1 k2
  go_enter Try.func69, Try.ntmps69
  go_wp2_with fail
  refine (eqIntS_any _ _ _ _ _ _ _ _ _ _ h1.ri h1'.ri (by omega)).mono ?_
  rintro e w1 ⟨rfl, d1⟩
  have k1 := (d1.cell _).trans K1.out
  have k2 := (d1.cell _).trans K2.out
  cases he : eqI xs ys
  · rw [he, Bool.false_and] at hdef
    go_wp2_with fail
    go_ret
    exact ⟨ret_bool hdef.out.symm, s1.dr d1⟩
  · rw [he, Bool.true_and] at hdef
    have hne := neq_of (x := t) (y := t') rfl
    cases ht : (t == t')
    · rw [ht] at hdef hne
      go_wp2_with fail
      go_ret
      exact ⟨ret_bool hdef.out.symm, s1.dr d1⟩
    · rw [ht] at hdef hne
      go_wp2_with fail
      go_ret
      exact ⟨ret_bool hdef.out.symm, s1.dr d1⟩

def eqHS (hs hs' : List (List Int × Int)) : Bool := decide (hs = hs')
theorem eqH_iff {h h' : List Int × Int} : eqH h h' = true ↔ h = h' := by
  obtain ⟨a, b⟩ := h
  obtain ⟨a', b'⟩ := h'
  simp [eqH, eqI]
theorem eqHS_miss {hs hs' : List (List Int × Int)} {k : Nat} {x y : List Int × Int} (h : hs[k]? = some x) (h' : hs'[k]? = some y) (hx : eqH x y = false) : eqHS hs hs' = false := by
  simp only [eqHS, decide_eq_false_iff_not]
  rintro rfl
  rw [h] at h'
  injection h' with h'
  subst h'
  rw [eqH_iff.2 rfl] at hx
  cases hx
theorem eqHS_hit {hs hs' : List (List Int × Int)} {k : Nat} {x y : List Int × Int} (h : hs[k]? = some x) (h' : hs'[k]? = some y) (hx : eqH x y = true) (hk : hs.take k = hs'.take k) : hs.take (k + 1) = hs'.take (k + 1) := by
  rw [take_snoc h, take_snoc h', hk, eqH_iff.1 hx]
theorem eqHS_full {hs hs' : List (List Int × Int)} {n : Nat} (h1 : hs.length = n) (h2 : hs'.length = n) (h : hs.take n = hs'.take n) : eqHS hs hs' = true := by
  rw [List.take_of_length_le (by omega), List.take_of_length_le (by omega)] at h
  simp [eqHS, h]
theorem eqHS_len {hs hs' : List (List Int × Int)} (h : hs.length ≠ hs'.length) : eqHS hs hs' = false := by
  simp only [eqHS, decide_eq_false_iff_not]
  rintro rfl
  exact h rfl
set_option maxHeartbeats 1000000 in
theorem eqHoldS_any (A A' : Option Addr) (n c n' c' : Nat) (hs hs' : List (List Int × Int)) (w : World) (h : SH w A n c hs) (h' : SH w A' n' c' hs') (hn : n ≤ 1048576) (hn2 : ∀ x ∈ hs, x.1.length ≤ 1048576) :
    Calls Try.prog 47 #[.slice A n c, .slice A' n' c'] w fun e w' => e = .returned (.bool (eqHS hs hs')) ∧ St w w' := by
  have HL := hid h.len
  have HL' := hid h'.len
  have HN2 := hid hn2
  clear hn2
  by_cases hnn : n = n'
  · subst hnn
    go_enter Try.func47, Try.ntmps47
    go_wp2_with fail
    go_loopw [5] (fun i wr => ∃ k : Nat, k ≤ n ∧ i = .int .i64 k ∧ Hid (hs.take k = hs'.take k) ∧ St w wr) (fun i _ => n - (intOf i).toNat)
    case atStart => exact ⟨0, Nat.zero_le _, rfl, rfl, St.refl _⟩
    case round =>
      obtain ⟨k, hk, rfl, hno, hd⟩ := hrel
      have h := h.st hd
      have h' := h'.st hd
      rename_i wr
      by_cases hlt : k < n
      · obtain ⟨ad, Ak, nk, ck, xs, t, rfl, hb1, hc1, hc2, hx, hsk⟩ := h.at_ hlt
        obtain ⟨ad', Ak', nk', ck', ys, t', rfl, hb1', hc1', hc2', hx', hsk'⟩ := h'.at_ hlt
        have hnk : nk ≤ 1048576 := by have := HN2.out _ (List.mem_of_getElem? hx.out); rw [hsk.len] at this; exact this
        have hki : (0 : Int) ≤ (k : Int) := by omega
        have hki2 : (k : Int) < (n : Int) := by omega
        cases he : eqH (xs, t) (ys, t')
        · have hm := hid (eqHS_miss hx.out hx'.out he)
          go_wp2_with fail
          go_region_held3 (fun w' => w'.cell? (ad.add (k * 2)) = some (.slice Ak nk ck) ∧ w'.cell? ⟨(ad.add (k * 2)).block, (ad.add (k * 2)).off + 1, none⟩ = some (.int .i64 t) ∧ w'.cell? (ad'.add (k * 2)) = some (.slice Ak' nk' ck') ∧ w'.cell? ⟨(ad'.add (k * 2)).block, (ad'.add (k * 2)).off + 1, none⟩ = some (.int .i64 t')) (first | go_keep | exact ⟨s1.cell hc1, s1.cell hc2, s1.cell hc1', s1.cell hc2'⟩)
            ((go_at_call 69; refine (eqHold_any _ _ _ _ _ _ _ _ _ _ _ (hsk.dr ⟨1, rfl⟩) (hsk'.dr ⟨1, rfl⟩) hnk).mono ?_; rintro e w1 ⟨rfl, s1⟩))
          go_wp2_with fail
          go_ret
          exact ⟨ret_bool hm.out.symm, hd.drew.trans s1⟩
        · have hm := hid (eqHS_hit hx.out hx'.out he hno.out)
          go_wp2_with fail
          go_region_held3 (fun w' => w'.cell? (ad.add (k * 2)) = some (.slice Ak nk ck) ∧ w'.cell? ⟨(ad.add (k * 2)).block, (ad.add (k * 2)).off + 1, none⟩ = some (.int .i64 t) ∧ w'.cell? (ad'.add (k * 2)) = some (.slice Ak' nk' ck') ∧ w'.cell? ⟨(ad'.add (k * 2)).block, (ad'.add (k * 2)).off + 1, none⟩ = some (.int .i64 t')) (first | go_keep | exact ⟨s1.cell hc1, s1.cell hc2, s1.cell hc1', s1.cell hc2'⟩)
            ((go_at_call 69; refine (eqHold_any _ _ _ _ _ _ _ _ _ _ _ (hsk.dr ⟨1, rfl⟩) (hsk'.dr ⟨1, rfl⟩) hnk).mono ?_; rintro e w1 ⟨rfl, s1⟩))
          go_wp2_with fail
          go_roundw
          case rel => exact ⟨k + 1, by omega, by go_num, hm, hd.drew.trans s1⟩
          case measure => simp [intOf]; omega
      · obtain rfl : k = n := by omega
        go_wp2_with fail
        go_ret
        exact ⟨ret_bool (eqHS_full HL.out HL'.out hno.out).symm, hd⟩
  · have hm := hid (eqHS_len (hs := hs) (hs' := hs') (by rw [HL.out, HL'.out]; exact hnn))
    have hne : (n : Int) ≠ (n' : Int) := by omega
    go_enter Try.func47, Try.ntmps47
    go_wp2_with fail
    go_ret
    exact ⟨ret_bool hm.out.symm, St.refl _⟩
end Go.Proofs.Ytggjfbakekfdhaa
