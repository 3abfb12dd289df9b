/- impl.TraceOrder. -/
import Derived.Test.YtfdgbbapbpflcaaTr6
import Derived.Deep.Cut
namespace Go.Proofs.Ytfdgbbapbpflcaa
open Go.RowKit
/-- What TraceOrder returns. -/
def toOk (xss : List (List Int)) : Bool := valT xss && fullM (tF xss) (nF xss)
def ints (os : List Nat) : List Int := os.map fun (m : Nat) => (m : Int)
def toV (xss : List (List Int)) : List Int := if toOk xss then ints (ordM (tF xss) (nF xss)) else []
def TOEnd (xss : List (List Int)) (w : World) (e : Ending) (w' : World) : Prop := ∃ A n c, e = .returned (.tuple #[.slice A n c, .bool (toOk xss)]) ∧ OI w' w.heap.size 3 A n c (toV xss) ∧ St w w'
theorem TOEnd.bad {xss : List (List Int)} {w W : World} (h : toOk xss = false) (s : St w W) : TOEnd xss w (.returned (.tuple #[.slice none 0 0, .bool false])) W := by
  refine ⟨none, 0, 0, by rw [h], ?_, s⟩
  unfold toV
  rw [h]
  exact World.ownsRow_nil _ _ _ _
theorem TOEnd.good {xss : List (List Int)} {w W : World} {A : Option Addr} {n c base : Nat} (h : toOk xss = true) (o : OI W base 3 A n c (ints (ordM (tF xss) (nF xss)))) (hb : w.heap.size ≤ base) (s : St w W) : TOEnd xss w (.returned (.tuple #[.slice A n c, .bool true])) W := by
  refine ⟨A, n, c, by rw [h], ?_, s⟩
  unfold toV
  rw [if_pos h]
  exact o.less hb
theorem valT_tr {xss : List (List Int)} (h : valT xss = true) : ∀ xs ∈ xss, isTr xs = true := by
  simp only [valT, Bool.and_eq_true, List.all_eq_true] at h
  exact h.2
def lenOf : Value → Nat
  | .slice _ n _ => n
  | _ => 0
theorem TOEnd_ints_snoc (os : List Nat) (k : Nat) : ints (os ++ [k]) = ints os ++ [(k : Int)] := by simp [ints]
set_option maxRecDepth 100000 in
set_option maxHeartbeats 2000000 in
theorem TraceOrder_any (A : Option Addr) (n c : Nat) (xss : List (List Int)) (w : World) (h : SLL w A n c xss) (hn : n ≤ 1048576) (hn2 : ∀ xs ∈ xss, xs.length ≤ 1048576) :
    Calls Try.prog 31 #[.slice A n c] w (TOEnd xss w) := by
  have HN2 := hid hn2
  clear hn2
  cases hv : valT xss
  · have hb := hid (show toOk xss = false by unfold toOk; rw [hv]; rfl)
    go_enter Try.func31, Try.ntmps31
    go_wp2_with fail
    refine (TracesValid_any _ _ _ _ _ h hn HN2.out).mono ?_
    rintro e w1 ⟨rfl, s1⟩
    rw [hv]
    go_wp2_with fail
    go_ret2
    exact TOEnd.bad hb.out s1
  have HV := hid hv
  go_enter Try.func31, Try.ntmps31
  go_wp2_with fail
  refine (TracesValid_any _ _ _ _ _ h hn HN2.out).mono ?_
  rintro e w1 ⟨rfl, s1⟩
  rw [hv]
  clear hv
  have h1 := h.st s1
  go_wp2_with fail
  refine (linked_any _ _ _ _ _ h1 hn (fun xs hx => ⟨HN2.out xs hx, valT_tr HV.out xs hx⟩)).mono ?_
  rintro e w2 ⟨A2, c2, g, rfl, l2, s2⟩
  have a2 := (St.refl w2).alloc (.cells #[] 3)
  have L2 := hid (l2.st a2)
  have S2 := hid ((s1.trans s2).trans a2)
  have HZ := hid (show w.heap.size ≤ w1.heap.size ∧ w.heap.size ≤ w2.heap.size from ⟨s1.le, (s1.trans s2).le⟩)
  have HO := hid (OI.lit (w := w2) (e := 3))
  have HW := hid (Way.zero (tF xss) (nF xss))
  clear h h1 s1 s2 l2 a2
  go_wp2_with fail
  go_loopw [5, 6] (fun v i wr => ∃ (k m a : Nat) (X : Option Addr) (os : List Nat), k ≤ 12 ∧ m ≤ 12 ∧ i = .int .i64 (k : Int) ∧ v = .slice X m a ∧ Hid (OI wr w2.heap.size 3 X m a (ints os)) ∧ Hid (LK wr w1.heap.size A2 12 c2 g (left (tF xss) os) (nF xss)) ∧ Hid (Way (tF xss) (nF xss) os) ∧ Hid (∀ j, j < k → frM (left (tF xss) os) (nF xss) j = false) ∧ Hid (w2.heap.size ≤ wr.heap.size) ∧ Hid (St w wr)) (fun v i _ => (12 - lenOf v) * 13 + (12 - (intOf i).toNat))
  case atStart => exact ⟨0, 0, 0, _, [], Nat.zero_le _, Nat.zero_le _, rfl, rfl, HO, L2, HW, hid (fun j hj => by omega), hid (by simp), S2⟩
  case round =>
    obtain ⟨k, m, a, X, os, hk, hm12, rfl, rfl, ho, hl, hw, hno, hz, hs⟩ := hrel
    by_cases hlt : k < 12
    · have hki : (k : Int) < 12 := by omega
      obtain ⟨R, rfl, hbR, hltR, c0⟩ := hl.out.at_ hlt
      have c1 := hl.out.c1 hlt
      unfold ptr at c0
      cases hT : left (tF xss) os k
      · rw [hT] at c1
        have hno2 := hid (show ∀ j, j < k + 1 → frM (left (tF xss) os) (nF xss) j = false from fun j hj => by
          rcases Nat.lt_or_ge j k with h | h
          · exact hno.out j h
          · obtain rfl : j = k := by omega
            rw [frM_noPre, hT]; rfl)
        clear hT
        go_wp2_with fail
        go_roundw
        case rel => exact ⟨k + 1, m, a, _, os, by omega, hm12, by go_num, rfl, ho, hl, hw, hno2, hz, hs⟩
        case measure => simp [intOf, lenOf]; omega
      · rw [hT] at c1
        have HTk := hid hT
        clear hT
        go_wp2_with fail
        refine (free_any hl.out hlt).mono ?_
        rintro e w3 ⟨rfl, rfl⟩
        cases hF : noPre (left (tF xss) os) (nF xss) k
        · have hno2 := hid (show ∀ j, j < k + 1 → frM (left (tF xss) os) (nF xss) j = false from fun j hj => by
            rcases Nat.lt_or_ge j k with h | h
            · exact hno.out j h
            · obtain rfl : j = k := by omega
              rw [frM_noPre, hF]; simp)
          clear hF
          go_wp2_with fail
          go_roundw
          case rel => exact ⟨k + 1, m, a, _, os, by omega, hm12, by go_num, rfl, ho, hl, hw, hno2, hz, hs⟩
          case measure => simp [intOf, lenOf]; omega
        · have hw2 := hid (hw.out.next hlt (by rw [frM_noPre, HTk.out, hF]; rfl) hno.out)
          have f1 := hl.out.fz hlt 1
          have hgk := hl.out.ge k hlt
          have hml := hid (show os.length = m by have := ho.out.len; simpa [ints] using this)
          have hm2 : m + 1 ≤ 12 := by have := hw2.out.len; rw [List.length_append, hml.out] at this; simpa using this
          have O3 := hid (hl.out.other ho.out hlt 1 (.bool false))
          have L3 := hid ((hl.out.told hlt false).congr (T' := left (tF xss) (os ++ [k])) (nx' := nF xss) (fun i _ => by
            rw [left_snoc]
            show (if i = k then false else left (tF xss) os i) = (left (tF xss) os i && i != k)
            by_cases hi : i = k
            · simp [hi]
            · have : (i != k) = true := by simpa using hi
              simp [hi, this]) (fun _ _ _ _ => rfl))
          have S3 := hid (hs.out.setCell (p := ⟨g k, 1, none⟩) (Nat.le_trans HZ.out.1 hgk) (.bool false))
          have hz3 : w2.heap.size ≤ (wr.setCell ⟨g k, 1, none⟩ (.bool false)).heap.size := by have := hz.out; simpa [World.setCell] using this
          clear hF
          go_upto_region 10 with (fail)
          generalize wr.setCell ⟨g k, 1, none⟩ (.bool false) = wd at O3 L3 S3 hz3 ⊢
          go_wp2_with (at_builtin; refine wpList_append_int _ rfl _ _ 22 rfl w2.heap.size 3 Try.underlying22 intInfo _ _ _ _ (k : Int) rfl O3.out rfl (by omega) hz3 ?_; intro X4 a4 w4 o4 g4)
          rw [← TOEnd_ints_snoc] at o4
          have L4 := hid (L3.out.beside O3.out g4)
          have S4 := hid (St.grown S3.out g4 (fun q hq => Nat.le_trans HZ.out.2 (O3.out.lt q hq).1))
          go_roundw
          case rel => exact ⟨0, m + 1, a4, _, os ++ [k], by omega, hm2, by go_num, rfl, o4, L4, hw2, hid (fun j hj => by omega), hid (Nat.le_trans hz3 g4.size), S4⟩
          case measure => simp [intOf, lenOf]; omega
    · obtain rfl : k = 12 := by omega
      have h12 : ¬ (12 : Int) < 12 := by omega
      have HD := hid (hw.out.done hno.out)
      have HF := hid (hw.out.full hno.out)
      clear hno hw
      go_wp2_with fail
      go_loop [45] (fun i => ∃ k : Nat, k ≤ 12 ∧ i = .int .i64 (k : Int) ∧ Hid (∀ j, j < k → left (tF xss) os j = false)) (fun i => 12 - (intOf i).toNat)
      case atStart => exact ⟨0, Nat.zero_le _, rfl, hid (fun j hj => by omega)⟩
      case round =>
        obtain ⟨k, hk, rfl, hno⟩ := hrel
        by_cases hlt : k < 12
        · have hki : (k : Int) < 12 := by omega
          obtain ⟨R, rfl, hbR, hltR, c0⟩ := hl.out.at_ hlt
          have c1 := hl.out.c1 hlt
          unfold ptr at c0
          cases hT : left (tF xss) os k
          · rw [hT] at c1
            have hno2 := hid (show ∀ j, j < k + 1 → left (tF xss) os j = false from fun j hj => by
              rcases Nat.lt_or_ge j k with h | h
              · exact hno.out j h
              · obtain rfl : j = k := by omega
                exact hT)
            clear hT
            go_wp2_with fail
            go_round
            case rel => exact ⟨k + 1, by omega, by go_num, hno2⟩
            case measure => simp [intOf]; omega
          · rw [hT] at c1
            have hb := hid (show toOk xss = false by
              unfold toOk
              rw [HF.out, show ((List.range 12).any (left (tF xss) os)) = true from List.any_eq_true.2 ⟨k, List.mem_range.2 hlt, hT⟩]
              simp)
            clear hT
            go_wp2_with fail
            go_ret2
            exact TOEnd.bad hb.out hs.out
        · obtain rfl : k = 12 := by omega
          have hb := hid (show toOk xss = true by
            unfold toOk
            rw [HF.out, HV.out, Bool.true_and, Bool.not_eq_true', List.any_eq_false]
            intro j hj
            rw [hno.out j (List.mem_range.1 hj)]
            simp)
          go_wp2_with fail
          go_ret2
          exact TOEnd.good hb.out (by rw [HD.out]; exact ho.out) HZ.out.2 hs.out
end Go.Proofs.Ytfdgbbapbpflcaa
