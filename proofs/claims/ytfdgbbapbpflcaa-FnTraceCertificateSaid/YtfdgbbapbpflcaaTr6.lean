/- linked and free. -/
import Derived.Test.YtfdgbbapbpflcaaLinks
import Derived.StillTailTactics
namespace Go.Proofs.Ytfdgbbapbpflcaa
open Go.RowKit
def tF (xss : List (List Int)) : Nat → Bool := fun m => toldLL xss (m : Int)
def nF (xss : List (List Int)) : Nat → Nat → Bool := fun a b => nextLL xss (a : Int) (b : Int)
theorem linkInfo : (Try.prog.info? 50).map (fun i => (i.zero, i.size, i.bytes)) = some (some (.pointer none), 1, 8) := by kernel_rfl
/-- The cells of a new link. -/
abbrev lkNew (k : Nat) : Array Value := #[.int .i64 (k : Int), .bool false, .pointer none, .pointer none, .pointer none, .pointer none, .pointer none, .pointer none, .pointer none, .pointer none, .pointer none, .pointer none, .pointer none, .pointer none]
theorem lkNew_eq (g : Nat → Nat) (k : Nat) : lkNew k = lkCells g k false (fun _ => false) := rfl
/-- The end of 'linked'. -/
def LinkedEnd (xss : List (List Int)) (w : World) (e : Ending) (w' : World) : Prop := ∃ A c g, e = .returned (.slice A 12 c) ∧ LK w' w.heap.size A 12 c g (tF xss) (nF xss) ∧ St w w'
set_option maxRecDepth 100000 in
set_option maxHeartbeats 2000000 in
theorem linked_any (A : Option Addr) (n c : Nat) (xss : List (List Int)) (w : World) (h : SLL w A n c xss) (hn : n ≤ 1048576) (hn2 : ∀ xs ∈ xss, xs.length ≤ 1048576 ∧ isTr xs = true) :
    Calls Try.prog 49 #[.slice A n c] w (LinkedEnd xss w) := by
  have HL := hid h.len
  have HN2 := hid hn2
  clear hn2
  have HO := hid (show LK (w.alloc (.cells #[] 50)) w.heap.size (some ⟨w.heap.size, 0, none⟩) 0 0 (fun _ => 0) (fun _ => false) (fun _ _ => false) from ⟨row_lit w _ 1, fun i hi => by omega, fun i j hi _ _ => by omega, fun i hi => by omega⟩)
  go_enter Try.func49, Try.ntmps49
  go_wp2_with fail
  go_loopw [3, 10] (fun v i wr => ∃ (k a : Nat) (X : Option Addr) (g : Nat → Nat), k ≤ 12 ∧ i = .int .i64 (k : Int) ∧ v = .slice X k a ∧ Hid (LK wr w.heap.size X k a g (fun _ => false) (fun _ _ => false)) ∧ Hid (St w wr)) (fun _ i _ => 12 - (intOf i).toNat)
  case atStart => exact ⟨0, 0, _, fun _ => 0, Nat.zero_le _, rfl, rfl, HO, (St.refl w).alloc _⟩
  case round =>
    obtain ⟨k, a, X, g, hk, rfl, rfl, hl, hs⟩ := hrel
    by_cases hlt : k < 12
    · have hki : (k : Int) < 12 := by omega
      have hki0 : (0 : Int) ≤ (k : Int) := by omega
      have s2 := ((St.refl wr).alloc (.cells (lkNew k) 53)).alloc (.cells #[.pointer (some ⟨wr.heap.size, 0, none⟩)] 50)
      have L2 := hid (hl.out.st s2)
      have B2 := hid ((Blk.new wr 53 (lkNew k)).alloc (.cells #[.pointer (some ⟨wr.heap.size, 0, none⟩)] 50))
      have RO := hid (Reads.one (wr.alloc (.cells (lkNew k) 53)) 50 #[.pointer (some ⟨wr.heap.size, 0, none⟩)] 1 rfl)
      rw [World.heap_alloc_size'] at RO
      have S2 := hid (hs.out.trans s2)
      have hle := s2.le
      have hle0 := hs.out.le
      clear s2
      go_wp2_with (at_builtin; refine wpList_append_rows _ rfl _ _ 48 rfl w.heap.size 50 1 8 (.pointer none) Try.underlying48 linkInfo rfl (by omega) X k a _ rfl L2.out.row _ _ 1 1 _ rfl RO.out (by intro u hu; simp at hu; subst hu; rfl) (by omega) (by omega) (Nat.le_trans hle0 hle) ?_; intro X3 a3 w3 o3 g3)
      have hnew : ∀ i, i < k → g i ≠ wr.heap.size := fun i hi => by have := (hl.out.blk i hi).lt; omega
      have hbA : blockOf X ≠ some wr.heap.size := by
        intro e
        have := (World.ownsRow.lt hl.out.row wr.heap.size (by rw [ownBlock_slice]; exact e)).2
        omega
      have L3 := hid (L2.out.push (b := wr.heap.size) B2.out hle0 hnew g3 hbA o3)
      have S3 := hid (St.grown S2.out g3 (fun q hq => (World.ownsRow.lt L2.out.row q (by rw [ownBlock_slice]; exact hq)).1))
      clear hnew hbA g3 o3
      go_roundw
      case rel => exact ⟨k + 1, _, _, _, by omega, by go_num, rfl, L3, S3⟩
      case measure => simp [intOf]; omega
    · obtain rfl : k = 12 := by omega
      have h12 : ¬ (12 : Int) < 12 := by omega
      have hl := hid (hl.out.congr (T' := tF (xss.take 0)) (nx' := nF (xss.take 0)) (fun i _ => by simp [tF, toldLL]) (fun i j _ _ => by simp [nF, nextLL]))
      go_wp2_with fail
      go_loopw [22] (fun i wr => ∃ k : Nat, k ≤ n ∧ i = .int .i64 (k : Int) ∧ Hid (LK wr w.heap.size X 12 a g (tF (xss.take k)) (nF (xss.take k))) ∧ Hid (St w wr)) (fun i _ => n - (intOf i).toNat)
      case atStart => exact ⟨0, Nat.zero_le _, rfl, hl, hs⟩
      case round =>
        obtain ⟨wa, rfl⟩ : ∃ wo : World, wo = wr := ⟨_, rfl⟩
        obtain ⟨k, hk, rfl, hl, hs⟩ := hrel
        by_cases hlt : k < n
        · obtain ⟨ad, Ak, nk, ck, xs, rfl, hb, hc, hx, hsk⟩ := h.at_ hlt
          have hc := hs.out.cell hc
          have hx2 := HN2.out xs (List.mem_of_getElem? hx.out)
          have hnk : nk ≤ 1048576 := by have := hx2.1; rw [hsk.len] at this; exact this
          have HT := hid hx2.2
          have HSK := hid hsk
          clear hx2 hsk
          have hl := hid (hl.out.congr (T' := fun m => tF (xss.take k) m || has (xs.take 0) (m : Int)) (nx' := fun p q => nF (xss.take k) p q || stp (xs.take 0) (p : Int) (q : Int)) (fun i _ => by simp [has]) (fun i j _ _ => by simp [stp]))
          go_wp2_with fail
          go_loopw [28] (fun j wr => ∃ k2 : Nat, k2 ≤ nk ∧ j = .int .i64 (k2 : Int) ∧ Hid (LK wr w.heap.size X 12 a g (fun m => tF (xss.take k) m || has (xs.take k2) (m : Int)) (fun p q => nF (xss.take k) p q || stp (xs.take k2) (p : Int) (q : Int))) ∧ Hid (St w wr)) (fun i _ => nk - (intOf i).toNat)
          case atStart => exact ⟨0, Nat.zero_le _, rfl, hl, hs⟩
          case round =>
            obtain ⟨wb, rfl⟩ : ∃ wo : World, wo = wr := ⟨_, rfl⟩
            clear hc hl hs
            obtain ⟨k2, hk2, rfl, hl, hs⟩ := hrel
            by_cases hlt2 : k2 < nk
            · obtain ⟨ak, x, rfl, hb1, hx1, hc1⟩ := HSK.out.ri.at_ hlt2
              have hisT := HT.out
              have hm1 : isMsg x = true := by
                simp only [isTr, Bool.and_eq_true, List.all_eq_true] at hisT
                exact hisT.1 x (List.mem_of_getElem? hx1.out)
              clear hisT
              obtain ⟨m, rfl, hm⟩ := isMsg_nat hm1
              clear hm1
              have hc1w := hid hc1
              have hc1 := hs.out.cell hc1w.out
              obtain ⟨R, rfl, hbR, hltR, c0⟩ := hl.out.at_ hm
              have c1 := hl.out.c1 hm
              have f1 := hl.out.fz hm 1
              have hgm := hl.out.ge m hm
              have L2 := hid (hl.out.told hm true)
              have S2 := hid (hs.out.setCell (p := ⟨g m, 1, none⟩) hgm (.bool true))
              have hTT := hid (show ∀ i : Nat, i < 12 → (if i = m then true else (tF (xss.take k) i || has (xs.take k2) (i : Int))) = (tF (xss.take k) i || has (xs.take (k2 + 1)) (i : Int)) from fun i _ => by
                rw [take_snoc hx1.out]
                by_cases hi : i = m
                · simp [hi, has]
                · have hi' : ¬ (i : Int) = (m : Int) := by omega
                  simp [hi, hi', has])
              unfold ptr at c0
              by_cases hk0 : k2 = 0
              · subst hk0
                have L3 := hid (L2.out.congr (T' := fun m => tF (xss.take k) m || has (xs.take (0 + 1)) (m : Int)) (nx' := fun p q => nF (xss.take k) p q || stp (xs.take (0 + 1)) (p : Int) (q : Int)) hTT.out (fun i j _ _ => by rw [stp_take1]; simp [stp]))
                rw [add_zero] at hc1
                go_wp2_with fail
                go_roundw
                case rel => exact ⟨0 + 1, by omega, by go_num, L3, S2⟩
                case measure => simp [intOf]; omega
              · obtain ⟨j, hj⟩ : ∃ j, k2 = j + 1 := ⟨k2 - 1, by omega⟩
                obtain ⟨ak', y, he, hb2, hx0, hc2⟩ := HSK.out.ri.at_ (k := j) (by omega)
                injection he with he
                subst he
                have hisT := HT.out
                have hm1 : isMsg y = true := by
                  simp only [isTr, Bool.and_eq_true, List.all_eq_true] at hisT
                  exact hisT.1 y (List.mem_of_getElem? hx0.out)
                clear hisT
                obtain ⟨p, rfl, hp⟩ := isMsg_nat hm1
                clear hm1
                have hji : (0 : Int) < (k2 : Int) := by omega
                have HJ := hid hj
                have hjn : j < nk := by omega
                clear hj hk0
                go_wp2_with fail
                generalize wb.setCell ⟨g m, 1, none⟩ (.bool true) = wc at L2 S2 ⊢
                clear hc1 c0 c1 f1
                have hc2 := S2.out.cell hc2
                obtain ⟨R', he, _, _, d0⟩ := L2.out.at_ hp
                injection he with he
                injection he with he
                subst he
                obtain ⟨R', he, _, _, d1⟩ := L2.out.at_ hm
                injection he with he
                injection he with he
                subst he
                have f2 := L2.out.fz hp (2 + m)
                unfold ptr at d0 d1
                have sdr : St wc wc.drew := Dr.st ⟨1, rfl⟩
                have f2 := (L2.out.st sdr).fz hp (2 + m)
                have L3 := hid (((L2.out.st sdr).next hp hm).congr (T' := fun m => tF (xss.take k) m || has (xs.take (k2 + 1)) (m : Int)) (nx' := fun p q => nF (xss.take k) p q || stp (xs.take (k2 + 1)) (p : Int) (q : Int)) hTT.out (fun a b _ _ => by
                  have e := HJ.out
                  subst e
                  rw [stp_take hx0.out hx1.out]
                  have e1 : (a == p) = ((p : Int) == (a : Int)) := by rw [Bool.eq_iff_iff]; simp; omega
                  have e2 : (b == m) = ((m : Int) == (b : Int)) := by rw [Bool.eq_iff_iff]; simp; omega
                  rw [e1, e2, Bool.or_assoc]))
                have hw1 : IntKind.i64.wrap ((k2 : Int) - 1) = (j : Int) := by have := HJ.out; rw [IntWalk.i64_in _ ⟨by omega, by omega⟩]; omega
                have S3 := hid ((S2.out.trans sdr).setCell (p := ⟨g p, 2 + m, none⟩) (L2.out.ge p hp) (.pointer (some ⟨g m, 0, none⟩)))
                have hp0 : (0 : Int) ≤ (p : Int) := by omega
                have hp1 : (p : Int) < 12 := by omega
                have hm0 : (0 : Int) ≤ (m : Int) := by omega
                have hm1 : (m : Int) < 12 := by omega
                go_still_tail 16, (by kernel_rfl)
                change wpList _ _ _ _ _ (World.drew wc)
                obtain ⟨uv, huv⟩ : ∃ v, wc.drew.cell? ⟨g p, 2 + m, none⟩ = some v := ⟨_, (L2.out.st sdr).c2 hp hm⟩
                clear sdr hw1 hc2 d0 d1
                go_wp2_with fail
                go_roundw
                case rel => exact ⟨k2 + 1, by omega, by go_num, L3, S3⟩
                case measure => simp [intOf]; omega
            · obtain rfl : k2 = nk := by omega
              have hfull := hid (show xs.take k2 = xs from List.take_of_length_le (by rw [HSK.out.len]; omega))
              have L2 := hid (hl.out.congr (T' := tF (xss.take (k + 1))) (nx' := nF (xss.take (k + 1))) (fun i _ => by
                show (tF (xss.take k) i || has (xs.take k2) (i : Int)) = toldLL (xss.take (k + 1)) (i : Int)
                rw [toldLL_take hx.out, hfull.out]; rfl) (fun i j _ _ => by
                show (nF (xss.take k) i j || stp (xs.take k2) (i : Int) (j : Int)) = nextLL (xss.take (k + 1)) (i : Int) (j : Int)
                rw [nextLL_take hx.out, hfull.out]; rfl))
              go_wp2_with fail
              go_roundw
              case rel => exact ⟨k + 1, by omega, by go_num, L2, hs⟩
              case measure => simp [intOf]; omega
        · obtain rfl : k = n := by omega
          have hf : Hid (xss.take k = xss) := List.take_of_length_le (by rw [HL.out]; omega)
          go_wp2_with fail
          go_ret
          rw [hf.out] at hl
          exact ⟨_, _, _, rfl, hl.out, hs.out⟩
/-- No message that is left is followed by m. -/
def noPre (T : Nat → Bool) (nx : Nat → Nat → Bool) (m : Nat) : Bool := !((List.range 12).any fun l => T l && nx l m)
theorem frM_noPre (T : Nat → Bool) (nx : Nat → Nat → Bool) (m : Nat) : frM T nx m = (T m && noPre T nx m) := rfl
set_option maxHeartbeats 1000000 in
theorem free_any {A : Option Addr} {c base m : Nat} {g : Nat → Nat} {T : Nat → Bool} {nx : Nat → Nat → Bool} {w : World} (h : LK w base A 12 c g T nx) (hm : m < 12) :
    Calls Try.prog 50 #[.slice A 12 c, .int .i64 (m : Int)] w fun e w' => e = .returned (.bool (noPre T nx m)) ∧ w = w' := by
  have H := hid h
  clear h
  go_enter Try.func50, Try.ntmps50
  go_wp2_with fail
  go_loop [9] (fun i => ∃ k : Nat, k ≤ 12 ∧ i = .int .i64 (k : Int) ∧ Hid (((List.range k).any fun l => T l && nx l m) = false)) (fun i => 12 - (intOf i).toNat)
  case atStart => exact ⟨0, Nat.zero_le _, rfl, rfl⟩
  case round =>
    obtain ⟨k, hk, rfl, hno⟩ := hrel
    by_cases hlt : k < 12
    · have hki : (k : Int) < 12 := by omega
      obtain ⟨R, rfl, _, _, c0⟩ := H.out.at_ hlt
      have c1 := H.out.c1 hlt
      have c2 := H.out.c2 hlt hm
      have hstep : ((List.range (k + 1)).any fun l => T l && nx l m) = (T k && nx k m) := by
        rw [List.range_succ, List.any_append, hno.out]; simp
      have HST := hid hstep
      clear hstep
      unfold ptr at c0 c2
      cases hT : T k
      · rw [hT] at c1 HST
        clear hT
        go_wp2_with fail
        go_round
        case rel => exact ⟨k + 1, by omega, by go_num, HST.out⟩
        case measure => simp [intOf]; omega
      · rw [hT] at c1 HST
        have hTk := hid hT
        clear hT
        cases hN : nx k m
        · rw [hN] at c2 HST
          clear hN
          simp only [Bool.false_eq_true, if_false] at c2
          go_wp2_with fail
          go_round
          case rel => exact ⟨k + 1, by omega, by go_num, HST.out⟩
          case measure => simp [intOf]; omega
        · rw [hN] at c2
          have hall : ((List.range 12).any fun l => T l && nx l m) = true := List.any_eq_true.2 ⟨k, List.mem_range.2 hlt, by rw [hTk.out, hN]; rfl⟩
          have HA := hid hall
          clear hN hall
          simp only [if_true] at c2
          go_wp2_with fail
          go_ret
          exact ⟨ret_bool (by unfold noPre; rw [HA.out]; rfl), rfl⟩
    · obtain rfl : k = 12 := by omega
      have h12 : ¬ (12 : Int) < 12 := by omega
      go_wp2_with fail
      go_ret
      exact ⟨ret_bool (by unfold noPre; rw [hno.out]; rfl), rfl⟩
end Go.Proofs.Ytfdgbbapbpflcaa
