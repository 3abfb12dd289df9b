/- The library's heap over the queue: down. -/
import Derived.Test.YtkhgemgmnchodaaHeap1
namespace Go.Proofs.Ytkhgemgmnchodaa
open Go.RowKit Go.Sort
theorem OE.ne_blk_ {w : World} {base n c G : Nat} {A : Option Addr} {es : List Ent} {T : TypeId} {cs : Array Value} (h : OE w base A n c es) (hb : Blk w G T cs) (h1 : 34 ≠ T) : blockOf A ≠ some G := by
  rw [← ownBlock_slice A n c]; exact own_blk_ne h.2 hb h1
theorem grown_st' {a b c : World} {row : Option Nat} (h : a.grownBy b row) (s : St b c) : a.grownBy c row :=
  ⟨s.os.trans h.os, s.tape.trans h.tape, s.output.trans h.output, Nat.le_trans h.size s.size, fun i hi hn => (s.block i (Nat.lt_of_lt_of_le hi h.size)).trans (h.block i hi hn)⟩
structure QS (w : World) (q base b n c : Nat) (es : List Ent) : Prop where
  k : Blk w q 82 #[.slice (some ⟨b, 0, none⟩) n c]
  o : OE w base (some ⟨b, 0, none⟩) n c es
section
variable {w w' : World} {q base b n c : Nat} {es es' : List Ent}
theorem QS.st (h : QS w q base b n c es) (s : St w w') : QS w' q base b n c es := ⟨h.k.st s, h.o.st s⟩
theorem QS.cell (h : QS w q base b n c es) : w.cell? ⟨q, 0, none⟩ = some (.slice (some ⟨b, 0, none⟩) n c) := h.k.cell_ (i := 0) (v := .slice (some ⟨b, 0, none⟩) n c) rfl
theorem QS.ne (h : QS w q base b n c es) : b ≠ q := fun e => h.o.ne_blk_ h.k (by decide) (by rw [e]; rfl)
theorem QS.put (h : QS w q base b n c es) (o : OE w' base (some ⟨b, 0, none⟩) n c es') (g : w.grownBy w' (some b)) : QS w' q base b n c es' :=
  ⟨h.k.grown g (by have := h.ne; intro e; injection e with e; first | exact this e | exact this e.symm), o⟩
end
theorem downL_end {f i N : Nat} {xs : List Ent} (h : N ≤ 2 * i + 1) : downL ltE f xs i N = xs := by
  cases f
  · rfl
  · unfold downL; rw [if_pos h]
theorem downL_stop {f i N : Nat} {xs : List Ent} (h : ¬ N ≤ 2 * i + 1) (h2 : ltE xs[pickJ ltE xs N (2 * i + 1)]! xs[i]! = false) : downL ltE f xs i N = xs := by
  cases f
  · rfl
  · unfold downL; rw [if_neg h, if_neg (by rw [h2]; simp)]
theorem downL_go {f i N : Nat} {xs : List Ent} (h : ¬ N ≤ 2 * i + 1) (h2 : ltE xs[pickJ ltE xs N (2 * i + 1)]! xs[i]! = true) : downL ltE (f + 1) xs i N = downL ltE f (swapL xs i (pickJ ltE xs N (2 * i + 1))) (pickJ ltE xs N (2 * i + 1)) N := by
  conv => lhs; unfold downL
  rw [if_neg h, if_pos h2]
set_option maxRecDepth 100000 in
set_option maxHeartbeats 1000000 in
theorem heapDown_any (w : World) (q base b n c : Nat) (es : List Ent) (i0 N : Nat) (h : QS w q base b n c es) (hN : N ≤ n) (hn : n ≤ 1000) (hi0 : i0 ≤ 1000) :
    Calls Try.prog 70 #[.iface 84 (.pointer (some ⟨q, 0, none⟩)), .int .i64 (i0 : Int), .int .i64 (N : Int)] w fun e w' => (∃ r, e = .returned (.bool r)) ∧ QS w' q base b n c (downL ltE N es i0 N) ∧ w.grownBy w' (some b) := by
  have eL : ∀ args w, (callFunc 89 args).run Try.prog w = .ok (.enter 89 args) w := fun _ _ => by rfl
  have eS : ∀ args w, (callFunc 90 args).run Try.prog w = .ok (.enter 90 args) w := fun _ _ => by rfl
  have HL := hid (fun (w : World) (h : w.cell? ⟨q, 0, none⟩ = some (.slice (some ⟨b, 0, none⟩) n c)) => find_meth "Less" 89 false (by kernel_rfl) w q _ h 213)
  have HS := hid (fun (w : World) (h : w.cell? ⟨q, 0, none⟩ = some (.slice (some ⟨b, 0, none⟩) n c)) => find_meth "Swap" 90 false (by kernel_rfl) w q _ h 213)
  have H := hid h
  have hbw := hid (h.o.lt b rfl)
  clear h
  go_enter Try.func70, Try.ntmps70
  go_wp2_with fail
  go_loopw [7] (fun v wr => ∃ (f i : Nat) (xs : List Ent), v = .int .i64 (i : Int) ∧ i ≤ 1000 ∧ N ≤ f + i ∧ Hid (QS wr q base b n c xs) ∧ Hid (downL ltE N es i0 N = downL ltE f xs i N) ∧ Hid (w.grownBy wr (some b))) (fun v _ => 2000 - (intOf v).toNat)
  case atStart => exact ⟨N, i0, es, rfl, hi0, by omega, H, rfl, World.grownBy.refl _ _⟩
  case round =>
    obtain ⟨wa, rfl⟩ : ∃ wo : World, wo = wr := ⟨_, rfl⟩
    obtain ⟨f, i, xs, rfl, hi, hf, Q, E, G⟩ := hrel
    obtain ⟨j1, hj1⟩ : ∃ j1 : Nat, j1 = 2 * i + 1 := ⟨_, rfl⟩
    obtain ⟨j2, hj2⟩ : ∃ j2 : Nat, j2 = j1 + 1 := ⟨_, rfl⟩
    have hw1 : IntKind.i64.wrap (2 * (i : Int)) = 2 * (i : Int) := IntWalk.i64_in _ (by omega)
    have hw2 : IntKind.i64.wrap (2 * (i : Int) + 1) = (j1 : Int) := (IntWalk.i64_in _ (by omega)).trans (by omega)
    have hw3 : IntKind.i64.wrap ((j1 : Int) + 1) = (j2 : Int) := (IntWalk.i64_in _ (by omega)).trans (by omega)
    have hj0 : ¬ (j1 : Int) < 0 := by omega
    have hij1 : i < j1 := by omega
    have hij2 : i < j2 := by omega
    have HJ1 := hid hj1
    have HJ2 := hid hj2
    clear hj1 hj2
    by_cases hend : N ≤ 2 * i + 1
    · have hjn : (N : Int) ≤ (j1 : Int) := by have := HJ1.out; omega
      have HE := hid (E.out.trans (downL_end hend))
      go_wp2_with fail
      refine bodyPost_ret (v := .bool (decide (i0 < i))) (by simp [results, Try.results70, go_sem]) rfl ⟨by cases decide (i0 < i) <;> simp, by rw [HE.out]; exact Q.out, G.out⟩
    · have hjn : (j1 : Int) < (N : Int) := by have := HJ1.out; omega
      obtain ⟨f, rfl⟩ : ∃ f' : Nat, f = f' + 1 := ⟨f - 1, by have := HJ1.out; omega⟩
      have c0 := Q.out.cell
      have mL := HL.out _ c0
      simp only [Nat.reduceAdd, Bool.false_eq_true, if_false] at mL
      by_cases h2 : j2 < N
      · have h2i : (j2 : Int) < (N : Int) := by omega
        go_wp2_with fail
        refine (qLess_any _ _ _ j2 j1 xs _ Q.out.o.se (by omega) (by omega)).mono ?_
        rintro e w1 ⟨rfl, s1⟩
        have Q1 := hid (Q.out.st s1)
        have G1 := hid (grown_st' G.out s1)
        cases hl : ltE xs[j2]! xs[j1]!
        · have HP := hid (show pickJ ltE xs N (2 * i + 1) = j1 by have h8 := HJ1.out; have h9 := HJ2.out; subst h9; subst h8; unfold pickJ; rw [if_neg (by rw [hl]; simp)])
          clear mL c0
          have c0 := Q1.out.cell
          have mL := HL.out _ c0
          simp only [Nat.reduceAdd, Bool.false_eq_true, if_false] at mL
          have hiJ : i < j1 := by omega
          have hJn : j1 < N := by have := HJ2.out; omega
          go_wp2_with fail
          refine (qLess_any _ _ _ j1 i xs _ Q1.out.o.se (by omega) (by omega)).mono ?_
          rintro e w2 ⟨rfl, s2⟩
          have Q2 := hid (Q1.out.st s2)
          have G2 := hid (grown_st' G1.out s2)
          cases hl2 : ltE xs[j1]! xs[i]!
          · have HE := hid (E.out.trans (downL_stop hend (by rw [HP.out]; exact hl2)))
            go_wp2_with fail
            refine bodyPost_ret (v := .bool (decide (i0 < i))) (by simp [results, Try.results70, go_sem]) rfl ⟨by cases decide (i0 < i) <;> simp, by rw [HE.out]; exact Q2.out, G2.out⟩
          · have HE := hid (E.out.trans (downL_go hend (by rw [HP.out]; exact hl2)))
            rw [HP.out] at HE
            clear mL c0
            have c0 := Q2.out.cell
            have mS := HS.out _ c0
            simp only [Nat.reduceAdd, Bool.false_eq_true, if_false] at mS
            go_wp2_with fail
            refine (qSwap_any _ _ _ i j1 base xs _ Q2.out.o (by omega) (by omega)).mono ?_
            rintro e w3 ⟨rfl, o3, g3⟩
            have Q3 := hid (Q2.out.put o3 g3)
            have G3 := hid (grown_trans' G2.out g3)
            go_wp2_with fail
            go_roundw
            case rel => exact ⟨f, j1, _, rfl, by omega, by omega, Q3, HE, G3⟩
            case measure => simp [intOf]; omega
        · have HP := hid (show pickJ ltE xs N (2 * i + 1) = j2 by have h8 := HJ1.out; have h9 := HJ2.out; subst h9; subst h8; unfold pickJ; rw [if_pos ⟨h2, hl⟩])
          clear mL c0
          have c0 := Q1.out.cell
          have mL := HL.out _ c0
          simp only [Nat.reduceAdd, Bool.false_eq_true, if_false] at mL
          have hiJ : i < j2 := by omega
          have hJn : j2 < N := by have := HJ2.out; omega
          go_wp2_with fail
          refine (qLess_any _ _ _ j2 i xs _ Q1.out.o.se (by omega) (by omega)).mono ?_
          rintro e w2 ⟨rfl, s2⟩
          have Q2 := hid (Q1.out.st s2)
          have G2 := hid (grown_st' G1.out s2)
          cases hl2 : ltE xs[j2]! xs[i]!
          · have HE := hid (E.out.trans (downL_stop hend (by rw [HP.out]; exact hl2)))
            go_wp2_with fail
            refine bodyPost_ret (v := .bool (decide (i0 < i))) (by simp [results, Try.results70, go_sem]) rfl ⟨by cases decide (i0 < i) <;> simp, by rw [HE.out]; exact Q2.out, G2.out⟩
          · have HE := hid (E.out.trans (downL_go hend (by rw [HP.out]; exact hl2)))
            rw [HP.out] at HE
            clear mL c0
            have c0 := Q2.out.cell
            have mS := HS.out _ c0
            simp only [Nat.reduceAdd, Bool.false_eq_true, if_false] at mS
            go_wp2_with fail
            refine (qSwap_any _ _ _ i j2 base xs _ Q2.out.o (by omega) (by omega)).mono ?_
            rintro e w3 ⟨rfl, o3, g3⟩
            have Q3 := hid (Q2.out.put o3 g3)
            have G3 := hid (grown_trans' G2.out g3)
            go_wp2_with fail
            go_roundw
            case rel => exact ⟨f, j2, _, rfl, by omega, by omega, Q3, HE, G3⟩
            case measure => simp [intOf]; omega
      · have h2i : ¬ (j2 : Int) < (N : Int) := by omega
        have HP := hid (show pickJ ltE xs N (2 * i + 1) = j1 by have h8 := HJ1.out; have h9 := HJ2.out; subst h9; subst h8; unfold pickJ; rw [if_neg (by omega)])
        have Q1 := Q
        have G1 := G
        clear mL c0
        have c0 := Q1.out.cell
        have mL := HL.out _ c0
        simp only [Nat.reduceAdd, Bool.false_eq_true, if_false] at mL
        have hiJ : i < j1 := by omega
        have hJn : j1 < N := by have := HJ2.out; omega
        go_wp2_with fail
        refine (qLess_any _ _ _ j1 i xs _ Q1.out.o.se (by omega) (by omega)).mono ?_
        rintro e w2 ⟨rfl, s2⟩
        have Q2 := hid (Q1.out.st s2)
        have G2 := hid (grown_st' G1.out s2)
        cases hl2 : ltE xs[j1]! xs[i]!
        · have HE := hid (E.out.trans (downL_stop hend (by rw [HP.out]; exact hl2)))
          go_wp2_with fail
          refine bodyPost_ret (v := .bool (decide (i0 < i))) (by simp [results, Try.results70, go_sem]) rfl ⟨by cases decide (i0 < i) <;> simp, by rw [HE.out]; exact Q2.out, G2.out⟩
        · have HE := hid (E.out.trans (downL_go hend (by rw [HP.out]; exact hl2)))
          rw [HP.out] at HE
          clear mL c0
          have c0 := Q2.out.cell
          have mS := HS.out _ c0
          simp only [Nat.reduceAdd, Bool.false_eq_true, if_false] at mS
          go_wp2_with fail
          refine (qSwap_any _ _ _ i j1 base xs _ Q2.out.o (by omega) (by omega)).mono ?_
          rintro e w3 ⟨rfl, o3, g3⟩
          have Q3 := hid (Q2.out.put o3 g3)
          have G3 := hid (grown_trans' G2.out g3)
          go_wp2_with fail
          go_roundw
          case rel => exact ⟨f, j1, _, rfl, by omega, by omega, Q3, HE, G3⟩
          case measure => simp [intOf]; omega
end Go.Proofs.Ytkhgemgmnchodaa
