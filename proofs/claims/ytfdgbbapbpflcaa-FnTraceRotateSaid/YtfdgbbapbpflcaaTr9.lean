/- The reference's order: l21Order, TraceOrder. -/
import Derived.Test.YtfdgbbapbpflcaaTr8
namespace Go.Proofs.Ytfdgbbapbpflcaa
open Go.RowKit
def frTo (os al : List Nat) (nx : Nat → Nat → Bool) (m k : Nat) : Bool := !decide (m ∈ os) && (al.take k).all fun l => decide (l ∈ os) || !nx l m
theorem frTo_zero (os al : List Nat) (nx : Nat → Nat → Bool) (m : Nat) : frTo os al nx m 0 = !decide (m ∈ os) := by simp [frTo]
theorem frTo_succ {os al : List Nat} {nx : Nat → Nat → Bool} {m k l : Nat} (h : al[k]? = some l) : frTo os al nx m (k + 1) = (frTo os al nx m k && (decide (l ∈ os) || !nx l m)) := by
  unfold frTo
  rw [take_snoc h, List.all_append]
  simp [Bool.and_assoc]
theorem frTo_full {T : Nat → Bool} {os : List Nat} {nx : Nat → Nat → Bool} {m k : Nat} (hT : T m = true) (hk : ((List.range 12).filter T).length ≤ k) : frTo os ((List.range 12).filter T) nx m k = frM (left T os) nx m := by
  unfold frTo
  rw [List.take_of_length_le hk, Bool.eq_iff_iff, frM_iff, left_at, hT, Bool.true_and, Bool.and_eq_true, List.all_eq_true]
  constructor
  · rintro ⟨h1, h2⟩
    refine ⟨h1, fun l hl hTl => ?_⟩
    rw [left_at, Bool.and_eq_true] at hTl
    have := h2 l (List.mem_filter.2 ⟨List.mem_range.2 hl, hTl.1⟩)
    have hd := hTl.2
    rw [Bool.not_eq_true'] at hd
    rw [hd, Bool.false_or, Bool.not_eq_true'] at this
    exact this
  · rintro ⟨h1, h2⟩
    refine ⟨h1, fun l hl => ?_⟩
    rw [List.mem_filter, List.mem_range] at hl
    by_cases hm : l ∈ os
    · simp [hm]
    · rw [h2 l hl.1 (by rw [left_at, hl.2]; simp [hm])]; simp
theorem has_ints (os : List Nat) (m : Nat) : has (ints os) (m : Int) = decide (m ∈ os) := by
  rw [Bool.eq_iff_iff, decide_eq_true_eq]
  simp only [has, ints, List.contains_eq_mem, decide_eq_true_eq, List.mem_map]
  constructor
  · rintro ⟨x, hx, e⟩; rwa [show x = m by omega] at hx
  · exact fun h => ⟨m, h, rfl⟩
theorem ints_at {os : List Nat} {k m : Nat} : (ints os)[k]? = some (m : Int) ↔ os[k]? = some m := by
  unfold ints
  rw [List.getElem?_map]
  cases os[k]? with
  | none => simp
  | some x => simp; omega
theorem ints_of {os : List Nat} {k : Nat} {x : Int} (h : (ints os)[k]? = some x) : ∃ m : Nat, x = m ∧ os[k]? = some m := by
  unfold ints at h
  rw [List.getElem?_map] at h
  cases ho : os[k]? with
  | none => rw [ho] at h; simp at h
  | some m => rw [ho] at h; simp at h; exact ⟨m, h.symm, rfl⟩
/-- Where a round of the middle loop stands. -/
def MidO (T : Nat → Bool) (nx : Nat → Nat → Bool) (al os os' : List Nat) (b : Bool) (q : Nat) : Prop :=
  (b = false ∧ os' = os ∧ ∀ j, j < q → ∀ x, al[j]? = some x → frM (left T os) nx x = false) ∨ (b = true ∧ os'.length = os.length + 1)
theorem MidO.no {T : Nat → Bool} {nx : Nat → Nat → Bool} {al os os' : List Nat} {q : Nat} (h : MidO T nx al os os' false q) : os' = os ∧ ∀ j, j < q → ∀ x, al[j]? = some x → frM (left T os') nx x = false := by
  rcases h with h | h
  · exact ⟨h.2.1, by rw [h.2.1]; exact h.2.2⟩
  · cases h.1
theorem MidO.miss {T : Nat → Bool} {nx : Nat → Nat → Bool} {al os os' : List Nat} {q x : Nat} (h : MidO T nx al os os' false q) (hx : al[q]? = some x) (hf : frM (left T os') nx x = false) : MidO T nx al os os' false (q + 1) := by
  obtain ⟨h1, h2⟩ := h.no
  subst h1
  refine .inl ⟨rfl, rfl, fun j hj y hy => ?_⟩
  rcases Nat.lt_or_ge j q with h | h
  · exact h2 j h y hy
  · obtain rfl : j = q := by omega
    rw [hx] at hy
    injection hy with hy
    rw [← hy]; exact hf
theorem MidO.yes {T : Nat → Bool} {nx : Nat → Nat → Bool} {al os os' : List Nat} {q : Nat} (h : MidO T nx al os os' true q) : os'.length = os.length + 1 := by
  rcases h with h | h
  · cases h.1
  · exact h.2
theorem MidO.hit {T : Nat → Bool} {nx : Nat → Nat → Bool} {al os os' : List Nat} {q x : Nat} (h : MidO T nx al os os' false q) (q' : Nat) : MidO T nx al os (os' ++ [x]) true q' := .inr ⟨rfl, by rw [h.no.1]; simp⟩
def boolOf : Value → Nat
  | .bool true => 1
  | _ => 0
theorem allM_ord {xss : List (List Int)} {q x : Nat} (h : (allM xss)[q]? = some x) : tF xss x = true ∧ x < 12 := by
  have := List.mem_of_getElem? h
  rw [allM, List.mem_filter, List.mem_range] at this
  exact ⟨this.2, this.1⟩
theorem allM_lt {xss : List (List Int)} {q x : Nat} (h : (allM xss)[q]? = some x) {j : Nat} (hj : j < x) (hT : tF xss j = true) : ∃ p, p < q ∧ (allM xss)[p]? = some j := by
  have hx := allM_ord h
  have hm : j ∈ allM xss := by rw [allM, List.mem_filter, List.mem_range]; exact ⟨by omega, hT⟩
  obtain ⟨p, hp⟩ := List.getElem?_of_mem hm
  refine ⟨p, ?_, hp⟩
  have hs : (allM xss).Pairwise (· < ·) := List.Pairwise.filter _ List.pairwise_lt_range
  rcases Nat.lt_or_ge p q with h1 | h1
  · exact h1
  · exfalso
    obtain ⟨hq, eq⟩ := List.getElem?_eq_some_iff.1 h
    obtain ⟨hp', ep⟩ := List.getElem?_eq_some_iff.1 hp
    rcases Nat.lt_or_ge q p with h2 | h2
    · have := List.pairwise_iff_getElem.1 hs q p hq hp' h2
      omega
    · obtain rfl : p = q := by omega
      omega
/-- The first message that is found is the one that is taken. -/
theorem mid_take {xss : List (List Int)} {os : List Nat} {q x : Nat} (hw : Way (tF xss) (nF xss) os) (h : (allM xss)[q]? = some x) (hno : ∀ j, j < q → ∀ y, (allM xss)[j]? = some y → frM (left (tF xss) os) (nF xss) y = false) (hf : frM (left (tF xss) os) (nF xss) x = true) : Way (tF xss) (nF xss) (os ++ [x]) := by
  refine hw.next (allM_ord h).2 hf fun j hj => ?_
  cases hT : tF xss j
  · rw [frM_noPre, left_at, hT]; rfl
  · obtain ⟨p, hp, he⟩ := allM_lt h hj hT
    exact hno p hp j he
theorem mid_none {xss : List (List Int)} {os : List Nat} {q : Nat} (hq : (allM xss).length ≤ q) (hno : ∀ j, j < q → ∀ y, (allM xss)[j]? = some y → frM (left (tF xss) os) (nF xss) y = false) : ∀ j, j < 12 → frM (left (tF xss) os) (nF xss) j = false := by
  intro j hj
  cases hT : tF xss j
  · rw [frM_noPre, left_at, hT]; rfl
  · have hm : j ∈ allM xss := by rw [allM, List.mem_filter, List.mem_range]; exact ⟨hj, hT⟩
    obtain ⟨p, hp⟩ := List.getElem?_of_mem hm
    exact hno p (by have := (List.getElem?_eq_some_iff.1 hp).1; omega) j hp
set_option maxRecDepth 100000 in
set_option maxHeartbeats 4000000 in
theorem l21Order_any (A : Option Addr) (n c : Nat) (xss : List (List Int)) (w : World) (h : SLL w A n c xss) (hn : n ≤ 1048576) (hn2 : ∀ xs ∈ xss, xs.length ≤ 1048576) :
    Calls Try.prog 52 #[.slice A n c] w fun e w' => ∃ X m a, e = .returned (.slice X m a) ∧ OI w' w.heap.size 3 X m a (ints (ordM (tF xss) (nF xss))) ∧ St w w' := by
  have HN2 := hid hn2
  clear hn2
  go_enter Try.func52, Try.ntmps52
  go_wp2_with fail
  refine (l21All_any _ _ _ _ _ h hn HN2.out).mono ?_
  rintro e w2 ⟨B, L, d, rfl, o2, s2⟩
  have H := hid (h.st s2)
  have AL := hid o2.sl
  have hLL := o2.len
  rw [ints_len] at hLL
  have hL : L ≤ 12 := by have := allM_le xss; omega
  have HLL := hid hLL
  have S2 := hid s2
  have HO := hid (OI.lit (w := w2) (e := 3))
  have HZ := hid (show w2.heap.size ≤ (w2.alloc (.cells #[] 3)).heap.size by simp)
  have HW := hid (Way.zero (tF xss) (nF xss))
  clear h s2 o2 hLL
  go_wp2_with fail
  go_loopw [4, 5] (fun v mo wr => ∃ (m a : Nat) (X : Option Addr) (os : List Nat) (b : Bool), m ≤ 12 ∧ mo = .bool b ∧ v = .slice X m a ∧ Hid (OI wr w2.heap.size 3 X m a (ints os)) ∧ Hid (Way (tF xss) (nF xss) os) ∧ Hid (b = false → ∀ j, j < 12 → frM (left (tF xss) os) (nF xss) j = false) ∧ Hid (w2.heap.size ≤ wr.heap.size) ∧ Hid (St w2 wr)) (fun v mo _ => (12 - lenOf v) * 2 + boolOf mo)
  case atStart => exact ⟨0, 0, _, [], true, Nat.zero_le _, rfl, rfl, HO, HW, hid (fun h => by cases h), HZ, (St.refl w2).alloc _⟩
  case round =>
    obtain ⟨wa, rfl⟩ : ∃ wo : World, wo = wr := ⟨_, rfl⟩
    obtain ⟨m, a, X, os, b, hm, rfl, rfl, ho, hw, hno, hz, hs⟩ := hrel
    cases b
    · have HD := hid (hw.out.done (hno.out rfl))
      go_wp2_with fail
      go_ret
      exact ⟨_, _, _, rfl, by rw [HD.out]; exact OI.less ho.out S2.out.le, S2.out.trans hs.out⟩
    · have hst := hid (show MidO (tF xss) (nF xss) (allM xss) os os false 0 from .inl ⟨rfl, rfl, fun j hj => by omega⟩)
      go_wp2_with fail
      go_loopw [4, 5, 6] (fun v mo i wr => ∃ (q m' a' : Nat) (X' : Option Addr) (os' : List Nat) (b : Bool), q ≤ L ∧ i = .int .i64 (q : Int) ∧ mo = .bool b ∧ v = .slice X' m' a' ∧ m' ≤ 12 ∧ Hid (OI wr w2.heap.size 3 X' m' a' (ints os')) ∧ Hid (Way (tF xss) (nF xss) os') ∧ Hid (MidO (tF xss) (nF xss) (allM xss) os os' b q) ∧ Hid (w2.heap.size ≤ wr.heap.size) ∧ Hid (St w2 wr)) (fun _ _ i _ => L - (intOf i).toNat)
      case atStart => exact ⟨0, m, a, X, os, false, Nat.zero_le _, rfl, rfl, rfl, hm, ho, hw, hst, hz, hs⟩
      case round =>
        obtain ⟨wb, rfl⟩ : ∃ wo : World, wo = wr := ⟨_, rfl⟩
        obtain ⟨q, m', a', X', os', b, hq, rfl, rfl, rfl, hm', ho', hw', hmid, hz', hs'⟩ := hrel
        by_cases hlt : q < L
        · cases b
          · have hal := AL.out.st hs'.out
            obtain ⟨ad, y, rfl, hb1, hx1, hc1⟩ := hal.ri.at_ hlt
            obtain ⟨x, rfl, hx⟩ := ints_of hx1.out
            have HX := hid hx
            have hz0 := hid ((frTo_zero os' (allM xss) (nF xss) x).trans (by rw [← has_ints]))
            clear hx hx1
            go_wp2_with fail
            refine (l1Has_any _ _ _ _ _ _ _ ho'.out.ri (by omega)).mono ?_
            rintro e w3 ⟨rfl, rfl⟩
            go_wp2_with fail
            go_loopw [7, 8] (fun f i wr => ∃ k : Nat, k ≤ L ∧ i = .int .i64 (k : Int) ∧ f = .bool (frTo os' (allM xss) (nF xss) x k) ∧ Hid (Dr wb wr)) (fun _ i _ => L - (intOf i).toNat)
            case atStart => exact ⟨0, Nat.zero_le _, rfl, by rw [hz0.out], Dr.refl _⟩
            case round =>
              obtain ⟨wc, rfl⟩ : ∃ wo : World, wo = wr := ⟨_, rfl⟩
              obtain ⟨k, hk, rfl, rfl, hd⟩ := hrel
              clear hc1
              by_cases hlt2 : k < L
              · have hal2 := hal.dr hd.out
                obtain ⟨ad', y, he, hb2, hx2, hc2⟩ := hal2.ri.at_ hlt2
                obtain ⟨ad2, y2, he2, hb3, hx3, hc3⟩ := hal2.ri.at_ hlt
                injection he with he
                subst he
                injection he2 with he2
                subst he2
                obtain ⟨l, rfl, hl⟩ := ints_of hx2.out
                obtain ⟨x', rfl, hx'⟩ := ints_of hx3.out
                obtain rfl : x' = x := by have := HX.out; rw [hx'] at this; injection this
                have hst := hid (frTo_succ (os := os') (nx := nF xss) (m := x') hl)
                have HX2 := hid hx'
                have O2 := hid (OI.dr ho'.out (hd.out.one))
                have H2 := hid (H.out.st (hs'.out.dr (hd.out.one)))
                clear hl hx' hx2 hx3
                obtain ⟨f, hf0⟩ : ∃ b, frTo os' (allM xss) (nF xss) x' k = b := ⟨_, rfl⟩
                rw [hf0] at hst ⊢
                clear hf0
                cases f
                · rw [Bool.false_and] at hst
                  go_wp2_with fail
                  refine wp_region_held_drew (S := (fun w' => w'.cell? (ad.add q) = some (.int .i64 (x' : Int)) ∧ w'.cell? (ad.add k) = some (.int .i64 (l : Int)))) (by kernel_rfl) ?_ (fun hH0 => ?_)
                  · exact ⟨hc3, hc2⟩
                  refine wpAnyH_take (i := 0) (oi := ⟨some 36, _, _, _, _, _⟩) (v := ?_) rfl (by kernel_rfl) (by kernel_rfl) (by kernel_rfl) (fun _ _ _ h => h) (Or.inl ⟨by rfl, ?_⟩) (by assumption) ?_
                  rotate_left
                  · (intro w hSw; (try dsimp only at hSw); go_simp; (try with_reducible rfl))
                  (try simp only [Act.put, List.setIfInBounds_toArray, List.set_cons_zero, List.set_cons_succ])
                  refine wpAnyH_take (i := 1) (oi := ⟨some 37, _, _, _, _, _⟩) (v := ?_) rfl (by kernel_rfl) (by kernel_rfl) (by kernel_rfl) (fun _ _ _ h => h) (Or.inl ⟨by rfl, ?_⟩) (by assumption) ?_
                  rotate_left
                  · (intro w hSw; (try dsimp only at hSw); go_simp; (try with_reducible rfl))
                  (try simp only [Act.put, List.setIfInBounds_toArray, List.set_cons_zero, List.set_cons_succ])
                  refine wpAnyH_take (i := 2) (oi := ⟨some 38, _, _, _, _, _⟩) (v := undef) rfl (by kernel_rfl) (by kernel_rfl) (by kernel_rfl) (fun _ _ _ h => h) (Or.inr ⟨by rfl, rfl⟩) (by assumption) ?_
                  (try simp only [Act.put, List.setIfInBounds_toArray, List.set_cons_zero, List.set_cons_succ])
                  refine wpAnyH_take (i := 3) (oi := ⟨some 39, _, _, _, _, _⟩) (v := undef) rfl (by kernel_rfl) (by kernel_rfl) (by kernel_rfl) (fun _ _ _ h => h) (Or.inr ⟨by rfl, rfl⟩) (by assumption) ?_
                  (try simp only [Act.put, List.setIfInBounds_toArray, List.set_cons_zero, List.set_cons_succ])
                  refine wpAnyH_take (i := 4) (oi := ⟨some 40, _, _, _, _, _⟩) (v := undef) rfl (by kernel_rfl) (by kernel_rfl) (by kernel_rfl) (fun _ _ _ h => h) (Or.inr ⟨by rfl, rfl⟩) (by assumption) ?_
                  (try simp only [Act.put, List.setIfInBounds_toArray, List.set_cons_zero, List.set_cons_succ])
                  refine wpAnyH_take (i := 5) (oi := ⟨some 41, _, _, _, _, _⟩) (v := undef) rfl (by kernel_rfl) (by kernel_rfl) (by kernel_rfl) (fun _ _ _ h => h) (Or.inr ⟨by rfl, rfl⟩) (by assumption) ?_
                  (try simp only [Act.put, List.setIfInBounds_toArray, List.set_cons_zero, List.set_cons_succ])
                  refine wpAnyH_take (i := 6) (oi := ⟨some 42, _, _, _, _, _⟩) (v := undef) rfl (by kernel_rfl) (by kernel_rfl) (by kernel_rfl) (fun _ _ _ h => h) (Or.inr ⟨by rfl, rfl⟩) (by assumption) ?_
                  (try simp only [Act.put, List.setIfInBounds_toArray, List.set_cons_zero, List.set_cons_succ])
                  refine wpAnyH_take (i := 7) (oi := ⟨some 43, _, _, _, _, _⟩) (v := undef) rfl (by kernel_rfl) (by kernel_rfl) (by kernel_rfl) (fun _ _ _ h => h) (Or.inr ⟨by rfl, rfl⟩) (by assumption) ?_
                  (try simp only [Act.put, List.setIfInBounds_toArray, List.set_cons_zero, List.set_cons_succ])
                  refine wpAnyH_take (i := 8) (oi := ⟨some 44, _, _, _, _, _⟩) (v := undef) rfl (by kernel_rfl) (by kernel_rfl) (by kernel_rfl) (fun _ _ _ h => h) (Or.inr ⟨by rfl, rfl⟩) (by assumption) ?_
                  (try simp only [Act.put, List.setIfInBounds_toArray, List.set_cons_zero, List.set_cons_succ])
                  refine wpAnyH_take (i := 9) (oi := ⟨some 45, _, _, _, _, _⟩) (v := undef) rfl (by kernel_rfl) (by kernel_rfl) (by kernel_rfl) (fun _ _ _ h => h) (Or.inr ⟨by rfl, rfl⟩) (by assumption) ?_
                  (try simp only [Act.put, List.setIfInBounds_toArray, List.set_cons_zero, List.set_cons_succ])
                  refine wpAnyH_take (i := 10) (oi := ⟨some 46, _, _, _, _, _⟩) (v := undef) rfl (by kernel_rfl) (by kernel_rfl) (by kernel_rfl) (fun _ _ _ h => h) (Or.inr ⟨by rfl, rfl⟩) (by assumption) ?_
                  (try simp only [Act.put, List.setIfInBounds_toArray, List.set_cons_zero, List.set_cons_succ])
                  refine wpAnyH_take (i := 11) (oi := ⟨some 47, _, _, _, _, _⟩) (v := undef) rfl (by kernel_rfl) (by kernel_rfl) (by kernel_rfl) (fun _ _ _ h => h) (Or.inr ⟨by rfl, rfl⟩) (by assumption) ?_
                  (try simp only [Act.put, List.setIfInBounds_toArray, List.set_cons_zero, List.set_cons_succ])
                  refine wpAnyH_take (i := 12) (oi := ⟨some 48, _, _, _, _, _⟩) (v := undef) rfl (by kernel_rfl) (by kernel_rfl) (by kernel_rfl) (fun _ _ _ h => h) (Or.inr ⟨by rfl, rfl⟩) (by assumption) ?_
                  (try simp only [Act.put, List.setIfInBounds_toArray, List.set_cons_zero, List.set_cons_succ])
                  refine wpAnyH_take (i := 13) (oi := ⟨some 49, _, _, _, _, _⟩) (v := undef) rfl (by kernel_rfl) (by kernel_rfl) (by kernel_rfl) (fun _ _ _ h => h) (Or.inr ⟨by rfl, rfl⟩) (by assumption) ?_
                  (try simp only [Act.put, List.setIfInBounds_toArray, List.set_cons_zero, List.set_cons_succ])
                  refine wpAnyH_take (i := 14) (oi := ⟨some 50, _, _, _, _, _⟩) (v := undef) rfl (by kernel_rfl) (by kernel_rfl) (by kernel_rfl) (fun _ _ _ h => h) (Or.inr ⟨by rfl, rfl⟩) (by assumption) ?_
                  (try simp only [Act.put, List.setIfInBounds_toArray, List.set_cons_zero, List.set_cons_succ])
                  refine wpAnyH_take (i := 15) (oi := ⟨some 51, _, _, _, _, _⟩) (v := undef) rfl (by kernel_rfl) (by kernel_rfl) (by kernel_rfl) (fun _ _ _ h => h) (Or.inr ⟨by rfl, rfl⟩) (by assumption) ?_
                  (try simp only [Act.put, List.setIfInBounds_toArray, List.set_cons_zero, List.set_cons_succ])
                  refine wpAnyH_take (i := 16) (oi := ⟨some 52, _, _, _, _, _⟩) (v := undef) rfl (by kernel_rfl) (by kernel_rfl) (by kernel_rfl) (fun _ _ _ h => h) (Or.inr ⟨by rfl, rfl⟩) (by assumption) ?_
                  (try simp only [Act.put, List.setIfInBounds_toArray, List.set_cons_zero, List.set_cons_succ])
                  refine wpAnyH_take (i := 17) (oi := ⟨some 53, _, _, _, _, _⟩) (v := undef) rfl (by kernel_rfl) (by kernel_rfl) (by kernel_rfl) (fun _ _ _ h => h) (Or.inr ⟨by rfl, rfl⟩) (by assumption) ?_
                  (try simp only [Act.put, List.setIfInBounds_toArray, List.set_cons_zero, List.set_cons_succ])
                  refine wpAnyH_take (i := 18) (oi := ⟨some 54, _, _, _, _, _⟩) (v := undef) rfl (by kernel_rfl) (by kernel_rfl) (by kernel_rfl) (fun _ _ _ h => h) (Or.inr ⟨by rfl, rfl⟩) (by assumption) ?_
                  (try simp only [Act.put, List.setIfInBounds_toArray, List.set_cons_zero, List.set_cons_succ])
                  refine wpAnyH_take (i := 19) (oi := ⟨some 55, _, _, _, _, _⟩) (v := undef) rfl (by kernel_rfl) (by kernel_rfl) (by kernel_rfl) (fun _ _ _ h => h) (Or.inr ⟨by rfl, rfl⟩) (by assumption) ?_
                  (try simp only [Act.put, List.setIfInBounds_toArray, List.set_cons_zero, List.set_cons_succ])
                  refine wpAnyH_take (i := 20) (oi := ⟨some 56, _, _, _, _, _⟩) (v := undef) rfl (by kernel_rfl) (by kernel_rfl) (by kernel_rfl) (fun _ _ _ h => h) (Or.inr ⟨by rfl, rfl⟩) (by assumption) ?_
                  (try simp only [Act.put, List.setIfInBounds_toArray, List.set_cons_zero, List.set_cons_succ])
                  refine wpAnyH_take (i := 21) (oi := ⟨some 57, _, _, _, _, _⟩) (v := ?_) rfl (by kernel_rfl) (by kernel_rfl) (by kernel_rfl) (fun _ _ _ h => h) (Or.inl ⟨by rfl, ?_⟩) (by assumption) ?_
                  rotate_left
                  · (intro w hSw; (try dsimp only at hSw); go_simp; (try with_reducible rfl))
                  (try simp only [Act.put, List.setIfInBounds_toArray, List.set_cons_zero, List.set_cons_succ])
                  refine wpAnyH_take (i := 22) (oi := ⟨some 7, _, _, _, _, _⟩) (v := ?_) rfl (by kernel_rfl) (by kernel_rfl) (by kernel_rfl) (fun _ _ _ h => h) (Or.inl ⟨by rfl, ?_⟩) (by assumption) ?_
                  rotate_left
                  · (intro w hSw; (try dsimp only at hSw); go_simp; (try with_reducible rfl))
                  (try simp only [Act.put, List.setIfInBounds_toArray, List.set_cons_zero, List.set_cons_succ])
                  refine wpAnyH_done (by kernel_rfl) ?_ _
                  clear hH0
                  go_wp2_with fail
                  go_roundw
                  case rel => exact ⟨k + 1, by omega, by go_num, by rw [hst.out], hd.out.more _⟩
                  case measure => simp [intOf]; omega
                · rw [Bool.true_and] at hst
                  have hhi := hid (has_ints os' l)
                  obtain ⟨b1, hb1⟩ : ∃ b, decide (l ∈ os') = b := ⟨_, rfl⟩
                  rw [hb1] at hst hhi
                  clear hb1
                  cases b1
                  · rw [Bool.false_or] at hst
                    obtain ⟨b2, hb2⟩ : ∃ b, nF xss l x' = b := ⟨_, rfl⟩
                    have hnn := hid (show nextLL xss (l : Int) (x' : Int) = b2 from hb2)
                    rw [hb2] at hst
                    clear hb2
                    go_wp2_with fail
                    refine wp_region_held_drew (S := (fun w' => w'.cell? (ad.add q) = some (.int .i64 (x' : Int)) ∧ w'.cell? (ad.add k) = some (.int .i64 (l : Int)))) (by kernel_rfl) ?_ (fun hH0 => ?_)
                    · exact ⟨hc3, hc2⟩
                    refine wpAnyH_take (i := 0) (oi := ⟨some 36, _, _, _, _, _⟩) (v := ?_) rfl (by kernel_rfl) (by kernel_rfl) (by kernel_rfl) (fun _ _ _ h => h) (Or.inl ⟨by rfl, ?_⟩) (by assumption) ?_
                    rotate_left
                    · (intro w hSw; (try dsimp only at hSw); go_simp; (try with_reducible rfl))
                    (try simp only [Act.put, List.setIfInBounds_toArray, List.set_cons_zero, List.set_cons_succ])
                    refine wpAnyH_take (i := 1) (oi := ⟨some 37, _, _, _, _, _⟩) (v := ?_) rfl (by kernel_rfl) (by kernel_rfl) (by kernel_rfl) (fun _ _ _ h => h) (Or.inl ⟨by rfl, ?_⟩) (by assumption) ?_
                    rotate_left
                    · (intro w hSw; (try dsimp only at hSw); go_simp; (try with_reducible rfl))
                    (try simp only [Act.put, List.setIfInBounds_toArray, List.set_cons_zero, List.set_cons_succ])
                    refine wpAnyH_take (i := 2) (oi := ⟨some 38, _, _, _, _, _⟩) (v := ?_) rfl (by kernel_rfl) (by kernel_rfl) (by kernel_rfl) (fun _ _ _ h => h) (Or.inl ⟨by rfl, ?_⟩) (by assumption) ?_
                    rotate_left
                    · (intro w hSw; (try dsimp only at hSw); go_simp; (try with_reducible rfl))
                    (try simp only [Act.put, List.setIfInBounds_toArray, List.set_cons_zero, List.set_cons_succ])
                    refine wpAnyH_take (i := 3) (oi := ⟨some 39, _, _, _, _, _⟩) (v := ?_) rfl (by kernel_rfl) (by kernel_rfl) (by kernel_rfl) (fun _ _ _ h => h) (Or.inl ⟨by rfl, ?_⟩) (by assumption) ?_
                    rotate_left
                    · (intro w hSw; (try dsimp only at hSw); go_simp; (try with_reducible rfl))
                    (try simp only [Act.put, List.setIfInBounds_toArray, List.set_cons_zero, List.set_cons_succ])
                    refine wpAnyH_take (i := 4) (oi := ⟨some 40, _, _, _, _, _⟩) (v := ?_) rfl (by kernel_rfl) (by kernel_rfl) (by kernel_rfl) (fun _ _ _ h => h) (Or.inl ⟨by rfl, ?_⟩) (by assumption) ?_
                    rotate_left
                    · (intro w hSw; (try dsimp only at hSw); go_simp; (try with_reducible rfl))
                    (try simp only [Act.put, List.setIfInBounds_toArray, List.set_cons_zero, List.set_cons_succ])
                    refine wpAnyH_take (i := 5) (oi := ⟨some 41, _, _, _, _, _⟩) (v := ?_) rfl (by kernel_rfl) (by kernel_rfl) (by kernel_rfl) (fun _ _ _ h => h) (Or.inl ⟨by rfl, ?_⟩) (by assumption) ?_
                    rotate_left
                    · (intro w hSw; (try dsimp only at hSw); go_simp; (try with_reducible rfl))
                    (try simp only [Act.put, List.setIfInBounds_toArray, List.set_cons_zero, List.set_cons_succ])
                    refine wpAnyH_take (i := 6) (oi := ⟨some 42, _, _, _, _, _⟩) (v := ?_) rfl (by kernel_rfl) (by kernel_rfl) (by kernel_rfl) (fun _ _ _ h => h) (Or.inl ⟨by rfl, ?_⟩) (by assumption) ?_
                    rotate_left
                    · (intro w hSw; (try dsimp only at hSw); go_simp; (try with_reducible rfl))
                    (try simp only [Act.put, List.setIfInBounds_toArray, List.set_cons_zero, List.set_cons_succ])
                    refine wpAnyH_ready (rs := [7]) (by kernel_rfl) (by simp) ?_
                    refine AllReadyH.cons (o := ⟨some 43, _, _, _, _, _⟩) rfl (fun K hK => ?_) AllReadyH.nil
                    go_simp
                    (go_at_call 57; refine (l1Has_any _ _ _ _ _ _ _ O2.out.ri (by omega)).mono ?_; rintro e w3 ⟨rfl, rfl⟩; rw [hhi.out])
                    (first | (refine hK.out _ _ ?_ (fun hH1 => ?_)) | (go_wp2_with fail; refine hK.out _ _ ?_ (fun hH1 => ?_)))
                    · exact ⟨hc3, hc2⟩
                    clear hK K hH0
                    (try simp only [Act.put, List.setIfInBounds_toArray, List.set_cons_zero, List.set_cons_succ])
                    refine wpAnyH_take (i := 8) (oi := ⟨some 44, _, _, _, _, _⟩) (v := ?_) rfl (by kernel_rfl) (by kernel_rfl) (by kernel_rfl) (fun _ _ _ h => h) (Or.inl ⟨by rfl, ?_⟩) (by assumption) ?_
                    rotate_left
                    · (intro w hSw; (try dsimp only at hSw); go_simp; (try with_reducible rfl))
                    (try simp only [Act.put, List.setIfInBounds_toArray, List.set_cons_zero, List.set_cons_succ])
                    refine wpAnyH_take (i := 9) (oi := ⟨some 45, _, _, _, _, _⟩) (v := ?_) rfl (by kernel_rfl) (by kernel_rfl) (by kernel_rfl) (fun _ _ _ h => h) (Or.inl ⟨by rfl, ?_⟩) (by assumption) ?_
                    rotate_left
                    · (intro w hSw; (try dsimp only at hSw); go_simp; (try with_reducible rfl))
                    (try simp only [Act.put, List.setIfInBounds_toArray, List.set_cons_zero, List.set_cons_succ])
                    refine wpAnyH_take (i := 10) (oi := ⟨some 46, _, _, _, _, _⟩) (v := ?_) rfl (by kernel_rfl) (by kernel_rfl) (by kernel_rfl) (fun _ _ _ h => h) (Or.inl ⟨by rfl, ?_⟩) (by assumption) ?_
                    rotate_left
                    · (intro w hSw; (try dsimp only at hSw); go_simp; (try with_reducible rfl))
                    (try simp only [Act.put, List.setIfInBounds_toArray, List.set_cons_zero, List.set_cons_succ])
                    refine wpAnyH_take (i := 11) (oi := ⟨some 47, _, _, _, _, _⟩) (v := ?_) rfl (by kernel_rfl) (by kernel_rfl) (by kernel_rfl) (fun _ _ _ h => h) (Or.inl ⟨by rfl, ?_⟩) (by assumption) ?_
                    rotate_left
                    · (intro w hSw; (try dsimp only at hSw); go_simp; (try with_reducible rfl))
                    (try simp only [Act.put, List.setIfInBounds_toArray, List.set_cons_zero, List.set_cons_succ])
                    refine wpAnyH_take (i := 12) (oi := ⟨some 48, _, _, _, _, _⟩) (v := ?_) rfl (by kernel_rfl) (by kernel_rfl) (by kernel_rfl) (fun _ _ _ h => h) (Or.inl ⟨by rfl, ?_⟩) (by assumption) ?_
                    rotate_left
                    · (intro w hSw; (try dsimp only at hSw); go_simp; (try with_reducible rfl))
                    (try simp only [Act.put, List.setIfInBounds_toArray, List.set_cons_zero, List.set_cons_succ])
                    refine wpAnyH_take (i := 13) (oi := ⟨some 49, _, _, _, _, _⟩) (v := ?_) rfl (by kernel_rfl) (by kernel_rfl) (by kernel_rfl) (fun _ _ _ h => h) (Or.inl ⟨by rfl, ?_⟩) (by assumption) ?_
                    rotate_left
                    · (intro w hSw; (try dsimp only at hSw); go_simp; (try with_reducible rfl))
                    (try simp only [Act.put, List.setIfInBounds_toArray, List.set_cons_zero, List.set_cons_succ])
                    refine wpAnyH_take (i := 14) (oi := ⟨some 50, _, _, _, _, _⟩) (v := ?_) rfl (by kernel_rfl) (by kernel_rfl) (by kernel_rfl) (fun _ _ _ h => h) (Or.inl ⟨by rfl, ?_⟩) (by assumption) ?_
                    rotate_left
                    · (intro w hSw; (try dsimp only at hSw); go_simp; (try with_reducible rfl))
                    (try simp only [Act.put, List.setIfInBounds_toArray, List.set_cons_zero, List.set_cons_succ])
                    refine wpAnyH_take (i := 15) (oi := ⟨some 51, _, _, _, _, _⟩) (v := ?_) rfl (by kernel_rfl) (by kernel_rfl) (by kernel_rfl) (fun _ _ _ h => h) (Or.inl ⟨by rfl, ?_⟩) (by assumption) ?_
                    rotate_left
                    · (intro w hSw; (try dsimp only at hSw); go_simp; (try with_reducible rfl))
                    (try simp only [Act.put, List.setIfInBounds_toArray, List.set_cons_zero, List.set_cons_succ])
                    refine wpAnyH_take (i := 16) (oi := ⟨some 52, _, _, _, _, _⟩) (v := ?_) rfl (by kernel_rfl) (by kernel_rfl) (by kernel_rfl) (fun _ _ _ h => h) (Or.inl ⟨by rfl, ?_⟩) (by assumption) ?_
                    rotate_left
                    · (intro w hSw; (try dsimp only at hSw); go_simp; (try with_reducible rfl))
                    (try simp only [Act.put, List.setIfInBounds_toArray, List.set_cons_zero, List.set_cons_succ])
                    refine wpAnyH_take (i := 17) (oi := ⟨some 53, _, _, _, _, _⟩) (v := ?_) rfl (by kernel_rfl) (by kernel_rfl) (by kernel_rfl) (fun _ _ _ h => h) (Or.inl ⟨by rfl, ?_⟩) (by assumption) ?_
                    rotate_left
                    · (intro w hSw; (try dsimp only at hSw); go_simp; (try with_reducible rfl))
                    (try simp only [Act.put, List.setIfInBounds_toArray, List.set_cons_zero, List.set_cons_succ])
                    refine wpAnyH_ready (rs := [18]) (by kernel_rfl) (by simp) ?_
                    refine AllReadyH.cons (o := ⟨some 54, _, _, _, _, _⟩) rfl (fun K hK => ?_) AllReadyH.nil
                    go_simp
                    (go_at_call 59; refine (l21Next_any _ _ _ _ _ _ _ H2.out hn HN2.out).mono ?_; rintro e w3 ⟨rfl, rfl⟩; rw [hnn.out])
                    (first | (refine hK.out _ _ ?_ (fun hH2 => ?_)) | (go_wp2_with fail; refine hK.out _ _ ?_ (fun hH2 => ?_)))
                    · exact ⟨hc3, hc2⟩
                    clear hK K hH1
                    (try simp only [Act.put, List.setIfInBounds_toArray, List.set_cons_zero, List.set_cons_succ])
                    refine wpAnyH_take (i := 19) (oi := ⟨some 55, _, _, _, _, _⟩) (v := ?_) rfl (by kernel_rfl) (by kernel_rfl) (by kernel_rfl) (fun _ _ _ h => h) (Or.inl ⟨by rfl, ?_⟩) (by assumption) ?_
                    rotate_left
                    · (intro w hSw; (try dsimp only at hSw); go_simp; (try with_reducible rfl))
                    (try simp only [Act.put, List.setIfInBounds_toArray, List.set_cons_zero, List.set_cons_succ])
                    refine wpAnyH_take (i := 20) (oi := ⟨some 56, _, _, _, _, _⟩) (v := ?_) rfl (by kernel_rfl) (by kernel_rfl) (by kernel_rfl) (fun _ _ _ h => h) (Or.inl ⟨by rfl, ?_⟩) (by assumption) ?_
                    rotate_left
                    · (intro w hSw; (try dsimp only at hSw); go_simp; (try with_reducible rfl))
                    (try simp only [Act.put, List.setIfInBounds_toArray, List.set_cons_zero, List.set_cons_succ])
                    refine wpAnyH_take (i := 21) (oi := ⟨some 57, _, _, _, _, _⟩) (v := ?_) rfl (by kernel_rfl) (by kernel_rfl) (by kernel_rfl) (fun _ _ _ h => h) (Or.inl ⟨by rfl, ?_⟩) (by assumption) ?_
                    rotate_left
                    · (intro w hSw; (try dsimp only at hSw); go_simp; (try with_reducible rfl))
                    (try simp only [Act.put, List.setIfInBounds_toArray, List.set_cons_zero, List.set_cons_succ])
                    refine wpAnyH_take (i := 22) (oi := ⟨some 7, _, _, _, _, _⟩) (v := ?_) rfl (by kernel_rfl) (by kernel_rfl) (by kernel_rfl) (fun _ _ _ h => h) (Or.inl ⟨by rfl, ?_⟩) (by assumption) ?_
                    rotate_left
                    · (intro w hSw; (try dsimp only at hSw); go_simp; (try with_reducible rfl))
                    (try simp only [Act.put, List.setIfInBounds_toArray, List.set_cons_zero, List.set_cons_succ])
                    refine wpAnyH_done (by kernel_rfl) ?_ _
                    clear hH2
                    go_wp2_with fail
                    go_roundw
                    case rel => exact ⟨k + 1, by omega, by go_num, by rw [hst.out], hd.out.more _⟩
                    case measure => simp [intOf]; omega
                  · rw [Bool.true_or] at hst
                    go_wp2_with fail
                    refine wp_region_held_drew (S := (fun w' => w'.cell? (ad.add q) = some (.int .i64 (x' : Int)) ∧ w'.cell? (ad.add k) = some (.int .i64 (l : Int)))) (by kernel_rfl) ?_ (fun hH0 => ?_)
                    · exact ⟨hc3, hc2⟩
                    refine wpAnyH_take (i := 0) (oi := ⟨some 36, _, _, _, _, _⟩) (v := ?_) rfl (by kernel_rfl) (by kernel_rfl) (by kernel_rfl) (fun _ _ _ h => h) (Or.inl ⟨by rfl, ?_⟩) (by assumption) ?_
                    rotate_left
                    · (intro w hSw; (try dsimp only at hSw); go_simp; (try with_reducible rfl))
                    (try simp only [Act.put, List.setIfInBounds_toArray, List.set_cons_zero, List.set_cons_succ])
                    refine wpAnyH_take (i := 1) (oi := ⟨some 37, _, _, _, _, _⟩) (v := ?_) rfl (by kernel_rfl) (by kernel_rfl) (by kernel_rfl) (fun _ _ _ h => h) (Or.inl ⟨by rfl, ?_⟩) (by assumption) ?_
                    rotate_left
                    · (intro w hSw; (try dsimp only at hSw); go_simp; (try with_reducible rfl))
                    (try simp only [Act.put, List.setIfInBounds_toArray, List.set_cons_zero, List.set_cons_succ])
                    refine wpAnyH_take (i := 2) (oi := ⟨some 38, _, _, _, _, _⟩) (v := ?_) rfl (by kernel_rfl) (by kernel_rfl) (by kernel_rfl) (fun _ _ _ h => h) (Or.inl ⟨by rfl, ?_⟩) (by assumption) ?_
                    rotate_left
                    · (intro w hSw; (try dsimp only at hSw); go_simp; (try with_reducible rfl))
                    (try simp only [Act.put, List.setIfInBounds_toArray, List.set_cons_zero, List.set_cons_succ])
                    refine wpAnyH_take (i := 3) (oi := ⟨some 39, _, _, _, _, _⟩) (v := ?_) rfl (by kernel_rfl) (by kernel_rfl) (by kernel_rfl) (fun _ _ _ h => h) (Or.inl ⟨by rfl, ?_⟩) (by assumption) ?_
                    rotate_left
                    · (intro w hSw; (try dsimp only at hSw); go_simp; (try with_reducible rfl))
                    (try simp only [Act.put, List.setIfInBounds_toArray, List.set_cons_zero, List.set_cons_succ])
                    refine wpAnyH_take (i := 4) (oi := ⟨some 40, _, _, _, _, _⟩) (v := ?_) rfl (by kernel_rfl) (by kernel_rfl) (by kernel_rfl) (fun _ _ _ h => h) (Or.inl ⟨by rfl, ?_⟩) (by assumption) ?_
                    rotate_left
                    · (intro w hSw; (try dsimp only at hSw); go_simp; (try with_reducible rfl))
                    (try simp only [Act.put, List.setIfInBounds_toArray, List.set_cons_zero, List.set_cons_succ])
                    refine wpAnyH_take (i := 5) (oi := ⟨some 41, _, _, _, _, _⟩) (v := ?_) rfl (by kernel_rfl) (by kernel_rfl) (by kernel_rfl) (fun _ _ _ h => h) (Or.inl ⟨by rfl, ?_⟩) (by assumption) ?_
                    rotate_left
                    · (intro w hSw; (try dsimp only at hSw); go_simp; (try with_reducible rfl))
                    (try simp only [Act.put, List.setIfInBounds_toArray, List.set_cons_zero, List.set_cons_succ])
                    refine wpAnyH_take (i := 6) (oi := ⟨some 42, _, _, _, _, _⟩) (v := ?_) rfl (by kernel_rfl) (by kernel_rfl) (by kernel_rfl) (fun _ _ _ h => h) (Or.inl ⟨by rfl, ?_⟩) (by assumption) ?_
                    rotate_left
                    · (intro w hSw; (try dsimp only at hSw); go_simp; (try with_reducible rfl))
                    (try simp only [Act.put, List.setIfInBounds_toArray, List.set_cons_zero, List.set_cons_succ])
                    refine wpAnyH_ready (rs := [7]) (by kernel_rfl) (by simp) ?_
                    refine AllReadyH.cons (o := ⟨some 43, _, _, _, _, _⟩) rfl (fun K hK => ?_) AllReadyH.nil
                    go_simp
                    (go_at_call 57; refine (l1Has_any _ _ _ _ _ _ _ O2.out.ri (by omega)).mono ?_; rintro e w3 ⟨rfl, rfl⟩; rw [hhi.out])
                    (first | (refine hK.out _ _ ?_ (fun hH1 => ?_)) | (go_wp2_with fail; refine hK.out _ _ ?_ (fun hH1 => ?_)))
                    · exact ⟨hc3, hc2⟩
                    clear hK K hH0
                    (try simp only [Act.put, List.setIfInBounds_toArray, List.set_cons_zero, List.set_cons_succ])
                    refine wpAnyH_take (i := 8) (oi := ⟨some 44, _, _, _, _, _⟩) (v := ?_) rfl (by kernel_rfl) (by kernel_rfl) (by kernel_rfl) (fun _ _ _ h => h) (Or.inl ⟨by rfl, ?_⟩) (by assumption) ?_
                    rotate_left
                    · (intro w hSw; (try dsimp only at hSw); go_simp; (try with_reducible rfl))
                    (try simp only [Act.put, List.setIfInBounds_toArray, List.set_cons_zero, List.set_cons_succ])
                    refine wpAnyH_take (i := 9) (oi := ⟨some 45, _, _, _, _, _⟩) (v := undef) rfl (by kernel_rfl) (by kernel_rfl) (by kernel_rfl) (fun _ _ _ h => h) (Or.inr ⟨by rfl, rfl⟩) (by assumption) ?_
                    (try simp only [Act.put, List.setIfInBounds_toArray, List.set_cons_zero, List.set_cons_succ])
                    refine wpAnyH_take (i := 10) (oi := ⟨some 46, _, _, _, _, _⟩) (v := undef) rfl (by kernel_rfl) (by kernel_rfl) (by kernel_rfl) (fun _ _ _ h => h) (Or.inr ⟨by rfl, rfl⟩) (by assumption) ?_
                    (try simp only [Act.put, List.setIfInBounds_toArray, List.set_cons_zero, List.set_cons_succ])
                    refine wpAnyH_take (i := 11) (oi := ⟨some 47, _, _, _, _, _⟩) (v := undef) rfl (by kernel_rfl) (by kernel_rfl) (by kernel_rfl) (fun _ _ _ h => h) (Or.inr ⟨by rfl, rfl⟩) (by assumption) ?_
                    (try simp only [Act.put, List.setIfInBounds_toArray, List.set_cons_zero, List.set_cons_succ])
                    refine wpAnyH_take (i := 12) (oi := ⟨some 48, _, _, _, _, _⟩) (v := undef) rfl (by kernel_rfl) (by kernel_rfl) (by kernel_rfl) (fun _ _ _ h => h) (Or.inr ⟨by rfl, rfl⟩) (by assumption) ?_
                    (try simp only [Act.put, List.setIfInBounds_toArray, List.set_cons_zero, List.set_cons_succ])
                    refine wpAnyH_take (i := 13) (oi := ⟨some 49, _, _, _, _, _⟩) (v := undef) rfl (by kernel_rfl) (by kernel_rfl) (by kernel_rfl) (fun _ _ _ h => h) (Or.inr ⟨by rfl, rfl⟩) (by assumption) ?_
                    (try simp only [Act.put, List.setIfInBounds_toArray, List.set_cons_zero, List.set_cons_succ])
                    refine wpAnyH_take (i := 14) (oi := ⟨some 50, _, _, _, _, _⟩) (v := undef) rfl (by kernel_rfl) (by kernel_rfl) (by kernel_rfl) (fun _ _ _ h => h) (Or.inr ⟨by rfl, rfl⟩) (by assumption) ?_
                    (try simp only [Act.put, List.setIfInBounds_toArray, List.set_cons_zero, List.set_cons_succ])
                    refine wpAnyH_take (i := 15) (oi := ⟨some 51, _, _, _, _, _⟩) (v := undef) rfl (by kernel_rfl) (by kernel_rfl) (by kernel_rfl) (fun _ _ _ h => h) (Or.inr ⟨by rfl, rfl⟩) (by assumption) ?_
                    (try simp only [Act.put, List.setIfInBounds_toArray, List.set_cons_zero, List.set_cons_succ])
                    refine wpAnyH_take (i := 16) (oi := ⟨some 52, _, _, _, _, _⟩) (v := undef) rfl (by kernel_rfl) (by kernel_rfl) (by kernel_rfl) (fun _ _ _ h => h) (Or.inr ⟨by rfl, rfl⟩) (by assumption) ?_
                    (try simp only [Act.put, List.setIfInBounds_toArray, List.set_cons_zero, List.set_cons_succ])
                    refine wpAnyH_take (i := 17) (oi := ⟨some 53, _, _, _, _, _⟩) (v := undef) rfl (by kernel_rfl) (by kernel_rfl) (by kernel_rfl) (fun _ _ _ h => h) (Or.inr ⟨by rfl, rfl⟩) (by assumption) ?_
                    (try simp only [Act.put, List.setIfInBounds_toArray, List.set_cons_zero, List.set_cons_succ])
                    refine wpAnyH_take (i := 18) (oi := ⟨some 54, _, _, _, _, _⟩) (v := undef) rfl (by kernel_rfl) (by kernel_rfl) (by kernel_rfl) (fun _ _ _ h => h) (Or.inr ⟨by rfl, rfl⟩) (by assumption) ?_
                    (try simp only [Act.put, List.setIfInBounds_toArray, List.set_cons_zero, List.set_cons_succ])
                    refine wpAnyH_take (i := 19) (oi := ⟨some 55, _, _, _, _, _⟩) (v := undef) rfl (by kernel_rfl) (by kernel_rfl) (by kernel_rfl) (fun _ _ _ h => h) (Or.inr ⟨by rfl, rfl⟩) (by assumption) ?_
                    (try simp only [Act.put, List.setIfInBounds_toArray, List.set_cons_zero, List.set_cons_succ])
                    refine wpAnyH_take (i := 20) (oi := ⟨some 56, _, _, _, _, _⟩) (v := ?_) rfl (by kernel_rfl) (by kernel_rfl) (by kernel_rfl) (fun _ _ _ h => h) (Or.inl ⟨by rfl, ?_⟩) (by assumption) ?_
                    rotate_left
                    · (intro w hSw; (try dsimp only at hSw); go_simp; (try with_reducible rfl))
                    (try simp only [Act.put, List.setIfInBounds_toArray, List.set_cons_zero, List.set_cons_succ])
                    refine wpAnyH_take (i := 21) (oi := ⟨some 57, _, _, _, _, _⟩) (v := ?_) rfl (by kernel_rfl) (by kernel_rfl) (by kernel_rfl) (fun _ _ _ h => h) (Or.inl ⟨by rfl, ?_⟩) (by assumption) ?_
                    rotate_left
                    · (intro w hSw; (try dsimp only at hSw); go_simp; (try with_reducible rfl))
                    (try simp only [Act.put, List.setIfInBounds_toArray, List.set_cons_zero, List.set_cons_succ])
                    refine wpAnyH_take (i := 22) (oi := ⟨some 7, _, _, _, _, _⟩) (v := ?_) rfl (by kernel_rfl) (by kernel_rfl) (by kernel_rfl) (fun _ _ _ h => h) (Or.inl ⟨by rfl, ?_⟩) (by assumption) ?_
                    rotate_left
                    · (intro w hSw; (try dsimp only at hSw); go_simp; (try with_reducible rfl))
                    (try simp only [Act.put, List.setIfInBounds_toArray, List.set_cons_zero, List.set_cons_succ])
                    refine wpAnyH_done (by kernel_rfl) ?_ _
                    clear hH1
                    go_wp2_with fail
                    go_roundw
                    case rel => exact ⟨k + 1, by omega, by go_num, by rw [hst.out], hd.out.more _⟩
                    case measure => simp [intOf]; omega
              · obtain rfl : k = L := by omega
                have hfull := hid (frTo_full (os := os') (nx := nF xss) (k := k) (allM_ord HX.out).1 (Nat.le_of_eq HLL.out))
                have hfu : frTo os' (allM xss) (nF xss) x k = frM (left (tF xss) os') (nF xss) x := hfull.out
                have O2 := hid (OI.dr ho'.out hd.out)
                have S3 := hid (hs'.out.dr hd.out)
                have Z3 := hid (show w2.heap.size ≤ wc.heap.size by rw [hd.out.size]; exact hz'.out)
                rw [hfu]
                clear hfu hfull
                cases hF : frM (left (tF xss) os') (nF xss) x
                · have hmid2 := hid (hmid.out.miss HX.out hF)
                  clear hF
                  go_wp2_with fail
                  go_roundw
                  case rel => exact ⟨q + 1, m', a', _, os', false, by omega, by go_num, rfl, rfl, hm', O2, hw', hmid2, Z3, S3⟩
                  case measure => simp [intOf]; omega
                · have hw3 := hid (mid_take hw'.out HX.out hmid.out.no.2 hF)
                  have hmid2 := hid (hmid.out.hit (x := x) (q + 1))
                  have hml := hid (show os'.length = m' by have := ho'.out.len; simpa [ints] using this)
                  have hm2 : m' + 1 ≤ 12 := by have := hw3.out.len; rw [List.length_append, hml.out] at this; simpa using this
                  have hal2 := hal.dr hd.out
                  obtain ⟨ad2, y2, he2, hb3, hx3, hc3⟩ := hal2.ri.at_ hlt
                  injection he2 with he2
                  subst he2
                  obtain ⟨x', rfl, hx'⟩ := ints_of hx3.out
                  obtain rfl : x' = x := by have := HX.out; rw [hx'] at this; injection this
                  clear hF hx' hx3
                  go_wp2_with (at_builtin; refine wpList_append_int _ rfl _ _ 22 rfl w2.heap.size 3 Try.underlying22 intInfo _ _ _ _ (x' : Int) rfl O2.out rfl (by omega) Z3.out ?_; intro X4 a4 w4 o4 g4)
                  have O4 := hid (show OI w4 w2.heap.size 3 X4 (m' + 1) a4 (ints (os' ++ [x'])) by rw [TOEnd_ints_snoc]; exact o4)
                  have S4 := hid (St.grown S3.out g4 (fun q hq => (O2.out.lt q hq).1))
                  go_roundw
                  case rel => exact ⟨q + 1, m' + 1, a4, _, _, true, by omega, by go_num, rfl, rfl, hm2, O4, hw3, hmid2, hid (Nat.le_trans Z3.out g4.size), S4⟩
                  case measure => simp [intOf]; omega
          · have hlen := hid hmid.out.yes
            have hml := hid (show os'.length = m' by have := ho'.out.len; simpa [ints] using this)
            have hml2 := hid (show os.length = m by have := ho.out.len; simpa [ints] using this)
            have hmm : m' = m + 1 := by have := hlen.out; rw [hml.out, hml2.out] at this; exact this
            have HMM := hid hmm
            clear hmm
            go_wp2_with fail
            go_roundw
            case rel => exact ⟨m', a', _, os', true, hm', rfl, rfl, ho', hw', hid (fun h => by cases h), hz', hs'⟩
            case measure => have := HMM.out; simp [lenOf, boolOf] <;> omega
        · obtain rfl : q = L := by omega
          have hqi : ¬ (q : Int) < (q : Int) := by omega
          cases b
          · have hno2 := hid (mid_none (Nat.le_of_eq HLL.out) hmid.out.no.2)
            have hlo := hid hmid.out.no.1
            have hml := hid (show os'.length = m' by have := ho'.out.len; simpa [ints] using this)
            have hml2 := hid (show os.length = m by have := ho.out.len; simpa [ints] using this)
            have hmm : m' = m := by have := hml.out; rw [hlo.out, hml2.out] at this; exact this.symm
            have HMM := hid hmm
            clear hmm
            go_wp2_with fail
            go_roundw
            case rel => exact ⟨m', a', _, os', false, hm', rfl, rfl, ho', hw', hid (fun _ => hno2.out), hz', hs'⟩
            case measure => have := HMM.out; simp [lenOf, boolOf] <;> omega
          · have hlen := hid hmid.out.yes
            have hml := hid (show os'.length = m' by have := ho'.out.len; simpa [ints] using this)
            have hml2 := hid (show os.length = m by have := ho.out.len; simpa [ints] using this)
            have hmm : m' = m + 1 := by have := hlen.out; rw [hml.out, hml2.out] at this; exact this
            have HMM := hid hmm
            clear hmm
            go_wp2_with fail
            go_roundw
            case rel => exact ⟨m', a', _, os', true, hm', rfl, rfl, ho', hw', hid (fun h => by cases h), hz', hs'⟩
            case measure => have := HMM.out; simp [lenOf, boolOf] <;> omega
theorem toOk_len (xss : List (List Int)) : (ordM (tF xss) (nF xss)).length ≤ 12 := (ord_way _ _).len
/-- The reference's TraceOrder. -/
def TOEndS (xss : List (List Int)) (w : World) (e : Ending) (w' : World) : Prop := ∃ A n c, e = .returned (.tuple #[.slice A n c, .bool (toOk xss)]) ∧ SL w' A n c (toV xss) ∧ St w w'
theorem TOEndS.bad {xss : List (List Int)} {w W : World} (h : toOk xss = false) (s : St w W) : TOEndS xss w (.returned (.tuple #[.slice (some ⟨W.heap.size, 0, none⟩) 0 0, .bool false])) (W.alloc (.cells #[] 3)) := by
  refine ⟨some ⟨W.heap.size, 0, none⟩, 0, 0, by rw [h], ?_, s.alloc _⟩
  unfold toV
  rw [h]
  exact (OI.lit (w := W) (e := 3)).sl
theorem TOEndS.good {xss : List (List Int)} {w W : World} {A : Option Addr} {n c base : Nat} (h : toOk xss = true) (o : OI W base 3 A n c (ints (ordM (tF xss) (nF xss)))) (s : St w W) : TOEndS xss w (.returned (.tuple #[.slice A n c, .bool true])) W := by
  refine ⟨A, n, c, by rw [h], ?_, s⟩
  unfold toV
  rw [if_pos h]
  exact o.sl
set_option maxHeartbeats 1000000 in
theorem specTraceOrder_any (A : Option Addr) (n c : Nat) (xss : List (List Int)) (w : World) (h : SLL w A n c xss) (hn : n ≤ 1048576) (hn2 : ∀ xs ∈ xss, xs.length ≤ 1048576) :
    Calls Try.prog 35 #[.slice A n c] w (TOEndS xss w) := by
  have HN2 := hid hn2
  clear hn2
  obtain ⟨va, hva⟩ : ∃ b, valT xss = b := ⟨_, rfl⟩
  have HV := hid hva
  clear hva
  go_enter Try.func35, Try.ntmps35
  go_wp2_with fail
  refine (specTracesValid_any _ _ _ _ _ h hn HN2.out).mono ?_
  rintro e w1 ⟨rfl, s1⟩
  have s1 := s1.st
  rw [HV.out]
  cases va
  · have hb := hid (show toOk xss = false by unfold toOk; rw [HV.out]; rfl)
    go_wp2_with fail
    go_ret2
    exact TOEndS.bad hb.out s1
  have h1 := h.st s1
  go_wp2_with fail
  refine (l21Order_any _ _ _ _ _ h1 hn HN2.out).mono ?_
  rintro e w2 ⟨X, m, a, rfl, o2, s2⟩
  have h2 := h1.st s2
  have HM := hid (show (ordM (tF xss) (nF xss)).length = m by have := o2.len; simpa [ints] using this)
  have hm12 : m ≤ 12 := by have := toOk_len xss; rw [HM.out] at this; exact this
  have O2 := hid o2
  have S2 := hid (s1.trans s2)
  clear s1 s2 o2 h h1
  go_wp2_with fail
  refine (l21All_any _ _ _ _ _ h2 hn HN2.out).mono ?_
  rintro e w3 ⟨Y, q, b, rfl, o3, s3⟩
  have HQ := hid (show (allM xss).length = q by have := o3.len; simpa [ints] using this)
  have hq12 : q ≤ 12 := by have := allM_le xss; rw [HQ.out] at this; exact this
  have O3 := hid (own_below O2.out s3)
  have S3 := hid (S2.out.trans s3)
  clear o3 s3
  by_cases hlt : m < q
  · have hli : (m : Int) < (q : Int) := by omega
    have hb := hid (show toOk xss = false by
      unfold toOk fullM
      rw [HM.out, ← allM_len, HQ.out, HV.out, Bool.true_and, decide_eq_false_iff_not]; omega)
    go_wp2_with fail
    go_ret2
    exact TOEndS.bad hb.out S3.out
  · have hli : ¬ (m : Int) < (q : Int) := by omega
    have hb := hid (show toOk xss = true by
      unfold toOk fullM
      rw [HM.out, ← allM_len, HQ.out, HV.out, Bool.true_and, decide_eq_true_eq]; omega)
    go_wp2_with fail
    go_ret2
    exact TOEndS.good hb.out O3.out S3.out
end Go.Proofs.Ytfdgbbapbpflcaa
