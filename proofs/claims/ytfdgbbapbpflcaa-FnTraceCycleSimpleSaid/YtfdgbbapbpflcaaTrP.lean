/- Plain: what an order of traces is. -/
import Derived.Test.YtfdgbbapbpflcaaTr9
import Derived.Test.YtfdgbbapbpflcaaTr4
namespace Go.Proofs.Ytfdgbbapbpflcaa
open Go.RowKit
theorem nodup_sub_length : ∀ (l t : List Int), l.Nodup → (∀ x ∈ l, x ∈ t) → l.length ≤ t.length
  | [], t, _, _ => by simp
  | x :: l, t, hd, h => by
    rw [List.nodup_cons] at hd
    have hx := h x (by simp)
    have := nodup_sub_length l (t.erase x) hd.2 (fun y hy => by
      have hne : y ≠ x := fun e => hd.1 (e ▸ hy)
      exact (List.mem_erase_of_ne hne).2 (h y (by simp [hy])))
    rw [List.length_erase_of_mem hx] at this
    have hp : 0 < t.length := List.length_pos_of_mem hx
    simp only [List.length_cons]
    omega
theorem sub_of_pos : ∀ (os xs : List Int), (∀ x ∈ xs, x ∈ os) → xs.Pairwise (fun a b => os.idxOf a < os.idxOf b) → xs.Sublist os
  | [], xs, h, _ => by
    cases xs with
    | nil => exact List.Sublist.refl _
    | cons x t => have := h x (by simp); simp at this
  | o :: os, [], _, _ => List.nil_sublist _
  | o :: os, x :: xs, h, hp => by
    rw [List.pairwise_cons] at hp
    have hidx : ∀ a, (o :: os).idxOf a = if o = a then 0 else os.idxOf a + 1 := by
      intro a
      rw [List.idxOf_cons]
      by_cases e : o = a
      · simp [e]
      · have e' : (o == a) = false := by simpa using e
        rw [e', if_neg e]; rfl
    have hpos : ∀ y ∈ xs, o ≠ y := by
      intro y hy e
      have := hp.1 y hy
      rw [hidx y, if_pos e] at this
      omega
    have htail : xs.Pairwise (fun a b => os.idxOf a < os.idxOf b) := by
      refine List.Pairwise.imp_of_mem (fun {a b} ha hb hab => ?_) hp.2
      rw [hidx a, hidx b, if_neg (hpos a ha), if_neg (hpos b hb)] at hab
      omega
    have hmem : ∀ y ∈ xs, y ∈ os := by
      intro y hy
      have := h y (by simp [hy])
      rcases List.mem_cons.1 this with e | e
      · exact absurd e.symm (hpos y hy)
      · exact e
    by_cases hx : o = x
    · subst hx
      exact (sub_of_pos os xs hmem htail).cons_cons o
    · refine (sub_of_pos os (x :: xs) ?_ ?_).cons o
      · intro y hy
        rcases List.mem_cons.1 hy with rfl | hy
        · rcases List.mem_cons.1 (h y (by simp)) with e | e
          · exact absurd e.symm hx
          · exact e
        · exact hmem y hy
      · rw [List.pairwise_cons]
        refine ⟨fun y hy => ?_, htail⟩
        have := hp.1 y hy
        rw [hidx x, hidx y, if_neg hx, if_neg (hpos y hy)] at this
        omega
theorem pairwise_of_step {R : Int → Int → Prop} (htr : ∀ a b c, R a b → R b c → R a c) : ∀ xs : List Int, (∀ k a b, xs[k]? = some a → xs[k + 1]? = some b → R a b) → xs.Pairwise R
  | [], _ => List.Pairwise.nil
  | [x], _ => by simp
  | x :: y :: t, h => by
    have ih := pairwise_of_step htr (y :: t) (fun k a b ha hb => h (k + 1) a b (by simpa using ha) (by simpa using hb))
    have hxy := h 0 x y rfl rfl
    rw [List.pairwise_cons]
    refine ⟨fun z hz => ?_, ih⟩
    rcases List.mem_cons.1 hz with rfl | hz
    · exact hxy
    · exact htr _ _ _ hxy ((List.pairwise_cons.1 ih).1 z hz)
theorem isTr_iff {xs : List Int} : isTr xs = true ↔ (∀ x ∈ xs, isMsg x = true) ∧ xs.Nodup := by simp [isTr, List.all_eq_true]
theorem isMsg_of_lt {m : Nat} (h : m < 12) : isMsg (m : Int) = true := by simp only [isMsg, inB_iff]; omega
theorem tr_nat {xs : List Int} (h : isTr xs = true) {x : Int} (hx : x ∈ xs) : ∃ m : Nat, x = m ∧ m < 12 := isMsg_nat ((isTr_iff.1 h).1 x hx)
theorem mem_ints {os : List Nat} {m : Nat} : (m : Int) ∈ ints os ↔ m ∈ os := by
  have := has_ints os m
  rw [Bool.eq_iff_iff, decide_eq_true_eq] at this
  simpa [has] using this
theorem idx_ints (m : Nat) : ∀ os : List Nat, (ints os).idxOf (m : Int) = os.idxOf m
  | [] => rfl
  | o :: os => by
    have ih := idx_ints m os
    show ((o : Int) :: ints os).idxOf (m : Int) = (o :: os).idxOf m
    rw [List.idxOf_cons, List.idxOf_cons, ih]
    have hb : ((o : Int) == (m : Int)) = (o == m) := by rw [Bool.eq_iff_iff, beq_iff_eq, beq_iff_eq]; omega
    rw [hb]
theorem ints_nodup {os : List Nat} (h : os.Nodup) : (ints os).Nodup := by
  unfold ints
  rw [List.nodup_iff_pairwise_ne, List.pairwise_map]
  rw [List.nodup_iff_pairwise_ne] at h
  exact h.imp fun hne => by omega
theorem toldLL_mem {xss : List (List Int)} {xs : List Int} {x : Int} (h : xs ∈ xss) (hx : x ∈ xs) : toldLL xss x = true := List.any_eq_true.2 ⟨xs, h, by simpa [has] using hx⟩
theorem nextLL_mem {xss : List (List Int)} {xs : List Int} {k : Nat} {a b : Int} (h : xs ∈ xss) (ha : xs[k]? = some a) (hb : xs[k + 1]? = some b) : nextLL xss a b = true := List.any_eq_true.2 ⟨xs, h, stp_iff.2 ⟨k, ha, hb⟩⟩
section
variable {xss : List (List Int)}
theorem toV_eq (h : toOk xss = true) : toV xss = ints (ordM (tF xss) (nF xss)) := by unfold toV; rw [if_pos h]
theorem toOk_full (h : toOk xss = true) : valT xss = true ∧ fullM (tF xss) (nF xss) = true := by unfold toOk at h; rwa [Bool.and_eq_true] at h
theorem toV_isTr (h : toOk xss = true) : isTr (toV xss) = true := by
  rw [toV_eq h, isTr_iff]
  refine ⟨fun x hx => ?_, ints_nodup (ord_nodup _ _)⟩
  obtain ⟨m, hm, rfl⟩ := List.mem_map.1 hx
  exact isMsg_of_lt (ord_mem hm).1
theorem toV_has (h : toOk xss = true) {m : Nat} (hm : m < 12) : has (toV xss) (m : Int) = tF xss m := by
  rw [toV_eq h, has_ints, Bool.eq_iff_iff, decide_eq_true_eq]
  exact ⟨fun hx => (ord_mem hx).2, fun hT => full_all (toOk_full h).2 hm hT⟩
theorem toV_len (h : toOk xss = true) : (toV xss).length = cntM (tF xss) := by rw [toV_eq h, ints_len, full_len (toOk_full h).2]
/-- Every trace is a part of the order. -/
theorem toV_sub (h : toOk xss = true) {xs : List Int} (hx : xs ∈ xss) : xs.Sublist (toV xss) := by
  have ht := valT_tr (toOk_full h).1 xs hx
  rw [toV_eq h]
  refine sub_of_pos _ _ (fun x hxx => ?_) (pairwise_of_step (R := fun a b => (ints (ordM (tF xss) (nF xss))).idxOf a < (ints (ordM (tF xss) (nF xss))).idxOf b) (fun _ _ _ h1 h2 => by omega) xs fun k a b ha hb => ?_)
  · obtain ⟨m, rfl, hm⟩ := tr_nat ht hxx
    exact mem_ints.2 (full_all (toOk_full h).2 hm (toldLL_mem hx hxx))
  · obtain ⟨l, rfl, hl⟩ := tr_nat ht (List.mem_of_getElem? ha)
    obtain ⟨m, rfl, hm⟩ := tr_nat ht (List.mem_of_getElem? hb)
    show (ints (ordM (tF xss) (nF xss))).idxOf (l : Int) < (ints (ordM (tF xss) (nF xss))).idxOf (m : Int)
    rw [idx_ints, idx_ints]
    exact full_rank (toOk_full h).2 hl hm (toldLL_mem hx (List.mem_of_getElem? ha)) (toldLL_mem hx (List.mem_of_getElem? hb)) (nextLL_mem hx ha hb)
theorem rest_of_sub' : ∀ (ys xs : List Int), xs.Sublist ys → rest xs ys = []
  | [], xs, h => List.sublist_nil.1 h
  | y :: ys, [], _ => rest_of_nil _
  | y :: ys, x :: xs, h => by
    show rest (stepR (x :: xs) y) ys = []
    unfold stepR
    by_cases hxy : (x == y) = true
    · simp only [hxy, if_true]
      cases h with
      | cons _ h => exact rest_of_sub' ys xs ((List.sublist_cons_self x xs).trans h)
      | cons_cons _ h => exact rest_of_sub' ys xs h
    · simp only [hxy, if_false, Bool.false_eq_true]
      cases h with
      | cons _ h => exact rest_of_sub' ys (x :: xs) h
      | cons_cons _ h => simp at hxy
theorem follows_of_sub {xs ys : List Int} (h : xs.Sublist ys) (hy : isTr ys = true) : follows xs ys = true := by
  have hx : isTr xs = true := by
    rw [isTr_iff] at hy ⊢
    exact ⟨fun x hx => hy.1 x (h.subset hx), hy.2.sublist h⟩
  simp [follows, hx, hy, rest_of_sub' ys xs h]
theorem toV_follows (h : toOk xss = true) {xs : List Int} (hx : xs ∈ xss) : follows xs (toV xss) = true := follows_of_sub (toV_sub h hx) (toV_isTr h)
/-- Traces with a rank have an order. -/
theorem toOk_of_rank (hv : valT xss = true) (r : Int → Nat) (h : ∀ xs ∈ xss, ∀ k a b, xs[k]? = some a → xs[k + 1]? = some b → r a < r b) : toOk xss = true := by
  unfold toOk
  rw [hv, Bool.true_and]
  refine full_of_rank (fun m => r (m : Int)) fun l m _ _ _ _ hn => ?_
  obtain ⟨xs, hx, hs⟩ := List.any_eq_true.1 hn
  obtain ⟨k, ha, hb⟩ := stp_iff.1 hs
  exact h xs hx k _ _ ha hb
/-- The places in an order rank every trace. -/
theorem toV_rank (h : toOk xss = true) {xs : List Int} (hx : xs ∈ xss) {k : Nat} {a b : Int} (ha : xs[k]? = some a) (hb : xs[k + 1]? = some b) : (toV xss).idxOf a < (toV xss).idxOf b := by
  have ht := valT_tr (toOk_full h).1 xs hx
  obtain ⟨l, rfl, hl⟩ := tr_nat ht (List.mem_of_getElem? ha)
  obtain ⟨m, rfl, hm⟩ := tr_nat ht (List.mem_of_getElem? hb)
  rw [toV_eq h, idx_ints, idx_ints]
  exact full_rank (toOk_full h).2 hl hm (toldLL_mem hx (List.mem_of_getElem? ha)) (toldLL_mem hx (List.mem_of_getElem? hb)) (nextLL_mem hx ha hb)
theorem toV_rank_lt (h : toOk xss = true) {xs : List Int} (hx : xs ∈ xss) : ∀ {i j : Nat} {a b : Int}, i < j → xs[i]? = some a → xs[j]? = some b → (toV xss).idxOf a < (toV xss).idxOf b := by
  intro i j a b hij ha hb
  have hp := pairwise_of_step (R := fun a b => (toV xss).idxOf a < (toV xss).idxOf b) (fun _ _ _ h1 h2 => by omega) xs (fun k a b ha hb => toV_rank h hx ha hb)
  obtain ⟨hi, ei⟩ := List.getElem?_eq_some_iff.1 ha
  obtain ⟨hj, ej⟩ := List.getElem?_eq_some_iff.1 hb
  have := List.pairwise_iff_getElem.1 hp i j hi hj hij
  rwa [ei, ej] at this
end
theorem nodup_idx {t : List Int} (hd : t.Nodup) {k : Nat} {a : Int} (ha : t[k]? = some a) : t.idxOf a = k := by
  obtain ⟨hk, e⟩ := List.getElem?_eq_some_iff.1 ha
  subst e
  exact List.Nodup.idxOf_getElem hd k hk
/-- One trace is its own order. -/
theorem one_order {t : List Int} : toOk [t] = isTr t ∧ (isTr t = true → toV [t] = t) := by
  have hval : valT [t] = isTr t := by simp [valT]
  cases ht : isTr t
  · refine ⟨?_, fun h => by cases h⟩
    unfold toOk
    rw [hval, ht]; rfl
  · have hok : toOk [t] = true := toOk_of_rank (by rw [hval, ht]) (fun a => t.idxOf a) (fun xs hx k a b ha hb => by
      rw [List.mem_singleton] at hx
      subst hx
      have hd := (isTr_iff.1 ht).2
      rw [nodup_idx hd ha, nodup_idx hd hb]
      omega)
    refine ⟨hok, fun _ => ?_⟩
    have hs := toV_sub hok (List.mem_singleton.2 rfl)
    refine (hs.eq_of_length_le (nodup_sub_length _ _ (isTr_iff.1 (toV_isTr hok)).2 fun x hx => ?_)).symm
    obtain ⟨m, rfl, hm⟩ := tr_nat (toV_isTr hok) hx
    have h1 := toV_has hok hm
    have h2 : has (toV [t]) (m : Int) = true := by simpa [has] using hx
    rw [h2] at h1
    simpa [tF, toldLL, has] using h1.symm
theorem empty_order : toOk [[], []] = true ∧ toV [[], []] = [] := by
  have h : toOk [[], []] = true := toOk_of_rank rfl (fun _ => 0) (fun xs hx k a b ha _ => by
    have : xs = [] := by simpa using hx
    subst this
    simp at ha)
  refine ⟨h, List.eq_nil_of_length_eq_zero ?_⟩
  rw [toV_len h, cnt_zero]
  intro j _
  simp [tF, toldLL, has]
theorem follows_nil (ys : List Int) : follows [] ys = isTr ys := by
  unfold follows
  rw [rest_of_nil]
  simp [isTr]
/-- An order as a further trace changes nothing. -/
theorem again_order {xss : List (List Int)} (h : toOk xss = true) (hl : xss.length < 6) : toOk (xss ++ [toV xss]) = true ∧ toV (xss ++ [toV xss]) = toV xss := by
  obtain ⟨hv, hf⟩ := toOk_full h
  have hval : valT (xss ++ [toV xss]) = true := by
    simp only [valT, Bool.and_eq_true, decide_eq_true_eq, List.all_append, List.all_cons, List.all_nil, Bool.and_true] at hv ⊢
    exact ⟨by simp; omega, hv.2, toV_isTr h⟩
  have hT : tF (xss ++ [toV xss]) = fun m => tF xss m || has (toV xss) (m : Int) := by
    funext m
    simp [tF, toldLL, List.any_append]
  have hN : ∀ l m, nF (xss ++ [toV xss]) l m = (nF xss l m || stp (toV xss) (l : Int) (m : Int)) := by
    intro l m
    simp [nF, nextLL, List.any_append]
  have hT2 : ∀ m, m < 12 → tF (xss ++ [toV xss]) m = tF xss m := by
    intro m hm
    rw [hT]
    show (tF xss m || has (toV xss) (m : Int)) = tF xss m
    rw [toV_has h hm, Bool.or_self]
  have hT3 : tF (xss ++ [toV xss]) = tF xss := by
    funext m
    rcases Nat.lt_or_ge m 12 with hm | hm
    · exact hT2 m hm
    · rw [hT]
      show (tF xss m || has (toV xss) (m : Int)) = tF xss m
      have : has (toV xss) (m : Int) = false := by
        rw [toV_eq h, has_ints, decide_eq_false_iff_not]
        intro hc
        have := (ord_mem hc).1
        omega
      rw [this, Bool.or_false]
  have hag := ord_again (T := tF xss) (nx := nF xss) (nx' := nF (xss ++ [toV xss])) (fun l m hn => by rw [hN, hn]; rfl) (fun l m hn => by
    rw [hN, Bool.or_eq_true] at hn
    rcases hn with hn | hn
    · exact .inl hn
    · right
      obtain ⟨k, ha, hb⟩ := stp_iff.1 hn
      rw [toV_eq h] at ha hb
      exact ⟨k, ints_at.1 ha, ints_at.1 hb⟩) hf
  have hok : toOk (xss ++ [toV xss]) = true := by
    unfold toOk
    rw [hval, hT3, hag.2]; rfl
  refine ⟨hok, ?_⟩
  rw [toV_eq hok, hT3, hag.1, toV_eq h]
theorem prefix_at {ys xs : List Int} (h : ys <+: xs) {k : Nat} {a : Int} (ha : ys[k]? = some a) : xs[k]? = some a := by
  obtain ⟨t, rfl⟩ := h
  rw [List.getElem?_append_left (List.getElem?_eq_some_iff.1 ha).1]; exact ha
/-- Fewer traces, or shorter ones, keep an order. -/
theorem fewer_order {xss yss : List (List Int)} (h : toOk xss = true) (hl : yss.length ≤ xss.length) (hs : ∀ ys ∈ yss, ∃ xs ∈ xss, ys <+: xs) : toOk yss = true := by
  obtain ⟨hv, _⟩ := toOk_full h
  have hval : valT yss = true := by
    simp only [valT, Bool.and_eq_true, decide_eq_true_eq, List.all_eq_true] at hv ⊢
    refine ⟨by omega, fun ys hy => ?_⟩
    obtain ⟨xs, hx, hp⟩ := hs ys hy
    have := hv.2 xs hx
    rw [isTr_iff] at this ⊢
    exact ⟨fun x hx => this.1 x (hp.subset hx), this.2.sublist hp.sublist⟩
  refine toOk_of_rank hval (fun a => (toV xss).idxOf a) fun ys hy k a b ha hb => ?_
  obtain ⟨xs, hx, hp⟩ := hs ys hy
  exact toV_rank h hx (prefix_at hp ha) (prefix_at hp hb)
/-- The order of traces does not matter. -/
theorem rev_order (xss : List (List Int)) : toOk xss.reverse = toOk xss ∧ toV xss.reverse = toV xss ∧ tF xss.reverse = tF xss ∧ nF xss.reverse = nF xss ∧ valT xss.reverse = valT xss := by
  have h1 : tF xss.reverse = tF xss := by funext m; simp [tF, toldLL]
  have h2 : nF xss.reverse = nF xss := by funext a b; simp [nF, nextLL]
  have h3 : valT xss.reverse = valT xss := by simp [valT]
  have h4 : toOk xss.reverse = toOk xss := by unfold toOk; rw [h1, h2, h3]
  exact ⟨h4, by unfold toV; rw [h1, h2, h4], h1, h2, h3⟩
end Go.Proofs.Ytfdgbbapbpflcaa
