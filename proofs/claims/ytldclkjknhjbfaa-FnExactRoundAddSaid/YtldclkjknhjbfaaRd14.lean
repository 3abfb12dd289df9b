/- RoundAdd: plain laws. -/
import Derived.Test.YtldclkjknhjbfaaRd11
namespace Go.Proofs.Ytldclkjknhjbfaa
open Go.RowKit Go.Sort
/-- Stamps in the order of their groups with the same members are equal. -/
theorem sorted2_ext : ∀ (xs ys : List (Int × Int)), (xs.map Prod.snd).Pairwise (· < ·) → (ys.map Prod.snd).Pairwise (· < ·) → (∀ a, a ∈ xs ↔ a ∈ ys) → xs = ys
  | [], [], _, _, _ => rfl
  | [], y :: ys, _, _, h => by have := (h y).2 (by simp); simp at this
  | x :: xs, [], _, _, h => by have := (h x).1 (by simp); simp at this
  | x :: xs, y :: ys, hx, hy, h => by
    rw [List.map_cons, List.pairwise_cons] at hx hy
    have hxy : x = y := by
      have h1 := (h x).1 (by simp)
      have h2 := (h y).2 (by simp)
      rw [List.mem_cons] at h1 h2
      rcases h1 with h1 | h1
      · exact h1
      · rcases h2 with h2 | h2
        · exact h2.symm
        · have := hx.1 y.2 (List.mem_map.2 ⟨y, h2, rfl⟩)
          have := hy.1 x.2 (List.mem_map.2 ⟨x, h1, rfl⟩)
          omega
    subst hxy
    rw [sorted2_ext xs ys hx.2 hy.2 fun a => ?_]
    constructor
    · intro ha
      have h1 := (h a).1 (List.mem_cons_of_mem _ ha)
      rcases List.mem_cons.1 h1 with rfl | h1
      · have := hx.1 a.2 (List.mem_map.2 ⟨a, ha, rfl⟩); omega
      · exact h1
    · intro ha
      have h1 := (h a).2 (List.mem_cons_of_mem _ ha)
      rcases List.mem_cons.1 h1 with rfl | h1
      · have := hy.1 a.2 (List.mem_map.2 ⟨a, ha, rfl⟩); omega
      · exact h1
theorem gotOk_of {xs : List Int} {ss : List (Int × Int)} (h1 : (ss.map Prod.snd).Pairwise (· < ·)) (h2 : ∀ s ∈ ss, stOk s = true ∧ s.2 ∈ xs) : gotOk xs ss ss.length = true := by
  unfold gotOk
  rw [List.all_eq_true]
  intro i hi
  rw [List.mem_range] at hi
  have e1 : ss[i]? = some ss[i] := List.getElem?_eq_getElem hi
  have hs := h2 _ (List.getElem_mem hi)
  cases i with
  | zero => rw [gotAt_zero e1, hs.1, has_iff.2 hs.2]; rfl
  | succ j =>
    have e2 : ss[j]? = some (ss[j]'(by omega)) := List.getElem?_eq_getElem (by omega)
    rw [gotAt_next e1 e2, hs.1, has_iff.2 hs.2, Bool.true_and, Bool.true_and, decide_eq_true_eq]
    rw [List.pairwise_iff_getElem] at h1
    have := h1 j (j + 1) (by rw [List.length_map]; omega) (by rw [List.length_map]; omega) (by omega)
    simpa using this
theorem rdValid_iff {M : Int} {xs : List Int} {ss : List (Int × Int)} : rdValid M xs ss = true ↔ (isMsg M = true ∧ gset xs = true) ∧ (ss.map Prod.snd).Pairwise (· < ·) ∧ ∀ s ∈ ss, stOk s = true ∧ s.2 ∈ xs := by
  constructor
  · intro h
    simp only [rdValid, Bool.and_eq_true] at h
    exact ⟨h.1, got_all h.2⟩
  · intro h
    simp only [rdValid, Bool.and_eq_true]
    exact ⟨h.1, gotOk_of h.2.1 h.2.2⟩
theorem addGot_mem {xs : List Int} {ss : List (Int × Int)} {s : Int × Int} (h : addOk xs ss s.2 = true) (a : Int × Int) : a ∈ addGot xs ss s ↔ a ∈ ss ∨ a = s := by
  unfold addGot
  rw [if_pos h]
  have := List.take_append_drop (addK ss s.2) ss
  constructor
  · intro ha
    rw [List.mem_append, List.mem_append, List.mem_singleton] at ha
    rcases ha with (ha | ha) | ha
    · exact .inl (List.mem_of_mem_take ha)
    · exact .inr ha
    · exact .inl (List.mem_of_mem_drop ha)
  · intro ha
    rw [List.mem_append, List.mem_append, List.mem_singleton]
    rcases ha with ha | ha
    · rw [← this, List.mem_append] at ha
      rcases ha with ha | ha
      · exact .inl (.inl ha)
      · exact .inr ha
    · exact .inl (.inr ha)
theorem addGot_len {xs : List Int} {ss : List (Int × Int)} {s : Int × Int} (h : addOk xs ss s.2 = true) : (addGot xs ss s).length = ss.length + 1 := by
  unfold addGot
  rw [if_pos h]
  have : addK ss s.2 ≤ ss.length := by unfold addK; exact (List.takeWhile_prefix _).length_le
  simp only [List.length_append, List.length_take, List.length_drop, List.length_singleton]
  omega
theorem addGot_no {xs : List Int} {ss : List (Int × Int)} {s : Int × Int} (h : addOk xs ss s.2 = false) : addGot xs ss s = ss := by
  unfold addGot
  rw [h]; rfl
theorem addGot_sorted {M : Int} {xs : List Int} {ss : List (Int × Int)} {s : Int × Int} (hv : rdValid M xs ss = true) (h : addOk xs ss s.2 = true) : ((addGot xs ss s).map Prod.snd).Pairwise (· < ·) := by
  have hs := (rdValid_iff.1 hv).2.1
  have hna : answered ss s.2 = false := by
    have := (addGot_way (s := s) hv).1
    rw [h] at this
    simp only [Bool.true_eq, Bool.and_eq_true, Bool.not_eq_true'] at this
    exact this.2
  rw [(addGot_way hv).2 h]
  have hk := filter_lt_take (g := s.2) hs
  have hlen : (ss.take (addK ss s.2)).length = addK ss s.2 := by
    rw [List.length_take]
    have : addK ss s.2 ≤ ss.length := by unfold addK; exact (List.takeWhile_prefix _).length_le
    omega
  rw [hk, hlen, List.map_append, List.map_append, List.append_assoc]
  have h0 := hs
  rw [← List.take_append_drop (addK ss s.2) ss, List.map_append, List.pairwise_append] at h0
  have htake : ∀ a ∈ ss.take (addK ss s.2), a.2 < s.2 := by
    intro a ha
    rw [← hk] at ha
    simpa using (List.mem_filter.1 ha).2
  have hdrop : ∀ a ∈ ss.drop (addK ss s.2), s.2 < a.2 := by
    intro a ha
    have hne : a.2 ≠ s.2 := by
      intro e
      have : answered ss s.2 = true := answered_iff.2 (List.mem_map.2 ⟨a, List.mem_of_mem_drop ha, e⟩)
      rw [hna] at this; cases this
    have hnl : ¬ a.2 < s.2 := by
      intro hl
      have hm : a ∈ ss.filter (fun x => decide (x.2 < s.2)) := List.mem_filter.2 ⟨List.mem_of_mem_drop ha, by simpa using hl⟩
      rw [hk] at hm
      have := h0.2.2 a.2 (List.mem_map.2 ⟨a, hm, rfl⟩) a.2 (List.mem_map.2 ⟨a, ha, rfl⟩)
      omega
    omega
  rw [List.pairwise_append]
  refine ⟨h0.1, ?_, ?_⟩
  · simp only [List.map_cons, List.map_nil, List.singleton_append, List.pairwise_cons]
    refine ⟨fun a ha => ?_, h0.2.1⟩
    obtain ⟨b, hb, rfl⟩ := List.mem_map.1 ha
    exact hdrop b hb
  · intro a ha b hb
    obtain ⟨a', ha', rfl⟩ := List.mem_map.1 ha
    simp only [List.map_cons, List.map_nil, List.singleton_append, List.mem_cons] at hb
    rcases hb with rfl | hb
    · exact htake a' ha'
    · have h1 := htake a' ha'
      obtain ⟨b', hb', rfl⟩ := List.mem_map.1 hb
      have h2 := hdrop b' hb'
      omega
theorem answered_addGot {xs : List Int} {ss : List (Int × Int)} {s : Int × Int} (h : addOk xs ss s.2 = true) (g : Int) : answered (addGot xs ss s) g = (answered ss g || (s.2 == g)) := by
  rw [Bool.eq_iff_iff, answered_iff, Bool.or_eq_true, answered_iff, beq_iff_eq]
  constructor
  · intro hg
    obtain ⟨a, ha, rfl⟩ := List.mem_map.1 hg
    rcases (addGot_mem h a).1 ha with ha | rfl
    · exact .inl (List.mem_map.2 ⟨a, ha, rfl⟩)
    · exact .inr rfl
  · rintro (hg | rfl)
    · obtain ⟨a, ha, rfl⟩ := List.mem_map.1 hg
      exact List.mem_map.2 ⟨a, (addGot_mem h a).2 (.inl ha), rfl⟩
    · exact List.mem_map.2 ⟨s, (addGot_mem h s).2 (.inr rfl), rfl⟩
theorem addOk_eq {M : Int} {xs : List Int} {ss : List (Int × Int)} (hv : rdValid M xs ss = true) (g : Int) : addOk xs ss g = (has xs g && !answered ss g) := (addGot_way (s := (0, g)) hv).1
/-- A round with a further stamp is valid. -/
theorem rdValid_add {M : Int} {xs : List Int} {ss : List (Int × Int)} {s : Int × Int} (hv : rdValid M xs ss = true) (hs : stOk s = true) : rdValid M xs (addGot xs ss s) = true := by
  cases h : addOk xs ss s.2
  · rw [addGot_no h]; exact hv
  · have h1 := rdValid_iff.1 hv
    refine rdValid_iff.2 ⟨h1.1, addGot_sorted hv h, fun a ha => ?_⟩
    rcases (addGot_mem h a).1 ha with ha | rfl
    · exact h1.2.2 a ha
    · refine ⟨hs, ?_⟩
      rw [addOk_eq hv, Bool.and_eq_true] at h
      exact has_iff.1 h.1
theorem raGood_iff {M : Int} {xs : List Int} {ss : List (Int × Int)} {s : Int × Int} : raGood M xs ss s = true ↔ rdValid M xs ss = true ∧ stOk s = true := by unfold raGood; rw [Bool.and_eq_true]
theorem stOk_iff {s : Int × Int} : stOk s = true ↔ (1 ≤ s.1 ∧ s.1 ≤ 999) ∧ (0 ≤ s.2 ∧ s.2 ≤ 4) := by unfold stOk; rw [Bool.and_eq_true, inB_iff, inB_iff]
theorem miss_has {M : Int} {xs : List Int} {ss : List (Int × Int)} {g : Int} (hv : rdValid M xs ss = true) : has (rdMiss M xs ss) g = addOk xs ss g := by
  rw [Bool.eq_iff_iff, has_iff, rdMiss_filter hv, List.mem_filter, addOk_eq hv, Bool.and_eq_true, has_iff]
theorem ra_ok {M : Int} {xs : List Int} {ss : List (Int × Int)} {s : Int × Int} (h : raOk M xs ss s = true) : rdValid M xs ss = true ∧ stOk s = true ∧ addOk xs ss s.2 = true ∧ raM M xs ss s = M ∧ raXs M xs ss s = xs ∧ raSs M xs ss s = addGot xs ss s := by
  unfold raOk at h
  rw [Bool.and_eq_true] at h
  obtain ⟨h1, h2⟩ := raGood_iff.1 h.1
  exact ⟨h1, h2, h.2, by unfold raM; rw [if_pos h.1], by unfold raXs; rw [if_pos h.1], by unfold raSs; rw [if_pos h.1]⟩
theorem ra_good {M : Int} {xs : List Int} {ss : List (Int × Int)} {s : Int × Int} (hv : rdValid M xs ss = true) (hs : stOk s = true) : raOk M xs ss s = addOk xs ss s.2 ∧ raM M xs ss s = M ∧ raXs M xs ss s = xs ∧ raSs M xs ss s = addGot xs ss s := by
  have h := raGood_iff.2 ⟨hv, hs⟩
  exact ⟨by unfold raOk; rw [h, Bool.true_and], by unfold raM; rw [if_pos h], by unfold raXs; rw [if_pos h], by unfold raSs; rw [if_pos h]⟩
/-- FnRoundAddRefused. -/
theorem refused_law {M : Int} {xs : List Int} {ss : List (Int × Int)} {s : Int × Int} (hv : rdValid M xs ss = true) (hs : stOk s = true) :
    (raOk M xs ss s == has (rdMiss M xs ss) s.2) = true ∧ raM M xs ss s = M ∧ raXs M xs ss s = xs ∧ (raOk M xs ss s = false → raSs M xs ss s = ss) := by
  obtain ⟨h1, h2, h3, h4⟩ := ra_good hv hs
  refine ⟨by rw [h1, miss_has hv]; simp, h2, h3, fun h => ?_⟩
  rw [h4, addGot_no (by rw [← h1]; exact h)]
/-- FnRoundAdd. -/
theorem added_law {M : Int} {xs : List Int} {ss : List (Int × Int)} {s : Int × Int} (h : raOk M xs ss s = true) (t : Int) (ht : 1 ≤ t ∧ t ≤ 9) :
    rdValid M xs (addGot xs ss s) = true ∧ has (rdMiss M xs (addGot xs ss s)) s.2 = false ∧ has (rdMiss M xs ss) s.2 = true ∧ raOk M xs (addGot xs ss s) (t, s.2) = false ∧ raM M xs (addGot xs ss s) (t, s.2) = M ∧ raXs M xs (addGot xs ss s) (t, s.2) = xs ∧ raSs M xs (addGot xs ss s) (t, s.2) = addGot xs ss s := by
  obtain ⟨h1, h2, h3, _⟩ := ra_ok h
  have hv := rdValid_add h1 h2
  have hno : addOk xs (addGot xs ss s) s.2 = false := by rw [addOk_eq hv, answered_addGot h3]; simp
  have hst : stOk (t, s.2) = true := by
    have := stOk_iff.1 h2
    exact stOk_iff.2 ⟨⟨by show 1 ≤ t; omega, by show t ≤ 999; omega⟩, this.2⟩
  obtain ⟨k1, k2, k3, k4⟩ := ra_good (s := (t, s.2)) hv hst
  exact ⟨hv, by rw [miss_has hv, hno], by rw [miss_has h1, h3], by rw [k1]; exact hno, k2, k3, by rw [k4]; exact addGot_no (s := (t, s.2)) hno⟩
/-- FnRoundAddOrder. -/
theorem order_law {M : Int} {xs : List Int} {ss : List (Int × Int)} {s t : Int × Int} (h : raOk M xs ss s = true) (h1 : raOk M xs (addGot xs ss s) t = true) (h2 : raOk M xs ss t = true) :
    raOk M xs (addGot xs ss t) s = true ∧ raM M xs (addGot xs ss t) s = M ∧ raXs M xs (addGot xs ss t) s = xs ∧ raSs M xs (addGot xs ss t) s = addGot xs (addGot xs ss s) t := by
  obtain ⟨a1, a2, a3, _⟩ := ra_ok h
  obtain ⟨b1, b2, b3, _⟩ := ra_ok h1
  obtain ⟨c1, c2, c3, _⟩ := ra_ok h2
  have hv := rdValid_add a1 c2
  have hne : t.2 ≠ s.2 := by
    rw [addOk_eq b1, answered_addGot a3, Bool.and_eq_true, Bool.not_eq_true', Bool.or_eq_false_iff, beq_eq_false_iff_ne] at b3
    exact fun e => b3.2.2 e.symm
  have hok : addOk xs (addGot xs ss t) s.2 = true := by
    rw [addOk_eq hv, answered_addGot c3, Bool.and_eq_true, Bool.not_eq_true', Bool.or_eq_false_iff, beq_eq_false_iff_ne]
    rw [addOk_eq a1, Bool.and_eq_true, Bool.not_eq_true'] at a3
    exact ⟨a3.1, a3.2, hne⟩
  obtain ⟨k1, k2, k3, k4⟩ := ra_good hv a2
  refine ⟨by rw [k1, hok], k2, k3, ?_⟩
  rw [k4]
  refine sorted2_ext _ _ (addGot_sorted hv hok) (addGot_sorted b1 b3) fun a => ?_
  rw [addGot_mem hok, addGot_mem c3, addGot_mem b3, addGot_mem a3]
  constructor
  · rintro ((h | h) | h)
    · exact .inl (.inl h)
    · exact .inr h
    · exact .inl (.inr h)
  · rintro ((h | h) | h)
    · exact .inl (.inl h)
    · exact .inr h
    · exact .inl (.inr h)
theorem fold_mem : ∀ (t : List (Int × Int)) (s : Int × Int), t.foldl gtr s ∈ s :: t
  | [], s => by simp
  | x :: t, s => by
    have h1 := fold_mem t (gtr s x)
    simp only [List.foldl_cons]
    rcases List.mem_cons.1 h1 with h | h
    · rw [h]
      unfold gtr
      split <;> simp
    · simp [h]
theorem maxS_mem {ss : List (Int × Int)} (h : ss ≠ []) : maxS ss ∈ ss := by
  cases ss with
  | nil => exact absurd rfl h
  | cons s t => exact fold_mem t s
/-- FnRoundComplete: the stamps behind k rounds. -/
structure Filled (M : Int) (xs : List Int) (ss : List (Int × Int)) (k : Nat) (ps : List (Int × Int)) : Prop where
  v : rdValid M xs ps = true
  a : ∀ g, answered ps g = (answered ss g || has ((rdMiss M xs ss).take k) g)
  l : ps.length = ss.length + k
theorem Filled.zero {M : Int} {xs : List Int} {ss : List (Int × Int)} (h : rdValid M xs ss = true) : Filled M xs ss 0 ss := ⟨h, fun g => by simp [has], rfl⟩
theorem rdMiss_nodup (M : Int) (xs : List Int) (ss : List (Int × Int)) : (rdMiss M xs ss).Pairwise (· < ·) := by
  unfold rdMiss
  split
  · exact picked_sorted _ _
  · exact List.Pairwise.nil
theorem Filled.next {M : Int} {xs : List Int} {ss : List (Int × Int)} {k : Nat} {ps : List (Int × Int)} (h : Filled M xs ss k ps) (hv : rdValid M xs ss = true) {g : Int} (hg : (rdMiss M xs ss)[k]? = some g) (t : Int) (ht : 1 ≤ t ∧ t ≤ 9) :
    raOk M xs ps (t, g) = true ∧ raM M xs ps (t, g) = M ∧ raXs M xs ps (t, g) = xs ∧ Filled M xs ss (k + 1) (raSs M xs ps (t, g)) := by
  have hm : g ∈ rdMiss M xs ss := List.mem_of_getElem? hg
  rw [rdMiss_filter hv, List.mem_filter, Bool.not_eq_true'] at hm
  have hst : stOk (t, g) = true := by
    have h1 := gset_in (rdValid_iff.1 hv).1.2 hm.1
    exact stOk_iff.2 ⟨⟨by show 1 ≤ t; omega, by show t ≤ 999; omega⟩, h1⟩
  have hnt : has ((rdMiss M xs ss).take k) g = false := by
    rw [Bool.eq_false_iff]
    intro hc
    rw [has_iff] at hc
    have hp := rdMiss_nodup M xs ss
    rw [← List.take_append_drop k (rdMiss M xs ss), List.pairwise_append] at hp
    have hd : g ∈ (rdMiss M xs ss).drop k := by
      obtain ⟨hk, he⟩ := List.getElem?_eq_some_iff.1 hg
      rw [List.drop_eq_getElem_cons hk, he]
      simp
    have := hp.2.2 g hc g hd
    omega
  have hok : addOk xs ps g = true := by
    rw [addOk_eq h.v, h.a, hm.2, hnt, has_iff.2 hm.1]; rfl
  obtain ⟨k1, k2, k3, k4⟩ := ra_good (s := (t, g)) h.v hst
  refine ⟨by rw [k1]; exact hok, k2, k3, ?_⟩
  rw [k4]
  refine ⟨rdValid_add h.v hst, fun g' => ?_, by rw [addGot_len hok, h.l]; omega⟩
  rw [answered_addGot hok, h.a, take_snoc hg]
  simp only [has, List.contains_eq_mem, List.mem_append, List.mem_singleton, Bool.decide_or, Bool.or_assoc]
  congr 2
  rw [Bool.eq_iff_iff]
  simp only [beq_iff_eq, decide_eq_true_eq]
  exact eq_comm
theorem Filled.final {M : Int} {xs : List Int} {ss : List (Int × Int)} {ps : List (Int × Int)} {k : Nat} (h : Filled M xs ss k ps) (hv : rdValid M xs ss = true) (hk : k = (rdMiss M xs ss).length) : rfOk M xs ps = true ∧ has xs (rfV M xs ps).2 = true := by
  have h1 := rdMiss_count hv
  have h2 := h.l
  have hok : rfOk M xs ps = true := by
    unfold rfOk
    rw [h.v, Bool.true_and, decide_eq_true_eq]
    omega
  refine ⟨hok, ?_⟩
  have hn := (rdValid_len hv).1
  have hne : ps ≠ [] := by
    intro e
    rw [e] at h2
    simp at h2
    omega
  unfold rfV
  rw [if_pos hok, has_iff]
  exact ((rdValid_iff.1 h.v).2.2 _ (maxS_mem hne)).2
end Go.Proofs.Ytldclkjknhjbfaa
