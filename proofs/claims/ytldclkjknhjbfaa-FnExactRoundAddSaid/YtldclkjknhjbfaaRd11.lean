/- RoundAdd: the plain law of the copy's way. -/
import Derived.Test.YtldclkjknhjbfaaRd10
import Derived.Test.YtldclkjknhjbfaaRd5
namespace Go.Proofs.Ytldclkjknhjbfaa
open Go.RowKit Go.Sort
theorem got_sorted {M : Int} {xs : List Int} {ss : List (Int × Int)} (h : rdValid M xs ss = true) : (ss.map Prod.snd).Pairwise (· < ·) := by
  simp only [rdValid, Bool.and_eq_true] at h
  exact (got_all h.2).1
theorem filter_lt_take : ∀ {ss : List (Int × Int)} {g : Int}, (ss.map Prod.snd).Pairwise (· < ·) → ss.filter (fun s => decide (s.2 < g)) = ss.take (addK ss g)
  | [], g, _ => rfl
  | s :: t, g, h => by
    simp only [List.map_cons, List.pairwise_cons] at h
    unfold addK
    by_cases hs : s.2 < g
    · rw [List.filter_cons_of_pos (by simpa using hs), List.takeWhile_cons_of_pos (by simpa using hs)]
      simp only [List.length_cons, List.take_succ_cons]
      congr 1
      exact filter_lt_take h.2
    · rw [List.filter_cons_of_neg (by simpa using hs), List.takeWhile_cons_of_neg (by simpa using hs)]
      simp only [List.length_nil, List.take_zero]
      rw [List.filter_eq_nil_iff]
      intro a ha
      have := h.1 a.2 (List.mem_map.2 ⟨a, ha, rfl⟩)
      simp only [decide_eq_true_eq]
      omega
theorem answered_addK : ∀ {ss : List (Int × Int)} {g : Int}, (ss.map Prod.snd).Pairwise (· < ·) → answered ss g = (ss[addK ss g]?).any fun s => s.2 == g
  | [], g, _ => rfl
  | s :: t, g, h => by
    simp only [List.map_cons, List.pairwise_cons] at h
    have ih := answered_addK (g := g) h.2
    unfold answered addK at *
    by_cases hs : s.2 < g
    · rw [List.takeWhile_cons_of_pos (by simpa using hs)]
      simp only [List.length_cons, List.getElem?_cons_succ, List.any_cons]
      rw [← ih]
      have : (s.2 == g) = false := by simp; omega
      rw [this, Bool.false_or]
    · rw [List.takeWhile_cons_of_neg (by simpa using hs)]
      simp only [List.length_nil, List.getElem?_cons_zero, List.any_cons, Option.any_some]
      have : (t.any fun s => s.2 == g) = false := by
        rw [List.any_eq_false]
        intro a ha
        have := h.1 a.2 (List.mem_map.2 ⟨a, ha, rfl⟩)
        simp only [beq_iff_eq]
        omega
      rw [this, Bool.or_false]
/-- What the copy's way answers. -/
theorem addGot_way {M : Int} {xs : List Int} {ss : List (Int × Int)} {s : Int × Int} (h : rdValid M xs ss = true) :
    addOk xs ss s.2 = (has xs s.2 && !answered ss s.2) ∧ (addOk xs ss s.2 = true → addGot xs ss s = ss.filter (fun x => decide (x.2 < s.2)) ++ [s] ++ ss.drop (ss.filter (fun x => decide (x.2 < s.2))).length) := by
  have hs := got_sorted h
  refine ⟨by unfold addOk; rw [answered_addK hs], fun ho => ?_⟩
  unfold addGot
  rw [if_pos ho, filter_lt_take hs]
  have hl : (ss.take (addK ss s.2)).length = addK ss s.2 := by
    rw [List.length_take]
    have : addK ss s.2 ≤ ss.length := by unfold addK; exact (List.takeWhile_prefix _).length_le
    omega
  rw [hl]
end Go.Proofs.Ytldclkjknhjbfaa
