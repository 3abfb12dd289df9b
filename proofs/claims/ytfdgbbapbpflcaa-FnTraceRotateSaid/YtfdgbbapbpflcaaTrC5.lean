/- Plain: what a cycle of traces is. -/
import Derived.Test.YtfdgbbapbpflcaaTrC4
namespace Go.Proofs.Ytfdgbbapbpflcaa
open Go.RowKit
section
variable {xss : List (List Int)}
theorem nF_bound (hv : valT xss = true) : ∀ a b, nF xss a b = true → (a < 12 ∧ tF xss a = true) ∧ b < 12 ∧ tF xss b = true := by
  intro a b h
  obtain ⟨xs, hx, hs⟩ := List.any_eq_true.1 h
  obtain ⟨k, ha, hb⟩ := stp_iff.1 hs
  have ht := valT_tr hv xs hx
  obtain ⟨m, e1, h1⟩ := tr_nat ht (List.mem_of_getElem? ha)
  obtain ⟨m', e2, h2⟩ := tr_nat ht (List.mem_of_getElem? hb)
  exact ⟨⟨by omega, toldLL_mem hx (List.mem_of_getElem? ha)⟩, by omega, toldLL_mem hx (List.mem_of_getElem? hb)⟩
theorem nF_irr (hv : valT xss = true) (a : Nat) : nF xss a a = false := by
  cases h : nF xss a a
  · rfl
  · obtain ⟨xs, hx, hs⟩ := List.any_eq_true.1 h
    obtain ⟨k, ha, hb⟩ := stp_iff.1 hs
    have hd := (isTr_iff.1 (valT_tr hv xs hx)).2
    have h1 := nodup_idx hd ha
    have h2 := nodup_idx hd hb
    omega
theorem cert_law (hv : valT xss = true) : toOk xss = decide ((tcN xss).length = 0) := by
  have h := order_or_cycle (nF_bound hv)
  have h1 : tcN xss = bestC (nF xss) 12 := by unfold tcN; rw [hv]; rfl
  have h2 : toOk xss = fullM (tF xss) (nF xss) := by unfold toOk; rw [hv]; rfl
  rw [h1, h2, Bool.eq_iff_iff, decide_eq_true_eq, List.length_eq_zero_iff]
  exact h
theorem cyc_of (h : tcN xss ≠ []) : valT xss = true ∧ ∃ s, s < 12 ∧ CycOf (nF xss) s (tcN xss) ∧ ∀ a ∈ tcN xss, s ≤ a := by
  have hv : valT xss = true := by
    cases hv : valT xss
    · exfalso; apply h; unfold tcN; rw [hv]; rfl
    · rfl
  have h1 : tcN xss = bestC (nF xss) 12 := by unfold tcN; rw [hv]; rfl
  rw [h1] at h ⊢
  exact ⟨hv, best_law (fun a b hn => ⟨(nF_bound hv a b hn).1.1, (nF_bound hv a b hn).2.1⟩) h⟩
/-- From each message of the cycle a trace steps to the next one. -/
theorem cycle_next (h : tcN xss ≠ []) {i m : Nat} (hm : (tcN xss).length = m) (hi : i < m) : ∃ a b, (tcN xss)[i]? = some a ∧ (tcN xss)[(i + 1) % m]? = some b ∧ nF xss a b = true := by
  obtain ⟨hv, s, hs, hc, _⟩ := cyc_of h
  subst hm
  obtain ⟨a, ha⟩ : ∃ a, (tcN xss)[i]? = some a := ⟨_, List.getElem?_eq_getElem hi⟩
  by_cases he : i + 1 = (tcN xss).length
  · refine ⟨a, s, ha, ?_, hc.cl a ?_⟩
    · rw [he, Nat.mod_self]; exact hc.hd
    · rw [← ha]; congr 1; omega
  · obtain ⟨b, hb⟩ : ∃ b, (tcN xss)[i + 1]? = some b := ⟨_, List.getElem?_eq_getElem (by omega)⟩
    refine ⟨a, b, ha, ?_, hc.st i a b ha hb⟩
    rw [Nat.mod_eq_of_lt (by omega)]; exact hb
theorem cycle_two (h : tcN xss ≠ []) : 2 ≤ (tcN xss).length := by
  obtain ⟨hv, s, hs, hc, _⟩ := cyc_of h
  have h1 := hc.ne
  rcases Nat.lt_or_ge (tcN xss).length 2 with hl | hl
  · exfalso
    have h2 : (tcN xss).length = 1 := by omega
    have := hc.cl s (by rw [h2]; exact hc.hd)
    rw [nF_irr hv s] at this
    cases this
  · exact hl
theorem cycle_simple (xss : List (List Int)) {i a : Nat} (ha : (tcN xss)[i]? = some a) : has ((tcV xss).take i) (a : Int) = false ∧ ∃ s, (tcN xss)[0]? = some s ∧ s ≤ a := by
  have hne : tcN xss ≠ [] := by intro e; rw [e] at ha; simp at ha
  obtain ⟨hv, s, hs, hc, hmin⟩ := cyc_of hne
  refine ⟨?_, s, hc.hd, hmin a (List.mem_of_getElem? ha)⟩
  have e : (tcV xss).take i = ints ((tcN xss).take i) := by unfold tcV ints; rw [List.map_take]
  rw [e, has_ints, decide_eq_false_iff_not]
  intro hm
  obtain ⟨j, hj⟩ := List.getElem?_of_mem hm
  rw [List.getElem?_take] at hj
  split at hj
  · rename_i hlt
    have hd := hc.nd
    rw [List.nodup_iff_pairwise_ne, List.pairwise_iff_getElem] at hd
    obtain ⟨h1, e1⟩ := List.getElem?_eq_some_iff.1 hj
    obtain ⟨h2, e2⟩ := List.getElem?_eq_some_iff.1 ha
    exact hd j i h1 h2 hlt (by rw [e1, e2])
  · cases hj
end
end Go.Proofs.Ytfdgbbapbpflcaa
