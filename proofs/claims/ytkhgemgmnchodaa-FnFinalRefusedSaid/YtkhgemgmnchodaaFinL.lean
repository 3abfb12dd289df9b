/- Plain: what the laws on final stamps ask of setting one. No program here. -/
import Derived.Test.YtkhgemgmnchodaaGrL2
namespace Go.Proofs.Ytkhgemgmnchodaa
open Go.RowKit
section
variable {g o : Grp} {m : Int} {s : Int × Int} {l : List Int}
theorem finM_yes (h : finM g m s = (o, l, true)) : GrV g ∧ isMsg m = true ∧ stOk s = true ∧ finOk g m s = true ∧ o = delG (setG g m s) ∧ l = toldG (setG g m s) := by
  unfold finM at h
  cases hb : (grOk g && (isMsg m && stOk s))
  · rw [hb] at h; cases h
  · rw [hb, if_pos rfl] at h
    simp only [Bool.and_eq_true] at hb
    cases hf : finOk g m s
    · rw [finS_no hf] at h; cases h
    · rw [finS_yes hf] at h
      injection h with h1 h2
      injection h2 with h2 _
      exact ⟨grOk_iff.1 hb.1, hb.2.1, hb.2.2, rfl, h1.symm, h2.symm⟩
/-- A final stamp is kept. -/
theorem fin_kept (h : finM g m s = (o, l, true)) : stampG o m = some (m, s, true) ∧ s.1 ≤ o.clock ∧ g.clock ≤ o.clock ∧ GrV o := by
  obtain ⟨v, hm, hs, hf, rfl, rfl⟩ := finM_yes h
  exact ⟨fin_stamp v hm hs hf, Int.le_max_right _ _, Int.le_max_left _ _, fin_valid' v hm hs hf⟩
/-- A final stamp is set once. -/
theorem fin_again (h : finM g m s = (o, l, true)) (t : Int × Int) : finM o m t = (if stOk t then o else g0, [], false) := by
  obtain ⟨h1, _, _, v⟩ := fin_kept h
  obtain ⟨_, hm, _⟩ := finM_yes h
  cases ht : stOk t
  · rw [finM_bad (by rw [ht]; simp)]; rfl
  · rw [finM_ok v hm ht, finS_no (fin_twice v h1 t)]; rfl
/-- What is delivered is appended. -/
theorem fin_told (h : finM g m s = (o, l, true)) : msgs o.done = msgs g.done ++ l := by
  obtain ⟨v, hm, hs, hf, rfl, rfl⟩ := finM_yes h
  simp [delG, setG, toldG, msgs]
/-- The order of final stamps does not matter. -/
theorem fin_comm {a b : Grp} {k : Int} {t : Int × Int} {l2 l3 : List Int} (h : finM g m s = (o, l, true)) (h2 : finM o k t = (a, l2, true)) (h3 : finM g k t = (b, l3, true)) : ∃ l4, finM b m s = (a, l4, true) := by
  obtain ⟨v, hm, hs, hf, rfl, rfl⟩ := finM_yes h
  obtain ⟨v2, hk, ht, hf2, rfl, rfl⟩ := finM_yes h2
  obtain ⟨_, _, _, hf3, rfl, rfl⟩ := finM_yes h3
  obtain ⟨h4, h5⟩ := fin_commute v hm hs hk ht hf hf2 hf3
  exact ⟨_, by rw [finM_ok (fin_valid' v hk ht hf3) hm hs, finS_yes h4, h5]⟩
/-- A message without a final stamp blocks later ones. -/
theorem fin_block (h : finM g m s = (o, l, true)) : ∃ p t, g.pend = p :: t ∧ (m = p.1 ∨ l = []) := by
  obtain ⟨v, hm, hs, hf, rfl, rfl⟩ := finM_yes h
  cases hp : g.pend with
  | nil =>
    obtain ⟨e, he, _⟩ := (finOk_iff v).1 hf
    rw [hp] at he; cases he
  | cons p t => exact ⟨p, t, rfl, fin_blocks v hf hp⟩
/-- The first message is delivered with its proposed stamp. -/
theorem fin_first (v : GrV g) {p : Ent} {t : List Ent} (hp : g.pend = p :: t) : ∃ o l, finM g p.1 p.2.1 = (o, p.1 :: l, true) := by
  have hm : p ∈ g.pend := by rw [hp]; simp
  have h1 := entOk_iff.1 (v.pe p hm)
  obtain ⟨h2, l, h3⟩ := fin_own v hp
  exact ⟨_, l, by rw [finM_ok v h1.1 h1.2.1, finS_yes h2, h3]⟩
/-- What is wrong with a final stamp. -/
def badF (g : Grp) (m : Int) (s : Int × Int) : Bool := (!(stampG g m).isSome || (((stampG g m).getD e0).2.2 || (stOk s && stOk ((stampG g m).getD e0).2.1) && ltS s ((stampG g m).getD e0).2.1)) || g.pend.any (fun x => x.1 != m && x.2.1 == s)
theorem fin_refused (v : GrV g) (hm : isMsg m = true) (hs : stOk s = true) : (finM g m s).2.2 = !badF g m s ∧ ((finM g m s).2.2 = false → (finM g m s).1 = g) := by
  rw [finM_ok v hm hs]
  have key : finOk g m s = !badF g m s := by
    unfold badF
    rcases v.stamp_cases m with ⟨e, h1, rfl, h3⟩ | ⟨e, h1, rfl, h3, h4⟩ | ⟨h1, h2, h3⟩
    · rw [h1]
      simp only [Option.isSome_some, Option.getD_some, Bool.not_true, Bool.false_or]
      have h5 := (entOk_iff.1 (v.pe e h3)).2.1
      rw [hs, h5]
      unfold finOk
      rw [find_mem v.ndp h3]
      have h6 : (restE g.pend e.1).any (fun x => x.2.1 == s) = g.pend.any (fun x => x.1 != e.1 && x.2.1 == s) := by
        rw [restE, List.any_filter]
      simp only [h6]
      cases e.2.2 <;> cases ltS s e.2.1 <;> cases g.pend.any (fun x => x.1 != e.1 && x.2.1 == s) <;> rfl
    · rw [h1]
      have h5 := v.df e h3
      simp only [Option.isSome_some, Option.getD_some, Bool.not_true, Bool.false_or, h5, Bool.true_or, Bool.not_true]
      unfold finOk
      rw [find_none.2 h4]
    · rw [h1]
      simp only [Option.isSome_none, Bool.not_false, Bool.true_or, Bool.not_true]
      unfold finOk
      rw [find_none.2 h2]
  cases hf : finOk g m s
  · rw [finS_no hf]
    exact ⟨by rw [← key]; exact hf.symm, fun _ => rfl⟩
  · rw [finS_yes hf]
    exact ⟨by rw [← key]; exact hf.symm, fun h => by cases h⟩
end
end Go.Proofs.Ytkhgemgmnchodaa
