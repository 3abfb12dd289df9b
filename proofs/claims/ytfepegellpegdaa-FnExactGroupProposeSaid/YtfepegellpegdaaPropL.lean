/- Plain: what the laws on proposing ask of a proposal. No program here. -/
import Derived.Test.YtfepegellpegdaaGrL
namespace Go.Proofs.Ytfepegellpegdaa
open Go.RowKit
theorem propM_valid {g o : Grp} {m : Int} {s : Int × Int} (h : propM g m = (o, s, true)) : GrV g ∧ isMsg m = true := by
  unfold propM at h
  cases hb : (grOk g && isMsg m)
  · rw [hb] at h; cases h
  · rw [Bool.and_eq_true] at hb; exact ⟨grOk_iff.1 hb.1, hb.2⟩
theorem prop_ok {g o : Grp} {m : Int} {s : Int × Int} (h : propM g m = (o, s, true)) :
    (∃ e ∈ g.pend, e.1 = m ∧ e.2.2 = false ∧ stampG g m = some e ∧ o = g ∧ s = e.2.1) ∨
    (stampG g m = none ∧ g.clock < 999 ∧ m ∉ msgs g.pend ∧ m ∉ msgs g.done ∧ o = ⟨g.id, g.clock + 1, g.pend ++ [(m, (g.clock + 1, g.id), false)], g.done⟩ ∧ s = (g.clock + 1, g.id)) := by
  obtain ⟨v, hm⟩ := propM_valid h
  rcases prop_cases v hm with ⟨e, h1, h2, h3, h4, h5⟩ | ⟨e, h1, h2, h3⟩ | ⟨h1, h2, h3⟩ | ⟨h1, h2, h3, h4, h5⟩
  · rw [h5] at h; injection h with ha hb; injection hb with hb _; exact .inl ⟨e, h1, h2, h3, h4, ha.symm, hb.symm⟩
  · rw [h3] at h; injection h with _ hb; injection hb with _ hb; cases hb
  · rw [h3] at h; injection h with _ hb; injection hb with _ hb; cases hb
  · rw [h5] at h; injection h with ha hb; injection hb with hb _; exact .inr ⟨h1, h2, h3, h4, ha.symm, hb.symm⟩
section
variable {g o : Grp} {m : Int} {s : Int × Int}
/-- The clock counts proposals. -/
theorem prop_clock (h : propM g m = (o, s, true)) : o.clock = if (stampG g m).isSome then g.clock else g.clock + 1 := by
  rcases prop_ok h with ⟨e, _, _, _, h4, rfl, _⟩ | ⟨h1, _, _, _, rfl, _⟩
  · rw [h4]; rfl
  · rw [h1]; rfl
/-- Only finished messages get no stamp. -/
theorem prop_fail (v : GrV g) (hm : isMsg m = true) (h : propM g m = (o, s, false)) : o = g ∧ ((stampG g m).isSome = true ∧ ((stampG g m).getD e0).2.2 = true ∨ (stampG g m).isSome = false ∧ g.clock = 999) := by
  rcases prop_cases v hm with ⟨e, h1, h2, h3, h4, h5⟩ | ⟨e, h1, h2, h3⟩ | ⟨h1, h2, h3⟩ | ⟨h1, h2, h3, h4, h5⟩
  · rw [h5] at h; injection h with _ hb; injection hb with _ hb; cases hb
  · rw [h3] at h; injection h with ha _; exact ⟨ha.symm, .inl (by rw [h1]; exact ⟨rfl, h2⟩)⟩
  · rw [h3] at h; injection h with ha _; exact ⟨ha.symm, .inr (by rw [h1]; exact ⟨rfl, h2⟩)⟩
  · rw [h5] at h; injection h with _ hb; injection hb with _ hb; cases hb
theorem prop_valid_ok (h : propM g m = (o, s, true)) : GrV o := by
  obtain ⟨v, hm⟩ := propM_valid h
  have := prop_valid v hm
  rw [h] at this
  exact this
/-- The message is pending behind, with its stamp. -/
theorem prop_stamp (h : propM g m = (o, s, true)) : stampG o m = some (m, s, false) ∧ (m, s, false) ∈ o.pend := by
  have v := prop_valid_ok h
  rcases prop_ok h with ⟨⟨em, es, ef⟩, h1, h2, h3, h4, rfl, h6⟩ | ⟨_, _, _, _, h5, h6⟩
  · simp only at h2 h3 h6
    subst h2 h3 h6
    exact ⟨h4, h1⟩
  · have hp : (m, s, false) ∈ o.pend := by rw [h5, h6]; simp
    exact ⟨v.stampP hp, hp⟩
/-- Proposing delivers nothing. -/
theorem prop_trace (h : propM g m = (o, s, true)) : o.done = g.done ∧ ∀ p ∈ g.pend, stampG o p.1 = some p := by
  have v := prop_valid_ok h
  rcases prop_ok h with ⟨e, h1, h2, h3, h4, rfl, h6⟩ | ⟨_, _, _, _, rfl, h6⟩
  · exact ⟨rfl, fun p hp => v.stampP hp⟩
  · exact ⟨rfl, fun p hp => v.stampP (List.mem_append_left _ hp)⟩
/-- A stamp is proposed once. -/
theorem prop_twice (h : propM g m = (o, s, true)) : propM o m = (o, s, true) := by
  have v := prop_valid_ok h
  rw [propM_ok v (propM_valid h).2]
  exact propS_pend v (prop_stamp h).2 rfl
/-- It is behind all that is delivered. -/
theorem prop_later (h : propM g m = (o, s, true)) : stOk s = true ∧ ∀ d ∈ g.done, stOk d.2.1 = true ∧ ltS d.2.1 s = true := by
  have v := prop_valid_ok h
  have hs : stOk s = true := (entOk_iff.1 (v.ent (List.mem_append_right _ (prop_stamp h).2))).2.1
  refine ⟨hs, fun d hd => ?_⟩
  have hd' : d ∈ o.done := by rw [(prop_trace h).1]; exact hd
  exact ⟨(entOk_iff.1 (v.ent (List.mem_append_left _ hd'))).2.1, (List.pairwise_append.1 v.asc).2.2 d hd' _ (prop_stamp h).2⟩
/-- A new stamp is behind all that are pending. -/
theorem prop_new (h : propM g m = (o, s, true)) (hk : stampG g m = none) : s = (g.clock + 1, g.id) ∧ ∀ d ∈ g.pend, stOk d.2.1 = true ∧ ltS d.2.1 s = true := by
  have v := (propM_valid h).1
  rcases prop_ok h with ⟨e, _, _, _, h4, _, _⟩ | ⟨_, _, _, _, rfl, h6⟩
  · rw [hk] at h4; cases h4
  · refine ⟨h6, fun d hd => ?_⟩
    have h1 := entOk_iff.1 (v.pe d hd)
    refine ⟨h1.2.1, ?_⟩
    rw [h6, ltS_iff]; left; have := h1.2.2.1; show d.2.1.1 < g.clock + 1; omega
theorem prop_known (h : propM g m = (o, s, true)) (hk : (stampG g m).isSome = true) : o = g := by
  rcases prop_ok h with ⟨e, _, _, _, _, h5, _⟩ | ⟨h1, _, _, _, _, _⟩
  · exact h5
  · rw [h1] at hk; cases hk
end
end Go.Proofs.Ytfepegellpegdaa
