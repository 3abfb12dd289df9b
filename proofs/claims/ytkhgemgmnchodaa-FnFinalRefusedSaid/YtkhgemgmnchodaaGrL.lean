/- Plain: groups, their entries, what proposing and finishing makes of them. No program here. -/
import Derived.Test.YtkhgemgmnchodaaStV
import Derived.Test.YtkhgemgmnchodaaHeapL
namespace Go.Proofs.Ytkhgemgmnchodaa
open Go.RowKit
/-- An entry: message, stamp, final. -/
abbrev Ent := Int × (Int × Int) × Bool
def ltE (a b : Ent) : Bool := ltS a.2.1 b.2.1
theorem ltS_SLt : SLt ltE := by
  refine ⟨fun a => ?_, fun a b h => ?_, fun a b c h1 h2 => ?_⟩
  · rw [ltE, ltS_false]; omega
  · rw [ltE, ltS_iff] at h; rw [ltE, ltS_false]; omega
  · rw [ltE, ltS_false] at h1 h2 ⊢; omega
theorem ltE_trans {a b c : Ent} (h1 : ltE a b = true) (h2 : ltE b c = true) : ltE a c = true := by
  rw [ltE, ltS_iff] at *; omega
theorem ltS_trans {a b c : Int × Int} (h1 : ltS a b = true) (h2 : ltS b c = true) : ltS a c = true := by
  rw [ltS_iff] at *; omega
theorem ltS_tri {a b : Int × Int} (h1 : ltS a b = false) (h2 : ltS b a = false) : a = b := by
  rw [ltS_false] at h1 h2
  exact Prod.ext (by omega) (by omega)
theorem ltS_irr (a : Int × Int) : ltS a a = false := by rw [ltS_false]; omega
theorem ltS_asy {a b : Int × Int} (h : ltS a b = true) : ltS b a = false := by rw [ltS_iff] at h; rw [ltS_false]; omega
def entOk (id c : Int) (e : Ent) : Bool := isMsg e.1 && (stOk e.2.1 && (decide (e.2.1.1 ≤ c) && (e.2.2 || e.2.1.2 == id)))
structure Grp where
  id : Int
  clock : Int
  pend : List Ent
  done : List Ent
theorem Grp.ext' {a b : Grp} (h1 : a.id = b.id) (h2 : a.clock = b.clock) (h3 : a.pend = b.pend) (h4 : a.done = b.done) : a = b := by
  cases a; cases b; simp_all
def ascE (es : List Ent) : Prop := es.Pairwise fun a b => ltE a b = true
instance (es : List Ent) : Decidable (ascE es) := by unfold ascE; infer_instance
def listOk (id c : Int) (es : List Ent) : Bool := es.all (entOk id c) && decide (ascE es)
def headOk (pend done : List Ent) : Bool := match pend with
  | [] => true
  | p :: _ => !p.2.2 && (match done.getLast? with
    | none => true
    | some d => ltE d p)
def msgs (es : List Ent) : List Int := es.map (·.1)
def grOk (g : Grp) : Bool := inB g.id 0 4 && (inB g.clock 0 999 && (listOk g.id g.clock g.pend && (listOk g.id g.clock g.done && (decide (msgs (g.done ++ g.pend)).Nodup && (g.done.all (·.2.2) && headOk g.pend g.done)))))
theorem asc_take {es : List Ent} {k : Nat} {e : Ent} (h : es[k]? = some e) : ascE (es.take (k + 1)) ↔ ascE (es.take k) ∧ ∀ j p, k = j + 1 → es[j]? = some p → ltE p e = true := by
  rw [take_snoc h, ascE, List.pairwise_append]
  constructor
  · rintro ⟨h1, _, h3⟩
    refine ⟨h1, fun j p hk hp => h3 p ?_ e (by simp)⟩
    subst hk
    rw [take_snoc hp]
    simp
  · rintro ⟨h1, h2⟩
    refine ⟨h1, by simp, fun a ha b hb => ?_⟩
    rw [List.mem_singleton] at hb
    subst hb
    cases k with
    | zero => simp at ha
    | succ j =>
      have hj : j < es.length := by have := (List.getElem?_eq_some_iff.1 h).1; omega
      have hp : es[j]? = some es[j] := List.getElem?_eq_getElem hj
      have hlt := h2 j _ rfl hp
      rw [take_snoc hp] at ha h1
      rcases List.mem_append.1 ha with ha | ha
      · exact ltE_trans ((List.pairwise_append.1 h1).2.2 a ha _ (by simp)) hlt
      · rw [List.mem_singleton] at ha; subst ha; exact hlt
structure GrV (g : Grp) : Prop where
  id : 0 ≤ g.id ∧ g.id ≤ 4
  ck : 0 ≤ g.clock ∧ g.clock ≤ 999
  pe : ∀ e ∈ g.pend, entOk g.id g.clock e = true
  de : ∀ e ∈ g.done, entOk g.id g.clock e = true
  pa : ascE g.pend
  da : ascE g.done
  nd : (msgs (g.done ++ g.pend)).Nodup
  df : ∀ e ∈ g.done, e.2.2 = true
  hd : ∀ p t, g.pend = p :: t → p.2.2 = false ∧ ∀ d ∈ g.done, ltE d p = true
theorem last_all {done : List Ent} {p : Ent} (h : ascE done) : (match done.getLast? with | none => true | some d => ltE d p) = true ↔ ∀ d ∈ done, ltE d p = true := by
  rcases List.eq_nil_or_concat done with rfl | ⟨l, d, rfl⟩
  · simp
  · rw [List.concat_eq_append] at h ⊢
    rw [List.getLast?_concat]
    have hp := (List.pairwise_append.1 h).2.2
    constructor
    · intro hd a ha
      rcases List.mem_append.1 ha with ha | ha
      · exact ltE_trans (hp a ha d (by simp)) hd
      · rw [List.mem_singleton] at ha; subst ha; exact hd
    · intro hd; exact hd d (by simp)
theorem grOk_iff {g : Grp} : grOk g = true ↔ GrV g := by
  simp only [grOk, listOk, Bool.and_eq_true, inB_iff, decide_eq_true_eq, List.all_eq_true]
  constructor
  · rintro ⟨h1, h2, ⟨h3, h4⟩, ⟨h5, h6⟩, h7, h8, h9⟩
    refine ⟨h1, h2, h3, h5, h4, h6, h7, h8, fun p t hp => ?_⟩
    unfold headOk at h9
    rw [hp] at h9
    simp only [Bool.and_eq_true, Bool.not_eq_true'] at h9
    exact ⟨h9.1, (last_all h6).1 h9.2⟩
  · rintro ⟨h1, h2, h3, h5, h4, h6, h7, h8, h9⟩
    refine ⟨h1, h2, ⟨h3, h4⟩, ⟨h5, h6⟩, h7, h8, ?_⟩
    unfold headOk
    split
    · rfl
    · rename_i p t hp
      obtain ⟨h10, h11⟩ := h9 p t hp
      rw [h10, (last_all h6).2 h11]; rfl
def findE (es : List Ent) (m : Int) : Option Ent := es.find? fun e => e.1 == m
def stampG (g : Grp) (m : Int) : Option Ent := if grOk g then (findE g.pend m).or (findE g.done m) else none
def e0 : Ent := (0, (0, 0), false)
def g0 : Grp := ⟨0, 0, [], []⟩
theorem find_none {es : List Ent} {m : Int} : findE es m = none ↔ m ∉ msgs es := by
  simp only [findE, List.find?_eq_none, msgs, List.mem_map, not_exists, not_and, beq_iff_eq]
theorem find_some {es : List Ent} {m : Int} {e : Ent} (h : findE es m = some e) : e ∈ es ∧ e.1 = m := by
  have h1 := List.find?_some h
  simp at h1
  exact ⟨List.mem_of_find?_eq_some h, h1⟩
theorem find_mem {es : List Ent} {e : Ent} (hn : (msgs es).Nodup) (h : e ∈ es) : findE es e.1 = some e := by
  induction es with
  | nil => simp at h
  | cons x t ih =>
    simp only [msgs, List.map_cons, List.nodup_cons] at hn
    unfold findE
    rw [List.find?_cons]
    by_cases hx : x.1 = e.1
    · have : (x.1 == e.1) = true := by simpa using hx
      rw [this]
      rcases List.mem_cons.1 h with rfl | h
      · rfl
      · exfalso; apply hn.1; rw [hx]; exact List.mem_map_of_mem h
    · have : (x.1 == e.1) = false := by simpa using hx
      rw [this]
      rcases List.mem_cons.1 h with rfl | h
      · exact absurd rfl hx
      · exact ih hn.2 h
section
variable {g : Grp}
theorem GrV.ndp (v : GrV g) : (msgs g.pend).Nodup := by have := v.nd; rw [msgs, List.map_append, List.nodup_append] at this; exact this.2.1
theorem GrV.ndd (v : GrV g) : (msgs g.done).Nodup := by have := v.nd; rw [msgs, List.map_append, List.nodup_append] at this; exact this.1
theorem GrV.dis (v : GrV g) {m : Int} (h : m ∈ msgs g.done) : m ∉ msgs g.pend := by
  have := v.nd
  rw [msgs, List.map_append, List.nodup_append] at this
  intro hp
  exact this.2.2 m h m hp rfl
theorem GrV.stampP (v : GrV g) {e : Ent} (h : e ∈ g.pend) : stampG g e.1 = some e := by
  unfold stampG
  rw [if_pos (grOk_iff.2 v), find_mem v.ndp h]; rfl
theorem GrV.stampD (v : GrV g) {e : Ent} (h : e ∈ g.done) : stampG g e.1 = some e := by
  unfold stampG
  rw [if_pos (grOk_iff.2 v), find_none.2 (v.dis (List.mem_map_of_mem h)), find_mem v.ndd h]; rfl
theorem GrV.stamp_cases (v : GrV g) (m : Int) : (∃ e, stampG g m = some e ∧ e.1 = m ∧ e ∈ g.pend) ∨ (∃ e, stampG g m = some e ∧ e.1 = m ∧ e ∈ g.done ∧ m ∉ msgs g.pend) ∨ (stampG g m = none ∧ m ∉ msgs g.pend ∧ m ∉ msgs g.done) := by
  by_cases h1 : m ∈ msgs g.pend
  · obtain ⟨e, he, rfl⟩ := List.mem_map.1 h1
    exact .inl ⟨e, v.stampP he, rfl, he⟩
  · by_cases h2 : m ∈ msgs g.done
    · obtain ⟨e, he, rfl⟩ := List.mem_map.1 h2
      exact .inr (.inl ⟨e, v.stampD he, rfl, he, h1⟩)
    · refine .inr (.inr ⟨?_, h1, h2⟩)
      unfold stampG
      rw [if_pos (grOk_iff.2 v), find_none.2 h1, find_none.2 h2]; rfl
theorem stampG_bad (h : grOk g = false) (m : Int) : stampG g m = none := by unfold stampG; rw [h]; rfl
theorem GrV.ent (v : GrV g) {e : Ent} (h : e ∈ g.done ++ g.pend) : entOk g.id g.clock e = true := by
  rcases List.mem_append.1 h with h | h
  · exact v.de e h
  · exact v.pe e h
theorem GrV.asc (v : GrV g) : ascE (g.done ++ g.pend) := by
  rw [ascE, List.pairwise_append]
  refine ⟨v.da, v.pa, fun d hd p hp => ?_⟩
  cases hc : g.pend with
  | nil => rw [hc] at hp; simp at hp
  | cons q t =>
    have h1 := (v.hd q t hc).2 d hd
    rw [hc] at hp
    rcases List.mem_cons.1 hp with rfl | hp
    · exact h1
    · have := v.pa
      rw [hc, ascE, List.pairwise_cons] at this
      exact ltE_trans h1 (this.1 p hp)
theorem entOk_iff {id c : Int} {e : Ent} : entOk id c e = true ↔ isMsg e.1 = true ∧ stOk e.2.1 = true ∧ e.2.1.1 ≤ c ∧ (e.2.2 = true ∨ e.2.1.2 = id) := by
  simp [entOk]
theorem stOk_iff {s : Int × Int} : stOk s = true ↔ (1 ≤ s.1 ∧ s.1 ≤ 999) ∧ 0 ≤ s.2 ∧ s.2 ≤ 4 := by
  simp [stOk, inB_iff]
end
theorem nodup_sub_len : ∀ (l t : List Int), l.Nodup → (∀ x ∈ l, x ∈ t) → l.length ≤ t.length
  | [], _, _, _ => Nat.zero_le _
  | x :: l, t, hn, hs => by
    rw [List.nodup_cons] at hn
    have hx : x ∈ t := hs x (by simp)
    have h1 := nodup_sub_len l (t.erase x) hn.2 (fun y hy => (List.mem_erase_of_ne (by rintro rfl; exact hn.1 hy)).2 (hs y (by simp [hy])))
    have h2 := List.length_erase_of_mem hx
    have h3 : 0 < t.length := List.length_pos_of_mem hx
    rw [List.length_cons]
    omega
/-- A valid group is small. -/
theorem GrV.small {g : Grp} (v : GrV g) : g.pend.length ≤ 12 ∧ g.done.length ≤ 12 := by
  have h := nodup_sub_len _ [0, 1, 2, 3, 4, 5, 6, 7, 8, 9, 10, 11] v.nd (fun x hx => by
    obtain ⟨e, he, rfl⟩ := List.mem_map.1 hx
    have h1 := (entOk_iff.1 (v.ent he)).1
    rw [isMsg, inB_iff] at h1
    have h2 : e.1 = 0 ∨ e.1 = 1 ∨ e.1 = 2 ∨ e.1 = 3 ∨ e.1 = 4 ∨ e.1 = 5 ∨ e.1 = 6 ∨ e.1 = 7 ∨ e.1 = 8 ∨ e.1 = 9 ∨ e.1 = 10 ∨ e.1 = 11 := by omega
    simpa using h2)
  simp [msgs] at h
  omega
/-- Proposing, of whatever group. -/
def propS (g : Grp) (m : Int) : Grp × (Int × Int) × Bool := match findE g.pend m with
  | some e => if e.2.2 then (g, (0, 0), false) else (g, e.2.1, true)
  | none => if (findE g.done m).isSome || decide (999 ≤ g.clock) then (g, (0, 0), false) else (⟨g.id, g.clock + 1, g.pend ++ [(m, (g.clock + 1, g.id), false)], g.done⟩, (g.clock + 1, g.id), true)
def propM (g : Grp) (m : Int) : Grp × (Int × Int) × Bool := if grOk g && isMsg m then propS g m else (g0, (0, 0), false)
section
variable {g : Grp} {m : Int}
theorem propM_bad (h : (grOk g && isMsg m) = false) : propM g m = (g0, (0, 0), false) := by unfold propM; rw [h]; rfl
theorem propM_ok (v : GrV g) (hm : isMsg m = true) : propM g m = propS g m := by unfold propM; rw [grOk_iff.2 v, hm]; rfl
theorem propS_pend (v : GrV g) {e : Ent} (he : e ∈ g.pend) (hf : e.2.2 = false) : propS g e.1 = (g, e.2.1, true) := by
  unfold propS; rw [find_mem v.ndp he]; simp [hf]
theorem propS_fin (v : GrV g) {e : Ent} (he : e ∈ g.pend) (hf : e.2.2 = true) : propS g e.1 = (g, (0, 0), false) := by
  unfold propS; rw [find_mem v.ndp he]; simp [hf]
theorem propS_done (h1 : m ∉ msgs g.pend) (h2 : m ∈ msgs g.done) : propS g m = (g, (0, 0), false) := by
  unfold propS
  rw [find_none.2 h1]
  have : (findE g.done m).isSome = true := by
    cases hf : findE g.done m
    · exact absurd h2 (find_none.1 hf)
    · rfl
  simp [this]
theorem propS_end (h1 : m ∉ msgs g.pend) (h2 : 999 ≤ g.clock) : propS g m = (g, (0, 0), false) := by
  unfold propS
  rw [find_none.2 h1]
  simp [h2]
theorem propS_new (h1 : m ∉ msgs g.pend) (h2 : m ∉ msgs g.done) (h3 : ¬ 999 ≤ g.clock) : propS g m = (⟨g.id, g.clock + 1, g.pend ++ [(m, (g.clock + 1, g.id), false)], g.done⟩, (g.clock + 1, g.id), true) := by
  unfold propS
  rw [find_none.2 h1, find_none.2 h2]
  simp [h3]
/-- What proposing can come to. -/
theorem prop_cases (v : GrV g) (hm : isMsg m = true) :
    (∃ e ∈ g.pend, e.1 = m ∧ e.2.2 = false ∧ stampG g m = some e ∧ propM g m = (g, e.2.1, true)) ∨
    (∃ e, stampG g m = some e ∧ e.2.2 = true ∧ propM g m = (g, (0, 0), false)) ∨
    (stampG g m = none ∧ g.clock = 999 ∧ propM g m = (g, (0, 0), false)) ∨
    (stampG g m = none ∧ g.clock < 999 ∧ m ∉ msgs g.pend ∧ m ∉ msgs g.done ∧ propM g m = (⟨g.id, g.clock + 1, g.pend ++ [(m, (g.clock + 1, g.id), false)], g.done⟩, (g.clock + 1, g.id), true)) := by
  rw [propM_ok v hm]
  rcases v.stamp_cases m with ⟨e, h1, rfl, h2⟩ | ⟨e, h1, rfl, h2, h3⟩ | ⟨h1, h2, h3⟩
  · cases hf : e.2.2
    · exact .inl ⟨e, h2, rfl, hf, h1, propS_pend v h2 hf⟩
    · exact .inr (.inl ⟨e, h1, hf, propS_fin v h2 hf⟩)
  · exact .inr (.inl ⟨e, h1, v.df e h2, propS_done h3 (List.mem_map_of_mem h2)⟩)
  · by_cases hc : 999 ≤ g.clock
    · exact .inr (.inr (.inl ⟨h1, by have := v.ck; omega, propS_end h2 hc⟩))
    · exact .inr (.inr (.inr ⟨h1, by omega, h2, h3, propS_new h2 h3 hc⟩))
theorem entOk_more {id c c' : Int} (h : c ≤ c') {e : Ent} (he : entOk id c e = true) : entOk id c' e = true := by
  rw [entOk_iff] at he ⊢
  exact ⟨he.1, he.2.1, by omega, he.2.2.2⟩
/-- A proposal keeps a group valid. -/
theorem new_valid (v : GrV g) (hm : isMsg m = true) (hc : g.clock < 999) (h1 : m ∉ msgs g.pend) (h2 : m ∉ msgs g.done) : GrV ⟨g.id, g.clock + 1, g.pend ++ [(m, (g.clock + 1, g.id), false)], g.done⟩ := by
  have hid := v.id
  have hck := v.ck
  have hlt : ∀ e ∈ g.done ++ g.pend, ltE e (m, (g.clock + 1, g.id), false) = true := fun e he => by
    have := (entOk_iff.1 (v.ent he)).2.2.1
    rw [ltE, ltS_iff]; left; show e.2.1.1 < g.clock + 1; omega
  refine ⟨hid, ⟨by show 0 ≤ g.clock + 1; omega, by show g.clock + 1 ≤ 999; omega⟩, fun e he => ?_, fun e he => entOk_more (show g.clock ≤ g.clock + 1 by omega) (v.de e he), ?_, v.da, ?_, v.df, fun p t hp => ?_⟩
  · rcases List.mem_append.1 he with he | he
    · exact entOk_more (show g.clock ≤ g.clock + 1 by omega) (v.pe e he)
    · rw [List.mem_singleton] at he
      subst he
      rw [entOk_iff]
      exact ⟨hm, stOk_iff.2 ⟨⟨by show 1 ≤ g.clock + 1; omega, by show g.clock + 1 ≤ 999; omega⟩, hid⟩, Int.le_refl _, .inr rfl⟩
  · show ascE (g.pend ++ _)
    rw [ascE, List.pairwise_append]
    refine ⟨v.pa, by simp, fun a ha b hb => ?_⟩
    rw [List.mem_singleton] at hb
    subst hb
    exact hlt a (List.mem_append_right _ ha)
  · show (msgs (g.done ++ (g.pend ++ [(m, (g.clock + 1, g.id), false)]))).Nodup
    have hn := v.nd
    rw [← List.append_assoc, msgs, List.map_append, List.nodup_append]
    refine ⟨hn, by simp, fun a ha b hb e => ?_⟩
    simp at hb
    subst hb
    subst e
    rw [List.map_append, List.mem_append] at ha
    rcases ha with ha | ha
    · exact h2 ha
    · exact h1 ha
  · cases hc2 : g.pend with
    | nil =>
      rw [hc2] at hp
      injection hp with hp _
      subst hp
      exact ⟨rfl, fun d hd => hlt d (List.mem_append_left _ hd)⟩
    | cons q s =>
      rw [hc2] at hp
      injection hp with hp _
      subst hp
      exact v.hd q s hc2
theorem prop_valid (v : GrV g) (hm : isMsg m = true) : GrV (propM g m).1 := by
  rcases prop_cases v hm with ⟨e, _, _, _, _, h⟩ | ⟨e, _, _, h⟩ | ⟨_, _, h⟩ | ⟨_, hc, h1, h2, h⟩
  · rw [h]; exact v
  · rw [h]; exact v
  · rw [h]; exact v
  · rw [h]; exact new_valid v hm hc h1 h2
end
end Go.Proofs.Ytkhgemgmnchodaa
