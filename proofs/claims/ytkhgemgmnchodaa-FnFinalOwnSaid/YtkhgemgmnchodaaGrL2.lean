/- Plain: what a final stamp makes of a group. No program here. -/
import Derived.Test.YtkhgemgmnchodaaGrL
namespace Go.Proofs.Ytkhgemgmnchodaa
open Go.RowKit
def insE (e : Ent) (rest : List Ent) : List Ent := rest.takeWhile (fun x => ltE x e) ++ e :: rest.dropWhile (fun x => ltE x e)
def restE (es : List Ent) (m : Int) : List Ent := es.filter fun x => x.1 != m
def delG (g : Grp) : Grp := ⟨g.id, g.clock, g.pend.dropWhile (·.2.2), g.done ++ g.pend.takeWhile (·.2.2)⟩
def toldG (g : Grp) : List Int := msgs (g.pend.takeWhile (·.2.2))
/-- The group before what is final is delivered. -/
def setG (g : Grp) (m : Int) (s : Int × Int) : Grp := ⟨g.id, max g.clock s.1, insE (m, s, true) (restE g.pend m), g.done⟩
def finOk (g : Grp) (m : Int) (s : Int × Int) : Bool := match findE g.pend m with
  | none => false
  | some e => !e.2.2 && (!ltS s e.2.1 && !(restE g.pend m).any (fun x => x.2.1 == s))
def finS (g : Grp) (m : Int) (s : Int × Int) : Grp × List Int × Bool := if finOk g m s then (delG (setG g m s), toldG (setG g m s), true) else (g, [], false)
def finM (g : Grp) (m : Int) (s : Int × Int) : Grp × List Int × Bool := if grOk g && (isMsg m && stOk s) then finS g m s else (g0, [], false)
/-- All but the head's rule. -/
structure GrU (g : Grp) : Prop where
  id : 0 ≤ g.id ∧ g.id ≤ 4
  ck : 0 ≤ g.clock ∧ g.clock ≤ 999
  en : ∀ e ∈ g.done ++ g.pend, entOk g.id g.clock e = true
  as_ : ascE (g.done ++ g.pend)
  nd : (msgs (g.done ++ g.pend)).Nodup
  df : ∀ e ∈ g.done, e.2.2 = true
theorem GrV.u {g : Grp} (v : GrV g) : GrU g := ⟨v.id, v.ck, fun _ he => v.ent he, v.asc, v.nd, v.df⟩
theorem GrU.v {g : Grp} (u : GrU g) (h : ∀ p t, g.pend = p :: t → p.2.2 = false) : GrV g := by
  have ha := u.as_
  rw [ascE, List.pairwise_append] at ha
  exact ⟨u.id, u.ck, fun e he => u.en e (List.mem_append_right _ he), fun e he => u.en e (List.mem_append_left _ he), ha.2.1, ha.1, u.nd, u.df, fun p t hp => ⟨h p t hp, fun d hd => ha.2.2 d hd p (by rw [hp]; simp)⟩⟩
theorem del_list (g : Grp) : (delG g).done ++ (delG g).pend = g.done ++ g.pend := by
  show (g.done ++ g.pend.takeWhile (·.2.2)) ++ g.pend.dropWhile (·.2.2) = _
  rw [List.append_assoc, List.takeWhile_append_dropWhile]
theorem takeWhile_all {α : Type} {p : α → Bool} : ∀ {l : List α} {x : α}, x ∈ l.takeWhile p → p x = true
  | [], _, h => by simp at h
  | y :: l, x, h => by
    rw [List.takeWhile_cons] at h
    split at h
    · rename_i hy
      rcases List.mem_cons.1 h with rfl | h
      · exact hy
      · exact takeWhile_all h
    · simp at h
theorem dropWhile_head {α : Type} {p : α → Bool} : ∀ {l : List α} {x : α} {t : List α}, l.dropWhile p = x :: t → p x = false
  | [], _, _, h => by simp at h
  | y :: l, x, t, h => by
    rw [List.dropWhile_cons] at h
    split at h
    · exact dropWhile_head h
    · rename_i hy
      injection h with h _
      subst h
      simpa using hy
theorem GrU.del {g : Grp} (u : GrU g) : GrV (delG g) := by
  refine GrU.v ⟨u.id, u.ck, ?_, ?_, ?_, fun e he => ?_⟩ fun p t hp => dropWhile_head (p := fun e : Ent => e.2.2) hp
  · rw [del_list]; exact u.en
  · rw [del_list]; exact u.as_
  · rw [del_list]; exact u.nd
  · rcases List.mem_append.1 he with he | he
    · exact u.df e he
    · exact takeWhile_all (p := fun e : Ent => e.2.2) he
theorem ins_perm (e : Ent) (rest : List Ent) : (insE e rest).Perm (e :: rest) := by
  unfold insE
  have h : rest.takeWhile (fun x => ltE x e) ++ rest.dropWhile (fun x => ltE x e) = rest := List.takeWhile_append_dropWhile
  refine List.perm_middle.trans ?_
  rw [h]
theorem dropWhile_sub {α : Type} {p : α → Bool} (l : List α) : (l.dropWhile p).Sublist l := List.dropWhile_sublist p
theorem ins_asc {e : Ent} {rest : List Ent} (ha : ascE rest) (hn : ∀ x ∈ rest, x.2.1 ≠ e.2.1) : ascE (insE e rest) := by
  have hge : ∀ x ∈ rest.dropWhile (fun x => ltE x e), ltE e x = true := by
    cases hd : rest.dropWhile (fun x => ltE x e) with
    | nil => intro x hx; simp at hx
    | cons y t =>
      have h1 := dropWhile_head (p := fun x => ltE x e) hd
      have hs := dropWhile_sub (p := fun x => ltE x e) rest
      rw [hd] at hs
      have hy : y ∈ rest := hs.subset (by simp)
      have h2 : ltE e y = true := by
        cases hc : ltE e y
        · exact absurd (ltS_tri h1 hc) (hn y hy)
        · rfl
      intro x hx
      rcases List.mem_cons.1 hx with rfl | hx
      · exact h2
      · have hp := ha.sublist hs
        exact ltE_trans h2 ((List.pairwise_cons.1 hp).1 x hx)
  unfold insE
  rw [ascE, List.pairwise_append, List.pairwise_cons]
  refine ⟨ha.sublist (List.takeWhile_sublist _), ⟨hge, ha.sublist (dropWhile_sub _)⟩, fun a hx b hb => ?_⟩
  have h1 : ltE a e = true := takeWhile_all (p := fun x => ltE x e) hx
  rcases List.mem_cons.1 hb with rfl | hb
  · exact h1
  · exact ltE_trans h1 (hge b hb)
theorem mem_rest {es : List Ent} {m : Int} {x : Ent} : x ∈ restE es m ↔ x ∈ es ∧ x.1 ≠ m := by simp [restE]
theorem rest_not {es : List Ent} {m : Int} (h : m ∉ msgs es) : restE es m = es := by
  rw [restE, List.filter_eq_self]
  intro x hx
  have : x.1 ≠ m := fun e => h (e ▸ List.mem_map_of_mem hx)
  simpa using this
/-- A list without one message: in front of it and behind it. -/
theorem rest_split : ∀ {es : List Ent} {k : Nat} {e : Ent}, (msgs es).Nodup → es[k]? = some e → restE es e.1 = es.take k ++ es.drop (k + 1)
  | [], _, _, _, h => by simp at h
  | x :: t, 0, e, hn, h => by
    simp at h
    subst h
    simp only [msgs, List.map_cons, List.nodup_cons] at hn
    have := rest_not (es := t) (m := x.1) hn.1
    simp only [restE] at this ⊢
    simp [this]
  | x :: t, k + 1, e, hn, h => by
    simp only [List.getElem?_cons_succ] at h
    simp only [msgs, List.map_cons, List.nodup_cons] at hn
    have hne : x.1 ≠ e.1 := fun he => hn.1 (he ▸ List.mem_map_of_mem (List.mem_of_getElem? h))
    have ih := rest_split hn.2 h
    simp only [restE] at ih ⊢
    rw [List.filter_cons]
    simp [hne, ih]
theorem set_perm {es : List Ent} {k : Nat} {e x : Ent} (hn : (msgs es).Nodup) (h : es[k]? = some e) : (es.set k x).Perm (x :: restE es e.1) := by
  have hk := (List.getElem?_eq_some_iff.1 h).1
  rw [rest_split hn h, List.set_eq_take_append_cons_drop, if_pos hk]
  exact List.perm_middle
section
variable {g : Grp} {m : Int} {s : Int × Int}
theorem finM_bad (h : (grOk g && (isMsg m && stOk s)) = false) : finM g m s = (g0, [], false) := by unfold finM; rw [h]; rfl
theorem finM_ok (v : GrV g) (hm : isMsg m = true) (hs : stOk s = true) : finM g m s = finS g m s := by unfold finM; rw [grOk_iff.2 v, hm, hs]; rfl
theorem finS_yes (h : finOk g m s = true) : finS g m s = (delG (setG g m s), toldG (setG g m s), true) := if_pos h
theorem finS_no (h : finOk g m s = false) : finS g m s = (g, [], false) := by unfold finS; rw [h]; rfl
theorem finOk_iff (v : GrV g) : finOk g m s = true ↔ ∃ e ∈ g.pend, e.1 = m ∧ e.2.2 = false ∧ ltS s e.2.1 = false ∧ ∀ x ∈ g.pend, x.1 ≠ m → x.2.1 ≠ s := by
  unfold finOk
  constructor
  · intro h
    split at h
    · cases h
    · rename_i e he
      obtain ⟨h1, h2⟩ := find_some he
      simp only [Bool.and_eq_true, Bool.not_eq_true', List.any_eq_false, beq_iff_eq] at h
      exact ⟨e, h1, h2, h.1, h.2.1, fun x hx hne => h.2.2 x (mem_rest.2 ⟨hx, hne⟩)⟩
  · rintro ⟨e, he, rfl, h1, h2, h3⟩
    rw [find_mem v.ndp he]
    simp only [Bool.and_eq_true, Bool.not_eq_true', List.any_eq_false, beq_iff_eq]
    exact ⟨h1, h2, fun x hx => h3 x (mem_rest.1 hx).1 (mem_rest.1 hx).2⟩
theorem restE_list (v : GrV g) (he : m ∈ msgs g.pend) : restE (g.done ++ g.pend) m = g.done ++ restE g.pend m := by
  have hnd : m ∉ msgs g.done := fun hd => v.dis hd he
  show List.filter _ (g.done ++ g.pend) = _
  rw [List.filter_append]
  congr 1
  exact rest_not hnd
theorem set_perm' (v : GrV g) (he : m ∈ msgs g.pend) : ((setG g m s).done ++ (setG g m s).pend).Perm ((m, s, true) :: restE (g.done ++ g.pend) m) := by
  rw [restE_list v he]
  show (g.done ++ insE (m, s, true) (restE g.pend m)).Perm _
  exact ((ins_perm _ _).append_left g.done).trans List.perm_middle
theorem msgs_rest (es : List Ent) (m : Int) : msgs (restE es m) = (msgs es).filter (· != m) := by
  simp [msgs, restE, List.filter_map]; rfl
theorem fin_u (v : GrV g) (hm : isMsg m = true) (hs : stOk s = true) (h : finOk g m s = true) : GrU (setG g m s) := by
  obtain ⟨e, he, rfl, h1, h2, h3⟩ := (finOk_iff v).1 h
  have hmem : e.1 ∈ msgs g.pend := List.mem_map_of_mem he
  have hp := set_perm' (s := s) v hmem
  have hc1 : g.clock ≤ max g.clock s.1 := Int.le_max_left _ _
  have hc2 : s.1 ≤ max g.clock s.1 := Int.le_max_right _ _
  have hck := v.ck
  have hst := stOk_iff.1 hs
  refine ⟨v.id, ⟨Int.le_trans hck.1 hc1, Int.max_le.2 ⟨hck.2, hst.1.2⟩⟩, fun x hx => ?_, ?_, ?_, v.df⟩
  · rcases List.mem_cons.1 (hp.subset hx) with rfl | hx
    · exact entOk_iff.2 ⟨hm, hs, hc2, .inl rfl⟩
    · exact entOk_more hc1 (v.ent (mem_rest.1 hx).1)
  · show ascE (g.done ++ insE (e.1, s, true) (restE g.pend e.1))
    rw [ascE, List.pairwise_append]
    refine ⟨v.da, ins_asc (v.pa.sublist List.filter_sublist) fun x hx => ?_, fun d hd x hx => ?_⟩
    · exact h3 x (mem_rest.1 hx).1 (mem_rest.1 hx).2
    · have hda := (List.pairwise_append.1 v.asc).2.2 d hd
      rcases List.mem_cons.1 ((ins_perm _ _).subset hx) with rfl | hx
      · have h4 := hda e he
        rw [ltE, ltS_iff] at h4
        rw [ltS_false] at h2
        rw [ltE, ltS_iff]
        show d.2.1.1 < s.1 ∨ d.2.1.1 = s.1 ∧ d.2.1.2 < s.2
        omega
      · exact hda x (mem_rest.1 hx).1
  · have h4 := hp.map (fun (x : Ent) => x.1)
    have h5 : (msgs ((e.1, s, true) :: restE (g.done ++ g.pend) e.1)).Nodup := by
      show (e.1 :: msgs (restE (g.done ++ g.pend) e.1)).Nodup
      rw [List.nodup_cons, msgs_rest]
      exact ⟨by simp, v.nd.filter _⟩
    exact (h4.nodup_iff).2 h5
theorem fin_valid' (v : GrV g) (hm : isMsg m = true) (hs : stOk s = true) (h : finOk g m s = true) : GrV (delG (setG g m s)) := (fin_u v hm hs h).del
theorem fin_list (v : GrV g) (h : finOk g m s = true) : ((delG (setG g m s)).done ++ (delG (setG g m s)).pend).Perm ((m, s, true) :: restE (g.done ++ g.pend) m) := by
  obtain ⟨e, he, rfl, _⟩ := (finOk_iff v).1 h
  rw [del_list]
  exact set_perm' v (List.mem_map_of_mem he)
theorem GrV.mem_list (v : GrV g) {e : Ent} (h : e ∈ g.done ++ g.pend) : stampG g e.1 = some e := by
  rcases List.mem_append.1 h with h | h
  · exact v.stampD h
  · exact v.stampP h
theorem GrV.open_pend (v : GrV g) {e : Ent} (h : e ∈ g.done ++ g.pend) (hf : e.2.2 = false) : e ∈ g.pend := by
  rcases List.mem_append.1 h with h | h
  · rw [v.df e h] at hf; cases hf
  · exact h
theorem fin_stamp (v : GrV g) (hm : isMsg m = true) (hs : stOk s = true) (h : finOk g m s = true) : stampG (delG (setG g m s)) m = some (m, s, true) :=
  (fin_valid' v hm hs h).mem_list (e := (m, s, true)) ((fin_list v h).symm.subset (by simp))
theorem fin_valid (v : GrV g) (hm : isMsg m = true) (hs : stOk s = true) : GrV (finM g m s).1 := by
  rw [finM_ok v hm hs]
  cases h : finOk g m s
  · rw [finS_no h]; exact v
  · rw [finS_yes h]; exact fin_valid' v hm hs h
/-- A message whose stamp is final is not set again. -/
theorem fin_twice {G : Grp} (v : GrV G) {s : Int × Int} (h : stampG G m = some (m, s, true)) (t : Int × Int) : finOk G m t = false := by
  cases hf : finOk G m t
  · rfl
  · obtain ⟨e, he, rfl, h1, _⟩ := (finOk_iff v).1 hf
    rw [v.stampP he] at h
    injection h with h
    rw [h] at h1
    cases h1
/-- A valid group is what its entries in order tell. -/
theorem GrV.split (v : GrV g) : g.done = (g.done ++ g.pend).takeWhile (·.2.2) ∧ g.pend = (g.done ++ g.pend).dropWhile (·.2.2) := by
  have h1 : ∀ (d p : List Ent), (∀ e ∈ d, e.2.2 = true) → (∀ q t, p = q :: t → q.2.2 = false) → (d ++ p).takeWhile (·.2.2) = d ∧ (d ++ p).dropWhile (·.2.2) = p := by
    intro d p hd hp
    induction d with
    | nil =>
      cases p with
      | nil => exact ⟨rfl, rfl⟩
      | cons q t =>
        have := hp q t rfl
        exact ⟨by rw [List.nil_append, List.takeWhile_cons, this]; rfl, by rw [List.nil_append, List.dropWhile_cons, this]; rfl⟩
    | cons x d ih =>
      have hx := hd x (by simp)
      have := ih (fun e he => hd e (by simp [he]))
      rw [List.cons_append, List.takeWhile_cons, List.dropWhile_cons, hx]
      simp [this]
  obtain ⟨h2, h3⟩ := h1 g.done g.pend v.df (fun q t hq => (v.hd q t hq).1)
  exact ⟨h2.symm, h3.symm⟩
theorem GrV.same {a b : Grp} (va : GrV a) (vb : GrV b) (h1 : a.id = b.id) (h2 : a.clock = b.clock) (h3 : (a.done ++ a.pend).Perm (b.done ++ b.pend)) : a = b := by
  have hl : a.done ++ a.pend = b.done ++ b.pend := by
    refine List.Perm.eq_of_pairwise (le := fun x y => ltE x y = true) (fun x y _ _ hxy hyx => ?_) va.asc vb.asc h3
    rw [ltE, ltS_iff] at hxy hyx
    omega
  obtain ⟨a1, a2⟩ := va.split
  obtain ⟨b1, b2⟩ := vb.split
  exact Grp.ext' h1 h2 (by rw [a2, b2, hl]) (by rw [a1, b1, hl])
theorem rest_rest (es : List Ent) (m k : Int) : restE (restE es m) k = restE (restE es k) m := by
  simp only [restE, List.filter_filter]
  congr 1
  funext x
  rw [Bool.and_comm]
/-- The order of final stamps does not matter. -/
theorem fin_commute (v : GrV g) {k : Int} {t : Int × Int} (hm : isMsg m = true) (hs : stOk s = true) (hk : isMsg k = true) (ht : stOk t = true) (h1 : finOk g m s = true) (h2 : finOk (delG (setG g m s)) k t = true) (h3 : finOk g k t = true) :
    finOk (delG (setG g k t)) m s = true ∧ delG (setG (delG (setG g k t)) m s) = delG (setG (delG (setG g m s)) k t) := by
  have vo := fin_valid' v hm hs h1
  have vb := fin_valid' v hk ht h3
  have va := fin_valid' vo hk ht h2
  have lo := fin_list v h1
  have lb := fin_list v h3
  have la := fin_list vo h2
  have hmk : m ≠ k := by
    rintro rfl
    rw [fin_twice vo (fin_stamp v hm hs h1) t] at h2
    cases h2
  obtain ⟨e, he, hem, e1, e2, e3⟩ := (finOk_iff v).1 h1
  have hyes : finOk (delG (setG g k t)) m s = true := by
    refine (finOk_iff vb).2 ⟨e, vb.open_pend (lb.symm.subset ?_) e1, hem, e1, e2, fun x hx hxm => ?_⟩
    · exact List.mem_cons_of_mem _ (mem_rest.2 ⟨List.mem_append_right _ he, by rw [hem]; exact hmk⟩)
    · rcases List.mem_cons.1 (lb.subset (List.mem_append_right _ hx)) with rfl | hx2
      · intro hts
        have m1 : (k, t, true) ∈ (delG (setG (delG (setG g m s)) k t)).done ++ (delG (setG (delG (setG g m s)) k t)).pend := la.symm.subset (by simp)
        have m2 : (m, s, true) ∈ (delG (setG (delG (setG g m s)) k t)).done ++ (delG (setG (delG (setG g m s)) k t)).pend :=
          la.symm.subset (List.mem_cons_of_mem _ (mem_rest.2 ⟨lo.symm.subset (by simp), hmk⟩))
        have hts : t = s := hts
        rcases strict_or _ va.asc _ _ m1 m2 with hq | hq | hq
        · injection hq with hq _; exact hmk hq.symm
        · rw [ltE, ltS_iff] at hq; rw [hts] at hq; simp at hq
        · rw [ltE, ltS_iff] at hq; rw [hts] at hq; simp at hq
      · obtain ⟨hx3, hx4⟩ := mem_rest.1 hx2
        rcases List.mem_append.1 hx3 with hx5 | hx5
        · intro hxs
          have h4 := (List.pairwise_append.1 v.asc).2.2 x hx5 e he
          rw [ltE, ltS_iff, hxs] at h4
          rw [ltS_false] at e2
          omega
        · exact e3 x hx5 hxm
  refine ⟨hyes, ?_⟩
  have vc := fin_valid' vb hm hs hyes
  have lc := fin_list vb hyes
  refine GrV.same vc va rfl ?_ ?_
  · show max (max g.clock t.1) s.1 = max (max g.clock s.1) t.1
    rw [Int.max_assoc, Int.max_comm t.1 s.1, ← Int.max_assoc]
  · have hkm : k ≠ m := fun h => hmk h.symm
    have r1 : restE ((k, t, true) :: restE (g.done ++ g.pend) k) m = (k, t, true) :: restE (restE (g.done ++ g.pend) k) m := by
      simp [restE, hkm]
    have r2 : restE ((m, s, true) :: restE (g.done ++ g.pend) m) k = (m, s, true) :: restE (restE (g.done ++ g.pend) m) k := by
      simp [restE, hmk]
    have q1 : (restE ((delG (setG g k t)).done ++ (delG (setG g k t)).pend) m).Perm (restE ((k, t, true) :: restE (g.done ++ g.pend) k) m) := List.Perm.filter (fun x : Ent => x.1 != m) lb
    have q2 : (restE ((delG (setG g m s)).done ++ (delG (setG g m s)).pend) k).Perm (restE ((m, s, true) :: restE (g.done ++ g.pend) m) k) := List.Perm.filter (fun x : Ent => x.1 != k) lo
    have p1 := lc.trans (q1.cons (m, s, true))
    have p2 := la.trans (q2.cons (k, t, true))
    have p1' : ((delG (setG (delG (setG g k t)) m s)).done ++ (delG (setG (delG (setG g k t)) m s)).pend).Perm ((m, s, true) :: (k, t, true) :: restE (restE (g.done ++ g.pend) k) m) := by rw [← r1]; exact p1
    have p2' : ((delG (setG (delG (setG g m s)) k t)).done ++ (delG (setG (delG (setG g m s)) k t)).pend).Perm ((k, t, true) :: (m, s, true) :: restE (restE (g.done ++ g.pend) m) k) := by rw [← r2]; exact p2
    rw [rest_rest] at p1'
    exact p1'.trans ((List.Perm.swap _ _ _).trans p2'.symm)
/-- Only the first message delivers. -/
theorem fin_blocks (v : GrV g) (h : finOk g m s = true) {p : Ent} {t : List Ent} (hp : g.pend = p :: t) : m = p.1 ∨ toldG (setG g m s) = [] := by
  obtain ⟨e, he, rfl, h1, h2, h3⟩ := (finOk_iff v).1 h
  by_cases hm : e.1 = p.1
  · exact .inl hm
  · right
    have hpf := (v.hd p t hp).1
    have hlt : ltE p (e.1, s, true) = true := by
      rw [hp] at he
      rcases List.mem_cons.1 he with rfl | he
      · exact absurd rfl hm
      · have h4 := v.pa
        rw [hp, ascE, List.pairwise_cons] at h4
        have h5 := h4.1 e he
        rw [ltE, ltS_iff] at h5
        rw [ltS_false] at h2
        rw [ltE, ltS_iff]
        show p.2.1.1 < s.1 ∨ p.2.1.1 = s.1 ∧ p.2.1.2 < s.2
        omega
    have hne : (p.1 != e.1) = true := by simpa using fun h : p.1 = e.1 => hm h.symm
    show msgs ((insE (e.1, s, true) (restE g.pend e.1)).takeWhile (·.2.2)) = []
    rw [hp, restE, List.filter_cons, hne, if_pos rfl, insE, List.takeWhile_cons, hlt, if_pos rfl, List.cons_append, List.takeWhile_cons, hpf]
    rfl
/-- The first message is delivered with its own stamp. -/
theorem fin_own (v : GrV g) {p : Ent} {t : List Ent} (hp : g.pend = p :: t) : finOk g p.1 p.2.1 = true ∧ ∃ l, toldG (setG g p.1 p.2.1) = p.1 :: l := by
  have hpm : p ∈ g.pend := by rw [hp]; simp
  have hpa := v.pa
  rw [hp, ascE, List.pairwise_cons] at hpa
  have hgt : ∀ x ∈ t, ltE p x = true := hpa.1
  refine ⟨(finOk_iff v).2 ⟨p, hpm, rfl, (v.hd p t hp).1, ltS_irr _, fun x hx hne hs => ?_⟩, ?_⟩
  · rw [hp] at hx
    rcases List.mem_cons.1 hx with rfl | hx
    · exact hne rfl
    · have := hgt x hx
      rw [ltE, ltS_iff, hs] at this
      omega
  · have hr : restE g.pend p.1 = t := by
      have := rest_split (k := 0) v.ndp (by rw [hp]; rfl : g.pend[0]? = some p)
      rw [this, hp]; rfl
    have hno : ∀ l : List Ent, (∀ x ∈ l, ltE p x = true) → insE (p.1, p.2.1, true) l = (p.1, p.2.1, true) :: l := by
      intro l hl
      cases l with
      | nil => rfl
      | cons x l =>
        have : ltE x (p.1, p.2.1, true) = false := ltS_asy (hl x (by simp))
        rw [insE, List.takeWhile_cons, List.dropWhile_cons, this]; rfl
    refine ⟨msgs (t.takeWhile (·.2.2)), ?_⟩
    show msgs ((insE (p.1, p.2.1, true) (restE g.pend p.1)).takeWhile (·.2.2)) = _
    rw [hr, hno t hgt, List.takeWhile_cons]
    rfl
end
end Go.Proofs.Ytkhgemgmnchodaa
