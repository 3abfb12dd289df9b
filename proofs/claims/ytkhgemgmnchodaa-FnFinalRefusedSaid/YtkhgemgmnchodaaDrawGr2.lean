/- The drawing of groups: states; a new group. -/
import Derived.Test.YtkhgemgmnchodaaDrawGr
import Derived.Test.YtkhgemgmnchodaaGr12
namespace Go.Proofs.Ytkhgemgmnchodaa
open Go.RowKit Go.Sort
theorem nodup_sub_length : ∀ (l t : List Int), l.Nodup → (∀ x ∈ l, x ∈ t) → l.length ≤ t.length
  | [], _, _, _ => by simp
  | a :: l, t, hn, hs => by
    rw [List.nodup_cons] at hn
    have ha : a ∈ t := hs a (by simp)
    have h1 : ∀ x ∈ l, x ∈ t.erase a := fun x hx => by
      have hne : x ≠ a := fun e => hn.1 (e ▸ hx)
      exact (List.mem_erase_of_ne hne).2 (hs x (by simp [hx]))
    have h2 := nodup_sub_length l (t.erase a) hn.2 h1
    rw [List.length_erase_of_mem ha] at h2
    have h3 : 0 < t.length := List.length_pos_of_mem ha
    simp only [List.length_cons]
    omega
theorem GrV.len {g : Grp} (v : GrV g) : g.done.length + g.pend.length ≤ 12 := by
  have h := nodup_sub_length (msgs (g.done ++ g.pend)) ((List.range 12).map fun (i : Nat) => (i : Int)) v.nd (fun x hx => by
    obtain ⟨e, he, rfl⟩ := List.mem_map.1 hx
    obtain ⟨m, h1, h2⟩ := isMsg_nat (entOk_iff.1 (v.ent he)).1
    rw [h1]
    exact List.mem_map.2 ⟨m, List.mem_range.2 h2, rfl⟩)
  simpa [msgs] using h
theorem grv_nil {I : Int} (h : 0 ≤ I ∧ I ≤ 4) : GrV ⟨I, 0, [], []⟩ := ⟨h, by simp, by simp, by simp, List.Pairwise.nil, List.Pairwise.nil, by simp [msgs], by simp, by simp⟩
theorem propS_valid {g : Grp} {m : Int} (v : GrV g) (hm : isMsg m = true) : GrV (propS g m).1 ∧ (propS g m).1.clock ≤ g.clock + 1 := by
  rw [← propM_ok v hm]
  refine ⟨prop_valid v hm, ?_⟩
  rcases prop_cases v hm with ⟨_, _, _, _, _, h⟩ | ⟨_, _, _, h⟩ | ⟨_, _, h⟩ | ⟨_, _, _, _, h⟩ <;> rw [h] <;> simp only <;> omega
theorem finS_valid {g : Grp} {m : Int} {s : Int × Int} (v : GrV g) (hm : isMsg m = true) (hs : stOk s = true) : GrV (finS g m s).1 ∧ (finS g m s).1.clock ≤ max g.clock s.1 := by
  rw [← finM_ok v hm hs]
  refine ⟨fin_valid v hm hs, ?_⟩
  rw [finM_ok v hm hs]
  cases h : finOk g m s
  · rw [finS_no h]; exact Int.le_max_left _ _
  · rw [finS_yes h]; exact Int.le_refl _
/-- A group in the block of a variable. -/
structure DG (w W : World) (R L G : Nat) (I K : Int) (A : Option Addr) (n c : Nat) (B : Option Addr) (m d : Nat) (ps ds : List Ent) : Prop where
  z : Blk W w.heap.size 25 (grC 0 0 none 0 0 none 0 0)
  g : Blk W G 25 (grC I K A n c B m d)
  c : OwGr W w.heap.size I K A n c B m d ps ds
  r : Rd W R L
  gr : w.grownBy W (some R)
  lt : R < w.heap.size
  gz : w.heap.size < G
theorem grown_st {a b c : World} {row : Option Nat} (h : a.grownBy b row) (s : St b c) : a.grownBy c row :=
  grown_new (row' := none) h ⟨s.os, s.tape, s.output, s.size, fun k hk _ => s.block k hk⟩ (by simp)
theorem set_gr (W : World) (G : Nat) (I K : Int) (A : Option Addr) (n c : Nat) (B : Option Addr) (m d : Nat) : W.grownBy (setGr W G I K A n c B m d) (some G) :=
  grown_trans' (grown_trans' (grown_trans' (World.grownBy_set _ _ _ _) (World.grownBy_set _ _ _ _)) (World.grownBy_set _ _ _ _)) (World.grownBy_set _ _ _ _)
section
variable {w W W1 : World} {R L L' G n c m d n' c' m' d' : Nat} {I K I' K' : Int} {A B A' B' : Option Addr} {ps ds ps' ds' : List Ent}
theorem DG.pick (h : DG w W R L G I K A n c B m d ps ds) (hr : Rd W1 R L') (hg : W.grownBy W1 (some R)) : DG w W1 R L' G I K A n c B m d ps ds := by
  have h1 := h.lt
  have h2 := h.gz
  exact ⟨h.z.grown hg (fun e => by injection e with e; omega), h.g.grown hg (fun e => by injection e with e; omega), h.c.row hg h1, hr, grown_trans' h.gr hg, h1, h2⟩
theorem DG.st (h : DG w W R L G I K A n c B m d ps ds) (s : St W W1) : DG w W1 R L G I K A n c B m d ps ds :=
  ⟨h.z.st s, h.g.st s, h.c.st s, h.r.below s h.r.lt, grown_st h.gr s, h.lt, h.gz⟩
theorem DG.le (h : DG w W R L G I K A n c B m d ps ds) (hl : L ≤ L') : DG w W R L' G I K A n c B m d ps ds := ⟨h.z, h.g, h.c, h.r.le hl, h.gr, h.lt, h.gz⟩
theorem Rd.gr_ {g : Nat} (h : Rd W R L) (hg : W.grownBy W1 (some g)) (hR : R < g) : Rd W1 R L := h.grown hg (fun k hk => by injection hk with hk; omega)
/-- Another block of the call's own is written. -/
theorem DG.other {y : Nat} {T : TypeId} {cs : Array Value} (h : DG w W R L G I K A n c B m d ps ds) (hy : Blk W y T cs) (hT : 34 ≠ T) (hyG : y ≠ G) (hyw : w.heap.size < y) (hg : W.grownBy W1 (some y)) : DG w W1 R L G I K A n c B m d ps ds := by
  have h1 := h.lt
  exact ⟨h.z.grown hg (fun e => by injection e with e; omega), h.g.grown hg (fun e => hyG (by injection e with e; exact e.symm)), h.c.blk hy hT hg, h.r.gr_ hg (by omega), grown_new h.gr hg (fun k hk => by injection hk with hk; omega), h1, h.gz⟩
/-- The variable is written over. -/
theorem DG.over (h : DG w W R L G I K A n c B m d ps ds) (hc : OwGr W w.heap.size I' K' A' n' c' B' m' d' ps' ds') : DG w (setGr W G I' K' A' n' c' B' m' d') R L G I' K' A' n' c' B' m' d' ps' ds' := by
  have h1 := h.lt
  have h2 := h.gz
  have L1 := h.g.set_ 0 (.int .i64 I')
  have L2 := L1.set_ 1 (.int .i64 K')
  have L3 := L2.set_ 2 (.slice A' n' c')
  have L4 := L3.set_ 3 (.slice B' m' d')
  have f2 : OwGr (setGr W G I' K' A' n' c' B' m' d') w.heap.size I' K' A' n' c' B' m' d' ps' ds' := (((hc.blk h.g (by decide) (World.grownBy_set _ _ _ _)).blk L1 (by decide) (World.grownBy_set _ _ _ _)).blk L2 (by decide) (World.grownBy_set _ _ _ _)).blk L3 (by decide) (World.grownBy_set _ _ _ _)
  have hg := set_gr W G I' K' A' n' c' B' m' d'
  exact ⟨h.z.putGr (by omega), L4, f2, h.r.gr_ hg (by omega), grown_new h.gr hg (fun k hk => by injection hk with hk; omega), h1, h2⟩
end
/-- A group that a drawing function returns: new. -/
def DrawnGr (w : World) (R M : Nat) (e : Ending) (w' : World) : Prop :=
  ∃ I K A n c B m d ps ds, e = .returned (grV I K A n c B m d) ∧ OwGr w' w.heap.size I K A n c B m d ps ds ∧ n ≤ 12 ∧ m ≤ 12 ∧ (-1 ≤ K ∧ K ≤ 1000) ∧ Rd w' R M ∧ w.grownBy w' (some R)
end Go.Proofs.Ytkhgemgmnchodaa
