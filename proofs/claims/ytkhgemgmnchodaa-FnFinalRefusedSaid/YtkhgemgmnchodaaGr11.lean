/- Plain laws and memory words for setting a final stamp. -/
import Derived.Test.YtkhgemgmnchodaaGr10
import Derived.Test.YtkhgemgmnchodaaGrL2
namespace Go.Proofs.Ytkhgemgmnchodaa
open Go.RowKit Go.Sort
theorem tw_take {α : Type} {p : α → Bool} : ∀ {l : List α} {j : Nat}, (∀ y ∈ l.take j, p y = true) → (∀ y, l[j]? = some y → p y = false) → l.takeWhile p = l.take j ∧ l.dropWhile p = l.drop j
  | [], j, _, _ => by simp
  | a :: l, 0, _, h2 => by
    have := h2 a (by simp)
    simp [this]
  | a :: l, j + 1, h1, h2 => by
    have ha := h1 a (by simp)
    have := tw_take (l := l) (j := j) (fun y hy => h1 y (by simp [hy])) (fun y hy => h2 y (by simpa using hy))
    simp [ha, this.1, this.2]
theorem ins_at {E : Ent} {rest : List Ent} {j : Nat} (h1 : ∀ y ∈ rest.take j, ltE y E = true) (h2 : ∀ y, rest[j]? = some y → ltE y E = false) : insE E rest = rest.take j ++ [E] ++ rest.drop j := by
  obtain ⟨a, b⟩ := tw_take h1 h2
  unfold insE
  rw [a, b]
  simp
theorem fin_free {rest : List Ent} {s : Int × Int} {j : Nat} (asc : ascE rest) (h1 : ∀ y ∈ rest.take j, ltS y.2.1 s = true) (h2 : ∀ y, rest[j]? = some y → ltS y.2.1 s = false ∧ y.2.1 ≠ s) : rest.any (fun y => y.2.1 == s) = false := by
  rw [List.any_eq_false]
  intro y hy
  obtain ⟨i, hi⟩ := List.getElem?_of_mem hy
  have hne : y.2.1 ≠ s := by
    rcases Nat.lt_trichotomy i j with hij | hij | hij
    · have hm : y ∈ rest.take j := List.mem_of_getElem? (i := i) (by rw [List.getElem?_take_of_lt hij]; exact hi)
      intro e
      have := h1 y hm
      rw [e, ltS_irr] at this
      cases this
    · subst hij
      exact (h2 y hi).2
    · have hjl : j < rest.length := by have := (List.getElem?_eq_some_iff.1 hi).1; omega
      have hil := (List.getElem?_eq_some_iff.1 hi).1
      obtain ⟨z1, z2⟩ := h2 rest[j] (List.getElem?_eq_getElem hjl)
      have hlt : ltE rest[j] rest[i] = true := List.pairwise_iff_getElem.1 asc j i hjl hil hij
      have hyi : rest[i] = y := by have := List.getElem?_eq_getElem hil; rw [hi] at this; injection this with this; exact this.symm
      rw [hyi] at hlt
      intro e
      have h3 : ltS rest[j].2.1 y.2.1 = true := hlt
      rw [e, z1] at h3
      cases h3
  simpa using hne
theorem asc_rest {es : List Ent} {m : Int} (h : ascE es) : ascE (restE es m) := List.Pairwise.filter _ h
/-- While the final ones are delivered. -/
theorem del_step {g : Grp} {j : Nat} {y : Ent} (h1 : ∀ z ∈ g.pend.take j, z.2.2 = true) (hy : g.pend[j]? = some y) (hf : y.2.2 = true) : ∀ z ∈ g.pend.take (j + 1), z.2.2 = true := by
  intro z hz
  rw [take_snoc hy, List.mem_append, List.mem_singleton] at hz
  rcases hz with hz | rfl
  · exact h1 z hz
  · exact hf
theorem del_end {g : Grp} {j : Nat} (h1 : ∀ z ∈ g.pend.take j, z.2.2 = true) (h2 : ∀ z, g.pend[j]? = some z → z.2.2 = false) : delG g = ⟨g.id, g.clock, g.pend.drop j, g.done ++ g.pend.take j⟩ ∧ toldG g = msgs (g.pend.take j) := by
  obtain ⟨a, b⟩ := tw_take (p := fun (z : Ent) => z.2.2) h1 h2
  unfold delG toldG
  rw [a, b]
  exact ⟨rfl, rfl⟩
theorem finS_none {g : Grp} {m : Int} {s : Int × Int} (h : findE g.pend m = none) : finS g m s = (g, [], false) := finS_no (by unfold finOk; rw [h])
theorem finOk_of {g : Grp} {m : Int} {s : Int × Int} {e : Ent} (h : findE g.pend m = some e) : finOk g m s = (!e.2.2 && (!ltS s e.2.1 && !(restE g.pend m).any (fun x => x.2.1 == s))) := by unfold finOk; rw [h]
section
variable {w w' W : World} {A : Option Addr} {n c : Nat} {es : List Ent}
theorem SE.grownB {row : Option Nat} (h : SE w A n c es) (hg : w.grownBy w' row) (hA : ∀ k, row = some k → blockOf A ≠ some k) : SE w' A n c es := by
  refine ⟨h.len, h.nc, h.cm, fun hn => ?_⟩
  obtain ⟨ad, rfl, h2, h3⟩ := h.rd hn
  refine ⟨ad, rfl, Nat.lt_of_lt_of_le h2 hg.size, fun k hk => ?_⟩
  obtain ⟨m, t, g, f, h4, h5, h6, h7, h8⟩ := h3 k hk
  have hb : ∀ j, w'.cell? (ad.add j) = w.cell? (ad.add j) := fun j => World.cell?_of_block (w := w) (hg.block _ (by rw [block_of_add]; exact h2) (fun e => hA _ e.symm (by rw [block_of_add]; rfl)))
  exact ⟨m, t, g, f, h4, (hb _).trans h5, (hb _).trans h6, (hb _).trans h7, (hb _).trans h8⟩
/-- The rest of a slice of entries. -/
theorem SE.cut {k : Nat} (h : SE w A n c es) (hk : k ≤ n) : SE w (if c = k then A else A.map (·.add (k * 4))) (n - k) (c - k) (es.drop k) := by
  have hr := Reads.cut h.reads hk h.nc
  rw [entCells_drop] at hr
  have h1 := h.nc
  have h2 := h.cm
  exact SE.of_reads (by rw [List.length_drop, h.len]) (by omega) (by omega) hr
theorem blockOf_cut (A : Option Addr) (c k : Nat) : blockOf (if c = k then A else A.map (·.add (k * 4))) = blockOf A := by
  split
  · rfl
  · cases A with
    | none => rfl
    | some a => simp [blockOf, block_of_add]
theorem cut_ents (A : Option Addr) {n c : Nat} (k : Nat) (hk : k ≤ n) (hc : k ≤ c) (W : World) : (Instr.slice 23 (.slice A n c) (some (.int .i64 (k : Int))) none none).run Try.prog W = .ok (.slice (if c = k then A else A.map (·.add (k * 4))) (n - k) (c - k)) W := by
  rw [run_slice_l W 23 A n c (by kernel_rfl) .i64 (k : Int) (by omega) (by omega)]
  have hs : (sizeOf (Try.prog.elem 23)).run Try.prog W = .ok 4 W := by kernel_rfl
  rw [hs]
  simp [Result.andThen, sliced]
theorem OI_OE_ne {b1 b2 m d : Nat} {B : Option Addr} {xs : List Int} (h : OI w b1 3 A n c xs) (h' : OE w b2 B m d es) : ∀ g, blockOf B = some g → blockOf A ≠ some g := by
  intro g hg
  rcases h'.2.2 with ⟨h1, _⟩ | ⟨g', cap, cur, h1, _, hh, _⟩
  · injection h1 with h1; subst h1; cases hg
  · injection h1 with h1
    subst h1
    have : g' = g := by simpa [blockOf] using hg
    subst this
    rw [← ownBlock_slice A n c]
    exact own_blk_ne (t := 34) (cs := cur) h hh (by decide)
end
theorem Blk.reads1 {W : World} {g : Nat} {e : TypeId} {cs : Array Value} (h : Blk W g e cs) (size : Nat) (hs : cs.size = size) : Reads W W.heap.size size (some ⟨g, 0, none⟩) 1 cs.toList := by
  refine ⟨by simp [hs], fun _ => ⟨_, rfl, h.lt, fun j u hj => ?_⟩⟩
  have h2 : (⟨g, 0, none⟩ : Addr).add j = ⟨g, j, none⟩ := by
    unfold Addr.add
    split
    · rename_i h; subst h; rfl
    · simp
  rw [h2]
  exact h.cell_ (by simpa using hj)
theorem grown_cell {W W' : World} {row : Option Nat} {p : Addr} {v : Value} (hg : W.grownBy W' row) (h : W.cell? p = some v) (hne : some p.block ≠ row) : W'.cell? p = some v :=
  (World.cell?_of_block (w := W) (hg.block _ (World.block_lt_of_cell? W p h) hne)).trans h
def lenV : Value → Nat
  | .slice _ n _ => n
  | _ => 0
/-- A group, messages and a bool that a function returns: new. -/
def FnEnd (r : Grp × List Int × Bool) (w : World) (e : Ending) (w' : World) : Prop :=
  ∃ A n c B m d T t, e = .returned (.tuple #[grV r.1.id r.1.clock A n c B m d, .slice T r.2.1.length t, .bool r.2.2]) ∧ OwGr w' w.heap.size r.1.id r.1.clock A n c B m d r.1.pend r.1.done ∧ OI w' w.heap.size 3 T r.2.1.length t r.2.1 ∧ St w w'
/-- The blocks of the walk that sets a final stamp. -/
structure FS (w W : World) (G : Nat) (I K : Int) (A : Option Addr) (n c : Nat) (B : Option Addr) (m d : Nat) (st sg : Int) (K' : Int) (P : Option Addr) (p q : Nat) (D : Option Addr) (r x : Nat) : Prop where
  k : Blk W w.heap.size 25 (grC I K A n c B m d)
  t : Blk W (w.heap.size + 1) 32 #[.int .i64 st, .int .i64 sg]
  l : Blk W (w.heap.size + 1 + 1) 25 (grC 0 0 none 0 0 none 0 0)
  g : Blk W G 25 (grC I K' P p q D r x)
  s : St w W
  lt : w.heap.size + 1 + 1 < G
section
variable {w W W1 : World} {G n c m d p q r x : Nat} {I K K' K'' ts sg : Int} {A B P D : Option Addr}
theorem FS.st (h : FS w W G I K A n c B m d ts sg K' P p q D r x) (s : St W W1) : FS w W1 G I K A n c B m d ts sg K' P p q D r x :=
  ⟨h.k.st s, h.t.st s, h.l.st s, h.g.st s, h.s.trans s, h.lt⟩
/-- Behind an append to a row of the call's own. -/
theorem FS.row {e : TypeId} {size u a : Nat} {X : Option Addr} {cs : List Value} {b : Nat} (h : FS w W G I K A n c B m d ts sg K' P p q D r x) (o : W.ownsRow b e size (.slice X u a) u cs) (h1 : e ≠ 25) (h2 : e ≠ 32) (hb : w.heap.size ≤ b) (hg : W.grownBy W1 (blockOf X)) : FS w W1 G I K A n c B m d ts sg K' P p q D r x := by
  have ne : ∀ {g : Nat} {T : TypeId} {cs' : Array Value}, Blk W g T cs' → e ≠ T → some g ≠ blockOf X := fun hb' hT e' => by
    have := own_blk_ne o hb' hT
    rw [ownBlock_slice] at this
    exact this e'.symm
  refine ⟨h.k.grown hg (ne h.k h1), h.t.grown hg (ne h.t h2), h.l.grown hg (ne h.l h1), h.g.grown hg (ne h.g h1), h.s.grown hg (fun k hk => ?_), h.lt⟩
  have := World.ownsRow.lt o k (by rw [ownBlock_slice]; exact hk)
  omega
/-- A cell of the group that is made is written. -/
theorem FS.set1 (h : FS w W G I K A n c B m d ts sg K' P p q D r x) (v : Int) : FS w (W.setCell ⟨G, 1, none⟩ (.int .i64 v)) G I K A n c B m d ts sg v P p q D r x := by
  have := h.lt
  exact ⟨h.k.far (p := ⟨G, 1, none⟩) (by simp; omega) _, h.t.far (p := ⟨G, 1, none⟩) (by simp; omega) _, h.l.far (p := ⟨G, 1, none⟩) (by simp; omega) _, h.g.set_ 1 (.int .i64 v), h.s.setCell (p := ⟨G, 1, none⟩) (by simp; omega) _, h.lt⟩
theorem FS.set2 (h : FS w W G I K A n c B m d ts sg K' P p q D r x) (P' : Option Addr) (p' q' : Nat) : FS w (W.setCell ⟨G, 2, none⟩ (.slice P' p' q')) G I K A n c B m d ts sg K' P' p' q' D r x := by
  have := h.lt
  exact ⟨h.k.far (p := ⟨G, 2, none⟩) (by simp; omega) _, h.t.far (p := ⟨G, 2, none⟩) (by simp; omega) _, h.l.far (p := ⟨G, 2, none⟩) (by simp; omega) _, h.g.set_ 2 (.slice P' p' q'), h.s.setCell (p := ⟨G, 2, none⟩) (by simp; omega) _, h.lt⟩
theorem FS.set3 (h : FS w W G I K A n c B m d ts sg K' P p q D r x) (P' : Option Addr) (p' q' : Nat) : FS w (W.setCell ⟨G, 3, none⟩ (.slice P' p' q')) G I K A n c B m d ts sg K' P p q P' p' q' := by
  have := h.lt
  exact ⟨h.k.far (p := ⟨G, 3, none⟩) (by simp; omega) _, h.t.far (p := ⟨G, 3, none⟩) (by simp; omega) _, h.l.far (p := ⟨G, 3, none⟩) (by simp; omega) _, h.g.set_ 3 (.slice P' p' q'), h.s.setCell (p := ⟨G, 3, none⟩) (by simp; omega) _, h.lt⟩
end
theorem OI.putGr {W : World} {b G t u : Nat} {e : TypeId} {T : Option Addr} {xs : List Int} {I K : Int} {A : Option Addr} {n c : Nat} {B : Option Addr} {m d : Nat} (h : OI W b e T t u xs) (hlt : G < b) : OI (setGr W G I K A n c B m d) b e T t u xs := by
  have ne : ∀ k, some G = some k → blockOf T ≠ some k := fun k hk hA => by injection hk with hk; have := (h.lt k hA).1; omega
  exact (((h.grown (World.grownBy_set _ _ _ _) ne).grown (World.grownBy_set _ _ _ _) ne).grown (World.grownBy_set _ _ _ _) ne).grown (World.grownBy_set _ _ _ _) ne
/-- The result's block is written. -/
theorem fn_fin {w W : World} {I K' : Int} {P D T : Option Addr} {p q r x t u b : Nat} {ps ds : List Ent} {xs : List Int} {ok : Bool} {R : Grp × List Int × Bool} (hr : R = (⟨I, K', ps, ds⟩, xs, ok))
    (L : Blk W (w.heap.size + 1 + 1) 25 (grC 0 0 none 0 0 none 0 0)) (C : OwGr W w.heap.size I K' P p q D r x ps ds) (O : OI W b 3 T t u xs) (S : St w W) (hb : w.heap.size + 1 + 1 < b) :
    Hid (Blk (setGr W (w.heap.size + 1 + 1) I K' P p q D r x) (w.heap.size + 1 + 1) 25 (grC I K' P p q D r x)) ∧ Hid (FnEnd R w (.returned (.tuple #[grV I K' P p q D r x, .slice T t u, .bool ok])) (setGr W (w.heap.size + 1 + 1) I K' P p q D r x)) := by
  subst hr
  have hl := O.len
  subst hl
  obtain ⟨f1, f2, f3⟩ := gr_put (I := I) (K := K') L C S (by omega : w.heap.size ≤ w.heap.size + 1 + 1)
  exact ⟨f1, _, _, _, _, _, _, _, _, rfl, f2.out, (O.putGr hb).less (by omega), f3.out⟩
end Go.Proofs.Ytkhgemgmnchodaa
