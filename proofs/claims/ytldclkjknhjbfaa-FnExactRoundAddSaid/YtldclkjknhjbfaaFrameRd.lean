/- How rounds that came in are opened. The theorem 'open_slice_fields' is the block to paste of the kit's extra-structs. -/
import Derived.Test.YtldclkjknhjbfaaFrame
import Derived.Test.YtldclkjknhjbfaaRd1
import Derived.Deep.Slices
import Derived.Deep.Fields
import Derived.ChangeSame
import Derived.Lib.SmallJoins
namespace Go.Proofs.Ytldclkjknhjbfaa
open Go.Joins Go.ChangeShapes Go.WideShapes Go.ChangeAt Go.RowKit Go.Deep
section
variable {H : Type} {enc : TypeId × Value → H} {P : Program} {w : World} {base : Nat} {spare : Nat → Bool} {held : Bool}
theorem open_slice_fields {t e : TypeId} {fs : Array Field} {fuel : Nat} {cs : List Value} {x : DataW H × List MemPlace} (ht : P.underlying t = some (.slice e)) (he : P.underlying e = some (.struct fs))
    (hone : oneCellFields P fs = true) (hC : P.cellsOf e = fs.size) (h : DataW.trod enc P w base spare held fuel t cs = some x) :
    (cs = [.slice none 0 0] ∧ x = (.nil, [])) ∨
    ∃ (a : Addr) (len cap m : Nat) (D : Nat → DataW H) (Pl : Nat → List MemPlace), cs = [.slice (some a) len cap] ∧ base ≤ a.block ∧ len ≤ cap ∧ cap ≤ maxLen ∧ m = (if spare a.block then cap else len) ∧
      x = (.slice ((List.range len).map D) ((List.range (m - len)).map fun j => D (len + j)), MemPlace.row a (m * fs.size) ++ (List.range m).flatMap Pl) ∧
      ∀ i, i < m → ∃ (ys : List (DataW H × List MemPlace)) (n : Nat), D i = .agg (ys.map (·.1)) ∧ Pl i = ys.flatMap (·.2) ∧ ys.length = fs.size ∧
        ∀ (j : Nat) (f : Field), fs[j]? = some f → ∃ (v : Value) (y : DataW H × List MemPlace), w.cell? (a.add (i * fs.size + j)) = some v ∧ ys[j]? = some y ∧ DataW.trod enc P w base spare held n f.type [v] = some y := by
  rcases open_slice ht h with h0 | ⟨a, len, cap, m, n, D, Pl, hcs, hb, hl, hm, hmm, hx, hi⟩
  · exact .inl h0
  · refine .inr ⟨a, len, cap, m, D, Pl, hcs, hb, hl, hm, hmm, by rw [hC] at hx; exact hx, fun i him => ?_⟩
    obtain ⟨cs', hc, ht'⟩ := hi i him
    rw [hC] at hc
    obtain ⟨ys, n', hn', hy, hlen, hyl, hf⟩ := DataW.trod_struct he ht'
    obtain ⟨_, hcl, hat⟩ := World.cells?_some hc
    simp only [Prod.mk.injEq] at hy
    refine ⟨ys, n', hy.1, hy.2, hyl, fun j f hj => ?_⟩
    obtain ⟨ho, hk⟩ := hone_of hone j f hj
    have hjl : j < fs.size := (Array.getElem?_eq_some_iff.1 hj).1
    have hcell := hat j hjl
    have hv : cs'[j]? = some (cs'[j]'(by omega)) := List.getElem?_eq_getElem (by omega)
    have h1 := hf j f hj
    rw [ho, hk] at h1
    have hone' : (cs'.drop j).take 1 = [cs'[j]'(by omega)] := by
      rw [List.drop_eq_getElem_cons (by omega)]
      rfl
    rw [hone'] at h1
    have hys : ys[j]? = some (ys[j]'(by omega)) := List.getElem?_eq_getElem (by omega)
    refine ⟨_, _, ?_, hys, h1.trans hys⟩
    rw [← Go.Deep.add_add, hcell, hv]
end
section
variable {H : Type} {enc : TypeId × Value → H} {W : World} {base : Nat}
theorem open_SLt {v : Value} {x : DataW H × List MemPlace} {fuel : Nat} (hf : DataW.trod enc Try.prog W 0 (fun _ => true) true fuel 22 [v] = some x) :
    ∃ A n c xs, v = .slice A n c ∧ SL W A n c xs ∧ ∀ x ∈ xs, (Lit.int .i64 x).wf = true := by
  rcases open_ints Try.underlying22 Try.underlying3 (by kernel_rfl) hf with ⟨hcs, _⟩ | ⟨x, l, c, zs, hcs, _, hl, hm, hz, _, hcell, hwz⟩
  · injection hcs with hcs
    subst hcs
    exact ⟨_, _, _, [], rfl, SL.none_, by simp⟩
  · injection hcs with hcs
    subst hcs
    exact ⟨_, _, _, _, rfl, SL_of (n := l) hl hm (by simpa using hz) hcell rfl, fun x hx => hwz x (List.mem_of_mem_take hx)⟩
/-- Stamps that came in. -/
theorem open_SSt {v : Value} {x : DataW H × List MemPlace} {fuel : Nat} (hf : DataW.trod enc Try.prog W 0 (fun _ => true) true fuel 34 [v] = some x) :
    ∃ A n c ss, v = .slice A n c ∧ SS W A n c ss := by
  rcases open_slice_fields Try.underlying34 Try.underlying59 (by kernel_rfl) (by kernel_rfl) hf with ⟨hcs, _⟩ | ⟨a, len, cap, m, D, Pl, hcs, _, hl, hm, hmm, _, hi⟩
  · injection hcs with hcs
    subst hcs
    exact ⟨_, _, _, [], rfl, SS.none_⟩
  · injection hcs with hcs
    subst hcs
    have hmm : m = cap := by simpa using hmm
    have key : ∀ k, k < len → ∃ t g, W.cell? (a.add (k * 2)) = some (.int .i64 t) ∧ W.cell? (a.add (k * 2 + 1)) = some (.int .i64 g) := by
      intro k hk
      obtain ⟨ys, n, _, _, _, hj⟩ := hi k (by omega)
      obtain ⟨v0, y0, hc0, _, ht0⟩ := hj 0 _ rfl
      obtain ⟨v1, y1, hc1, _, ht1⟩ := hj 1 _ rfl
      obtain ⟨t, hcs, _⟩ := DataW.trod_int Try.underlying3 ht0
      injection hcs with hcs
      subst hcs
      obtain ⟨g, hcs, _⟩ := DataW.trod_int Try.underlying3 ht1
      injection hcs with hcs
      subst hcs
      exact ⟨t, g, hc0, hc1⟩
    classical
    refine ⟨_, _, _, (List.range len).map fun k => if hk : k < len then ((key k hk).choose, (key k hk).choose_spec.choose) else (0, 0), rfl, ⟨by simp, hl, hm, fun hn => ⟨a, rfl, ?_, fun k hk => ?_⟩⟩⟩
    · obtain ⟨t, g, h1, _⟩ := key 0 hn
      have := World.block_lt_of_cell? W _ h1
      rwa [block_of_add] at this
    · have h := (key k hk).choose_spec.choose_spec
      exact ⟨_, _, h.1, h.2, by simp [hk]⟩
/-- A round that came in. -/
theorem open_RDr {v : Value} {d : DataW H} {p : List MemPlace} (hv : Value.okWide Try.prog W .any base 36 v) (h : DataW.Trod enc Try.prog W 0 (fun _ => true) true 36 v d p) :
    ∃ M A n c B m e xs ss, v = rdV M A n c B m e ∧ SL W A n c xs ∧ SS W B m e ss := by
  obtain ⟨v0, v1, v2, y0, y1, y2, n, rfl, _, _, h0, h1, h2⟩ := open_agg3 Try.underlying36 (by kernel_rfl) (by kernel_rfl) hv h
  obtain ⟨M, hcs, _⟩ := DataW.trod_int Try.underlying3 h0
  injection hcs with hcs
  subst hcs
  obtain ⟨A, n, c, xs, rfl, h3, _⟩ := open_SLt h1
  obtain ⟨B, m, e, ss, rfl, h4⟩ := open_SSt h2
  exact ⟨_, _, _, _, _, _, _, _, _, rfl, h3, h4⟩
/-- A stamp that came in. -/
theorem open_STr {v : Value} {d : DataW H} {p : List MemPlace} (hv : Value.okWide Try.prog W .any base 59 v) (h : DataW.Trod enc Try.prog W 0 (fun _ => true) true 59 v d p) :
    ∃ t g, v = .agg #[.int .i64 t, .int .i64 g] ∧ True ∧ True := by
  obtain ⟨v0, v1, y0, y1, n, rfl, _, _, h0, h1⟩ := open_agg2 Try.underlying59 (by kernel_rfl) (by kernel_rfl) hv h
  obtain ⟨t, hcs, _⟩ := DataW.trod_int Try.underlying3 h0
  injection hcs with hcs
  subst hcs
  obtain ⟨g, hcs, _⟩ := DataW.trod_int Try.underlying3 h1
  injection hcs with hcs
  subst hcs
  exact ⟨_, _, rfl, trivial, trivial⟩
end
end Go.Proofs.Ytldclkjknhjbfaa
