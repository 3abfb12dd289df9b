/- How groups that came in are opened. -/
import Derived.Test.YtkhgemgmnchodaaFrame
import Derived.Test.YtkhgemgmnchodaaGr1
import Derived.Deep.Slices
import Derived.Deep.Fields
import Derived.ChangeSame
import Derived.Lib.SmallJoins
namespace Go.Proofs.Ytkhgemgmnchodaa
open Go.Joins Go.ChangeShapes Go.WideShapes Go.ChangeAt Go.RowKit Go.Deep
section
variable {H : Type} {enc : TypeId × Value → H} {W : World} {base : Nat}
theorem list4 {α : Type} {l : List α} (h : l.length = 4) : ∃ a b c d, l = [a, b, c, d] := by
  match l, h with
  | [a, b, c, d], _ => exact ⟨a, b, c, d, rfl⟩
/-- The four cells of an entry that came in. -/
theorem open_ent {cs : List Value} {x : DataW H × List MemPlace} {fuel : Nat} (h : DataW.trod enc Try.prog W 0 (fun _ => true) true fuel 88 cs = some x) :
    ∃ m t g f, cs = [.int .i64 m, .int .i64 t, .int .i64 g, .bool f] := by
  obtain ⟨ys, n, _, _, hlen, _, hf⟩ := DataW.trod_struct Try.underlying88 h
  have hC : Try.prog.cellsOf 88 = 4 := by kernel_rfl
  obtain ⟨v0, v1, v2, v3, rfl⟩ := list4 (hlen.trans hC)
  have e1 : Try.prog.cellsOf 3 = 1 := by kernel_rfl
  have e2 : Try.prog.cellsOf 52 = 2 := by kernel_rfl
  have e3 : Try.prog.cellsOf 4 = 1 := by kernel_rfl
  have hy : ys.length = 3 := by assumption
  have y0 : ys[0]? = some (ys[0]'(by omega)) := List.getElem?_eq_getElem (by omega)
  have y1 : ys[1]? = some (ys[1]'(by omega)) := List.getElem?_eq_getElem (by omega)
  have y2 : ys[2]? = some (ys[2]'(by omega)) := List.getElem?_eq_getElem (by omega)
  have g0 : DataW.trod enc Try.prog W 0 (fun _ => true) true n 3 (([v0, v1, v2, v3].drop 0).take (Try.prog.cellsOf 3)) = _ := (hf 0 _ rfl).trans y0
  have g1 : DataW.trod enc Try.prog W 0 (fun _ => true) true n 52 (([v0, v1, v2, v3].drop 1).take (Try.prog.cellsOf 52)) = _ := (hf 1 _ rfl).trans y1
  have g2 : DataW.trod enc Try.prog W 0 (fun _ => true) true n 4 (([v0, v1, v2, v3].drop 3).take (Try.prog.cellsOf 4)) = _ := (hf 2 _ rfl).trans y2
  rw [e1] at g0
  rw [e2] at g1
  rw [e3] at g2
  obtain ⟨m, h0, _⟩ := DataW.trod_int Try.underlying3 g0
  obtain ⟨zs, n', _, _, _, hzl, hs⟩ := DataW.trod_struct Try.underlying52 g1
  have hz : zs.length = 2 := hzl
  have z0 : zs[0]? = some (zs[0]'(by omega)) := List.getElem?_eq_getElem (by omega)
  have z1 : zs[1]? = some (zs[1]'(by omega)) := List.getElem?_eq_getElem (by omega)
  have k0 : DataW.trod enc Try.prog W 0 (fun _ => true) true n' 3 (([v1, v2].drop 0).take (Try.prog.cellsOf 3)) = _ := (hs 0 _ rfl).trans z0
  have k1 : DataW.trod enc Try.prog W 0 (fun _ => true) true n' 3 (([v1, v2].drop 1).take (Try.prog.cellsOf 3)) = _ := (hs 1 _ rfl).trans z1
  rw [e1] at k0 k1
  obtain ⟨t, h1, _⟩ := DataW.trod_int Try.underlying3 k0
  obtain ⟨g, h2, _⟩ := DataW.trod_int Try.underlying3 k1
  obtain ⟨f, h3, _⟩ := DataW.trod_bool Try.underlying4 g2
  refine ⟨m, t, g, f, ?_⟩
  have i0 : v0 = .int .i64 m := by injection h0
  have i1 : v1 = .int .i64 t := by injection h1
  have i2 : v2 = .int .i64 g := by injection h2
  have i3 : v3 = .bool f := by injection h3
  rw [i0, i1, i2, i3]
/-- Entries that came in. -/
theorem open_SEt {v : Value} {x : DataW H × List MemPlace} {fuel : Nat} (hf : DataW.trod enc Try.prog W 0 (fun _ => true) true fuel 49 [v] = some x) :
    ∃ A n c es, v = .slice A n c ∧ SE W A n c es := by
  rcases open_slice Try.underlying49 hf with ⟨hcs, _⟩ | ⟨a, len, cap, m, n, D, Pl, hcs, _, hl, hm, hmm, _, hi⟩
  · injection hcs with hcs
    subst hcs
    exact ⟨_, _, _, [], rfl, SE.none_⟩
  · injection hcs with hcs
    subst hcs
    have hmm : m = cap := by simpa using hmm
    have hC : Try.prog.cellsOf 88 = 4 := by kernel_rfl
    rw [hC] at hi
    have key : ∀ k, k < len → ∃ m t g f, W.cell? (a.add (k * 4)) = some (.int .i64 m) ∧ W.cell? (a.add (k * 4 + 1)) = some (.int .i64 t) ∧ W.cell? (a.add (k * 4 + 2)) = some (.int .i64 g) ∧ W.cell? (a.add (k * 4 + 3)) = some (.bool f) := by
      intro k hk
      obtain ⟨cs', hc, ht'⟩ := hi k (by omega)
      obtain ⟨m, t, g, f, rfl⟩ := open_ent ht'
      obtain ⟨_, _, hat⟩ := World.cells?_some hc
      have h0 := hat 0 (by omega)
      have h1 := hat 1 (by omega)
      have h2 := hat 2 (by omega)
      have h3 := hat 3 (by omega)
      rw [add_of_add] at h0 h1 h2 h3
      exact ⟨m, t, g, f, h0, h1, h2, h3⟩
    classical
    refine ⟨_, _, _, (List.range len).map fun k => if hk : k < len then ((key k hk).choose, ((key k hk).choose_spec.choose, (key k hk).choose_spec.choose_spec.choose), (key k hk).choose_spec.choose_spec.choose_spec.choose) else (0, (0, 0), false), rfl, ⟨by simp, hl, hm, fun hn => ⟨a, rfl, ?_, fun k hk => ?_⟩⟩⟩
    · obtain ⟨_, _, _, _, h1, _⟩ := key 0 hn
      have := World.block_lt_of_cell? W _ h1
      rwa [block_of_add] at this
    · have h := (key k hk).choose_spec.choose_spec.choose_spec.choose_spec
      exact ⟨_, _, _, _, by simp [hk], h.1, h.2.1, h.2.2.1, h.2.2.2⟩
/-- A group that came in. -/
theorem open_GRr {v : Value} {d : DataW H} {p : List MemPlace} (hv : Value.okWide Try.prog W .any base 51 v) (h : DataW.Trod enc Try.prog W 0 (fun _ => true) true 51 v d p) :
    ∃ I K A n c B m e ps ds, v = grV I K A n c B m e ∧ SE W A n c ps ∧ SE W B m e ds := by
  obtain ⟨v0, v1, v2, v3, y0, y1, y2, y3, n, rfl, _, _, h0, h1, h2, h3⟩ := open_agg4 Try.underlying51 (by kernel_rfl) (by kernel_rfl) hv h
  obtain ⟨I, hcs, _⟩ := DataW.trod_int Try.underlying3 h0
  injection hcs with hcs
  subst hcs
  obtain ⟨K, hcs, _⟩ := DataW.trod_int Try.underlying3 h1
  injection hcs with hcs
  subst hcs
  obtain ⟨A, n, c, ps, rfl, h4⟩ := open_SEt h2
  obtain ⟨B, m, e, ds, rfl, h5⟩ := open_SEt h3
  exact ⟨_, _, _, _, _, _, _, _, _, _, rfl, h4, h5⟩
/-- A stamp that came in. -/
theorem open_STr {v : Value} {d : DataW H} {p : List MemPlace} (hv : Value.okWide Try.prog W .any base 52 v) (h : DataW.Trod enc Try.prog W 0 (fun _ => true) true 52 v d p) :
    ∃ t g, v = .agg #[.int .i64 t, .int .i64 g] ∧ True ∧ True := by
  obtain ⟨v0, v1, y0, y1, n, rfl, _, _, h0, h1⟩ := open_agg2 Try.underlying52 (by kernel_rfl) (by kernel_rfl) hv h
  obtain ⟨t, hcs, _⟩ := DataW.trod_int Try.underlying3 h0
  injection hcs with hcs
  subst hcs
  obtain ⟨g, hcs, _⟩ := DataW.trod_int Try.underlying3 h1
  injection hcs with hcs
  subst hcs
  exact ⟨_, _, rfl, trivial, trivial⟩
end
end Go.Proofs.Ytkhgemgmnchodaa
