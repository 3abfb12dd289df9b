/- How the arguments of a law are opened: what the walk is told of each. -/
import Derived.Test.YtkhgemgmnchodaaRows
import Derived.Test.YtkhgemgmnchodaaInts
import Derived.ProofKit
import Derived.OpenShut
import Derived.ShutString
import Derived.ChangeOld
namespace Go.Proofs.Ytkhgemgmnchodaa
open Go.ChangeShapes Go.WideShapes Go.ChangeAt Go.RowKit

theorem own_ : ownKnob Try.prog.godebug = none := by kernel_rfl
theorem laidOut_ : laidOutB Try.prog = true := by kernel_rfl
/- The closed facts of the program's head: its long text is read once, as a list of signs. -/
set_option maxRecDepth 1000000 in
noncomputable def ioL : { L : List Char // Try.prog.initOrder = String.ofList L } := ⟨_, rfl⟩
theorem ioT : Try.prog.initOrder.toList = ioL.1 := (congrArg String.toList ioL.2).trans String.toList_ofList
theorem ioH : (behindMainWord (wordsSigns ioL.1)).head? = some "cut".toList := by kernel_rfl
theorem ioW : ∃ T, behindMainWord (wordsSigns Try.prog.initOrder.toList) = "cut".toList :: T := by
  rw [ioT]
  have h := ioH
  cases hb : behindMainWord (wordsSigns ioL.1) with
  | nil => rw [hb] at h; cases h
  | cons a T => rw [hb] at h; injection h with h; exact ⟨T, by rw [h]⟩
theorem laysLater_ : Try.prog.laysLater = false := by kernel_rfl
theorem bearsReflect_ : Try.prog.bearsReflect = false := by kernel_rfl
theorem doorFits_ : Try.prog.doorFits [] = true := by kernel_rfl
theorem sl_step (c : List Char) (o : String) (os : List String) (T : List (List Char)) (h : (c == o.toList) = false) : stripLifts (o :: os) (c :: T) = stripLifts os (c :: T) := by
  show (if (c == o.toList) = true then _ else _) = _
  rw [h]; rfl
theorem sl_none : liftWords.all (fun o => !("cut".toList == o.toList)) = true := by kernel_rfl
theorem sl_all (c : List Char) (T : List (List Char)) : ∀ os : List String, os.all (fun o => !(c == o.toList)) = true → stripLifts os (c :: T) = ([], c :: T)
  | [], _ => rfl
  | o :: os, h => by
    rw [List.all_cons, Bool.and_eq_true] at h
    have h1 : (c == o.toList) = false := by cases hc : (c == o.toList) <;> simp [hc] at h ⊢
    rw [sl_step c o os T h1, sl_all c T os h.2]
theorem cut_gc : ("cut".toList == "gc".toList) = false := by kernel_rfl
theorem cut_spec : ("cut".toList == "spec".toList) = false := by kernel_rfl
theorem cut_carried : ("cut".toList == "carried".toList) = false := by kernel_rfl
theorem sl_cut (T : List (List Char)) : stripLifts liftWords ("cut".toList :: T) = ([], "cut".toList :: T) := sl_all _ T _ sl_none
section
variable (P : Program) (T : List (List Char)) (hT : behindMainWord (wordsSigns P.initOrder.toList) = "cut".toList :: T)
include hT
theorem mayEnter_of (hl : P.laysLater = false) (hr : P.bearsReflect = false) (hd : P.doorFits [] = true) : P.mayEnter = true := by
  unfold Program.mayEnter
  rw [hT]
  simp only [cut_gc, cut_spec, cut_carried, sl_cut, hl, hr, hd, List.contains_nil, List.head?_cons, beq_self_eq_true, Bool.or_false, Bool.false_and, Bool.not_false, Bool.and_true, Bool.or_true]
theorem headLifts_of : P.headLifts = [] := by
  unfold Program.headLifts
  rw [hT, sl_cut]
  exact ite_self _
theorem liftsFinal_of : P.liftsFinal = false := by
  unfold Program.liftsFinal
  rw [hT, headLifts_of P T hT]
  simp only [List.head?_cons, show (some "cut".toList == some "carried".toList) = ("cut".toList == "carried".toList) from rfl, cut_carried, List.contains_nil, Bool.false_and, Bool.or_false]
theorem make_of : P.make = some .cut := by
  unfold Program.make
  rw [hT]
  simp only [cut_gc, cut_spec, beq_self_eq_true, Bool.or_false, Bool.true_or, if_true, Bool.false_eq_true, if_false]
end
theorem mayEnter_ : Try.prog.mayEnter = true := by
  obtain ⟨T, hT⟩ := ioW
  exact mayEnter_of _ T hT laysLater_ bearsReflect_ doorFits_
theorem liftsFinal_ : Try.prog.liftsFinal = false := by
  obtain ⟨T, hT⟩ := ioW
  exact liftsFinal_of _ T hT
theorem make_ : Try.prog.make = some .cut := by
  obtain ⟨T, hT⟩ := ioW
  exact make_of _ T hT
section
variable {H : Type} {enc : TypeId × Value → H} {W : World} {base : Nat}
theorem SL_of {n : Nat} {ad : Addr} {l c : Nat} {zs : List Int} (hl : l ≤ c) (hm : c ≤ maxLen) (hz : zs.length = c) (hcell : ∀ i, i < zs.length → W.cell? (ad.add i) = some (.int .i64 (zs.getD i 0))) (_hn : n = l) : SL W (some ad) l c (zs.take l) := by
  refine ⟨⟨by simp; omega, fun hn => ⟨ad, rfl, ?_, fun j u hu => ?_⟩⟩, hl, hm⟩
  · have := World.block_lt_of_cell? W _ (hcell 0 (by omega))
    rwa [block_of_add] at this
  · rw [List.getElem?_map, List.getElem?_take] at hu
    split at hu
    · rename_i hj
      rw [List.getElem?_eq_getElem (by omega)] at hu
      simp at hu
      rw [hcell j (by omega), ← hu]
      simp [List.getD_eq_getElem?_getD, List.getElem?_eq_getElem (show j < zs.length by omega)]
    · simp at hu
/-- A slice of ints that came in. -/
theorem open_SL {v : Value} {d : DataW H} {p : List MemPlace} (hv : Value.okWide Try.prog W .any base 28 v) (h : DataW.Trod enc Try.prog W 0 (fun _ => true) true 28 v d p) :
    ∃ A n c xs, v = .slice A n c ∧ SL W A n c xs ∧ ∀ x ∈ xs, (Lit.int .i64 x).wf = true := by
  obtain ⟨a0, len0, cap0, rfl⟩ := okWide_slice Try.underlying28 hv
  obtain ⟨fuel, hf⟩ := h
  rcases open_ints Try.underlying28 Try.underlying3 (by kernel_rfl) hf with ⟨hcs, _⟩ | ⟨x, l, c, zs, hcs, _, hl, hm, hz, _, hcell, hwz⟩
  · simp [Value.cells] at hcs
    obtain ⟨rfl, rfl, rfl⟩ := hcs
    exact ⟨_, _, _, [], rfl, SL.none_, by simp⟩
  · simp [Value.cells] at hcs
    obtain ⟨rfl, rfl, rfl⟩ := hcs
    exact ⟨_, _, _, _, rfl, SL_of (n := len0) hl hm (by simpa using hz) hcell rfl, fun x hx => hwz x (List.mem_of_mem_take hx)⟩
/-- A slice of bytes that came in. -/
theorem open_BL {v : Value} {d : DataW H} {p : List MemPlace} (hv : Value.okWide Try.prog W .any base 22 v) (h : DataW.Trod enc Try.prog W 0 (fun _ => true) true 22 v d p) :
    ∃ A n c xs, v = .slice A n c ∧ RB W W.heap.size A n xs ∧ (n ≤ c ∧ c ≤ maxLen) := by
  obtain ⟨a0, len0, cap0, rfl⟩ := okWide_slice Try.underlying22 hv
  obtain ⟨fuel, hf⟩ := h
  rcases open_ints Try.underlying22 Try.underlying5 (by kernel_rfl) hf with ⟨hcs, _⟩ | ⟨x, l, c, zs, hcs, _, hl, hm, hz, _, hcell, hwz⟩
  · simp [Value.cells] at hcs
    obtain ⟨rfl, rfl, rfl⟩ := hcs
    exact ⟨_, _, _, [], rfl, ⟨by simp, Reads.none_⟩, Nat.le_refl _, by simp [maxLen]⟩
  · simp [Value.cells] at hcs
    obtain ⟨rfl, rfl, rfl⟩ := hcs
    have hz' : zs.length = cap0 := by simpa using hz
    have hb : ∀ z ∈ zs, 0 ≤ z ∧ z ≤ 255 := fun z hz => by
      have := hwz z hz
      simpa [Lit.wf, IntKind.min, IntKind.max, IntKind.bits, IntKind.signed] using this
    refine ⟨_, _, _, (zs.take len0).map Int.toNat, rfl, ⟨fun y hy => ?_, ?_, fun hn => ⟨x, rfl, ?_, fun j u hu => ?_⟩⟩, hl, hm⟩
    · obtain ⟨z, hz1, rfl⟩ := List.mem_map.1 hy
      have := hb z (List.mem_of_mem_take hz1)
      omega
    · simp; omega
    · have := World.block_lt_of_cell? W _ (hcell 0 (by omega))
      rwa [block_of_add] at this
    · rw [List.map_map, List.getElem?_map, List.getElem?_take] at hu
      split at hu
      · rename_i hj
        rw [List.getElem?_eq_getElem (by omega)] at hu
        simp at hu
        have h2 := hb _ (List.getElem_mem (l := zs) (n := j) (by omega))
        rw [hcell j (by omega), ← hu]
        simp only [List.getD_eq_getElem?_getD, List.getElem?_eq_getElem (show j < zs.length by omega), Option.getD_some]
        congr 2
        omega
      · simp at hu
end
end Go.Proofs.Ytkhgemgmnchodaa
