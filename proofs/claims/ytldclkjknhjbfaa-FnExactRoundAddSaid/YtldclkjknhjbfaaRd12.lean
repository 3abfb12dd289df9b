/- impl.RoundAdd: the state of its walk. -/
import Derived.Test.YtldclkjknhjbfaaRd11
namespace Go.Proofs.Ytldclkjknhjbfaa
open Go.RowKit Go.Sort
/-- The state of the walk: the boxes, the result's block, the copy (whose block is bo), the rows of the copy. -/
structure AR (w W : World) (bo : Nat) (cs : Array Value) (M : Int) (A : Option Addr) (n c : Nat) (B : Option Addr) (q d : Nat) (t g : Int) (A5 : Option Addr) (n5 c5 : Nat) (xs : List Int) (X : Option Addr) (m a : Nat) (ps : List (Int × Int)) : Prop where
  k0 : Blk W w.heap.size 25 #[.int .i64 M, .slice A n c, .slice B q d]
  k1 : Blk W (w.heap.size + 1) 45 #[.int .i64 t, .int .i64 g]
  k2 : Blk W (w.heap.size + 2) 25 #[.int .i64 0, .slice none 0 0, .slice none 0 0]
  ko : Blk W bo 25 cs
  oa : OI W (w.heap.size + 3) 3 A5 n5 c5 xs
  ob : OS W (w.heap.size + 3) X m a ps
  s : St w W
  lt : w.heap.size + 2 < bo
section
variable {w W W' : World} {bo : Nat} {cs : Array Value} {M : Int} {A : Option Addr} {n c : Nat} {B : Option Addr} {q d : Nat} {t g : Int} {A5 : Option Addr} {n5 c5 : Nat} {xs : List Int} {X : Option Addr} {m a : Nat} {ps : List (Int × Int)}
theorem AR.st (h : AR w W bo cs M A n c B q d t g A5 n5 c5 xs X m a ps) (k : St W W') : AR w W' bo cs M A n c B q d t g A5 n5 c5 xs X m a ps :=
  ⟨h.k0.below k h.k0.lt, h.k1.below k h.k1.lt, h.k2.below k h.k2.lt, h.ko.below k h.ko.lt, own_below h.oa k, h.ob.st k, h.s.trans k, h.lt⟩
theorem AR.set (h : AR w W bo cs M A n c B q d t g A5 n5 c5 xs X m a ps) (i : Nat) (v : Value) : AR w (W.setCell ⟨bo, i, none⟩ v) bo (cs.setIfInBounds i v) M A n c B q d t g A5 n5 c5 xs X m a ps := by
  have g1 := World.grownBy_set W bo i v
  have hlt := h.lt
  refine ⟨h.k0.grown g1 (by intro e; injection e with e; omega), h.k1.grown g1 (by intro e; injection e with e; omega), h.k2.grown g1 (by intro e; injection e with e; omega), h.ko.set_ i v, h.oa.grown g1 fun k hk => ?_, h.ob.grown g1 fun k hk => ?_, St.grown h.s g1 (fun k hk => by injection hk with hk; omega), h.lt⟩
  · injection hk with hk
    subst hk
    rw [← ownBlock_slice A5 n5 c5]
    exact own_blk_ne h.oa h.ko (by decide)
  · injection hk with hk
    subst hk
    rw [← ownBlock_slice X m a]
    exact own_blk_ne h.ob.2 h.ko (by decide)
theorem AR.grow (h : AR w W bo cs M A n c B q d t g A5 n5 c5 xs X m a ps) (hg : W.grownBy W' (blockOf X)) {X' : Option Addr} {m' a' : Nat} {ps' : List (Int × Int)} (ho : OS W' (w.heap.size + 3) X' m' a' ps') : AR w W' bo cs M A n c B q d t g A5 n5 c5 xs X' m' a' ps' := by
  have hlt : ∀ k, blockOf X = some k → w.heap.size + 3 ≤ k := fun k hk => (h.ob.lt k hk).1
  have hlt' := h.lt
  refine ⟨h.k0.grown hg fun e => by have := hlt _ e.symm; omega, h.k1.grown hg fun e => by have := hlt _ e.symm; omega, h.k2.grown hg fun e => by have := hlt _ e.symm; omega, h.ko.grown hg fun e => ?_, h.oa.grown hg (fun k hk => OI_OS_ne h.oa h.ob k hk), ho, St.grown h.s hg (fun k hk => by have := hlt k hk; omega), h.lt⟩
  have hh := own_blk_ne h.ob.2 h.ko (by decide)
  rw [ownBlock_slice] at hh
  exact hh e.symm
theorem AR.none_ (h : AR w W bo cs M A n c B q d t g A5 n5 c5 xs X m a ps) : AR w W bo cs M A n c B q d t g A5 n5 c5 xs none 0 0 [] :=
  ⟨h.k0, h.k1, h.k2, h.ko, h.oa, OS.nil _ _, h.s, h.lt⟩
end
end Go.Proofs.Ytldclkjknhjbfaa
