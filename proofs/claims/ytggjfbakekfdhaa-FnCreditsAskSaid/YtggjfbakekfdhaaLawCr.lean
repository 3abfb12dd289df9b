/- Drawn credits in a law's block. -/
import Derived.Test.YtggjfbakekfdhaaDrawCr3
namespace Go.Proofs.Ytggjfbakekfdhaa
open Go.RowKit Go.Sort
structure LC (w W : World) (bx : Nat) (A : Option Addr) (n c : Nat) (B : Option Addr) (m d : Nat) (fs : List Int) (hs : List (List Int × Int)) : Prop where
  k : Blk W bx 25 #[.slice A n c, .slice B m d]
  i : RdCr W A n c B m d fs hs
  s : St w W
theorem LC.st {w W W' : World} {bx : Nat} {A : Option Addr} {n c : Nat} {B : Option Addr} {m d : Nat} {fs : List Int} {hs : List (List Int × Int)} (h : LC w W bx A n c B m d fs hs) (s : St W W') : LC w W' bx A n c B m d fs hs :=
  ⟨h.k.st s, h.i.st s, h.s.trans s⟩
theorem LC.new {w W : World} {A : Option Addr} {n c : Nat} {B : Option Addr} {m d : Nat} {fs : List Int} {hs : List (List Int × Int)} (h : RdCr W A n c B m d fs hs) (s : St w W) :
    LC w (W.alloc (.cells #[.slice A n c, .slice B m d] 25)) W.heap.size A n c B m d fs hs :=
  have a := (St.refl W).alloc (.cells #[.slice A n c, .slice B m d] 25)
  ⟨Blk.new _ _ _, h.st a, s.trans a⟩
end Go.Proofs.Ytggjfbakekfdhaa
