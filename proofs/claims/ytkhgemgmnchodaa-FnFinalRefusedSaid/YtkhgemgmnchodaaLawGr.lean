/- Drawn groups in a law's block. -/
import Derived.Test.YtkhgemgmnchodaaDrawGr5
namespace Go.Proofs.Ytkhgemgmnchodaa
open Go.RowKit Go.Sort
structure LG (w W : World) (bx : Nat) (I K : Int) (A : Option Addr) (n c : Nat) (B : Option Addr) (m d : Nat) (ps ds : List Ent) : Prop where
  k : Blk W bx 25 (grC I K A n c B m d)
  i : SE W A n c ps
  j : SE W B m d ds
  s : St w W
theorem LG.st {w W W' : World} {bx : Nat} {I K : Int} {A : Option Addr} {n c : Nat} {B : Option Addr} {m d : Nat} {ps ds : List Ent} (h : LG w W bx I K A n c B m d ps ds) (s : St W W') : LG w W' bx I K A n c B m d ps ds :=
  ⟨h.k.st s, h.i.st s, h.j.st s, h.s.trans s⟩
theorem LG.new {w W : World} {I K : Int} {A : Option Addr} {n c : Nat} {B : Option Addr} {m d : Nat} {ps ds : List Ent} (i : SE W A n c ps) (j : SE W B m d ds) (s : St w W) :
    LG w (W.alloc (.cells (grC I K A n c B m d) 25)) W.heap.size I K A n c B m d ps ds :=
  have a := (St.refl W).alloc (.cells (grC I K A n c B m d) 25)
  ⟨Blk.new _ _ _, i.st a, j.st a, s.trans a⟩
theorem take_fresh {L : List Int} {k : Nat} {x : Int} (hn : L.Nodup) (hx : L[k]? = some x) : has (L.take k) x = false := by
  cases h : has (L.take k) x
  · rfl
  · exfalso
    have h1 : x ∈ L.take k := by simpa [has] using h
    have h2 : x ∈ L.drop k := List.mem_of_getElem? (i := 0) (by rw [List.getElem?_drop]; simpa using hx)
    rw [← List.take_append_drop k L, List.nodup_append] at hn
    exact hn.2.2 x h1 x h2 rfl
theorem sameInts_same {A A' : Option Addr} {n c n' c' : Nat} {xs : List Int} {w : World} (h : SL w A n c xs) (h' : SL w A' n' c' xs) (hl : xs.length ≤ 1048576) :
    Calls Try.prog 17 #[.slice A n c, .slice A' n' c'] w fun e w' => e = .returned (.bool true) ∧ Dr w w' :=
  (sameInts_any A A' n c n' c' _ xs xs w h.ri h'.ri (by have := h.len; omega)).mono fun _ _ ⟨a, b⟩ => ⟨by rw [a]; simp [eqI], b⟩
end Go.Proofs.Ytkhgemgmnchodaa
