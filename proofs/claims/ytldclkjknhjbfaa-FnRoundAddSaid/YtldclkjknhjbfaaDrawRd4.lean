/- DrawRoundAdd: the state of its walk. -/
import Derived.Test.YtldclkjknhjbfaaDrawRd3
namespace Go.Proofs.Ytldclkjknhjbfaa
open Go.RowKit Go.Sort
theorem Blk.cellIn {w : World} {g : Nat} {T : TypeId} {cs : Array Value} (hk : Blk w g T cs) {a : Addr} {v : Value} (ha : a.block = g) (hc : w.cell? a = some v) : ∃ j : Nat, cs[j]? = some v := by
  unfold Blk at hk
  unfold World.cell? at hc
  rw [ha, hk] at hc
  simp only at hc
  split at hc
  · cases hc
  · exact ⟨_, hc⟩
/-- A store below the reader's block keeps it, where the stored block holds no byte. -/
theorem Rd.setLow {w : World} {R M g i : Nat} {T : TypeId} {cs : Array Value} (h : Rd w R M) (hk : Blk w g T cs) (hcs : ∀ (j : Nat) (x : Int), cs[j]? ≠ some (.int .u8 x)) (hg : g ≠ R) (v : Value) : Rd (w.setCell ⟨g, i, none⟩ v) R M := by
  obtain ⟨A, n, c, p, xs, h1, h2, h3, h4⟩ := h
  refine ⟨A, n, c, p, xs, h1, h2, ⟨h3.1, h3.2.1, fun hn => ?_⟩, h4.far (by simp; omega) _⟩
  obtain ⟨ad, hA, hlt, hc⟩ := h3.2.2 hn
  refine ⟨ad, hA, hlt, fun j u hj => ?_⟩
  have hcj := hc j u hj
  have hne : (ad.add j).block ≠ g := by
    intro e
    obtain ⟨j', hj'⟩ := hk.cellIn e hcj
    rw [List.getElem?_map] at hj
    cases hx : xs[j]? with
    | none => rw [hx] at hj; cases hj
    | some x =>
      rw [hx] at hj
      simp only [Option.map_some] at hj
      injection hj with hj
      rw [← hj] at hj'
      exact hcs _ _ hj'
  rw [← hcj]
  unfold World.cell?
  rw [show (w.setCell ⟨g, i, none⟩ v).heap[(ad.add j).block]? = w.heap[(ad.add j).block]? from Below.heap_setCell w ⟨g, i, none⟩ v _ hne]
/-- The state: the results' blocks, the drawn round in its block. -/
structure DA (w W : World) (R L bx : Nat) (cs0 cs1 : Array Value) (M : Int) (A : Option Addr) (n c : Nat) (xs : List Int) (B : Option Addr) (q d : Nat) (ss : List (Int × Int)) : Prop where
  k0 : Blk W w.heap.size 25 cs0
  k1 : Blk W (w.heap.size + 1) 45 cs1
  kx : Blk W bx 25 #[.int .i64 M, .slice A n c, .slice B q d]
  oa : OI W (w.heap.size + 2) 3 A n c xs
  ob : OS W (w.heap.size + 2) B q d ss
  r : Rd W R L
  s : St w W
  lR : w.heap.size + 2 ≤ R
  lx : R < bx
  ra : ∀ k, blockOf A = some k → R < k
  rb : ∀ k, blockOf B = some k → R < k
section
variable {w W W' : World} {R L L' bx : Nat} {cs0 cs1 : Array Value} {M : Int} {A : Option Addr} {n c : Nat} {xs : List Int} {B : Option Addr} {q d : Nat} {ss : List (Int × Int)}
theorem DA.dr (h : DA w W R L bx cs0 cs1 M A n c xs B q d ss) (k : Dr W W') : DA w W' R L bx cs0 cs1 M A n c xs B q d ss :=
  ⟨h.k0.dr k, h.k1.dr k, h.kx.dr k, OI.dr h.oa k, h.ob.st k.st, h.r.dr k, h.s.dr k, h.lR, h.lx, h.ra, h.rb⟩
theorem DA.grown (h : DA w W R L bx cs0 cs1 M A n c xs B q d ss) (hg : W.grownBy W' (some R)) (hr : Rd W' R L') : DA w W' R L' bx cs0 cs1 M A n c xs B q d ss := by
  have h1 := h.lR
  have h2 := h.lx
  exact ⟨h.k0.grown hg (by intro e; injection e with e; omega), h.k1.grown hg (by intro e; injection e with e; omega), h.kx.grown hg (by intro e; injection e with e; omega), h.oa.grown hg (fun k hk hA => by injection hk with hk; have := h.ra k hA; omega), h.ob.grown hg (fun k hk hA => by injection hk with hk; have := h.rb k hA; omega), hr, St.grown h.s hg (fun k hk => by injection hk with hk; omega), h.lR, h.lx, h.ra, h.rb⟩
theorem DA.set0 (h : DA w W R L bx cs0 cs1 M A n c xs B q d ss) (hcs : ∀ (j : Nat) (x : Int), cs0[j]? ≠ some (.int .u8 x)) (i : Nat) (v : Value) : DA w (W.setCell ⟨w.heap.size, i, none⟩ v) R L bx (cs0.setIfInBounds i v) cs1 M A n c xs B q d ss := by
  have g1 := World.grownBy_set W w.heap.size i v
  have h1 := h.lR
  have h2 := h.lx
  exact ⟨h.k0.set_ i v, h.k1.grown g1 (by intro e; injection e with e; omega), h.kx.grown g1 (by intro e; injection e with e; omega), h.oa.grown g1 (fun k hk hA => by injection hk with hk; have := h.ra k hA; omega), h.ob.grown g1 (fun k hk hA => by injection hk with hk; have := h.rb k hA; omega), h.r.setLow h.k0 hcs (by omega) _, St.grown h.s g1 (fun k hk => by injection hk with hk; omega), h.lR, h.lx, h.ra, h.rb⟩
theorem DA.set1 (h : DA w W R L bx cs0 cs1 M A n c xs B q d ss) (hcs : ∀ (j : Nat) (x : Int), cs1[j]? ≠ some (.int .u8 x)) (i : Nat) (v : Value) : DA w (W.setCell ⟨w.heap.size + 1, i, none⟩ v) R L bx cs0 (cs1.setIfInBounds i v) M A n c xs B q d ss := by
  have g1 := World.grownBy_set W (w.heap.size + 1) i v
  have h1 := h.lR
  have h2 := h.lx
  exact ⟨h.k0.grown g1 (by intro e; injection e with e; omega), h.k1.set_ i v, h.kx.grown g1 (by intro e; injection e with e; omega), h.oa.grown g1 (fun k hk hA => by injection hk with hk; have := h.ra k hA; omega), h.ob.grown g1 (fun k hk hA => by injection hk with hk; have := h.rb k hA; omega), h.r.setLow h.k1 hcs (by omega) _, St.grown h.s g1 (fun k hk => by injection hk with hk; omega), h.lR, h.lx, h.ra, h.rb⟩
end
end Go.Proofs.Ytldclkjknhjbfaa
