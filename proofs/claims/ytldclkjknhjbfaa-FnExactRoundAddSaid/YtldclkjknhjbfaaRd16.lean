/- A round that a call has given, in a block of the law's. -/
import Derived.Test.YtldclkjknhjbfaaRd15
namespace Go.Proofs.Ytldclkjknhjbfaa
open Go.RowKit Go.Sort
section
variable {w w' : World} {M : Int} {A B : Option Addr} {n c m d base base' : Nat} {xs : List Int} {ss : List (Int × Int)} {P : Nat → Prop}
theorem OwRd.st (h : OwRd w base M A n c B m d xs ss) (s : St w w') : OwRd w' base M A n c B m d xs ss := ⟨OI.st h.oi s, h.oh.st s⟩
theorem OwRd.less (h : OwRd w base M A n c B m d xs ss) (hb : base' ≤ base) : OwRd w base' M A n c B m d xs ss := ⟨OI.less h.oi hb, h.oh.less hb⟩
theorem OwRd.turned (h : OwRd w base M A n c B m d xs ss) (k : Turned P w w') (hP : ∀ g, P g → g < base) : OwRd w' base M A n c B m d xs ss := ⟨OI.turned h.oi k hP, h.oh.turned k hP⟩
theorem OwRd.row {g : Nat} (h : OwRd w base M A n c B m d xs ss) (hg : w.grownBy w' (some g)) (hlt : g < base) : OwRd w' base M A n c B m d xs ss :=
  ⟨h.oi.row hg hlt, h.oh.grown hg fun k hk hB => by injection hk with hk; have := (h.oh.lt k hB).1; omega⟩
end
theorem ra_fit2 (M : Int) (xs : List Int) (ss : List (Int × Int)) (s : Int × Int) : FitRd (raXs M xs ss s) (raSs M xs ss s) := by
  cases h : raGood M xs ss s
  · unfold raXs raSs
    rw [h]
    exact ⟨by simp, by simp⟩
  · have h1 := (raGood_iff.1 h).1
    have h2 := rdValid_len h1
    have h3 := rdMiss_count h1
    have h4 := addGot_le xs ss s
    unfold raXs raSs
    rw [h]
    exact ⟨by simp only [if_true]; omega, by simp only [if_true]; omega⟩
theorem Turned.cell {P : Nat → Prop} {w w' : World} (h : Turned P w w') {p : Addr} {v : Value} (hc : w.cell? p = some v) (hp : ¬ P p.block) : w'.cell? p = some v :=
  (World.cell?_of_block (w := w) (h.block p.block (World.block_lt_of_cell? w p hc) hp)).trans hc
structure RBk (W1 W2 : World) (b : Nat) (M : Int) (A : Option Addr) (n c : Nat) (B : Option Addr) (q d : Nat) (xs : List Int) (ss : List (Int × Int)) : Prop where
  kb : Blk W2 b 25 #[.int .i64 M, .slice A n c, .slice B q d]
  ow : OwRd W2 W1.heap.size M A n c B q d xs ss
  s : St W1 W2
  le : W1.heap.size ≤ b
theorem RBk.last {W1 wc : World} {base : Nat} {M : Int} {A : Option Addr} {n c : Nat} {B : Option Addr} {q d : Nat} {xs : List Int} {ss : List (Int × Int)} (T : St W1 wc) (oc : OwRd wc base M A n c B q d xs ss) (hb : W1.heap.size ≤ base) :
    RBk W1 (wc.alloc (.cells #[.int .i64 M, .slice A n c, .slice B q d] 25)) wc.heap.size M A n c B q d xs ss :=
  ⟨Blk.new _ _ _, (oc.st ((St.refl wc).alloc _)).less hb, T.alloc _, T.le⟩
theorem RBk.sets {W1 wc W2 : World} {base bz : Nat} {v0 v1 v2 : Value} {M : Int} {A : Option Addr} {n c : Nat} {B : Option Addr} {q d : Nat} {xs : List Int} {ss : List (Int × Int)} (T : St W1 wc) (oc : OwRd wc base M A n c B q d xs ss) (hk : Blk wc bz 25 #[v0, v1, v2])
    (hb : W1.heap.size ≤ bz) (hlt : bz < base) (hW : W2 = ((wc.setCell ⟨bz, 0, none⟩ (.int .i64 M)).setCell ⟨bz, 1, none⟩ (.slice A n c)).setCell ⟨bz, 2, none⟩ (.slice B q d)) : RBk W1 W2 bz M A n c B q d xs ss := by
  subst hW
  have gg := grown_trans' (grown_trans' (World.grownBy_set wc bz 0 (.int .i64 M)) (World.grownBy_set _ bz 1 (.slice A n c))) (World.grownBy_set _ bz 2 (.slice B q d))
  exact ⟨((hk.set_ 0 _).set_ 1 _).set_ 2 _, (oc.row gg hlt).less (by omega), St.grown T gg (fun k hk => by injection hk with hk; omega), hb⟩
theorem RBk.cell {W1 W2 : World} {b : Nat} {M : Int} {A : Option Addr} {n c : Nat} {B : Option Addr} {q d : Nat} {xs : List Int} {ss : List (Int × Int)} (h : RBk W1 W2 b M A n c B q d xs ss) {p : Addr} {v : Value} (hc : W1.cell? p = some v) : W2.cell? p = some v := h.s.cell hc
end Go.Proofs.Ytldclkjknhjbfaa
