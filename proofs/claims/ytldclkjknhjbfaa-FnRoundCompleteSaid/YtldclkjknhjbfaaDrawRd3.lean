/- DrawRoundMissing, DrawRoundFinal. -/
import Derived.Test.YtldclkjknhjbfaaDrawRd2
import Derived.Test.YtldclkjknhjbfaaSameRd
namespace Go.Proofs.Ytldclkjknhjbfaa
open Go.RowKit Go.Sort
/-- A round that was drawn, for a law. -/
def DrawnRd (w : World) (e : Ending) (w' : World) : Prop :=
  ∃ (M : Int) (A : Option Addr) (n c : Nat) (B : Option Addr) (q d : Nat) (xs : List Int) (ss : List (Int × Int)), e = .returned (rdV M A n c B q d) ∧ RdRd w' M A n c B q d xs ss ∧ FitRd xs ss ∧ n ≤ 6 ∧ q ≤ 7 ∧ St w w'
theorem rdRet {w w1 W : World} {R L g : Nat} {e : Ending} (h : RoundAny w1 R L e W) (s : St w w1) (hk : Blk W g 25 #[.int .i64 0, .slice none 0 0, .slice none 0 0]) (hw : w.heap.size ≤ g) (hg : g < w1.heap.size) (hR : w.heap.size ≤ R) :
    ∃ (M : Int) (A : Option Addr) (n c : Nat) (B : Option Addr) (q d : Nat), e = .returned (rdV M A n c B q d) ∧ Hid (∀ W', W' = ((W.setCell ⟨g, 0, none⟩ (.int .i64 M)).setCell ⟨g, 1, none⟩ (.slice A n c)).setCell ⟨g, 2, none⟩ (.slice B q d) → Blk W' g 25 #[.int .i64 M, .slice A n c, .slice B q d] ∧ DrawnRd w (.returned (rdV M A n c B q d)) W') := by
  obtain ⟨M, A, n, c, B, q, d, xs, ss, he, oa, ob, hn, hq, hr, hgr⟩ := h
  refine ⟨M, A, n, c, B, q, d, he, hid ?_⟩
  rintro W' rfl
  have g1 := World.grownBy_set W g 0 (.int .i64 M)
  have g2 := World.grownBy_set (W.setCell ⟨g, 0, none⟩ (.int .i64 M)) g 1 (.slice A n c)
  have g3 := World.grownBy_set ((W.setCell ⟨g, 0, none⟩ (.int .i64 M)).setCell ⟨g, 1, none⟩ (.slice A n c)) g 2 (.slice B q d)
  have gg := grown_trans' (grown_trans' g1 g2) g3
  have o1 : OI _ w1.heap.size 3 A n c xs := oa.grown gg (fun k hk hA => by injection hk with hk; have := (oa.lt k hA).1; omega)
  have o2 : OS _ w1.heap.size B q d ss := ob.grown gg (fun k hk hA => by injection hk with hk; have := (ob.lt k hA).1; omega)
  have h1 := oa.len
  have h2 := ob.1
  exact ⟨((hk.set_ 0 _).set_ 1 _).set_ 2 _, M, A, n, c, B, q, d, xs, ss, rfl, ⟨o1.sl, o2.ss⟩, ⟨by omega, by omega⟩, hn, hq, St.grown (St.grown s hgr (fun k hk => by injection hk with hk; omega)) gg (fun k hk => by injection hk with hk; omega)⟩
set_option maxHeartbeats 1000000 in
theorem DrawRoundMissing_any (A : Option Addr) (n c : Nat) (bs : List Nat) (w : World) (h : RB w w.heap.size A n bs) (hn : n ≤ 1048576) (hnc : n ≤ c) (hc : c ≤ maxLen) :
    Calls Try.prog 33 #[.slice A n c] w (DrawnRd w) := by
  have S0 := hid ((St.refl w).alloc (.cells #[.int .i64 0, .slice none 0 0, .slice none 0 0] 25))
  have K0 := hid (Blk.new w 25 #[.int .i64 0, .slice none 0 0, .slice none 0 0])
  have h0 := (h.below S0.out).more S0.out.size
  have z0 := K0.out.lt
  go_enter Try.func33, Try.ntmps33
  go_wp2_with fail
  generalize w.alloc (.cells #[.int .i64 0, .slice none 0 0, .slice none 0 0] 25) = w0 at S0 K0 h0 z0 ⊢
  refine (l6Open_any _ _ _ _ _ h0 hn hnc hc).mono ?_
  rintro e w1 ⟨rfl, hr1, b1⟩
  have z1 : w0.heap.size < w1.heap.size := hr1.lt
  have b1 : St w0 w1 := b1
  have S1 := hid (S0.out.trans b1)
  have K1 := hid (K0.out.below b1 K0.out.lt)
  clear b1 S0 K0
  go_wp2_with fail
  refine (l91Round_any _ _ _ hr1 (by omega)).mono ?_
  rintro e w2 hR
  have K2 := hid (K1.out.grown (show w1.grownBy w2 (some w0.heap.size) by obtain ⟨_, _, _, _, _, _, _, _, _, _, _, _, _, _, _, k⟩ := hR; exact k) (by intro e; injection e with e; omega))
  obtain ⟨M2, A2, n2, c2, B2, q2, d2, rfl, HF⟩ := rdRet hR S1.out K2.out (Nat.le_refl _) (by omega) (by omega)
  have y0 := K2.out.cell_ (i := 0) (v := .int .i64 0) rfl
  have y1 := K2.out.cell_ (i := 1) (v := .slice none 0 0) rfl
  have y2 := K2.out.cell_ (i := 2) (v := .slice none 0 0) rfl
  have x0 := K2.out.frozen 0
  have x1 := K2.out.frozen 1
  have x2 := K2.out.frozen 2
  have HE := hid (HF.out _ rfl)
  have s0 := HE.out.1.cell_ (i := 0) (v := .int .i64 M2) rfl
  have s1 := HE.out.1.cell_ (i := 1) (v := .slice A2 n2 c2) rfl
  have s2 := HE.out.1.cell_ (i := 2) (v := .slice B2 q2 d2) rfl
  clear hR K1
  go_wp2_with fail
  refine bodyPost_ret (v := .agg #[.int .i64 M2, .slice A2 n2 c2, .slice B2 q2 d2]) (by simp [results, Try.results33, go_sem, s0, s1, s2]) rfl HE.out.2
set_option maxHeartbeats 1000000 in
theorem DrawRoundFinal_any (A : Option Addr) (n c : Nat) (bs : List Nat) (w : World) (h : RB w w.heap.size A n bs) (hn : n ≤ 1048576) (hnc : n ≤ c) (hc : c ≤ maxLen) :
    Calls Try.prog 42 #[.slice A n c] w (DrawnRd w) := by
  have S0 := hid ((St.refl w).alloc (.cells #[.int .i64 0, .slice none 0 0, .slice none 0 0] 25))
  have K0 := hid (Blk.new w 25 #[.int .i64 0, .slice none 0 0, .slice none 0 0])
  have h0 := (h.below S0.out).more S0.out.size
  have z0 := K0.out.lt
  go_enter Try.func42, Try.ntmps42
  go_wp2_with fail
  generalize w.alloc (.cells #[.int .i64 0, .slice none 0 0, .slice none 0 0] 25) = w0 at S0 K0 h0 z0 ⊢
  refine (l6Open_any _ _ _ _ _ h0 hn hnc hc).mono ?_
  rintro e w1 ⟨rfl, hr1, b1⟩
  have z1 : w0.heap.size < w1.heap.size := hr1.lt
  have b1 : St w0 w1 := b1
  have S1 := hid (S0.out.trans b1)
  have K1 := hid (K0.out.below b1 K0.out.lt)
  clear b1 S0 K0
  go_wp2_with fail
  refine (l91Round_any _ _ _ hr1 (by omega)).mono ?_
  rintro e w2 hR
  have K2 := hid (K1.out.grown (show w1.grownBy w2 (some w0.heap.size) by obtain ⟨_, _, _, _, _, _, _, _, _, _, _, _, _, _, _, k⟩ := hR; exact k) (by intro e; injection e with e; omega))
  obtain ⟨M2, A2, n2, c2, B2, q2, d2, rfl, HF⟩ := rdRet hR S1.out K2.out (Nat.le_refl _) (by omega) (by omega)
  have y0 := K2.out.cell_ (i := 0) (v := .int .i64 0) rfl
  have y1 := K2.out.cell_ (i := 1) (v := .slice none 0 0) rfl
  have y2 := K2.out.cell_ (i := 2) (v := .slice none 0 0) rfl
  have x0 := K2.out.frozen 0
  have x1 := K2.out.frozen 1
  have x2 := K2.out.frozen 2
  have HE := hid (HF.out _ rfl)
  have s0 := HE.out.1.cell_ (i := 0) (v := .int .i64 M2) rfl
  have s1 := HE.out.1.cell_ (i := 1) (v := .slice A2 n2 c2) rfl
  have s2 := HE.out.1.cell_ (i := 2) (v := .slice B2 q2 d2) rfl
  clear hR K1
  go_wp2_with fail
  refine bodyPost_ret (v := .agg #[.int .i64 M2, .slice A2 n2 c2, .slice B2 q2 d2]) (by simp [results, Try.results42, go_sem, s0, s1, s2]) rfl HE.out.2
end Go.Proofs.Ytldclkjknhjbfaa
