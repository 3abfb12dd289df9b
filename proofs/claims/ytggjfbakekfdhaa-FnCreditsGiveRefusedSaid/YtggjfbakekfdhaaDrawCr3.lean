/- Draws of credits for the laws. -/
import Derived.Test.YtggjfbakekfdhaaDrawCr2
namespace Go.Proofs.Ytggjfbakekfdhaa
open Go.RowKit Go.Sort
/-- Credits that were drawn, for a law. -/
def DrawnC (w : World) (e : Ending) (w' : World) : Prop :=
  ∃ A n c B m d fs hs, e = .returned (crV A n c B m d) ∧ RdCr w' A n c B m d fs hs ∧ FitCr fs hs ∧ St w w'
theorem crRet {w w1 W : World} {R L g : Nat} {e : Ending} (h : DrawnCr w1 R L e W) (s : St w w1) (hk : Blk W g 25 #[.slice none 0 0, .slice none 0 0]) (hw : w.heap.size ≤ g) (hR : w.heap.size ≤ R) :
    ∃ (A : Option Addr) (n c : Nat) (B : Option Addr) (m d : Nat), e = .returned (crV A n c B m d) ∧ Hid (∀ W', W' = (W.setCell ⟨g, 0, none⟩ (.slice A n c)).setCell ⟨g, 1, none⟩ (.slice B m d) → Blk W' g 25 #[.slice A n c, .slice B m d] ∧ DrawnC w (.returned (crV A n c B m d)) W') := by
  obtain ⟨A, n, c, B, m, d, fs, hs, he, oc, hf, hr, hgr⟩ := h
  refine ⟨A, n, c, B, m, d, he, hid ?_⟩
  rintro W' rfl
  have g1 := World.grownBy_set W g 0 (.slice A n c)
  have g2 := World.grownBy_set (W.setCell ⟨g, 0, none⟩ (.slice A n c)) g 1 (.slice B m d)
  have K1 := hk.set_ 0 (.slice A n c)
  have c2 := (oc.blk hk (by decide) (by decide) g1).blk K1 (by decide) (by decide) g2
  exact ⟨K1.set_ 1 _, A, n, c, B, m, d, fs, hs, rfl, c2.rd, hf, St.grown (St.grown (St.grown s hgr (fun k hk => by injection hk with hk; omega)) g1 (fun k hk => by injection hk with hk; omega)) g2 (fun k hk => by injection hk with hk; omega)⟩
set_option maxHeartbeats 1000000 in
theorem DrawCreditsOrdered_any (A : Option Addr) (n c : Nat) (bs : List Nat) (w : World) (h : RB w w.heap.size A n bs) (hn : n ≤ 1048576) (hnc : n ≤ c) (hc : c ≤ maxLen) :
    Calls Try.prog 31 #[.slice A n c] w (DrawnC w) := by
  have S0 := hid ((St.refl w).alloc (.cells #[.slice none 0 0, .slice none 0 0] 25))
  have K0 := hid (Blk.new w 25 #[.slice none 0 0, .slice none 0 0])
  have h0 := (h.below S0.out).more S0.out.size
  have z0 := K0.out.lt
  go_enter Try.func31, Try.ntmps31
  go_wp2_with fail
  generalize w.alloc (.cells #[.slice none 0 0, .slice none 0 0] 25) = w0 at S0 K0 h0 z0 ⊢
  refine (l6Open_any _ _ _ _ _ h0 hn hnc hc).mono ?_
  rintro e w1 ⟨rfl, hr1, b1⟩
  have z1 : w0.heap.size < w1.heap.size := hr1.lt
  have b1 : St w0 w1 := b1
  have S1 := hid (S0.out.trans b1)
  have K1 := hid (K0.out.below b1 K0.out.lt)
  clear b1 S0 K0
  go_wp2_with fail
  refine (l92Credits_any _ _ _ hr1 (by omega)).mono ?_
  rintro e w2 hR
  have K2 := hid (K1.out.grown (show w1.grownBy w2 (some w0.heap.size) by obtain ⟨_, _, _, _, _, _, _, _, _, _, _, _, k⟩ := hR; exact k) (by intro e; injection e with e; omega))
  obtain ⟨A2, n2, c2, B2, m2, d2, rfl, HF⟩ := crRet hR S1.out K2.out (Nat.le_refl _) (by omega)
  have y0 := K2.out.cell_ (i := 0) (v := .slice none 0 0) rfl
  have y1 := K2.out.cell_ (i := 1) (v := .slice none 0 0) rfl
  have x0 := K2.out.frozen 0
  have x1 := K2.out.frozen 1
  have HE := hid (HF.out _ rfl)
  have s0 := HE.out.1.cell_ (i := 0) (v := .slice A2 n2 c2) rfl
  have s1 := HE.out.1.cell_ (i := 1) (v := .slice B2 m2 d2) rfl
  clear hR K1
  go_wp2_with fail
  refine bodyPost_ret (v := crV A2 n2 c2 B2 m2 d2) (by simp [results, Try.results31, go_sem, s0, s1]) rfl HE.out.2
set_option maxHeartbeats 1000000 in
theorem DrawCreditsStuck_any (A : Option Addr) (n c : Nat) (bs : List Nat) (w : World) (h : RB w w.heap.size A n bs) (hn : n ≤ 1048576) (hnc : n ≤ c) (hc : c ≤ maxLen) :
    Calls Try.prog 35 #[.slice A n c] w (DrawnC w) := by
  have S0 := hid ((St.refl w).alloc (.cells #[.slice none 0 0, .slice none 0 0] 25))
  have K0 := hid (Blk.new w 25 #[.slice none 0 0, .slice none 0 0])
  have h0 := (h.below S0.out).more S0.out.size
  have z0 := K0.out.lt
  go_enter Try.func35, Try.ntmps35
  go_wp2_with fail
  generalize w.alloc (.cells #[.slice none 0 0, .slice none 0 0] 25) = w0 at S0 K0 h0 z0 ⊢
  refine (l6Open_any _ _ _ _ _ h0 hn hnc hc).mono ?_
  rintro e w1 ⟨rfl, hr1, b1⟩
  have z1 : w0.heap.size < w1.heap.size := hr1.lt
  have b1 : St w0 w1 := b1
  have S1 := hid (S0.out.trans b1)
  have K1 := hid (K0.out.below b1 K0.out.lt)
  clear b1 S0 K0
  go_wp2_with fail
  refine (l92Credits_any _ _ _ hr1 (by omega)).mono ?_
  rintro e w2 hR
  have K2 := hid (K1.out.grown (show w1.grownBy w2 (some w0.heap.size) by obtain ⟨_, _, _, _, _, _, _, _, _, _, _, _, k⟩ := hR; exact k) (by intro e; injection e with e; omega))
  obtain ⟨A2, n2, c2, B2, m2, d2, rfl, HF⟩ := crRet hR S1.out K2.out (Nat.le_refl _) (by omega)
  have y0 := K2.out.cell_ (i := 0) (v := .slice none 0 0) rfl
  have y1 := K2.out.cell_ (i := 1) (v := .slice none 0 0) rfl
  have x0 := K2.out.frozen 0
  have x1 := K2.out.frozen 1
  have HE := hid (HF.out _ rfl)
  have s0 := HE.out.1.cell_ (i := 0) (v := .slice A2 n2 c2) rfl
  have s1 := HE.out.1.cell_ (i := 1) (v := .slice B2 m2 d2) rfl
  clear hR K1
  go_wp2_with fail
  refine bodyPost_ret (v := crV A2 n2 c2 B2 m2 d2) (by simp [results, Try.results35, go_sem, s0, s1]) rfl HE.out.2
end Go.Proofs.Ytggjfbakekfdhaa
