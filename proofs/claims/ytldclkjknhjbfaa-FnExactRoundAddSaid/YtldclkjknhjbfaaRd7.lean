/- Rounds copied, and a stamp added (the reference). -/
import Derived.Test.YtldclkjknhjbfaaRd6
import Derived.Test.YtldclkjknhjbfaaAppR
import Derived.Deep.RegionHeld3
namespace Go.Proofs.Ytldclkjknhjbfaa
open Go.RowKit Go.Sort
theorem stampCells_one (ss : List (Int × Int)) : ∀ u ∈ stampCells ss, u.oneCell' = true := by
  intro u hu
  simp only [stampCells, List.mem_flatMap] at hu
  obtain ⟨s, _, hs⟩ := hu
  simp at hs
  rcases hs with rfl | rfl <;> rfl
theorem SS.reads {w : World} {A : Option Addr} {n c : Nat} {ss : List (Int × Int)} (h : SS w A n c ss) : Reads w w.heap.size 2 A n (stampCells ss) := by
  refine ⟨by rw [stampCells_len, h.len], fun hn => ?_⟩
  obtain ⟨ad, h1, h2, h3⟩ := h.rd hn
  refine ⟨ad, h1, h2, fun j u hu => ?_⟩
  have hj := (List.getElem?_eq_some_iff.1 hu).1
  rw [stampCells_len, h.len] at hj
  obtain ⟨t, g, h4, h5, h6⟩ := h3 (j / 2) (by omega)
  obtain ⟨h7, h8⟩ := stampCells_at ss (j / 2) t g h6
  rcases Nat.mod_two_eq_zero_or_one j with h | h
  · rw [show j / 2 * 2 = j by omega] at h4 h7
    rw [hu] at h7; injection h7 with h7; rw [h7]; exact h4
  · rw [show j / 2 * 2 + 1 = j by omega] at h5 h8
    rw [hu] at h8; injection h8 with h8; rw [h8]; exact h5
theorem OI_OS_ne {w : World} {b1 b2 n c m d : Nat} {A B : Option Addr} {xs : List Int} {ss : List (Int × Int)} (h : OI w b1 3 A n c xs) (h' : OS w b2 B m d ss) : ∀ g, blockOf B = some g → blockOf A ≠ some g := by
  intro g hg
  rcases h'.2.2 with ⟨h1, _⟩ | ⟨g', cap, cur, h1, _, hh, _⟩
  · injection h1 with h1; subst h1; cases hg
  · injection h1 with h1
    subst h1
    have : g' = g := by simpa [blockOf] using hg
    subst this
    rw [← ownBlock_slice A n c]
    exact own_blk_ne (t := 45) (cs := cur) h hh (by decide)
/-- A round of the call's own, somewhere from base on. -/
def OwnRd (w : World) (base : Nat) (M : Int) (xs : List Int) (ss : List (Int × Int)) (v : Value) : Prop := ∃ A c B d, v = rdV M A xs.length c B ss.length d ∧ OI w base 3 A xs.length c xs ∧ OS w base B ss.length d ss
set_option maxHeartbeats 1000000 in
theorem l12Copy_any (M : Int) (A B : Option Addr) (n c q d : Nat) (xs : List Int) (ss : List (Int × Int)) (w : World) (h : SL w A n c xs) (h' : SS w B q d ss) (hn : n ≤ 1048576) (hq : q ≤ 1048576) :
    Calls Try.prog 84 #[rdV M A n c B q d] w fun e w' => ∃ A1 c1 B1 d1, e = .returned (rdV M A1 n c1 B1 q d1) ∧ OI w' w.heap.size 3 A1 n c1 xs ∧ OS w' w.heap.size B1 q d1 ss ∧ St w w' := by
  have S0 := hid (((St.refl w).alloc (.cells #[.int .i64 M, .slice A n c, .slice B q d] 25)).alloc (.cells #[.int .i64 0, .slice none 0 0, .slice none 0 0] 25))
  have K0 := hid ((Blk.new w 25 #[.int .i64 M, .slice A n c, .slice B q d]).alloc (.cells #[.int .i64 0, .slice none 0 0, .slice none 0 0] 25))
  have K1 := hid (blk_second w (.cells #[.int .i64 M, .slice A n c, .slice B q d] 25) 25 #[.int .i64 0, .slice none 0 0, .slice none 0 0])
  have hz := alloc2_size w (.cells #[.int .i64 M, .slice A n c, .slice B q d] 25) (.cells #[.int .i64 0, .slice none 0 0, .slice none 0 0] 25)
  obtain ⟨W0, hW0⟩ : ∃ W0, W0 = (w.alloc (.cells #[.int .i64 M, .slice A n c, .slice B q d] 25)).alloc (.cells #[.int .i64 0, .slice none 0 0, .slice none 0 0] 25) := ⟨_, rfl⟩
  rw [← hW0] at S0 K0 K1 hz
  have HZ := hid hz
  have K2 := hid (K0.out.alloc (.cells #[] 3))
  have L2 := hid (K1.out.alloc (.cells #[] 3))
  have S2 := hid (S0.out.alloc (.cells #[] 3))
  have O2 := hid (OI.lit (w := W0) (e := 3))
  have h2 := hid ((h.st S2.out).ri)
  have q1 := K2.out.cell_ (i := 1) (v := .slice A n c) rfl
  have HW := hid hW0
  clear hz hW0 S0 K0 K1
  go_enter Try.func84, Try.ntmps84
  go_wp2_with (first
    | (at_builtin; rw [← HW.out]; refine wpList_append_src _ rfl _ _ 22 rfl W0.heap.size 3 Try.underlying22 intInfo (some ⟨W0.heap.size, 0, none⟩) 0 0 [] (by rw [HZ.out]; rfl) O2.out _ A n c xs rfl h2.out (by omega) (by simp) ?_; intro X a w3 ho3 hg3; simp only [Nat.zero_add, List.nil_append] at ho3; have g3 : ∀ k, blockOf (some ⟨W0.heap.size, 0, none⟩) = some k → W0.heap.size ≤ k := (fun k hk => by injection hk with hk; subst hk; exact Nat.le_refl _); have K3 := hid (K2.out.grown hg3 (fun e => by have := g3 _ e.symm; have := HZ.out; omega)); have L3 := hid (L2.out.grown hg3 (fun e => by have := g3 _ e.symm; have := HZ.out; omega)); have S3 := hid (S2.out.grown hg3 (fun k hk => by have := g3 _ hk; have := HZ.out; omega)); have Z3 := hid (show W0.heap.size < w3.heap.size by have := hg3.size; simp at this; omega); have c1 := K3.out.cell_ (i := 1) (v := .slice A n c) rfl; have f1 := K3.out.frozen 1; have D3 := hid ((K3.out.set_ 1 (.slice X n a)).alloc (.cells #[] 45)); have M3 := hid ((L3.out.far (p := ⟨w.heap.size, 1, none⟩) (by simp) (.slice X n a)).alloc (.cells #[] 45)); have T3 := hid ((S3.out.setCell (p := ⟨w.heap.size, 1, none⟩) (Nat.le_refl _) (.slice X n a)).alloc (.cells #[] 45)); have O3 := hid (World.ownsRow.alloc (OI.grown ho3 (World.grownBy_set w3 w.heap.size 1 (.slice X n a)) (fun k hk hA => by injection hk with hk; have := (ho3.lt k hA).1; have := HZ.out; omega)) (.cells #[] 45)); have XL := hid (show ∀ g, blockOf X = some g → W0.heap.size ≤ g ∧ g < w3.heap.size from ho3.lt); have E4 := hid (show (w3.setCell ⟨w.heap.size, 1, none⟩ (.slice X n a)).heap.size = w3.heap.size by simp [World.setCell]); have R4 := hid ((h'.st T3.out).reads); have P4 := hid (row_lit (w3.setCell ⟨w.heap.size, 1, none⟩ (.slice X n a)) 45 2); rw [E4.out] at P4; have d2 := D3.out.cell_ (i := 2) (v := .slice B q d) rfl; clear ho3 hg3 g3 K3 L3 S3)
    | (at_builtin; refine wpList_append_rows _ rfl _ _ 23 rfl w3.heap.size 45 2 16 (.agg #[.int .i64 0, .int .i64 0]) Try.underlying23 stampInfo rfl (by omega) (some ⟨w3.heap.size, 0, none⟩) 0 0 [] rfl P4.out _ B q d (stampCells ss) rfl R4.out (stampCells_one _) (by omega) (by omega) (by simp [World.setCell]) ?_; intro Y b w5 ho5 hg5; simp only [Nat.zero_add, List.nil_append] at ho5; have g5 : ∀ k, blockOf (some ⟨w3.heap.size, 0, none⟩) = some k → k = w3.heap.size := (fun k hk => by injection hk with hk; exact hk.symm); have K5 := hid (D3.out.grown hg5 (fun e => by have := g5 _ e.symm; have := HZ.out; have := Z3.out; omega)); have L5 := hid (M3.out.grown hg5 (fun e => by have := g5 _ e.symm; have := HZ.out; have := Z3.out; omega)); have S5 := hid (T3.out.grown hg5 (fun k hk => by have := g5 _ hk; have := HZ.out; have := Z3.out; omega)); have O5 := hid (OI.grown O3.out hg5 (fun k hk hA => by have := g5 _ hk; have := (XL.out k hA).2; omega)); have c2 := K5.out.cell_ (i := 2) (v := .slice B q d) rfl; have f2 := K5.out.frozen 2; have F5 := hid (K5.out.set_ 2 (.slice Y q b)); have e0 := F5.out.cell_ (i := 0) (v := .int .i64 M) rfl; have e1 := F5.out.cell_ (i := 1) (v := .slice X n a) rfl; have e2 := F5.out.cell_ (i := 2) (v := .slice Y q b) rfl; have G5 := hid (L5.out.far (p := ⟨w.heap.size, 2, none⟩) (by simp) (.slice Y q b)); have y0 := G5.out.cell_ (i := 0) (v := .int .i64 0) rfl; have y1 := G5.out.cell_ (i := 1) (v := .slice none 0 0) rfl; have y2 := G5.out.cell_ (i := 2) (v := .slice none 0 0) rfl; have x0 := G5.out.frozen 0; have x1 := G5.out.frozen 1; have x2 := G5.out.frozen 2; have H5 := hid (((G5.out.set_ 0 (.int .i64 M)).set_ 1 (.slice X n a)).set_ 2 (.slice Y q b)); have r0 := H5.out.cell_ (i := 0) (v := .int .i64 M) rfl; have r1 := H5.out.cell_ (i := 1) (v := .slice X n a) rfl; have r2 := H5.out.cell_ (i := 2) (v := .slice Y q b) rfl; have Q5 := hid (show w5.ownsRow w3.heap.size 45 2 (.slice Y q b) q (stampCells ss) from ho5); clear ho5 hg5 g5 d2 c1 f1))
  refine bodyPost_ret (v := rdV M X n a Y q b) (by simp [results, Try.results84, go_sem, r0, r1, r2]) rfl ?_
  have hz := HZ.out
  have hz3 := Z3.out
  have gx : ∀ k, blockOf X = some k → w.heap.size + 1 < k := fun k hk => by have := (XL.out k hk).1; omega
  have o1 := (((O5.out.grown (World.grownBy_set w5 w.heap.size 2 (.slice Y q b)) (fun k hk hA => by injection hk with hk; have := gx k hA; omega)).grown (World.grownBy_set _ (w.heap.size + 1) 0 (.int .i64 M)) (fun k hk hA => by injection hk with hk; have := gx k hA; omega)).grown (World.grownBy_set _ (w.heap.size + 1) 1 (.slice X n a)) (fun k hk hA => by injection hk with hk; have := gx k hA; omega)).grown (World.grownBy_set _ (w.heap.size + 1) 2 (.slice Y q b)) (fun k hk hA => by injection hk with hk; have := gx k hA; omega)
  have p5 : OS w5 w3.heap.size Y q b ss := ⟨by rw [h'.len], Q5.out⟩
  have p1 := (((p5.grown (World.grownBy_set w5 w.heap.size 2 (.slice Y q b)) (fun k hk hA => by injection hk with hk; have := (p5.lt k hA).1; omega)).grown (World.grownBy_set _ (w.heap.size + 1) 0 (.int .i64 M)) (fun k hk hA => by injection hk with hk; have := (p5.lt k hA).1; omega)).grown (World.grownBy_set _ (w.heap.size + 1) 1 (.slice X n a)) (fun k hk hA => by injection hk with hk; have := (p5.lt k hA).1; omega)).grown (World.grownBy_set _ (w.heap.size + 1) 2 (.slice Y q b)) (fun k hk hA => by injection hk with hk; have := (p5.lt k hA).1; omega)
  exact ⟨_, _, _, _, rfl, o1.less (by omega), p1.less (by omega), (((S5.out.setCell (p := ⟨w.heap.size, 2, none⟩) (Nat.le_refl _) _).setCell (p := ⟨w.heap.size + 1, 0, none⟩) (by simp) _).setCell (p := ⟨w.heap.size + 1, 1, none⟩) (by simp) _).setCell (p := ⟨w.heap.size + 1, 2, none⟩) (by simp) _⟩
end Go.Proofs.Ytldclkjknhjbfaa
