/- The reference: proposing. -/
import Derived.Test.YtkhgemgmnchodaaGr9
import Derived.Test.YtkhgemgmnchodaaAppAt
namespace Go.Proofs.Ytkhgemgmnchodaa
open Go.RowKit Go.Sort
/-- A group, a stamp and a bool that a function returns: new. -/
def PrEnd (r : Grp × (Int × Int) × Bool) (w : World) (e : Ending) (w' : World) : Prop :=
  ∃ A n c B m d, e = .returned (.tuple #[grV r.1.id r.1.clock A n c B m d, .agg #[.int .i64 r.2.1.1, .int .i64 r.2.1.2], .bool r.2.2]) ∧ OwGr w' w.heap.size r.1.id r.1.clock A n c B m d r.1.pend r.1.done ∧ St w w'
theorem blk_third (w : World) (o o' : Obj) (t : TypeId) (cs : Array Value) : Blk (((w.alloc o).alloc o').alloc (.cells cs t)) (w.heap.size + 1 + 1) t cs := by
  have := Blk.new ((w.alloc o).alloc o') t cs
  rwa [World.heap_alloc_size', World.heap_alloc_size'] at this
/-- The two stores of a stamp. -/
abbrev setSt (W : World) (G : Nat) (t g : Int) : World := (W.setCell ⟨G, 0, none⟩ (.int .i64 t)).setCell ⟨G, 1, none⟩ (.int .i64 g)
theorem cell_set {W : World} {g i : Nat} {u : Value} {p : Addr} {v : Value} (h : W.cell? p = some v) (hp : p.block ≠ g) : (W.setCell ⟨g, i, none⟩ u).cell? p = some v :=
  (World.cell?_setCell_other W _ p u (fun e => hp (by subst e; rfl))).trans h
theorem cell_setGr {W : World} {G : Nat} {I K : Int} {A : Option Addr} {n c : Nat} {B : Option Addr} {m d : Nat} {p : Addr} {v : Value} (h : W.cell? p = some v) (hp : p.block ≠ G) : (setGr W G I K A n c B m d).cell? p = some v :=
  cell_set (cell_set (cell_set (cell_set h hp) hp) hp) hp
theorem cell_drew {W : World} {p : Addr} {v : Value} (h : W.cell? p = some v) : W.drew.cell? p = some v := h
theorem cell_setSt {W : World} {G : Nat} {t g : Int} {p : Addr} {v : Value} (h : W.cell? p = some v) (hp : p.block ≠ G) : (setSt W G t g).cell? p = some v := cell_set (cell_set h hp) hp
section
variable {w W : World} {base G H n c m d n0 c0 m0 d0 : Nat} {I K I0 K0 t g t0 g0 : Int} {A B A0 B0 : Option Addr} {ps ds : List Ent}
theorem Blk.putSt {b : Nat} {T : TypeId} {cs : Array Value} (h : Blk W b T cs) (hb : b ≠ H) : Blk (setSt W H t g) b T cs :=
  (h.far (p := ⟨H, 0, none⟩) hb _).far (p := ⟨H, 1, none⟩) hb _
theorem OwGr.putSt (C : OwGr W base I K A n c B m d ps ds) (L : Blk W H 32 #[.int .i64 t0, .int .i64 g0]) : OwGr (setSt W H t g) base I K A n c B m d ps ds :=
  (C.blk L (by decide) (World.grownBy_set _ _ _ _)).blk (L.set_ 0 (.int .i64 t)) (by decide) (World.grownBy_set _ _ _ _)
theorem St.putSt (S : St w W) (hH : w.heap.size ≤ H) : St w (setSt W H t g) := (S.setCell (p := ⟨H, 0, none⟩) hH _).setCell (p := ⟨H, 1, none⟩) hH _
/-- A group's block and a stamp's are written. -/
theorem pr_fin (L : Blk W G 25 (grC I0 K0 A0 n0 c0 B0 m0 d0)) (T : Blk W H 32 #[.int .i64 t0, .int .i64 g0]) (C : OwGr W base I K A n c B m d ps ds) (S : St w W) (hG : w.heap.size ≤ G) (hH : w.heap.size ≤ H) (hne : G ≠ H) :
    Hid (Blk (setSt (setGr W G I K A n c B m d) H t g) G 25 (grC I K A n c B m d)) ∧ Hid (Blk (setSt (setGr W G I K A n c B m d) H t g) H 32 #[.int .i64 t, .int .i64 g]) ∧
    Hid (OwGr (setSt (setGr W G I K A n c B m d) H t g) base I K A n c B m d ps ds) ∧ Hid (St w (setSt (setGr W G I K A n c B m d) H t g)) := by
  obtain ⟨f1, f2, f3⟩ := gr_put (I := I) (K := K) L C S hG
  have T1 : Blk (setGr W G I K A n c B m d) H 32 #[.int .i64 t0, .int .i64 g0] := T.putGr (Ne.symm hne)
  exact ⟨f1.out.putSt hne, (T1.set_ 0 (.int .i64 t)).set_ 1 (.int .i64 g), f2.out.putSt T1, f3.out.putSt hH⟩
theorem pr_fin' (L : Blk W G 25 (grC I0 K0 A0 n0 c0 B0 m0 d0)) (T : Blk W H 32 #[.int .i64 t0, .int .i64 g0]) (C : OwGr W base I K A n c B m d ps ds) (S : St w W) (hG : w.heap.size ≤ G) (hH : w.heap.size ≤ H) (hne : G ≠ H) :
    Hid (Blk (setGr (setSt W H t g) G I K A n c B m d) G 25 (grC I K A n c B m d)) ∧ Hid (Blk (setGr (setSt W H t g) G I K A n c B m d) H 32 #[.int .i64 t, .int .i64 g]) ∧
    Hid (OwGr (setGr (setSt W H t g) G I K A n c B m d) base I K A n c B m d ps ds) ∧ Hid (St w (setGr (setSt W H t g) G I K A n c B m d)) := by
  have T1 : Blk (setSt W H t g) H 32 #[.int .i64 t, .int .i64 g] := (T.set_ 0 (.int .i64 t)).set_ 1 (.int .i64 g)
  obtain ⟨f1, f2, f3⟩ := gr_put (w := w) (I := I) (K := K) (L.putSt (t := t) (g := g) hne) (C.putSt T) (S.putSt hH) hG
  exact ⟨f1, T1.putGr (Ne.symm hne), f2, f3⟩
end
set_option maxRecDepth 100000 in
set_option maxHeartbeats 2000000 in
theorem l11Propose_any (I K : Int) (A B : Option Addr) (n c m d : Nat) (ps ds : List Ent) (x : Int) (w : World) (h : SE w A n c ps) (h' : SE w B m d ds) (hn : n ≤ 1048575) (hm : m ≤ 1048576) (hK : -9223372036854775808 ≤ K) :
    Calls Try.prog 64 #[grV I K A n c B m d, .int .i64 x] w (PrEnd (propS ⟨I, K, ps, ds⟩ x) w) := by
  have HL := hid h.len
  have HL' := hid h'.len
  have s0 := (((St.refl w).alloc (.cells (grC I K A n c B m d) 25)).alloc (.cells (grC 0 0 none 0 0 none 0 0) 25)).alloc (.cells #[.int .i64 0, .int .i64 0] 32)
  have K0 := hid (((Blk.new w 25 (grC I K A n c B m d)).alloc (.cells (grC 0 0 none 0 0 none 0 0) 25)).alloc (.cells #[.int .i64 0, .int .i64 0] 32))
  have L0 := hid ((blk_second w (.cells (grC I K A n c B m d) 25) 25 (grC 0 0 none 0 0 none 0 0)).alloc (.cells #[.int .i64 0, .int .i64 0] 32))
  have T0 := hid (blk_third w (.cells (grC I K A n c B m d) 25) (.cells (grC 0 0 none 0 0 none 0 0) 25) 32 #[.int .i64 0, .int .i64 0])
  have H0 := hid (h.st s0)
  have H0' := hid (h'.st s0)
  have S0 := hid s0
  have hcm := h.cm
  have hnc := h.nc
  unfold maxLen at hcm
  have HAD := hid (show ∀ ad, A = some ad → 0 < n → ad.block < w.heap.size from fun ad ha hn => by
    obtain ⟨ad', h1, h2, _⟩ := h.rd hn
    rw [h1] at ha
    injection ha with ha
    exact ha ▸ h2)
  clear s0 h h'
  go_enter Try.func64, Try.ntmps64
  go_wp2_with fail
  generalize ((w.alloc (.cells _ 25)).alloc (.cells _ 25)).alloc (.cells _ 32) = w0 at *
  have k0 := K0.out.cell_ (i := 0) (v := .int .i64 I) rfl
  have k1 := K0.out.cell_ (i := 1) (v := .int .i64 K) rfl
  have k2 := K0.out.cell_ (i := 2) (v := .slice A n c) rfl
  have k3 := K0.out.cell_ (i := 3) (v := .slice B m d) rfl
  refine (l11Copy_any _ _ _ _ _ _ _ _ _ _ _ H0.out H0'.out (by omega) hm).mono ?_
  rintro e w1 ⟨A1, c1, B1, d1, rfl, C, s1⟩
  replace K0 := hid (K0.out.st s1)
  replace L0 := hid (L0.out.st s1)
  replace T0 := hid (T0.out.st s1)
  replace H0 := hid (H0.out.st s1)
  replace H0' := hid (H0'.out.st s1)
  have S1 := hid (S0.out.trans s1)
  have C1 := hid (C.less S0.out.le)
  have hG : w.heap.size + 1 + 1 < w1.heap.size := T0.out.lt
  have s2 := (St.refl w1).alloc (.cells (grC I K A1 n c1 B1 m d1) 25)
  have G1 := hid (Blk.new w1 25 (grC I K A1 n c1 B1 m d1))
  replace K0 := hid (K0.out.st s2)
  replace L0 := hid (L0.out.st s2)
  replace T0 := hid (T0.out.st s2)
  replace H0 := hid (H0.out.st s2)
  replace H0' := hid (H0'.out.st s2)
  replace C1 := hid (C1.out.st s2)
  replace S1 := hid (S1.out.st s2)
  clear s1 s2 S0 C k0 k1 k2 k3
  have k0 := K0.out.cell_ (i := 0) (v := .int .i64 I) rfl
  have k1 := K0.out.cell_ (i := 1) (v := .int .i64 K) rfl
  have k2 := K0.out.cell_ (i := 2) (v := .slice A n c) rfl
  have k3 := K0.out.cell_ (i := 3) (v := .slice B m d) rfl
  go_wp2_with fail
  generalize w1.alloc (.cells _ 25) = w2 at *
  refine (l11Find_any _ _ _ _ _ _ H0.out).mono ?_
  rintro e w3 ⟨rfl, s3⟩
  replace K0 := hid (K0.out.st s3)
  replace L0 := hid (L0.out.st s3)
  replace T0 := hid (T0.out.st s3)
  replace H0 := hid (H0.out.st s3)
  replace H0' := hid (H0'.out.st s3)
  replace C1 := hid (C1.out.st s3)
  replace S1 := hid (S1.out.st s3)
  replace G1 := hid (G1.out.st s3)
  replace k0 := s3.cell k0
  replace k1 := s3.cell k1
  replace k2 := s3.cell k2
  replace k3 := s3.cell k3
  clear s3
  generalize w1.heap.size = G at *
  have hKG : w.heap.size ≠ G := by omega
  have hLG : w.heap.size + 1 ≠ G := by omega
  have hTG : w.heap.size + 1 + 1 ≠ G := by omega
  rcases idx_cases ps x with ⟨h1, h2, _⟩ | ⟨j, e, hj, he, hem, h1, h2⟩
  · rw [h1]
    have HF := hid h2
    clear h1 h2
    go_wp2_with fail
    refine (l11Find_any _ _ _ _ _ _ H0'.out).mono ?_
    rintro e w4 ⟨rfl, s4⟩
    replace K0 := hid (K0.out.st s4)
    replace L0 := hid (L0.out.st s4)
    replace T0 := hid (T0.out.st s4)
    replace H0 := hid (H0.out.st s4)
    replace H0' := hid (H0'.out.st s4)
    replace C1 := hid (C1.out.st s4)
    replace S1 := hid (S1.out.st s4)
    replace G1 := hid (G1.out.st s4)
    replace k0 := s4.cell k0
    replace k1 := s4.cell k1
    replace k2 := s4.cell k2
    replace k3 := s4.cell k3
    clear s4
    have bad : (findE ds x).isSome = true ∨ 999 ≤ K → Hid (propS ⟨I, K, ps, ds⟩ x = (⟨I, K, ps, ds⟩, (0, 0), false)) := fun h => by
      show propS ⟨I, K, ps, ds⟩ x = _
      unfold propS
      rw [HF.out]
      simp only
      rw [if_pos]
      rw [Bool.or_eq_true, decide_eq_true_eq]
      exact h
    rcases idx_cases ds x with ⟨h1, h2, _⟩ | ⟨j, e, hj, he, hem, h1, h2⟩
    · rw [h1]
      have HF2 := hid h2
      clear h1 h2
      by_cases hK9 : 999 ≤ K
      · have HP := bad (.inr hK9)
        clear bad
        have g0 := G1.out.cell_ (i := 0) (v := .int .i64 I) rfl
        have g1 := G1.out.cell_ (i := 1) (v := .int .i64 K) rfl
        have g2 := G1.out.cell_ (i := 2) (v := .slice A1 n c1) rfl
        have g3 := G1.out.cell_ (i := 3) (v := .slice B1 m d1) rfl
        have l0 := L0.out.cell_ (i := 0) (v := .int .i64 0) rfl
        have l1 := L0.out.cell_ (i := 1) (v := .int .i64 0) rfl
        have l2 := L0.out.cell_ (i := 2) (v := .slice none 0 0) rfl
        have l3 := L0.out.cell_ (i := 3) (v := .slice none 0 0) rfl
        have lf0 := L0.out.frozen 0
        have lf1 := L0.out.frozen 1
        have lf2 := L0.out.frozen 2
        have lf3 := L0.out.frozen 3
        have t0 := T0.out.cell_ (i := 0) (v := .int .i64 0) rfl
        have t1 := T0.out.cell_ (i := 1) (v := .int .i64 0) rfl
        have tf0 := T0.out.frozen 0
        have tf1 := T0.out.frozen 1
        obtain ⟨f1, f2, f3, f4⟩ := pr_fin (I := I) (K := K) (t := 0) (g := 0) L0.out T0.out C1.out S1.out (Nat.le_succ _) (by omega) (Nat.ne_of_lt (Nat.lt_succ_self _))
        have r0 := f1.out.cell_ (i := 0) (v := .int .i64 I) rfl
        have r1 := f1.out.cell_ (i := 1) (v := .int .i64 K) rfl
        have r2 := f1.out.cell_ (i := 2) (v := .slice A1 n c1) rfl
        have r3 := f1.out.cell_ (i := 3) (v := .slice B1 m d1) rfl
        have u0 := f2.out.cell_ (i := 0) (v := .int .i64 0) rfl
        have u1 := f2.out.cell_ (i := 1) (v := .int .i64 0) rfl
        go_wp2_with fail
        refine bodyPost_ret (v := .tuple #[grV I K A1 n c1 B1 m d1, .agg #[.int .i64 0, .int .i64 0], .bool false]) (by simp [results, Try.results64, go_sem, r0, r1, r2, r3, u0, u1]) rfl ?_
        unfold PrEnd
        rw [HP.out]
        exact ⟨_, _, _, _, _, _, rfl, f3.out, f4.out⟩
      · have q1 : IntKind.i64.wrap (K + 1) = K + 1 := IntWalk.i64_in _ (by omega)
        have HP : Hid (propS ⟨I, K, ps, ds⟩ x = (⟨I, K + 1, ps ++ [(x, (K + 1, I), false)], ds⟩, (K + 1, I), true)) := by
          show propS ⟨I, K, ps, ds⟩ x = _
          unfold propS
          rw [HF.out, HF2.out]
          simp [hK9]
        clear bad H0 H0'
        have hGlt : G < w4.heap.size := G1.out.lt
        have hPG : w4.heap.size ≠ G := by omega
        have hGP : G ≠ w4.heap.size := by omega
        have hLP : w.heap.size + 1 < w4.heap.size := L0.out.lt
        have hTP : w.heap.size + 1 + 1 < w4.heap.size := T0.out.lt
        have hwG : w.heap.size ≤ G := by omega
        have p0 := (Blk.new w4 32 #[.int .i64 (K + 1), .int .i64 I]).cell_ (i := 0) (v := .int .i64 (K + 1)) rfl
        have g1 := (G1.out.alloc (.cells #[.int .i64 (K + 1), .int .i64 I] 32)).cell_ (i := 1) (v := .int .i64 K) rfl
        have gf1 := (G1.out.alloc (.cells #[.int .i64 (K + 1), .int .i64 I] 32)).frozen 1
        have G6 := hid (G1.out.set_ 1 (.int .i64 (K + 1)))
        have L6 := hid (L0.out.far (p := ⟨G, 1, none⟩) hLG (.int .i64 (K + 1)))
        have T6 := hid (T0.out.far (p := ⟨G, 1, none⟩) hTG (.int .i64 (K + 1)))
        have C6 := hid (C1.out.blk G1.out (by decide) (World.grownBy_set _ G 1 (.int .i64 (K + 1))))
        have S6 := hid (S1.out.setCell (p := ⟨G, 1, none⟩) hwG (.int .i64 (K + 1)))
        have HZ5 := hid (show (w4.setCell ⟨G, 1, none⟩ (.int .i64 (K + 1))).heap.size = w4.heap.size by simp [World.setCell])
        have P6 := hid (Blk.new (w4.setCell ⟨G, 1, none⟩ (.int .i64 (K + 1))) 32 #[.int .i64 (K + 1), .int .i64 I])
        rw [HZ5.out] at P6
        have HZ6 := hid (show ((w4.setCell ⟨G, 1, none⟩ (.int .i64 (K + 1))).alloc (.cells #[.int .i64 (K + 1), .int .i64 I] 32)).heap.size = w4.heap.size + 1 by rw [World.heap_alloc_size', HZ5.out])
        have a6 := (St.refl (w4.setCell ⟨G, 1, none⟩ (.int .i64 (K + 1)))).alloc (.cells #[.int .i64 (K + 1), .int .i64 I] 32)
        replace L6 := hid (L6.out.st a6)
        replace T6 := hid (T6.out.st a6)
        replace C6 := hid (C6.out.st a6)
        replace G6 := hid (G6.out.st a6)
        replace S6 := hid (S6.out.st a6)
        have g62 := G6.out.cell_ (i := 2) (v := .slice A1 n c1) rfl
        have p60 := P6.out.cell_ (i := 0) (v := .int .i64 (K + 1)) rfl
        have p61 := P6.out.cell_ (i := 1) (v := .int .i64 I) rfl
        have a7 := (St.refl ((w4.setCell ⟨G, 1, none⟩ (.int .i64 (K + 1))).alloc (.cells #[.int .i64 (K + 1), .int .i64 I] 32))).alloc (.cells #[.int .i64 x, .int .i64 (K + 1), .int .i64 I, .bool false] 34)
        have RO := hid (Reads.one ((w4.setCell ⟨G, 1, none⟩ (.int .i64 (K + 1))).alloc (.cells #[.int .i64 (K + 1), .int .i64 I] 32)) 34 #[.int .i64 x, .int .i64 (K + 1), .int .i64 I, .bool false] 4 rfl)
        rw [HZ6.out] at RO
        have NE6 := hid (show ∀ g, blockOf B1 = some g → blockOf A1 ≠ some g ∧ g < w4.heap.size + 1 from fun g hg => ⟨C6.out.ne g hg, by have := (C6.out.oh.lt g hg).2; have := HZ6.out; omega⟩)
        have HB7 := hid (show w.heap.size ≤ (((w4.setCell ⟨G, 1, none⟩ (.int .i64 (K + 1))).alloc (.cells #[.int .i64 (K + 1), .int .i64 I] 32)).alloc (.cells #[.int .i64 x, .int .i64 (K + 1), .int .i64 I, .bool false] 34)).heap.size from (S6.out.trans a7).le)
        replace L6 := hid (L6.out.st a7)
        replace T6 := hid (T6.out.st a7)
        replace P6 := hid (P6.out.st a7)
        replace C6 := hid (C6.out.st a7)
        replace G6 := hid (G6.out.st a7)
        replace S6 := hid (S6.out.st a7)
        clear a7 a6 C1 S1 L0 T0 G1
        go_wp2_with (at_builtin; go_loud (refine wpList_append_rows_at _ rfl _ _ 23 rfl w.heap.size 34 4 32 eZ Try.underlying23 entInfo rfl (by omega) A1 n c1 (entCells ps) rfl C6.out.oi.2 _ (some ⟨w4.heap.size + 1, 0, none⟩) 1 1 (entCells [(x, (K + 1, I), false)]) rfl RO.out (entCells_one _) (by omega) (by omega) HB7.out ?_); intro X a w8 ho8 hg8 hat; have O8 := hid (show OE w8 w.heap.size X (n + 1) a (ps ++ [(x, (K + 1, I), false)]) from ⟨by rw [List.length_append, HL.out]; rfl, by rw [entCells_app]; exact ho8⟩); have B8 := hid (C6.out.oh.grown hg8 (fun k hk hB => (NE6.out k hB).1 hk)); have NE8 := hid (show ∀ g, blockOf B1 = some g → blockOf X ≠ some g from fun g hg hX => by
          have h1 := NE6.out g hg
          rcases hat with h | h
          · rw [h] at hX; exact h1.1 hX
          · rw [h, World.heap_alloc_size', HZ6.out] at hX; injection hX with hX; omega); have S8 := hid (S6.out.grown hg8 (fun k hk => (C6.out.oi.lt k hk).1)); have G8 := hid (G6.out.grown hg8 (fun e => C6.out.oi.ne_blk G6.out (by decide) e.symm)); have L8 := hid (L6.out.grown hg8 (fun e => C6.out.oi.ne_blk L6.out (by decide) e.symm)); have T8 := hid (T6.out.grown hg8 (fun e => C6.out.oi.ne_blk T6.out (by decide) e.symm)); have P8 := hid (P6.out.grown hg8 (fun e => C6.out.oi.ne_blk P6.out (by decide) e.symm)); clear ho8 hg8 hat; have g82 := G8.out.cell_ (i := 2) (v := .slice A1 n c1) rfl; have gf2 := G8.out.frozen 2)
        have G9 := hid (G8.out.set_ 2 (.slice X (n + 1) a))
        have P9 := hid (P8.out.far (p := ⟨G, 2, none⟩) hPG (.slice X (n + 1) a))
        have L9 := hid (L8.out.far (p := ⟨G, 2, none⟩) hLG (.slice X (n + 1) a))
        have T9 := hid (T8.out.far (p := ⟨G, 2, none⟩) hTG (.slice X (n + 1) a))
        have C9 := hid (show OwGr (w8.setCell ⟨G, 2, none⟩ (.slice X (n + 1) a)) w.heap.size I (K + 1) X (n + 1) a B1 m d1 (ps ++ [(x, (K + 1, I), false)]) ds from ⟨O8.out.blk G8.out (by decide) (World.grownBy_set _ _ _ _), B8.out.blk G8.out (by decide) (World.grownBy_set _ _ _ _), NE8.out⟩)
        have S9 := hid (S8.out.setCell (p := ⟨G, 2, none⟩) hwG (.slice X (n + 1) a))
        clear O8 B8 NE8 S8 G8 L8 T8 P8 g82 gf2 C6 S6 L6 T6 G6 P6 NE6 RO HB7 HZ6 HZ5 g62 p60 p61 p0 g1 gf1 k0 k1 k2 k3 K0
        generalize w8.setCell ⟨G, 2, none⟩ (.slice X (n + 1) a) = w9 at *
        have g0 := G9.out.cell_ (i := 0) (v := .int .i64 I) rfl
        have g1 := G9.out.cell_ (i := 1) (v := .int .i64 (K + 1)) rfl
        have g2 := G9.out.cell_ (i := 2) (v := .slice X (n + 1) a) rfl
        have g3 := G9.out.cell_ (i := 3) (v := .slice B1 m d1) rfl
        have p0 := P9.out.cell_ (i := 0) (v := .int .i64 (K + 1)) rfl
        have p1 := P9.out.cell_ (i := 1) (v := .int .i64 I) rfl
        have l0 := L9.out.cell_ (i := 0) (v := .int .i64 0) rfl
        have l1 := L9.out.cell_ (i := 1) (v := .int .i64 0) rfl
        have l2 := L9.out.cell_ (i := 2) (v := .slice none 0 0) rfl
        have l3 := L9.out.cell_ (i := 3) (v := .slice none 0 0) rfl
        have lf0 := L9.out.frozen 0
        have lf1 := L9.out.frozen 1
        have lf2 := L9.out.frozen 2
        have lf3 := L9.out.frozen 3
        have t0 := T9.out.cell_ (i := 0) (v := .int .i64 0) rfl
        have t1 := T9.out.cell_ (i := 1) (v := .int .i64 0) rfl
        have tf0 := T9.out.frozen 0
        have tf1 := T9.out.frozen 1
        have hne12 : w.heap.size + 1 ≠ w.heap.size + 1 + 1 := Nat.ne_of_lt (Nat.lt_succ_self _)
        have hPL : w4.heap.size ≠ w.heap.size + 1 := Nat.ne_of_gt hLP
        have hPT : w4.heap.size ≠ w.heap.size + 1 + 1 := Nat.ne_of_gt hTP
        obtain ⟨f1, f2, f3, f4⟩ := pr_fin (I := I) (K := K + 1) (t := K + 1) (g := I) L9.out T9.out C9.out S9.out (Nat.le_succ _) (by omega) hne12
        have r0 := f1.out.cell_ (i := 0) (v := .int .i64 I) rfl
        have r1 := f1.out.cell_ (i := 1) (v := .int .i64 (K + 1)) rfl
        have r2 := f1.out.cell_ (i := 2) (v := .slice X (n + 1) a) rfl
        have r3 := f1.out.cell_ (i := 3) (v := .slice B1 m d1) rfl
        have u0 := f2.out.cell_ (i := 0) (v := .int .i64 (K + 1)) rfl
        have u1 := f2.out.cell_ (i := 1) (v := .int .i64 I) rfl
        refine wp_region_held_drew (S := (fun w' => w'.cell? ⟨G, 0, none⟩ = some (.int .i64 I) ∧ w'.cell? ⟨G, 1, none⟩ = some (.int .i64 (K + 1)) ∧ w'.cell? ⟨G, 2, none⟩ = some (.slice X (n + 1) a) ∧ w'.cell? ⟨G, 3, none⟩ = some (.slice B1 m d1) ∧ w'.cell? ⟨w4.heap.size, 0, none⟩ = some (.int .i64 (K + 1)) ∧ w'.cell? ⟨w4.heap.size, 1, none⟩ = some (.int .i64 I))) (by kernel_rfl) ?_ (fun hH0 => ?_)
        · exact ⟨g0, g1, g2, g3, p0, p1⟩
        refine wpAnyH_take (i := 0) (oi := ⟨some 67, _, _, _, _, _⟩) (v := ?_) rfl (by kernel_rfl) (by kernel_rfl) (by kernel_rfl) (fun _ _ _ h => h) (Or.inl ⟨by rfl, ?_⟩) (by assumption) ?_
        rotate_left
        · (intro w hSw; (try dsimp only at hSw); go_simp; (try with_reducible rfl))
        (try simp only [Act.put, List.setIfInBounds_toArray, List.set_cons_zero, List.set_cons_succ])
        refine wpAnyH_take (i := 1) (oi := ⟨some 68, _, _, _, _, _⟩) (v := ?_) rfl (by kernel_rfl) (by kernel_rfl) (by kernel_rfl) (fun _ _ _ h => h) (Or.inl ⟨by rfl, ?_⟩) (by assumption) ?_
        rotate_left
        · (intro w hSw; (try dsimp only at hSw); go_simp; (try with_reducible rfl))
        (try simp only [Act.put, List.setIfInBounds_toArray, List.set_cons_zero, List.set_cons_succ])
        refine wpAnyH_ready (rs := [2]) (by kernel_rfl) (by simp) ?_
        refine AllReadyH.cons (o := ⟨none, _, _, _, _, _⟩) rfl (fun K hK => ?_) AllReadyH.nil
        go_simp
        (first | (refine hK.out _ _ ?_ (fun hH1 => ?_)) | (go_wp2_with fail; refine hK.out _ _ ?_ (fun hH1 => ?_)))
        · exact ⟨cell_drew (cell_setGr g0 hLG.symm), cell_drew (cell_setGr g1 hLG.symm), cell_drew (cell_setGr g2 hLG.symm), cell_drew (cell_setGr g3 hLG.symm), cell_drew (cell_setGr p0 hPL), cell_drew (cell_setGr p1 hPL)⟩
        clear hK K hH0
        (try simp only [Act.put, List.setIfInBounds_toArray, List.set_cons_zero, List.set_cons_succ])
        refine wpAnyH_ready (rs := [3]) (by kernel_rfl) (by simp) ?_
        refine AllReadyH.cons (o := ⟨none, _, _, _, _, _⟩) rfl (fun K hK => ?_) AllReadyH.nil
        go_simp
        (first | (refine hK.out _ _ ?_ (fun hH2 => ?_)) | (go_wp2_with fail; refine hK.out _ _ ?_ (fun hH2 => ?_)))
        · exact ⟨cell_drew (cell_setSt (cell_setGr g0 hLG.symm) hTG.symm), cell_drew (cell_setSt (cell_setGr g1 hLG.symm) hTG.symm), cell_drew (cell_setSt (cell_setGr g2 hLG.symm) hTG.symm), cell_drew (cell_setSt (cell_setGr g3 hLG.symm) hTG.symm), cell_drew (cell_setSt (cell_setGr p0 hPL) hPT), cell_drew (cell_setSt (cell_setGr p1 hPL) hPT)⟩
        clear hK K hH1
        (try simp only [Act.put, List.setIfInBounds_toArray, List.set_cons_zero, List.set_cons_succ])
        refine wpAnyH_take (i := 4) (oi := ⟨some 6, _, _, _, _, _⟩) (v := ?_) rfl (by kernel_rfl) (by kernel_rfl) (by kernel_rfl) (fun _ _ _ h => h) (Or.inl ⟨by rfl, ?_⟩) (by assumption) ?_
        rotate_left
        · (intro w hSw; (try dsimp only at hSw); go_simp; (try with_reducible rfl))
        (try simp only [Act.put, List.setIfInBounds_toArray, List.set_cons_zero, List.set_cons_succ])
        refine wpAnyH_done (by kernel_rfl) ?_ _
        clear hH2
        go_wp2_with fail
        refine bodyPost_ret (v := .tuple #[grV I (K + 1) X (n + 1) a B1 m d1, .agg #[.int .i64 (K + 1), .int .i64 I], .bool true]) (by simp [results, Try.results64, go_sem, r0, r1, r2, r3, u0, u1]) rfl ?_
        unfold PrEnd
        rw [HP.out]
        exact ⟨_, _, _, _, _, _, rfl, f3.out.st (Dr.st ⟨1, rfl⟩), f4.out.drew⟩
    · rw [h1]
      rw [HL'.out] at hj
      have HP := bad (.inl (by rw [h2]; rfl))
      have hji : (0 : Int) ≤ (j : Int) := by omega
      clear bad h1 h2 he hem
      have g0 := G1.out.cell_ (i := 0) (v := .int .i64 I) rfl
      have g1 := G1.out.cell_ (i := 1) (v := .int .i64 K) rfl
      have g2 := G1.out.cell_ (i := 2) (v := .slice A1 n c1) rfl
      have g3 := G1.out.cell_ (i := 3) (v := .slice B1 m d1) rfl
      have l0 := L0.out.cell_ (i := 0) (v := .int .i64 0) rfl
      have l1 := L0.out.cell_ (i := 1) (v := .int .i64 0) rfl
      have l2 := L0.out.cell_ (i := 2) (v := .slice none 0 0) rfl
      have l3 := L0.out.cell_ (i := 3) (v := .slice none 0 0) rfl
      have lf0 := L0.out.frozen 0
      have lf1 := L0.out.frozen 1
      have lf2 := L0.out.frozen 2
      have lf3 := L0.out.frozen 3
      have t0 := T0.out.cell_ (i := 0) (v := .int .i64 0) rfl
      have t1 := T0.out.cell_ (i := 1) (v := .int .i64 0) rfl
      have tf0 := T0.out.frozen 0
      have tf1 := T0.out.frozen 1
      obtain ⟨f1, f2, f3, f4⟩ := pr_fin (I := I) (K := K) (t := 0) (g := 0) L0.out T0.out C1.out S1.out (Nat.le_succ _) (by omega) (Nat.ne_of_lt (Nat.lt_succ_self _))
      have r0 := f1.out.cell_ (i := 0) (v := .int .i64 I) rfl
      have r1 := f1.out.cell_ (i := 1) (v := .int .i64 K) rfl
      have r2 := f1.out.cell_ (i := 2) (v := .slice A1 n c1) rfl
      have r3 := f1.out.cell_ (i := 3) (v := .slice B1 m d1) rfl
      have u0 := f2.out.cell_ (i := 0) (v := .int .i64 0) rfl
      have u1 := f2.out.cell_ (i := 1) (v := .int .i64 0) rfl
      go_wp2_with fail
      refine bodyPost_ret (v := .tuple #[grV I K A1 n c1 B1 m d1, .agg #[.int .i64 0, .int .i64 0], .bool false]) (by simp [results, Try.results64, go_sem, r0, r1, r2, r3, u0, u1]) rfl ?_
      unfold PrEnd
      rw [HP.out]
      exact ⟨_, _, _, _, _, _, rfl, f3.out, f4.out⟩
  · rw [h1]
    rw [HL.out] at hj
    obtain ⟨ad, m1, t1, g1', f1', rfl, hb1, hx, c0, c1', c2, c3⟩ := H0.out.at_ hj
    have hee : e = (m1, (t1, g1'), f1') := by have := hx.out; rw [he] at this; injection this
    have HP0 := hid (show propS ⟨I, K, ps, ds⟩ x = (if f1' then ((⟨I, K, ps, ds⟩ : Grp), ((0 : Int), (0 : Int)), false) else (⟨I, K, ps, ds⟩, (t1, g1'), true)) by
      unfold propS
      rw [h2, hee])
    have hji : (0 : Int) ≤ (j : Int) := by omega
    have hji2 : (j : Int) < (n : Int) := by omega
    clear h1 h2 he hem hee
    cases f1'
    · have HP := hid (HP0.out.trans (by rfl : _ = ((⟨I, K, ps, ds⟩ : Grp), (t1, g1'), true)))
      clear HP0
      have hadb := HAD.out ad rfl (by omega)
      have hne12 : w.heap.size + 1 ≠ w.heap.size + 1 + 1 := Nat.ne_of_lt (Nat.lt_succ_self _)
      have hKL : w.heap.size ≠ w.heap.size + 1 := Nat.ne_of_lt (Nat.lt_succ_self _)
      have hKT : w.heap.size ≠ w.heap.size + 1 + 1 := by omega
      have hAL : (ad.add (j * 4)).block ≠ w.heap.size + 1 := by rw [block_of_add]; omega
      have hAT : (ad.add (j * 4)).block ≠ w.heap.size + 1 + 1 := by rw [block_of_add]; omega
      have g0 := G1.out.cell_ (i := 0) (v := .int .i64 I) rfl
      have g1 := G1.out.cell_ (i := 1) (v := .int .i64 K) rfl
      have g2 := G1.out.cell_ (i := 2) (v := .slice A1 n c1) rfl
      have g3 := G1.out.cell_ (i := 3) (v := .slice B1 m d1) rfl
      have l0 := L0.out.cell_ (i := 0) (v := .int .i64 0) rfl
      have l1 := L0.out.cell_ (i := 1) (v := .int .i64 0) rfl
      have l2 := L0.out.cell_ (i := 2) (v := .slice none 0 0) rfl
      have l3 := L0.out.cell_ (i := 3) (v := .slice none 0 0) rfl
      have lf0 := L0.out.frozen 0
      have lf1 := L0.out.frozen 1
      have lf2 := L0.out.frozen 2
      have lf3 := L0.out.frozen 3
      have tz0 := T0.out.cell_ (i := 0) (v := .int .i64 0) rfl
      have tz1 := T0.out.cell_ (i := 1) (v := .int .i64 0) rfl
      have tzf0 := T0.out.frozen 0
      have tzf1 := T0.out.frozen 1
      obtain ⟨f1, f2, f3, f4⟩ := pr_fin (I := I) (K := K) (t := t1) (g := g1') L0.out T0.out C1.out S1.out (Nat.le_succ _) (by omega) hne12
      have r0 := f1.out.cell_ (i := 0) (v := .int .i64 I) rfl
      have r1 := f1.out.cell_ (i := 1) (v := .int .i64 K) rfl
      have r2 := f1.out.cell_ (i := 2) (v := .slice A1 n c1) rfl
      have r3 := f1.out.cell_ (i := 3) (v := .slice B1 m d1) rfl
      have u0 := f2.out.cell_ (i := 0) (v := .int .i64 t1) rfl
      have u1 := f2.out.cell_ (i := 1) (v := .int .i64 g1') rfl
      go_wp2_with fail
      refine wp_region_held_drew (S := (fun w' => w'.cell? ⟨w.heap.size, 2, none⟩ = some (.slice (some ad) n c) ∧ w'.cell? ⟨G, 0, none⟩ = some (.int .i64 I) ∧ w'.cell? ⟨G, 1, none⟩ = some (.int .i64 K) ∧ w'.cell? ⟨G, 2, none⟩ = some (.slice A1 n c1) ∧ w'.cell? ⟨G, 3, none⟩ = some (.slice B1 m d1) ∧ w'.cell? ⟨(ad.add (j * 4)).block, (ad.add (j * 4)).off + 1, none⟩ = some (.int .i64 t1) ∧ w'.cell? ⟨(ad.add (j * 4)).block, (ad.add (j * 4)).off + 2, none⟩ = some (.int .i64 g1'))) (by kernel_rfl) ?_ (fun hH0 => ?_)
      · exact ⟨k2, g0, g1, g2, g3, c1', c2⟩
      refine wpAnyH_take (i := 0) (oi := ⟨some 27, _, _, _, _, _⟩) (v := ?_) rfl (by kernel_rfl) (by kernel_rfl) (by kernel_rfl) (fun _ _ _ h => h) (Or.inl ⟨by rfl, ?_⟩) (by assumption) ?_
      rotate_left
      · (intro w hSw; (try dsimp only at hSw); go_simp; (try with_reducible rfl))
      (try simp only [Act.put, List.setIfInBounds_toArray, List.set_cons_zero, List.set_cons_succ])
      refine wpAnyH_take (i := 1) (oi := ⟨some 28, _, _, _, _, _⟩) (v := ?_) rfl (by kernel_rfl) (by kernel_rfl) (by kernel_rfl) (fun _ _ _ h => h) (Or.inl ⟨by rfl, ?_⟩) (by assumption) ?_
      rotate_left
      · (intro w hSw; (try dsimp only at hSw); go_simp; (try with_reducible rfl))
      (try simp only [Act.put, List.setIfInBounds_toArray, List.set_cons_zero, List.set_cons_succ])
      refine wpAnyH_take (i := 2) (oi := ⟨some 29, _, _, _, _, _⟩) (v := ?_) rfl (by kernel_rfl) (by kernel_rfl) (by kernel_rfl) (fun _ _ _ h => h) (Or.inl ⟨by rfl, ?_⟩) (by assumption) ?_
      rotate_left
      · (intro w hSw; (try dsimp only at hSw); go_simp; (try with_reducible rfl))
      (try simp only [Act.put, List.setIfInBounds_toArray, List.set_cons_zero, List.set_cons_succ])
      refine wpAnyH_take (i := 3) (oi := ⟨some 30, _, _, _, _, _⟩) (v := ?_) rfl (by kernel_rfl) (by kernel_rfl) (by kernel_rfl) (fun _ _ _ h => h) (Or.inl ⟨by rfl, ?_⟩) (by assumption) ?_
      rotate_left
      · (intro w hSw; (try dsimp only at hSw); go_simp; (try with_reducible rfl))
      (try simp only [Act.put, List.setIfInBounds_toArray, List.set_cons_zero, List.set_cons_succ])
      refine wpAnyH_take (i := 4) (oi := ⟨some 31, _, _, _, _, _⟩) (v := ?_) rfl (by kernel_rfl) (by kernel_rfl) (by kernel_rfl) (fun _ _ _ h => h) (Or.inl ⟨by rfl, ?_⟩) (by assumption) ?_
      rotate_left
      · (intro w hSw; (try dsimp only at hSw); go_simp; (try with_reducible rfl))
      (try simp only [Act.put, List.setIfInBounds_toArray, List.set_cons_zero, List.set_cons_succ])
      refine wpAnyH_take (i := 5) (oi := ⟨some 32, _, _, _, _, _⟩) (v := ?_) rfl (by kernel_rfl) (by kernel_rfl) (by kernel_rfl) (fun _ _ _ h => h) (Or.inl ⟨by rfl, ?_⟩) (by assumption) ?_
      rotate_left
      · (intro w hSw; (try dsimp only at hSw); go_simp; (try with_reducible rfl))
      (try simp only [Act.put, List.setIfInBounds_toArray, List.set_cons_zero, List.set_cons_succ])
      refine wpAnyH_take (i := 6) (oi := ⟨some 33, _, _, _, _, _⟩) (v := ?_) rfl (by kernel_rfl) (by kernel_rfl) (by kernel_rfl) (fun _ _ _ h => h) (Or.inl ⟨by rfl, ?_⟩) (by assumption) ?_
      rotate_left
      · (intro w hSw; (try dsimp only at hSw); go_simp; (try with_reducible rfl))
      (try simp only [Act.put, List.setIfInBounds_toArray, List.set_cons_zero, List.set_cons_succ])
      refine wpAnyH_ready (rs := [7]) (by kernel_rfl) (by simp) ?_
      refine AllReadyH.cons (o := ⟨none, _, _, _, _, _⟩) rfl (fun K hK => ?_) AllReadyH.nil
      go_simp
      (first | (refine hK.out _ _ ?_ (fun hH1 => ?_)) | (go_wp2_with fail; refine hK.out _ _ ?_ (fun hH1 => ?_)))
      · exact ⟨cell_drew (cell_setGr k2 hKL), cell_drew (cell_setGr g0 hLG.symm), cell_drew (cell_setGr g1 hLG.symm), cell_drew (cell_setGr g2 hLG.symm), cell_drew (cell_setGr g3 hLG.symm), cell_drew (cell_setGr c1' hAL), cell_drew (cell_setGr c2 hAL)⟩
      clear hK K hH0
      (try simp only [Act.put, List.setIfInBounds_toArray, List.set_cons_zero, List.set_cons_succ])
      refine wpAnyH_ready (rs := [8]) (by kernel_rfl) (by simp) ?_
      refine AllReadyH.cons (o := ⟨none, _, _, _, _, _⟩) rfl (fun K hK => ?_) AllReadyH.nil
      go_simp
      (first | (refine hK.out _ _ ?_ (fun hH2 => ?_)) | (go_wp2_with fail; refine hK.out _ _ ?_ (fun hH2 => ?_)))
      · exact ⟨cell_drew (cell_setSt (cell_setGr k2 hKL) hKT), cell_drew (cell_setSt (cell_setGr g0 hLG.symm) hTG.symm), cell_drew (cell_setSt (cell_setGr g1 hLG.symm) hTG.symm), cell_drew (cell_setSt (cell_setGr g2 hLG.symm) hTG.symm), cell_drew (cell_setSt (cell_setGr g3 hLG.symm) hTG.symm), cell_drew (cell_setSt (cell_setGr c1' hAL) hAT), cell_drew (cell_setSt (cell_setGr c2 hAL) hAT)⟩
      clear hK K hH1
      (try simp only [Act.put, List.setIfInBounds_toArray, List.set_cons_zero, List.set_cons_succ])
      refine wpAnyH_take (i := 9) (oi := ⟨some 6, _, _, _, _, _⟩) (v := ?_) rfl (by kernel_rfl) (by kernel_rfl) (by kernel_rfl) (fun _ _ _ h => h) (Or.inl ⟨by rfl, ?_⟩) (by assumption) ?_
      rotate_left
      · (intro w hSw; (try dsimp only at hSw); go_simp; (try with_reducible rfl))
      (try simp only [Act.put, List.setIfInBounds_toArray, List.set_cons_zero, List.set_cons_succ])
      refine wpAnyH_done (by kernel_rfl) ?_ _
      clear hH2
      go_wp2_with fail
      refine bodyPost_ret (v := .tuple #[grV I K A1 n c1 B1 m d1, .agg #[.int .i64 t1, .int .i64 g1'], .bool true]) (by simp [results, Try.results64, go_sem, r0, r1, r2, r3, u0, u1]) rfl ?_
      unfold PrEnd
      rw [HP.out]
      exact ⟨_, _, _, _, _, _, rfl, f3.out.st (Dr.st ⟨1, rfl⟩), f4.out.drew⟩
    · have HP := hid (HP0.out.trans (by rfl : _ = ((⟨I, K, ps, ds⟩ : Grp), ((0 : Int), (0 : Int)), false)))
      clear HP0
      have g0 := G1.out.cell_ (i := 0) (v := .int .i64 I) rfl
      have g1 := G1.out.cell_ (i := 1) (v := .int .i64 K) rfl
      have g2 := G1.out.cell_ (i := 2) (v := .slice A1 n c1) rfl
      have g3 := G1.out.cell_ (i := 3) (v := .slice B1 m d1) rfl
      have l0 := L0.out.cell_ (i := 0) (v := .int .i64 0) rfl
      have l1 := L0.out.cell_ (i := 1) (v := .int .i64 0) rfl
      have l2 := L0.out.cell_ (i := 2) (v := .slice none 0 0) rfl
      have l3 := L0.out.cell_ (i := 3) (v := .slice none 0 0) rfl
      have lf0 := L0.out.frozen 0
      have lf1 := L0.out.frozen 1
      have lf2 := L0.out.frozen 2
      have lf3 := L0.out.frozen 3
      have tz0 := T0.out.cell_ (i := 0) (v := .int .i64 0) rfl
      have tz1 := T0.out.cell_ (i := 1) (v := .int .i64 0) rfl
      have tzf0 := T0.out.frozen 0
      have tzf1 := T0.out.frozen 1
      obtain ⟨f1, f2, f3, f4⟩ := pr_fin (I := I) (K := K) (t := 0) (g := 0) L0.out T0.out C1.out S1.out (Nat.le_succ _) (by omega) (Nat.ne_of_lt (Nat.lt_succ_self _))
      have r0 := f1.out.cell_ (i := 0) (v := .int .i64 I) rfl
      have r1 := f1.out.cell_ (i := 1) (v := .int .i64 K) rfl
      have r2 := f1.out.cell_ (i := 2) (v := .slice A1 n c1) rfl
      have r3 := f1.out.cell_ (i := 3) (v := .slice B1 m d1) rfl
      have u0 := f2.out.cell_ (i := 0) (v := .int .i64 0) rfl
      have u1 := f2.out.cell_ (i := 1) (v := .int .i64 0) rfl
      go_wp2_with fail
      refine bodyPost_ret (v := .tuple #[grV I K A1 n c1 B1 m d1, .agg #[.int .i64 0, .int .i64 0], .bool false]) (by simp [results, Try.results64, go_sem, r0, r1, r2, r3, u0, u1]) rfl ?_
      unfold PrEnd
      rw [HP.out]
      exact ⟨_, _, _, _, _, _, rfl, f3.out, f4.out⟩
end Go.Proofs.Ytkhgemgmnchodaa
