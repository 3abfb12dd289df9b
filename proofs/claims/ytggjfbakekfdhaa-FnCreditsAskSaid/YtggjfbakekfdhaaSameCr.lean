/- The laws' own comparison of credits, of two that read alike; the drawing of free credits. -/
import Derived.Test.YtggjfbakekfdhaaKindCr
import Derived.Test.YtggjfbakekfdhaaDraw
import Derived.Lib.QuietBelow
namespace Go.Proofs.Ytggjfbakekfdhaa
open Go.RowKit Go.Sort
theorem sameInts_same {A A' : Option Addr} {n c n' c' : Nat} {xs : List Int} {w : World} (h : SL w A n c xs) (h' : SL w A' n' c' xs) (hl : xs.length ≤ 1048576) :
    Calls Try.prog 36 #[.slice A n c, .slice A' n' c'] w fun e w' => e = .returned (.bool true) ∧ Dr w w' :=
  (sameInts_any A A' n c n' c' _ xs xs w h.ri h'.ri (by have := h.len; omega)).mono fun _ _ ⟨a, b⟩ => ⟨by rw [a]; simp [eqI], b⟩
set_option maxRecDepth 100000 in
set_option maxHeartbeats 2000000 in
theorem sameCredits_same {A A' B B' : Option Addr} {n c n' c' m d m' d' : Nat} {fs : List Int} {hs : List (List Int × Int)} {w : World} (h : RdCr w A n c B m d fs hs) (h' : RdCr w A' n' c' B' m' d' fs hs) (f : FitCr fs hs) :
    Calls Try.prog 23 #[crV A n c B m d, crV A' n' c' B' m' d'] w fun e w' => e = .returned (.bool true) ∧ St w w' := by
  obtain rfl : m = m' := h.sh.len.symm.trans h'.sh.len
  have hm : m ≤ 1048576 := by have := h.sh.len; have := f.m; omega
  have S0 := hid (((St.refl w).alloc (.cells #[.slice A n c, .slice B m d] 25)).alloc (.cells #[.slice A' n' c', .slice B' m d'] 25))
  have K0 := hid ((Blk.new w 25 #[.slice A n c, .slice B m d]).alloc (.cells #[.slice A' n' c', .slice B' m d'] 25))
  have K1 : Hid (Blk ((w.alloc (.cells #[.slice A n c, .slice B m d] 25)).alloc (.cells #[.slice A' n' c', .slice B' m d'] 25)) (w.heap.size + 1) 25 #[.slice A' n' c', .slice B' m d']) := by
    have := Blk.new (w.alloc (.cells #[.slice A n c, .slice B m d] 25)) 25 #[.slice A' n' c', .slice B' m d']
    rw [World.heap_alloc_size'] at this; exact this
  have h1 := h.st S0.out
  have h1' := h'.st S0.out
  have F := hid f
  clear f
  go_enter Try.func23, Try.ntmps23
  go_wp2_with fail
  refine (sameInts_same h1.sl h1'.sl F.out.n).mono ?_
  rintro e w1 ⟨rfl, d1⟩
  have S1 := hid (S0.out.dr d1)
  have L0 := hid (K0.out.dr d1)
  have L1 := hid (K1.out.dr d1)
  have q1 := L0.out.cell_ (i := 1) (v := .slice B m d) rfl
  have q1' := L1.out.cell_ (i := 1) (v := .slice B' m d') rfl
  clear S0 K0 K1 h1 h1' d1
  go_wp2_with fail
  clear q1 q1'
  go_loopw [5] (fun i wr => ∃ k : Nat, k ≤ m ∧ i = .int .i64 k ∧ Hid (Dr w1 wr)) (fun i _ => m - (intOf i).toNat)
  case atStart => exact ⟨0, Nat.zero_le _, rfl, Dr.refl _⟩
  case round =>
    obtain ⟨k, hk, rfl, hd⟩ := hrel
    have M0 := hid (L0.out.dr hd.out)
    have M1 := hid (L1.out.dr hd.out)
    have q1 := M0.out.cell_ (i := 1) (v := .slice B m d) rfl
    have q1' := M1.out.cell_ (i := 1) (v := .slice B' m d') rfl
    by_cases hlt : k < m
    · obtain ⟨ad, Ak, nk, ck, xs, t, rfl, hb1, hc1, hc2, hx, hsk⟩ := ((h.sh.st S1.out).dr hd.out).at_ hlt
      obtain ⟨ad', Ak', nk', ck', xs', t', rfl, hb1', hc1', hc2', hx', hsk'⟩ := ((h'.sh.st S1.out).dr hd.out).at_ hlt
      obtain ⟨rfl, rfl⟩ : xs' = xs ∧ t' = t := by
        have h1 := hx'.out
        rw [hx.out] at h1
        injection h1 with h1
        injection h1 with h1 h2
        exact ⟨h1.symm, h2.symm⟩
      have hki : (0 : Int) ≤ (k : Int) := by omega
      have hki2 : (k : Int) < (m : Int) := by omega
      have hl := F.out.h2 _ (List.mem_of_getElem? hx.out)
      have HC := hid (fun (q : Nat) => quiet_dr (sameInts_same (hsk.dr (w' := wr.drewN q) ⟨q, rfl⟩) (hsk'.dr ⟨q, rfl⟩) hl))
      go_wp2_with fail
      go_quiet ((go_at_call 36; exact HC.out _))
      go_wp2_with fail
      go_roundw
      case rel => exact ⟨k + 1, by omega, by go_num, hd.out.more _⟩
      case measure => simp [intOf]; omega
    · obtain rfl : k = m := by omega
      go_wp2_with fail
      go_ret
      exact ⟨rfl, S1.out.dr hd.out⟩
theorem OI.zero {w : World} {base n c : Nat} {e : TypeId} {A : Option Addr} {xs : List Int} (h : OI w base e A n c xs) (k : Nat) (hk : k ≤ n) : OI w base e A k c (xs.take k) := by
  have hl := h.len
  refine ⟨by simp; omega, ?_⟩
  rcases h.2 with ⟨h1, h0⟩ | ⟨g, cap, cur, h1, h2, h3, h4, h5, h6, h7⟩
  · injection h1 with h1 h2 h3
    subst h1 h3
    exact .inl ⟨by rw [show k = 0 by omega], by omega⟩
  · injection h1 with h1 h8 h9
    subst h1 h9
    refine .inr ⟨g, _, cur, rfl, h2, h3, by omega, h5, h6, ?_⟩
    rw [Nat.mul_one, List.map_take, ← h7, List.take_take, Nat.mul_one, Nat.min_eq_left (by omega)]
theorem Rd.alloc {w : World} {R M : Nat} (h : Rd w R M) (o : Obj) : Rd (w.alloc o) R M := h.below ((St.refl w).alloc o) h.lt
theorem Rd.setCell {w : World} {R M g i : Nat} (h : Rd w R M) (hg : R < g) (u : Value) : Rd (w.setCell ⟨g, i, none⟩ u) R M := h.grown (World.grownBy_set w g i u) (fun k hk => by injection hk with hk; omega)
/-- Free credits and a number of senders that are drawn. -/
def DrawnCN (w : World) (e : Ending) (w' : World) : Prop := ∃ (s : Int) (A : Option Addr) (n c : Nat) (xs : List Int), e = .returned (.tuple #[.slice A n c, .int .i64 s]) ∧ SL w' A n c xs ∧ n ≤ 5 ∧ St w w'
set_option maxRecDepth 100000 in
set_option maxHeartbeats 2000000 in
theorem DrawCreditsNew_any (A : Option Addr) (n c : Nat) (bs : List Nat) (w : World) (h : RB w w.heap.size A n bs) (hn : n ≤ 1048576) (hnc : n ≤ c) (hc : c ≤ maxLen) :
    Calls Try.prog 22 #[.slice A n c] w (DrawnCN w) := by
  go_enter Try.func22, Try.ntmps22
  go_wp2_with fail
  refine (l6Open_any _ _ _ _ _ h hn hnc hc).mono ?_
  rintro e w1 ⟨rfl, hr1, b1⟩
  have z1 : w.heap.size < w1.heap.size := hr1.lt
  have B1 := hid (show St w w1 from b1)
  have HO := hid (OI.lit (w := w1) (e := 3))
  have r1 := hid (hr1.alloc (.cells #[] 3))
  have G1 := hid (World.grownBy_alloc w1 (.cells #[] 3) (some w.heap.size))
  obtain ⟨R, hR⟩ : ∃ R, w.heap.size = R := ⟨_, rfl⟩
  rw [hR] at z1 r1 G1 ⊢
  have HR := hid hR
  clear hr1 b1 hR
  go_wp2_with fail
  go_loopw [5, 6] (fun v i wr => ∃ (k a : Nat) (X : Option Addr) (ys : List Int), k ≤ 5 ∧ i = .int .i64 k ∧ v = .slice X k a ∧ OI wr w1.heap.size 3 X k a ys ∧ Rd wr R k ∧ w1.grownBy wr (some R)) (fun _ i _ => 5 - (intOf i).toNat)
  case atStart => exact ⟨0, 0, _, [], Nat.zero_le _, rfl, rfl, HO.out, r1.out, G1.out⟩
  case round =>
    obtain ⟨k, a, X, ys, hk, rfl, rfl, ho, hrd, hg⟩ := hrel
    by_cases hlt : k < 5
    · have hki : (k : Int) < 5 := by omega
      go_wp2_with fail
      refine (pick_any _ _ _ _ hrd (by omega) (by omega) (by omega)).mono ?_
      rintro e w2 ⟨x, rfl, hp, hrd2, hg2⟩
      have ho2 := ho.row hg2 z1
      have hgg := grown_trans' hg hg2
      clear hp hg2 hg ho
      go_wp2_with (at_builtin; refine wpList_append_int _ rfl _ _ 22 rfl w1.heap.size 3 Try.underlying22 intInfo _ _ _ _ x rfl ho2 rfl (by omega) hgg.size ?_; intro X2 a2 w3 ho3 hg3)
      have hR2 : ∀ g, blockOf X = some g → R < g := fun g hg => by have := (ho2.lt g hg).1; omega
      have hB2 : ∀ g, blockOf X = some g → w1.heap.size ≤ g := fun g hg => (ho2.lt g hg).1
      go_roundw
      case rel => exact ⟨k + 1, _, _, _, by omega, by go_num, rfl, ho3, hrd2.grown hg3 hR2, grown_new hgg hg3 hB2⟩
      case measure => simp [intOf]; omega
    · obtain rfl : k = 5 := by omega
      have h5 : ¬ (5 : Int) < 5 := by omega
      go_wp2_with fail
      refine (pick_any _ _ _ _ hrd (by omega) (by omega) (by omega)).mono ?_
      rintro e w2 ⟨x, rfl, _, hrd2, hg2⟩
      have ho2 := ho.row hg2 z1
      have hgg := grown_trans' hg hg2
      clear hg2 hg ho hrd
      cases h0 : (x == 0)
      · cases h1 : (x == 1)
        · go_wp2_with fail
          refine (pick_any _ _ _ _ hrd2 (by omega) (by omega) (by omega)).mono ?_
          rintro e w3 ⟨y, rfl, hp, hrd3, hg3⟩
          have hp1 := hp.1
          have hp2 := hp.2.1 (by omega)
          have ho3 := ho2.row hg3 z1
          have G3 := hid (St.grown B1.out (grown_trans' hgg hg3) (fun k hk => by injection hk with hk; have := HR.out; omega))
          clear hp hg3 hgg
          go_wp2_with fail
          go_ret2
          exact ⟨_, X, 5, a, ys, rfl, ho3.sl, Nat.le_refl _, G3.out⟩
        · go_wp2_with fail
          refine (pick_any _ _ _ _ hrd2 (by omega) (by omega) (by omega)).mono ?_
          rintro e w3 ⟨z, rfl, hpz, hrd3, hg3⟩
          have hz1 := hpz.1
          have hz2 := hpz.2.1 (by omega)
          obtain ⟨j, rfl⟩ := Int.eq_ofNat_of_zero_le hz1
          have ho3 := ho2.row hg3 z1
          have hg3' := grown_trans' hgg hg3
          have hca := ho3.cap
          have hja : (j : Int) ≤ (a : Int) := by omega
          have hok := hid (ho3.zero j (by omega))
          clear hpz hg3 hgg ho2 ho3
          go_wp2_with fail
          refine (pick_any _ _ _ _ hrd3 (by omega) (by omega) (by omega)).mono ?_
          rintro e w4 ⟨y, rfl, hp, hrd4, hg4⟩
          have hp1 := hp.1
          have hp2 := hp.2.1 (by omega)
          have ho4 := OI.row hok.out hg4 z1
          have G4 := hid (St.grown B1.out (grown_trans' hg3' hg4) (fun k hk => by injection hk with hk; have := HR.out; omega))
          clear hp hg4 hg3'
          go_wp2_with fail
          go_ret2
          exact ⟨_, X, j, a, _, rfl, ho4.sl, by omega, G4.out⟩
      · go_wp2_with fail
        refine (pick_any _ _ _ _ hrd2 (by omega) (by omega) (by omega)).mono ?_
        rintro e w3 ⟨z, rfl, hpz, hrd3, hg3⟩
        have hz1 := hpz.1
        have hz2 := hpz.2.1 (by omega)
        obtain ⟨j, rfl⟩ := Int.eq_ofNat_of_zero_le hz1
        have ho3 := World.ownsRow.alloc (ho2.row hg3 z1) (.cells #[.int .i64 (-1), .int .i64 9, .int .i64 10] 3)
        have hg3' := grown_alloc (grown_trans' hgg hg3) (.cells #[.int .i64 (-1), .int .i64 9, .int .i64 10] 3)
        have rd3 := hrd3.alloc (.cells #[.int .i64 (-1), .int .i64 9, .int .i64 10] 3)
        have L3 := hid (Blk.new w3 3 #[.int .i64 (-1), .int .i64 9, .int .i64 10])
        have zz3 : R ≠ w3.heap.size := by have := hrd3.lt; omega
        have hXlt := hid (show ∀ g, blockOf X = some g → w1.heap.size ≤ g ∧ g < w3.heap.size from (ho2.row hg3 z1).lt)
        clear hpz hg3 hgg ho2 hrd2
        go_wp2_with fail
        refine (pick_any _ _ _ _ rd3 (by omega) (by omega) (by omega)).mono ?_
        rintro e w4 ⟨y, rfl, hp, hrd4, hg4⟩
        have hp1 := hp.1
        have hp2 := hp.2.1 (by omega)
        have ho4 := OI.row ho3 hg4 z1
        have L4 := hid (L3.out.grown hg4 (by intro e; injection e with e; omega))
        have l0 := L4.out.cell_ (i := 0) (v := .int .i64 (-1)) rfl
        have l1 := L4.out.cell_ (i := 1) (v := .int .i64 9) rfl
        have l2 := L4.out.cell_ (i := 2) (v := .int .i64 10) rfl
        have hg4' := hid (grown_trans' hg3' hg4)
        obtain ⟨g, x', rfl, hgb, hgl, hx', hc', hfz, hset⟩ := ho4.at_ (k := j) (by omega)
        have hji : (0 : Int) ≤ (j : Int) := by omega
        have hji5 : (j : Int) < 5 := by omega
        have hy : y = 0 ∨ y = 1 ∨ y = 2 := by omega
        clear hp hp1 hp2 hg4 hg3' ho3 L3
        rcases hy with rfl | rfl | rfl
        · obtain ⟨hs1, hs2⟩ := hset (-1)
          have hs1 := hid hs1.out
          have r5 := hid (hrd4.setCell (g := g) (i := j) (by omega) (.int .i64 (-1)))
          have g5 := hid (grown_new hg4'.out hs2 (fun k hk => by injection hk with hk; omega))
          clear hset hs2
          go_wp2_with fail
          refine (pick_any _ _ _ _ r5.out (by omega) (by omega) (by omega)).mono ?_
          rintro e w6 ⟨z, rfl, hp, hrd6, hg6⟩
          have hp1 := hp.1
          have hp2 := hp.2.1 (by omega)
          have ho6 := OI.row hs1.out hg6 z1
          have G6 := hid (St.grown B1.out (grown_trans' g5.out hg6) (fun k hk => by injection hk with hk; have := HR.out; omega))
          clear hp hg6
          go_wp2_with fail
          go_ret2
          exact ⟨_, _, 5, a, _, rfl, ho6.sl, Nat.le_refl _, G6.out⟩
        · obtain ⟨hs1, hs2⟩ := hset 9
          have hs1 := hid hs1.out
          have r5 := hid (hrd4.setCell (g := g) (i := j) (by omega) (.int .i64 9))
          have g5 := hid (grown_new hg4'.out hs2 (fun k hk => by injection hk with hk; omega))
          clear hset hs2
          go_wp2_with fail
          refine (pick_any _ _ _ _ r5.out (by omega) (by omega) (by omega)).mono ?_
          rintro e w6 ⟨z, rfl, hp, hrd6, hg6⟩
          have hp1 := hp.1
          have hp2 := hp.2.1 (by omega)
          have ho6 := OI.row hs1.out hg6 z1
          have G6 := hid (St.grown B1.out (grown_trans' g5.out hg6) (fun k hk => by injection hk with hk; have := HR.out; omega))
          clear hp hg6
          go_wp2_with fail
          go_ret2
          exact ⟨_, _, 5, a, _, rfl, ho6.sl, Nat.le_refl _, G6.out⟩
        · obtain ⟨hs1, hs2⟩ := hset 10
          have hs1 := hid hs1.out
          have r5 := hid (hrd4.setCell (g := g) (i := j) (by omega) (.int .i64 10))
          have g5 := hid (grown_new hg4'.out hs2 (fun k hk => by injection hk with hk; omega))
          clear hset hs2
          go_wp2_with fail
          refine (pick_any _ _ _ _ r5.out (by omega) (by omega) (by omega)).mono ?_
          rintro e w6 ⟨z, rfl, hp, hrd6, hg6⟩
          have hp1 := hp.1
          have hp2 := hp.2.1 (by omega)
          have ho6 := OI.row hs1.out hg6 z1
          have G6 := hid (St.grown B1.out (grown_trans' g5.out hg6) (fun k hk => by injection hk with hk; have := HR.out; omega))
          clear hp hg6
          go_wp2_with fail
          go_ret2
          exact ⟨_, _, 5, a, _, rfl, ho6.sl, Nat.le_refl _, G6.out⟩
end Go.Proofs.Ytggjfbakekfdhaa
