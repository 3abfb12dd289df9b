/- The drawing of credits: a set, and the states through which a drawing of credits goes. -/
import Derived.Test.YtggjfbakekfdhaaCr13
import Derived.Test.YtggjfbakekfdhaaSameCr
namespace Go.Proofs.Ytggjfbakekfdhaa
open Go.RowKit Go.Sort
theorem OI.one (w : World) (e : TypeId) (y : Int) : OI (w.alloc (.cells #[.int .i64 y] e)) w.heap.size e (some ⟨w.heap.size, 0, none⟩) 1 1 [y] := World.ownsRow_lit w #[.int .i64 y] 1 (Nat.le_refl _) (by simp [maxLen]) rfl
set_option maxHeartbeats 1000000 in
theorem l91Set_any (R M : Nat) (w : World) (hr : Rd w R M) (hM : M ≤ 1099511627000) :
    Calls Try.prog 73 #[.pointer (some ⟨R, 0, none⟩)] w (DrawnI w R (M + 8) 6) := by
  have hRlt := hr.lt
  have HO := hid (OI.lit (w := w) (e := 3))
  go_enter Try.func73, Try.ntmps73
  go_wp2_with fail
  go_loopw [3, 4] (fun v i wr => ∃ (k m a : Nat) (X : Option Addr) (ys : List Int), k ≤ 5 ∧ i = .int .i64 k ∧ v = .slice X m a ∧ m ≤ k ∧ OI wr w.heap.size 3 X m a ys ∧ Rd wr R (M + k) ∧ w.grownBy wr (some R)) (fun _ i _ => 5 - (intOf i).toNat)
  case atStart => exact ⟨0, 0, 0, _, [], Nat.zero_le _, rfl, rfl, Nat.le_refl _, HO.out, hr.alloc _, World.grownBy_alloc _ _ _⟩
  case round =>
    obtain ⟨k, m, a, X, ys, hk, rfl, rfl, hmk, ho, hrd, hg⟩ := hrel
    by_cases hlt : k < 5
    · have hki : (k : Int) < 5 := by omega
      go_wp2_with fail
      refine (pick_any _ _ _ _ hrd (by omega) (by omega) (by omega)).mono ?_
      rintro e w1 ⟨x, rfl, hp, hrd1, hg1⟩
      have ho1 := ho.row hg1 hRlt
      have hgg := grown_trans' hg hg1
      clear hp hg1 hg ho
      by_cases hx1 : 1 < x
      · go_wp2_with (at_builtin; refine wpList_append_int _ rfl _ _ 22 rfl w.heap.size 3 Try.underlying22 intInfo _ _ _ _ (k : Int) rfl ho1 rfl (by omega) hgg.size ?_; intro X2 a2 w2 ho2 hg2)
        have hR2 : ∀ g, blockOf X = some g → R < g := fun g hg => by have := (ho1.lt g hg).1; omega
        have hB2 : ∀ g, blockOf X = some g → w.heap.size ≤ g := fun g hg => (ho1.lt g hg).1
        go_roundw
        case rel => exact ⟨k + 1, m + 1, _, _, _, by omega, by go_num, rfl, by omega, ho2, hrd1.grown hg2 hR2, grown_new hgg hg2 hB2⟩
        case measure => simp [intOf]; omega
      · go_wp2_with fail
        go_roundw
        case rel => exact ⟨k + 1, m, _, _, _, by omega, by go_num, rfl, by omega, ho1, hrd1, hgg⟩
        case measure => simp [intOf]; omega
    · obtain rfl : k = 5 := by omega
      have h5 : ¬ (5 : Int) < 5 := by omega
      by_cases hm0 : m = 0
      · subst hm0
        go_wp2_with fail
        refine (pick_any _ _ _ _ hrd (by omega) (by omega) (by omega)).mono ?_
        rintro e w1 ⟨y, rfl, _, hrd1, hg1⟩
        have hgg := grown_alloc (grown_trans' hg hg1) (.cells #[.int .i64 y] 3)
        have ho2 := (OI.one w1 3 y).less (show w.heap.size ≤ w1.heap.size from (grown_trans' hg hg1).size)
        have hrd2 := hrd1.alloc (.cells #[.int .i64 y] 3)
        clear ho hg hg1 hrd hrd1
        go_wp2_with fail
        refine (pick_any _ _ _ _ hrd2 (by omega) (by omega) (by omega)).mono ?_
        rintro e w5 ⟨x, rfl, _, hrd5, hg5⟩
        have ho5 := OI.row ho2 hg5 hRlt
        have hgg5 := grown_trans' hgg hg5
        cases h0 : (x == 0)
        · cases h1 : (x == 1)
          · go_wp2_with fail
            go_ret
            exact ⟨_, _, _, _, rfl, ho5, by omega, hrd5.le (by omega), hgg5⟩
          · go_wp2_with fail
            go_ret
            exact ⟨_, 0, _, _, rfl, (ho5.zero 0 (Nat.zero_le _)), by omega, hrd5.le (by omega), hgg5⟩
        · go_wp2_with fail
          refine (pick_any _ _ _ _ hrd5 (by omega) (by omega) (by omega)).mono ?_
          rintro e w6 ⟨z, rfl, hp6, hrd6, hg6⟩
          have hp61 := hp6.1
          have hp62 := hp6.2.1 (by omega)
          have ho6 := OI.row ho5 hg6 hRlt
          have hgg6 := grown_trans' hgg5 hg6
          clear hp6
          go_wp2_with (at_builtin; refine wpList_append_int _ rfl _ _ 22 rfl w.heap.size 3 Try.underlying22 intInfo _ _ _ _ (z - 1) rfl ho6 rfl (by omega) hgg6.size ?_; intro X2 a2 w7 ho7 hg7)
          have hR2 : ∀ g, blockOf (some ⟨w1.heap.size, 0, none⟩) = some g → R < g := fun g hg => by have := (ho6.lt g hg).1; omega
          have hB2 : ∀ g, blockOf (some ⟨w1.heap.size, 0, none⟩) = some g → w.heap.size ≤ g := fun g hg => (ho6.lt g hg).1
          go_ret
          exact ⟨_, _, _, _, rfl, ho7, by omega, (hrd6.grown hg7 hR2).le (by omega), grown_new hgg6 hg7 hB2⟩
      · have hnz : ((m : Int) == 0) = false := by simp; omega
        go_wp2_with fail
        refine (pick_any _ _ _ _ hrd (by omega) (by omega) (by omega)).mono ?_
        rintro e w5 ⟨x, rfl, _, hrd5, hg5⟩
        have ho5 := OI.row ho hg5 hRlt
        have hgg5 := grown_trans' hg hg5
        cases h0 : (x == 0)
        · cases h1 : (x == 1)
          · go_wp2_with fail
            go_ret
            exact ⟨_, _, _, _, rfl, ho5, by omega, hrd5.le (by omega), hgg5⟩
          · go_wp2_with fail
            go_ret
            exact ⟨_, 0, _, _, rfl, (ho5.zero 0 (Nat.zero_le _)), by omega, hrd5.le (by omega), hgg5⟩
        · go_wp2_with fail
          refine (pick_any _ _ _ _ hrd5 (by omega) (by omega) (by omega)).mono ?_
          rintro e w6 ⟨z, rfl, hp6, hrd6, hg6⟩
          have hp61 := hp6.1
          have hp62 := hp6.2.1 (by omega)
          have ho6 := OI.row ho5 hg6 hRlt
          have hgg6 := grown_trans' hgg5 hg6
          clear hp6
          go_wp2_with (at_builtin; refine wpList_append_int _ rfl _ _ 22 rfl w.heap.size 3 Try.underlying22 intInfo _ _ _ _ (z - 1) rfl ho6 rfl (by omega) hgg6.size ?_; intro X2 a2 w7 ho7 hg7)
          have hR2 : ∀ g, blockOf X = some g → R < g := fun g hg => by have := (ho6.lt g hg).1; omega
          have hB2 : ∀ g, blockOf X = some g → w.heap.size ≤ g := fun g hg => (ho6.lt g hg).1
          go_ret
          exact ⟨_, _, _, _, rfl, ho7, by omega, (hrd6.grown hg7 hR2).le (by omega), grown_new hgg6 hg7 hB2⟩
theorem grown_st {a b c : World} {row : Option Nat} (h : a.grownBy b row) (s : St b c) : a.grownBy c row :=
  grown_new (row' := none) h ⟨s.os, s.tape, s.output, s.size, fun k hk _ => s.block k hk⟩ (by simp)
/-- Valid credits in the block of a variable. -/
structure DC (w wr : World) (R L G : Nat) (A : Option Addr) (c : Nat) (B : Option Addr) (m d : Nat) (fs : List Int) (hs : List (List Int × Int)) : Prop where
  z : Blk wr w.heap.size 25 #[.slice none 0 0, .slice none 0 0]
  g : Blk wr G 25 #[.slice A 5 c, .slice B m d]
  c : CrS wr w.heap.size A 5 c B m d fs hs
  v : CrV fs hs
  r : Rd wr R L
  gr : w.grownBy wr (some R)
  lt : R < w.heap.size
  gz : w.heap.size < G
section
variable {w wr w1 : World} {R L L' G c m d : Nat} {A B : Option Addr} {fs : List Int} {hs : List (List Int × Int)}
theorem DC.pick (h : DC w wr R L G A c B m d fs hs) (hr : Rd w1 R L') (hg : wr.grownBy w1 (some R)) : DC w w1 R L' G A c B m d fs hs := by
  have h1 := h.lt
  have h2 := h.gz
  exact ⟨h.z.grown hg (fun e => by injection e with e; omega), h.g.grown hg (fun e => by injection e with e; omega), h.c.row hg h1, h.v, hr, grown_trans' h.gr hg, h1, h2⟩
theorem DC.st (h : DC w wr R L G A c B m d fs hs) (s : St wr w1) : DC w w1 R L G A c B m d fs hs :=
  ⟨h.z.st s, h.g.st s, h.c.st s, h.v, h.r.below s h.r.lt, grown_st h.gr s, h.lt, h.gz⟩
theorem DC.le (h : DC w wr R L G A c B m d fs hs) (hl : L ≤ L') : DC w wr R L' G A c B m d fs hs := ⟨h.z, h.g, h.c, h.v, h.r.le hl, h.gr, h.lt, h.gz⟩
theorem DC.size (h : DC w wr R L G A c B m d fs hs) : w.heap.size ≤ wr.heap.size := h.gr.size
theorem DC.m1 (h : DC w wr R L G A c B m d fs hs) : 1 ≤ m ∧ m ≤ 6 := by have := h.v.h1; have := h.v.h6; have := h.c.hl; omega
theorem DC.blk1 (h : DC w wr R L G A c B m d fs hs) {y : Nat} {cs : Array Value} (hy : Blk wr y 25 cs) (hyG : y ≠ G) (hyw : w.heap.size < y) (i : Nat) (u : Value) : DC w (wr.setCell ⟨y, i, none⟩ u) R L G A c B m d fs hs := by
  have h1 := h.lt
  exact ⟨h.z.far (p := ⟨y, i, none⟩) (by simp; omega) u, h.g.far (p := ⟨y, i, none⟩) (by simp; omega) u, h.c.blk hy (by decide) (by decide) (World.grownBy_set wr y i u), h.v, h.r.setCell (by omega) u,
    grown_new h.gr (World.grownBy_set wr y i u) (fun k hk => by injection hk with hk; omega), h1, h.gz⟩
/-- The variable is written over with other credits of the call's own. -/
theorem DC.over (h : DC w wr R L G A c B m d fs hs) {A' B' : Option Addr} {c' m' d' : Nat} {fs' : List Int} {hs' : List (List Int × Int)} (hc : CrS wr w.heap.size A' 5 c' B' m' d' fs' hs') (hv : CrV fs' hs') :
    DC w ((wr.setCell ⟨G, 0, none⟩ (.slice A' 5 c')).setCell ⟨G, 1, none⟩ (.slice B' m' d')) R L G A' c' B' m' d' fs' hs' := by
  have h1 := h.lt
  have h2 := h.gz
  have g1 := World.grownBy_set wr G 0 (.slice A' 5 c')
  have g2 := World.grownBy_set (wr.setCell ⟨G, 0, none⟩ (.slice A' 5 c')) G 1 (.slice B' m' d')
  have G1 := h.g.set_ 0 (.slice A' 5 c')
  exact ⟨(h.z.far (p := ⟨G, 0, none⟩) (by simp; omega) _).far (p := ⟨G, 1, none⟩) (by simp; omega) _, G1.set_ 1 (.slice B' m' d'), (hc.blk h.g (by decide) (by decide) g1).blk G1 (by decide) (by decide) g2, hv, (h.r.setCell (by omega) _).setCell (by omega) _,
    grown_new (grown_new h.gr g1 (fun k hk => by injection hk with hk; omega)) g2 (fun k hk => by injection hk with hk; omega), h1, h2⟩
end
/-- Credits that a drawing function returns: new. -/
def DrawnCr (w : World) (R M : Nat) (e : Ending) (w' : World) : Prop :=
  ∃ A n c B m d fs hs, e = .returned (crV A n c B m d) ∧ CrS w' w.heap.size A n c B m d fs hs ∧ FitCr fs hs ∧ Rd w' R M ∧ w.grownBy w' (some R)
/-- The same, of credits that need not be valid. -/
structure DE (w wr : World) (R L G : Nat) (A : Option Addr) (n c : Nat) (B : Option Addr) (m d : Nat) (fs : List Int) (hs : List (List Int × Int)) : Prop where
  z : Blk wr w.heap.size 25 #[.slice none 0 0, .slice none 0 0]
  g : Blk wr G 25 #[.slice A n c, .slice B m d]
  c : CrS wr w.heap.size A n c B m d fs hs
  f : FitCr fs hs
  r : Rd wr R L
  gr : w.grownBy wr (some R)
  lt : R < w.heap.size
  gz : w.heap.size < G
theorem DC.de {w wr : World} {R L G c m d : Nat} {A B : Option Addr} {fs : List Int} {hs : List (List Int × Int)} (h : DC w wr R L G A c B m d fs hs) : DE w wr R L G A 5 c B m d fs hs := ⟨h.z, h.g, h.c, h.v.fit, h.r, h.gr, h.lt, h.gz⟩
/-- A store into a row of the call's own: the rest is kept. -/
theorem DC.to {w wr : World} {R L G c m d : Nat} {A B : Option Addr} {fs : List Int} {hs : List (List Int × Int)} (h : DC w wr R L G A c B m d fs hs) {g i : Nat} (u : Value) (hg : w.heap.size ≤ g) (h1 : blockOf A = some g ∨ blockOf B = some g) {fs' : List Int} {hs' : List (List Int × Int)} (hc : CrS (wr.setCell ⟨g, i, none⟩ u) w.heap.size A 5 c B m d fs' hs') (hf : FitCr fs' hs') :
    DE w (wr.setCell ⟨g, i, none⟩ u) R L G A 5 c B m d fs' hs' := by
  have hl := h.lt
  obtain ⟨a1, a2⟩ := h.c.apart h.z (by decide) (by decide)
  obtain ⟨b1, b2⟩ := h.c.apart h.g (by decide) (by decide)
  have n1 : w.heap.size ≠ g := fun e => by subst e; rcases h1 with h1 | h1; exact a1 h1; exact a2 h1
  have n2 : G ≠ g := fun e => by subst e; rcases h1 with h1 | h1; exact b1 h1; exact b2 h1
  exact ⟨h.z.far (p := ⟨g, i, none⟩) n1 u, h.g.far (p := ⟨g, i, none⟩) n2 u, hc, hf, h.r.setCell (by omega) u, grown_new h.gr (World.grownBy_set wr g i u) (fun k hk => by injection hk with hk; omega), hl, h.gz⟩
theorem DE.dr {w wr w1 : World} {R L G n c m d : Nat} {A B : Option Addr} {fs : List Int} {hs : List (List Int × Int)} (h : DE w wr R L G A n c B m d fs hs) (s : Dr wr w1) : DE w w1 R L G A n c B m d fs hs :=
  ⟨h.z.dr s, h.g.dr s, h.c.st s.st, h.f, h.r.dr s, grown_dr h.gr s, h.lt, h.gz⟩
theorem DE.cut {w wr : World} {R L G n c m d : Nat} {A B : Option Addr} {fs : List Int} {hs : List (List Int × Int)} (h : DE w wr R L G A n c B m d fs hs) : DE w (wr.setCell ⟨G, 1, none⟩ (.slice B 0 d)) R L G A n c B 0 d fs [] := by
  have hl := h.lt
  have hz := h.gz
  have g1 := World.grownBy_set wr G 1 (.slice B 0 d)
  exact ⟨h.z.far (p := ⟨G, 1, none⟩) (by simp; omega) _, h.g.set_ 1 (.slice B 0 d), h.c.cut.blk h.g (by decide) (by decide) g1, ⟨h.f.n, by simp, by simp⟩, h.r.setCell (by omega) _, grown_new h.gr g1 (fun k hk => by injection hk with hk; omega), hl, hz⟩
/-- The result's block is written. -/
theorem DE.fin {w wr : World} {R L M G n c m d : Nat} {A B : Option Addr} {fs : List Int} {hs : List (List Int × Int)} (h : DE w wr R L G A n c B m d fs hs) (hM : L ≤ M) :
    Hid (Blk ((wr.setCell ⟨w.heap.size, 0, none⟩ (.slice A n c)).setCell ⟨w.heap.size, 1, none⟩ (.slice B m d)) w.heap.size 25 #[.slice A n c, .slice B m d]) ∧
    Hid (DrawnCr w R M (.returned (crV A n c B m d)) ((wr.setCell ⟨w.heap.size, 0, none⟩ (.slice A n c)).setCell ⟨w.heap.size, 1, none⟩ (.slice B m d))) := by
  have hl := h.lt
  have g1 := World.grownBy_set wr w.heap.size 0 (.slice A n c)
  have g2 := World.grownBy_set (wr.setCell ⟨w.heap.size, 0, none⟩ (.slice A n c)) w.heap.size 1 (.slice B m d)
  have Z1 := h.z.set_ 0 (.slice A n c)
  exact ⟨Z1.set_ 1 (.slice B m d), _, _, _, _, _, _, _, _, rfl, (h.c.blk h.z (by decide) (by decide) g1).blk Z1 (by decide) (by decide) g2, h.f, ((h.r.setCell (by omega) _).setCell (by omega) _).le hM,
    grown_new (grown_new h.gr g1 (fun k hk => by injection hk with hk; omega)) g2 (fun k hk => by injection hk with hk; omega)⟩
end Go.Proofs.Ytggjfbakekfdhaa
