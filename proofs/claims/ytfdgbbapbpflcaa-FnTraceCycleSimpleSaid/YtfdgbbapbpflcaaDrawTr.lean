/- The drawing of traces. -/
import Derived.Test.YtfdgbbapbpflcaaDraw
namespace Go.Proofs.Ytfdgbbapbpflcaa
open Go.RowKit

set_option maxHeartbeats 400000 in
theorem l92Trace_any (R M : Nat) (A : Option Addr) (n c B : Nat) (xs : List Int) (w : World) (hr : Rd w R M) (hM : M + n ≤ 1099511627776) (h : RI w B A n xs) (hn : n ≤ 1048576) (hB : B ≤ w.heap.size) (hA : blockOf A ≠ some R) :
    Calls Try.prog 46 #[.pointer (some ⟨R, 0, none⟩), .slice A n c] w (DrawnI w R (M + n) n) := by
  have hRlt := hr.lt
  have HO := hid (OI.lit (w := w) (e := 3))
  go_enter Try.func46, Try.ntmps46
  go_wp2_with fail
  go_loopw [5, 6] (fun v i wr => ∃ (k m a : Nat) (X : Option Addr) (ys : List Int), k ≤ n ∧ i = .int .i64 k ∧ v = .slice X m a ∧ m ≤ k ∧ OI wr w.heap.size 3 X m a ys ∧ Rd wr R (M + k) ∧ w.grownBy wr (some R)) (fun _ i _ => n - (intOf i).toNat)
  case atStart => exact ⟨0, 0, 0, _, [], Nat.zero_le _, rfl, rfl, Nat.le_refl _, HO.out, Rd.below hr ((Below.refl w.heap.size w).alloc (Nat.le_refl _) _) hRlt, World.grownBy_alloc _ _ _⟩
  case round =>
    obtain ⟨k, m, a, X, ys, hk, rfl, rfl, hmk, ho, hrd, hg⟩ := hrel
    by_cases hlt : k < n
    · go_wp2_with fail
      refine (pick_any _ _ _ _ hrd (by omega) (by omega) (by omega)).mono ?_
      rintro e w1 ⟨x, rfl, hp, hrd1, hg1⟩
      have hp1 := hp.1
      have hp2 := hp.2.1 (by omega)
      clear hp
      have ho1 := ho.row hg1 hRlt
      have hgg := grown_trans' hg hg1
      have h1 := h.row hgg hB hA
      obtain ⟨ad, y, rfl, hb, hy, hc⟩ := h1.at_ hlt
      by_cases hx1 : 1 < x
      · go_wp2_with (at_builtin; refine wpList_append_int _ rfl _ _ 22 rfl w.heap.size 3 Try.underlying22 intInfo _ _ _ _ y rfl ho1 rfl (by omega) hgg.size ?_; intro X2 a2 w2 ho2 hg2)
        have hR2 : ∀ g, blockOf X = some g → R < g := fun g hg => by have := (ho1.lt g hg).1; omega
        have hB2 : ∀ g, blockOf X = some g → w.heap.size ≤ g := fun g hg => (ho1.lt g hg).1
        go_roundw
        case rel => exact ⟨k + 1, m + 1, _, _, _, by omega, by go_num, rfl, by omega, ho2, hrd1.grown hg2 hR2, grown_new hgg hg2 hB2⟩
        case measure => simp [intOf]; omega
      · go_wp2_with fail
        go_roundw
        case rel => exact ⟨k + 1, m, _, _, _, by omega, by go_num, rfl, by omega, ho1, hrd1, hgg⟩
        case measure => simp [intOf]; omega
    · obtain rfl : k = n := by omega
      go_wp2_with fail
      go_ret
      exact ⟨_, _, _, _, rfl, ho, hmk, hrd, hg⟩

set_option maxHeartbeats 400000 in
theorem l92Order_any (R M : Nat) (w : World) (hr : Rd w R M) (hM : M ≤ 1099511627000) :
    Calls Try.prog 45 #[.pointer (some ⟨R, 0, none⟩)] w (DrawnI w R (M + 23) 10) := by
  have hRlt := hr.lt
  have HO := hid (OI.lit (w := w) (e := 3))
  go_enter Try.func45, Try.ntmps45
  go_wp2_with fail
  go_loopw [3, 4] (fun v i wr => ∃ (k m a : Nat) (X : Option Addr) (ys : List Int), k ≤ 10 ∧ i = .int .i64 k ∧ v = .slice X m a ∧ m ≤ k ∧ OI wr w.heap.size 3 X m a ys ∧ Rd wr R (M + 2 * k) ∧ w.grownBy wr (some R)) (fun _ i _ => 11 - (intOf i).toNat)
  case atStart => exact ⟨0, 0, 0, _, [], Nat.zero_le _, rfl, rfl, Nat.le_refl _, HO.out, Rd.below hr ((Below.refl w.heap.size w).alloc (Nat.le_refl _) _) hRlt, World.grownBy_alloc _ _ _⟩
  case round =>
    obtain ⟨k, m, a, X, ys, hk, rfl, rfl, hmk, ho, hrd, hg⟩ := hrel
    go_wp2_with fail
    refine (pick_any _ _ _ _ hrd (by omega) (by omega) (by omega)).mono ?_
    rintro e w1 ⟨x, rfl, hp, hrd1, hg1⟩
    have hp1 := hp.1
    have hp2 := hp.2.1 (by omega)
    clear hp
    have ho1 := ho.row hg1 hRlt
    have hgg := grown_trans' hg hg1
    by_cases hlt : (k : Int) < x
    · go_wp2_with fail
      refine (pick_any _ _ _ _ hrd1 (by omega) (by omega) (by omega)).mono ?_
      rintro e w2 ⟨y, rfl, _, hrd2, hg2⟩
      have ho2 := ho1.row hg2 hRlt
      have hgg2 := grown_trans' hgg hg2
      clear hgg hg1 hg2 ho ho1
      go_wp2_with fail
      refine (l1Has_any _ _ _ _ _ _ _ ho2.ri (by omega)).mono ?_
      rintro e w3 ⟨rfl, rfl⟩
      cases hh : has ys y
      · go_wp2_with (at_builtin; refine wpList_append_int _ rfl _ _ 22 rfl w.heap.size 3 Try.underlying22 intInfo _ _ _ _ y rfl ho2 rfl (by omega) hgg2.size ?_; intro X2 a2 w4 ho4 hg4)
        have hR2 : ∀ g, blockOf X = some g → R < g := fun g hg => by have := (ho2.lt g hg).1; omega
        have hB2 : ∀ g, blockOf X = some g → w.heap.size ≤ g := fun g hg => (ho2.lt g hg).1
        go_roundw
        case rel => exact ⟨k + 1, m + 1, _, _, _, by omega, by go_num, rfl, by omega, ho4, (hrd2.grown hg4 hR2).le (by omega), grown_new hgg2 hg4 hB2⟩
        case measure => simp [intOf]; omega
      · go_wp2_with fail
        go_roundw
        case rel => exact ⟨k + 1, m, _, _, _, by omega, by go_num, rfl, by omega, ho2, hrd2.le (by omega), hgg2⟩
        case measure => simp [intOf]; omega
    · go_wp2_with fail
      go_ret
      exact ⟨_, _, _, _, rfl, ho1, by omega, hrd1.le (by omega), hgg⟩
/-- Two new slices of ints. -/
def Drawn2 (w : World) (e : Ending) (w' : World) : Prop :=
  ∃ A n c xs A' n' c' xs', e = .returned (.tuple #[.slice A n c, .slice A' n' c']) ∧ SL w' A n c xs ∧ SL w' A' n' c' xs' ∧ n ≤ 10 ∧ n' ≤ 10 ∧ St w w'
set_option maxHeartbeats 400000 in
theorem DrawTraceFollows_any (A : Option Addr) (n c : Nat) (xs : List Nat) (w : World) (h : RB w w.heap.size A n xs) (hn : n ≤ 1048576) (hnc : n ≤ c) (hc : c ≤ maxLen) :
    Calls Try.prog 23 #[.slice A n c] w (Drawn2 w) := by
  go_enter Try.func23, Try.ntmps23
  go_wp2_with fail
  refine (l6Open_any _ _ _ _ _ h hn hnc hc).mono ?_
  rintro e w1 ⟨rfl, hr1, b1⟩
  have z1 := hr1.lt
  go_wp2_with fail
  refine (l92Order_any _ _ _ hr1 (by omega)).mono ?_
  rintro e w2 ⟨A2, n2, c2, xs2, rfl, ho2, hn2, hr2, hg2⟩
  have hlt2 : ∀ k, blockOf A2 = some k → k < w2.heap.size := fun k hk => (ho2.lt k hk).2
  have b2 : St w w2 := St.grown b1 hg2 (fun k hk => by injection hk with hk; omega)
  go_wp2_with fail
  refine (l92Trace_any _ _ _ _ _ _ _ _ hr2 (by omega) ho2.ri (by omega) (Nat.le_refl _) (fun e => by have := (ho2.lt _ e).1; omega)).mono ?_
  rintro e w3 ⟨A3, n3, c3, xs3, rfl, ho3, hn3, hr3, hg3⟩
  have b3 : St w w3 := St.grown b2 hg3 (fun k hk => by injection hk with hk; omega)
  have ho2 := ho2.row hg3 z1
  go_wp2_with fail
  refine (pick_any _ _ _ _ hr3 (by omega) (by omega) (by omega)).mono ?_
  rintro e w4 ⟨x, rfl, hp, hr4, hg4⟩
  have hp1 := hp.1
  have hp2 := hp.2.1 (by omega)
  clear hp
  have b4 : St w w4 := St.grown b3 hg4 (fun k hk => by injection hk with hk; omega)
  have ho2 := ho2.row hg4 z1
  have z3 := hg2.size
  have z4 : w.heap.size < w2.heap.size := hr2.lt
  have ho3 := ho3.row hg4 z4
  by_cases hx : x = 0
  · subst hx
    by_cases hn0 : n3 = 0
    · subst hn0
      go_wp2_with fail
      go_ret2
      exact ⟨_, _, _, _, _, _, _, _, rfl, ho3.sl, ho2.sl, by omega, by omega, b4⟩
    · have hni : (0 : Int) < (n3 : Int) := by omega
      go_wp2_with fail
      refine (pick_any _ _ _ _ hr4 (by omega) (by omega) (by omega)).mono ?_
      rintro e w5 ⟨y, rfl, hp, hr5, hg5⟩
      have hp1 := hp.1
      have hp2 := hp.2.1 (by omega)
      clear hp
      have b5 : St w w5 := St.grown b4 hg5 (fun k hk => by injection hk with hk; omega)
      have ho2 := ho2.row hg5 z1
      have ho3 := ho3.row hg5 z4
      go_wp2_with fail
      refine (pick_any _ _ _ _ hr5 (by omega) (by omega) (by omega)).mono ?_
      rintro e w6 ⟨v, rfl, _, hr6, hg6⟩
      have b6 : St w w6 := St.grown b5 hg6 (fun k hk => by injection hk with hk; omega)
      have ho2 := ho2.row hg6 z1
      have ho3 := ho3.row hg6 z4
      obtain ⟨y, rfl⟩ := Int.eq_ofNat_of_zero_le hp1
      obtain ⟨g, u, rfl, hb, hgl, hx', hc', hfz, hset⟩ := ho3.at_ (k := y) (by omega)
      obtain ⟨hs1, hs2⟩ := hset v
      clear hset
      have ho2' := hid (ho2.grown hs2 (fun k hk hA => by injection hk with hk; have := hlt2 _ hA; omega))
      go_wp2_with fail
      go_ret2
      exact ⟨_, _, _, _, _, _, _, _, rfl, hs1.out.sl, ho2'.out.sl, by omega, by omega, St.grown b6 hs2 (fun k hk => by injection hk with hk; omega)⟩
  · have hxi : (x == 0) = false := by simpa using hx
    go_wp2_with fail
    go_ret2
    exact ⟨_, _, _, _, _, _, _, _, rfl, ho3.sl, ho2.sl, by omega, by omega, b4⟩
end Go.Proofs.Ytfdgbbapbpflcaa
