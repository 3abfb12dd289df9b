/- The reader of a code: l6Open and pick. -/
import Derived.Test.YtkhgemgmnchodaaInts
import Derived.Laws.BitsAllLaws
import Derived.Laws.BitsLemmas
import Derived.IntWalk
namespace Go.Proofs.Ytkhgemgmnchodaa
open Go.RowKit

/-- The reader at block R: it has read at most M times. -/
def Rd (w : World) (R M : Nat) : Prop := ∃ (A : Option Addr) (n c p : Nat) (xs : List Nat), p ≤ M ∧ n ≤ 2000 ∧ RB w R A n xs ∧ Blk w R 81 #[.slice A n c, .int .i64 (p : Int)]
theorem Rd.le {w : World} {R M M' : Nat} (h : Rd w R M) (hM : M ≤ M') : Rd w R M' := by
  obtain ⟨A, n, c, p, xs, h1, h2⟩ := h
  exact ⟨A, n, c, p, xs, by omega, h2⟩
theorem Rd.lt {w : World} {R M : Nat} (h : Rd w R M) : R < w.heap.size := by
  obtain ⟨A, n, c, p, xs, _, _, _, h⟩ := h
  exact h.lt
theorem Rd.dr {w w' : World} {R M : Nat} (h : Rd w R M) (hd : Dr w w') : Rd w' R M := by
  obtain ⟨A, n, c, p, xs, h1, h2, h3, h4⟩ := h
  exact ⟨A, n, c, p, xs, h1, h2, h3.dr hd, h4.dr hd⟩
theorem Rd.below {w w' : World} {B R M : Nat} (h : Rd w R M) (hb : Below B w w') (hR : R < B) : Rd w' R M := by
  obtain ⟨A, n, c, p, xs, h1, h2, h3, h4⟩ := h
  exact ⟨A, n, c, p, xs, h1, h2, h3.below (hb.mono (by omega)), h4.below hb hR⟩
theorem Rd.grown {w w' : World} {R M : Nat} {row : Option Nat} (h : Rd w R M) (hg : w.grownBy w' row) (hr : ∀ k, row = some k → R < k) : Rd w' R M := by
  have hlt := h.lt
  obtain ⟨A, n, c, p, xs, h1, h2, h3, h4⟩ := h
  refine ⟨A, n, c, p, xs, h1, h2, ⟨h3.1, Reads.grown h3.2 hg (by omega) fun k hk => by have := hr k hk; omega⟩, h4.grown hg fun e => by have := hr R e.symm; omega⟩

theorem xor_nat (a b : Nat) (ha : a < 9223372036854775808) (hb : b < 9223372036854775808) : bits .xor .i64 (a : Int) (b : Int) = ((a ^^^ b : Nat) : Int) := by
  have hof : ∀ a : Nat, a < 9223372036854775808 → (BitVec.ofInt 64 (a : Int)).toNat = a := fun a ha => by
    rw [BitVec.ofInt_natCast, BitVec.toNat_ofNat]; exact Nat.mod_eq_of_lt (by omega)
  have hx : a ^^^ b < 2 ^ 63 := Nat.xor_lt_two_pow (by omega) (by omega)
  show IntKind.i64.wrap ((BitVec.ofInt 64 (a : Int) ^^^ BitVec.ofInt 64 (b : Int)).toNat : Int) = _
  rw [BitVec.toNat_xor, hof a ha, hof b hb, IntKind.wrap_i64]
  omega

/-- What pick returns. -/
def Picked (k x : Int) : Prop := 0 ≤ x ∧ (1 ≤ k → x < k) ∧ (k < 1 → x = 0)
/-- The end of a call of pick. -/
def PickEnd (w : World) (R M : Nat) (k : Int) (e : Ending) (w' : World) : Prop := ∃ x : Int, e = .returned (.int .i64 x) ∧ Picked k x ∧ Rd w' R (M + 1) ∧ w.grownBy w' (some R)
set_option maxRecDepth 100000 in
set_option maxHeartbeats 1000000 in
theorem pick_any (R M : Nat) (k : Int) (w : World) (h : Rd w R M) (hM : M ≤ 1099511627776) (hk : -9223372036854775808 ≤ k) (hk' : k ≤ 9223372036854775807) :
    Calls Try.prog 46 #[.pointer (some ⟨R, 0, none⟩), .int .i64 k] w (PickEnd w R M k) := by
  obtain ⟨A, n, c, p, xs, hp, hn, hb, hblk⟩ := h
  have hc0 := hblk.cell_ (i := 0) (v := .slice A n c) rfl
  have hc1 := hblk.cell_ (i := 1) (v := .int .i64 p) rfl
  have hfz := hblk.frozen 1
  have hset := hblk.set_ 1 (.int .i64 ((p : Int) + 1))
  have hend : ∀ d x, Dr (w.setCell ⟨R, 1, none⟩ (.int .i64 ((p : Int) + 1))) d → Picked k x → PickEnd w R M k (.returned (.int .i64 x)) d := by
    intro d x hd hx
    have hg : w.grownBy (w.setCell ⟨R, 1, none⟩ (.int .i64 ((p : Int) + 1))) (some R) := ⟨rfl, rfl, rfl, by simp [World.setCell], fun i _ hne => Below.heap_setCell _ _ _ _ (fun e => hne (by rw [e]))⟩
    refine ⟨x, rfl, hx, Rd.dr ⟨A, n, c, p + 1, xs, by omega, hn, ⟨hb.1, Reads.setCell hb.2 (by simp) _⟩, by simpa using hset⟩ hd, grown_dr hg hd⟩
  have HE := hid hend
  have hc1' : (w.setCell ⟨R, 1, none⟩ (.int .i64 ((p : Int) + 1))).cell? ⟨R, 1, none⟩ = some (.int .i64 ((p : Int) + 1)) := hset.cell_ rfl
  have hc0' : (w.setCell ⟨R, 1, none⟩ (.int .i64 ((p : Int) + 1))).cell? ⟨R, 0, none⟩ = some (.slice A n c) := hset.cell_ rfl
  have hb' : RB (w.setCell ⟨R, 1, none⟩ (.int .i64 ((p : Int) + 1))) R A n xs := ⟨hb.1, Reads.setCell hb.2 (by simp) _⟩
  clear hblk hend hset hb
  by_cases hk1 : k < 1
  · have hx : Picked k 0 := ⟨by omega, by omega, by omega⟩
    have HX := hid hx
    clear hx
    go_enter Try.func46, Try.ntmps46
    go_wp2
    go_ret
    exact HE.out _ _ (Dr.refl _) HX.out
  by_cases hn0 : n = 0
  · subst hn0
    have hx : Picked k 0 := ⟨by omega, by omega, by omega⟩
    have HX := hid hx
    clear hx
    go_enter Try.func46, Try.ntmps46
    go_wp2
    go_ret
    exact HE.out _ _ (Dr.refl _) HX.out
  have hnz : ((n : Int) == 0) = false := by simp; omega
  by_cases hpn : p < n
  · obtain ⟨ad, x, rfl, hb1, hx, hc⟩ := hb'.at_ hpn
    have hm : Picked k ((x : Int) % k) := ⟨Int.emod_nonneg _ (by omega), fun _ => Int.emod_lt_of_pos _ (by omega), by omega⟩
    have HX := hid hm
    clear hm
    go_enter Try.func46, Try.ntmps46
    go_wp2
    go_ret
    exact HE.out _ _ (Dr.refl _) HX.out
  · obtain ⟨a, q1, la⟩ : ∃ a : Nat, (p : Int) % (n : Int) = (a : Int) ∧ a < n := ⟨p % n, by simp, Nat.mod_lt _ (by omega)⟩
    obtain ⟨b, q2, lb⟩ : ∃ b : Nat, ((p : Int) * 7 + 3) % (n : Int) = (b : Int) ∧ b < n := ⟨(p * 7 + 3) % n, by simp, Nat.mod_lt _ (by omega)⟩
    obtain ⟨d, q3, ld⟩ : ∃ d : Nat, (p : Int) / (n : Int) = (d : Int) ∧ d ≤ p := ⟨p / n, by simp, Nat.div_le_self _ _⟩
    have t1 : (p : Int).tmod (n : Int) = (a : Int) := by rw [Int.tmod_eq_emod_of_nonneg (by omega), q1]
    have t2 : ((p : Int) * 7 + 3).tmod (n : Int) = (b : Int) := by rw [Int.tmod_eq_emod_of_nonneg (by omega), q2]
    have t3 : (p : Int).tdiv (n : Int) = (d : Int) := by rw [Int.tdiv_eq_ediv_of_nonneg (by omega), q3]
    obtain ⟨ad, x, rfl, hb1, hx, hc⟩ := hb'.at_ la
    obtain ⟨ad, y, h1, hb2, hy, hc'⟩ := hb'.at_ lb
    cases h1
    have v10 : IntKind.i64.wrap (x : Int) = (x : Int) := IntWalk.i64_in _ (by omega)
    have v11 : IntKind.i64.wrap (y : Int) = (y : Int) := IntWalk.i64_in _ (by omega)
    have v12 : IntKind.i64.wrap (d : Int) = (d : Int) := IntWalk.i64_in _ (by omega)
    have v1 : IntKind.i64.wrap ((p : Int) * 7) = (p : Int) * 7 := IntWalk.i64_in _ (by omega)
    have v2 : IntKind.i64.wrap ((p : Int) * 7 + 3) = (p : Int) * 7 + 3 := IntWalk.i64_in _ (by omega)
    have v3 : IntKind.i64.wrap ((x : Int) * 131) = (x : Int) * 131 := IntWalk.i64_in _ (by omega)
    have v4 : IntKind.i64.wrap ((y : Int) * 1117) = (y : Int) * 1117 := IntWalk.i64_in _ (by omega)
    have v5 : IntKind.i64.wrap ((x : Int) * 131 + (y : Int) * 1117) = (x : Int) * 131 + (y : Int) * 1117 := IntWalk.i64_in _ (by omega)
    have v6 : IntKind.i64.wrap ((p : Int) * 29) = (p : Int) * 29 := IntWalk.i64_in _ (by omega)
    have v7 : IntKind.i64.wrap ((x : Int) * 131 + (y : Int) * 1117 + (p : Int) * 29) = (x : Int) * 131 + (y : Int) * 1117 + (p : Int) * 29 := IntWalk.i64_in _ (by omega)
    have v8 : IntKind.i64.wrap ((d : Int) * 53) = (d : Int) * 53 := IntWalk.i64_in _ (by omega)
    obtain ⟨T, v9, hT⟩ : ∃ T : Nat, IntKind.i64.wrap ((x : Int) * 131 + (y : Int) * 1117 + (p : Int) * 29 + (d : Int) * 53) = (T : Int) ∧ T < 1152921504606846976 :=
      ⟨x * 131 + y * 1117 + p * 29 + d * 53, by rw [IntWalk.i64_in _ (by omega)]; omega, by omega⟩
    obtain ⟨z, hz⟩ : ∃ z : Nat, bits .xor .i64 (T : Int) ((T : Int) / 64) = (z : Int) := ⟨T ^^^ (T / 64), by
      have := xor_nat T (T / 64) (by omega) (by omega)
      rw [show ((T / 64 : Nat) : Int) = (T : Int) / 64 by omega] at this
      exact this⟩
    have hx : Picked k ((z : Int) % k) := ⟨Int.emod_nonneg _ (by omega), fun _ => Int.emod_lt_of_pos _ (by omega), by omega⟩
    have HX := hid hx
    clear hx
    go_enter Try.func46, Try.ntmps46
    go_wp2
    refine wp_region_quiet_lit (by kernel_rfl) (by kernel_rfl) ?_
    repeat (quiet_step (fail))
    refine wpQuiet_nil ?_
    rintro w2 ⟨q, rfl⟩
    clear q1 q2 q3 t1 t2 t3 v1 v2 v3 v4 v5 v6 v7 v8 v9 v10 v11 v12
    go_wp2
    go_ret
    exact HE.out _ _ ⟨q, rfl⟩ HX.out

theorem l6Open_any (A : Option Addr) (n c : Nat) (xs : List Nat) (w : World) (h : RB w w.heap.size A n xs) (hn : n ≤ 1048576) (hnc : n ≤ c) (hc : c ≤ maxLen) :
    Calls Try.prog 36 #[.slice A n c] w fun e w' => e = .returned (.pointer (some ⟨w.heap.size, 0, none⟩)) ∧ Rd w' w.heap.size 0 ∧ Below w.heap.size w w' := by
  have HC := hid hc
  clear hc
  by_cases h2 : 2000 < n
  · have h2i : (2000 : Int) < (n : Int) := by omega
    have h3 : (2000 : Int) ≤ (c : Int) := by omega
    have hend : Rd (w.alloc (.cells #[.slice A 2000 c, .int .i64 0] 81)) w.heap.size 0 :=
      ⟨A, 2000, c, 0, xs.take 2000, Nat.le_refl _, Nat.le_refl _, ⟨(h.upto (by omega)).1, Reads.alloc (h.upto (by omega)).2 (Nat.le_refl _) _⟩, Blk.new _ _ _⟩
    have HE := hid hend
    clear hend
    go_enter Try.func36, Try.ntmps36
    go_wp2
    go_ret
    exact ⟨rfl, HE.out, (Below.refl _ _).alloc (Nat.le_refl _) _⟩
  · have h2i : ¬ (2000 : Int) < (n : Int) := by omega
    have hend : Rd (w.alloc (.cells #[.slice A n c, .int .i64 0] 81)) w.heap.size 0 :=
      ⟨A, n, c, 0, xs, Nat.le_refl _, by omega, ⟨h.1, Reads.alloc h.2 (Nat.le_refl _) _⟩, Blk.new _ _ _⟩
    have HE := hid hend
    clear hend
    go_enter Try.func36, Try.ntmps36
    go_wp2
    go_ret
    exact ⟨rfl, HE.out, (Below.refl _ _).alloc (Nat.le_refl _) _⟩
/-- A slice that a drawing function returns: new, of at most L ints. -/
def DrawnI (w : World) (R M L : Nat) (e : Ending) (w' : World) : Prop :=
  ∃ A n c xs, e = .returned (.slice A n c) ∧ OI w' w.heap.size 3 A n c xs ∧ n ≤ L ∧ Rd w' R M ∧ w.grownBy w' (some R)
end Go.Proofs.Ytkhgemgmnchodaa
