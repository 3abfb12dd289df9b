/- The laws' own comparison of rounds, of two that read alike. -/
import Derived.Test.YtldclkjknhjbfaaKindRd
namespace Go.Proofs.Ytldclkjknhjbfaa
open Go.RowKit Go.Sort
theorem sameInts_same {A A' : Option Addr} {n c n' c' : Nat} {xs : List Int} {w : World} (h : SL w A n c xs) (h' : SL w A' n' c' xs) (hl : xs.length ≤ 1048576) :
    Calls Try.prog 31 #[.slice A n c, .slice A' n' c'] w fun e w' => e = .returned (.bool true) ∧ St w w' :=
  (sameInts_any A A' n c n' c' _ xs xs w h.ri h'.ri (by have := h.len; omega)).mono fun _ _ ⟨a, b⟩ => ⟨by rw [a]; simp [eqI], b.st⟩
set_option maxHeartbeats 1000000 in
theorem sameStamps_same {A A' : Option Addr} {n c n' c' : Nat} {ss : List (Int × Int)} {w : World} (h : SS w A n c ss) (h' : SS w A' n' c' ss) (hl : ss.length ≤ 1048576) :
    Calls Try.prog 66 #[.slice A n c, .slice A' n' c'] w fun e w' => e = .returned (.bool true) ∧ St w w' := by
  obtain rfl : n = n' := h.len.symm.trans h'.len
  have hn : n ≤ 1048576 := by have := h.len; omega
  go_enter Try.func66, Try.ntmps66
  go_wp2_with fail
  go_loopw [5] (fun i wr => ∃ k : Nat, k ≤ n ∧ i = .int .i64 k ∧ Hid (Dr w wr)) (fun i _ => n - (intOf i).toNat)
  case atStart => exact ⟨0, Nat.zero_le _, rfl, Dr.refl _⟩
  case round =>
    obtain ⟨k, hk, rfl, hd⟩ := hrel
    by_cases hlt : k < n
    · obtain ⟨ad, t, g, rfl, hb1, hc1, hc2, hx⟩ := (h.dr hd.out).at_ hlt
      obtain ⟨ad', t', g', rfl, hb1', hc1', hc2', hx'⟩ := (h'.dr hd.out).at_ hlt
      obtain ⟨rfl, rfl⟩ : t' = t ∧ g' = g := by
        have h1 := hx'.out
        rw [hx.out] at h1
        injection h1 with h1
        injection h1 with h1 h2
        exact ⟨h1.symm, h2.symm⟩
      have hki : (0 : Int) ≤ (k : Int) := by omega
      have hki2 : (k : Int) < (n : Int) := by omega
      go_wp2_with fail
      go_quiet (fail)
      go_wp2_with fail
      go_roundw
      case rel => exact ⟨k + 1, by omega, by go_num, hd.out.more _⟩
      case measure => simp [intOf]; omega
    · obtain rfl : k = n := by omega
      go_wp2_with fail
      go_ret
      exact ⟨rfl, hd.out.st⟩
set_option maxHeartbeats 1000000 in
theorem sameRound_same {M : Int} {A A' B B' : Option Addr} {n c n' c' m d m' d' : Nat} {xs : List Int} {ss : List (Int × Int)} {w : World} (h : RdRd w M A n c B m d xs ss) (h' : RdRd w M A' n' c' B' m' d' xs ss) (f : FitRd xs ss) :
    Calls Try.prog 29 #[rdV M A n c B m d, rdV M A' n' c' B' m' d'] w fun e w' => e = .returned (.bool true) ∧ St w w' := by
  have S0 := hid (((St.refl w).alloc (.cells #[.int .i64 M, .slice A n c, .slice B m d] 25)).alloc (.cells #[.int .i64 M, .slice A' n' c', .slice B' m' d'] 25))
  have K0 := hid ((Blk.new w 25 #[.int .i64 M, .slice A n c, .slice B m d]).alloc (.cells #[.int .i64 M, .slice A' n' c', .slice B' m' d'] 25))
  have K1 : Hid (Blk ((w.alloc (.cells #[.int .i64 M, .slice A n c, .slice B m d] 25)).alloc (.cells #[.int .i64 M, .slice A' n' c', .slice B' m' d'] 25)) (w.heap.size + 1) 25 #[.int .i64 M, .slice A' n' c', .slice B' m' d']) := by
    have := Blk.new (w.alloc (.cells #[.int .i64 M, .slice A n c, .slice B m d] 25)) 25 #[.int .i64 M, .slice A' n' c', .slice B' m' d']
    rw [World.heap_alloc_size'] at this; exact this
  have h1 := h.st S0.out
  have h1' := h'.st S0.out
  have F := hid f
  clear f
  go_enter Try.func29, Try.ntmps29
  go_wp2_with fail
  refine (sameInts_same h1.sl h1'.sl F.out.n).mono ?_
  rintro e w1 ⟨rfl, s1⟩
  have q2 := (K0.out.below s1 K0.out.lt).cell_ (i := 2) (v := .slice B m d) rfl
  have q2' := (K1.out.below s1 K1.out.lt).cell_ (i := 2) (v := .slice B' m' d') rfl
  have h2 := h1.st s1
  have h2' := h1'.st s1
  go_wp2_with fail
  refine (sameStamps_same h2.sh h2'.sh F.out.m).mono ?_
  rintro e w2 ⟨rfl, s2⟩
  go_wp2_with fail
  go_ret
  exact ⟨rfl, (S0.out.trans s1).trans s2⟩
end Go.Proofs.Ytldclkjknhjbfaa
