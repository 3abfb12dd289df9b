/- FnExactCreditsOrdered returns true. -/
import Derived.Test.YtggjfbakekfdhaaCr7
namespace Go.Proofs.Ytggjfbakekfdhaa
open Go.RowKit
set_option maxHeartbeats 2000000 in
theorem walkExactCreditsOrdered (A : Option Addr) (n c : Nat) (B : Option Addr) (m d : Nat) (fs : List Int) (hs : List (List Int × Int)) {w : World} (h : SL w A n c fs) (h' : SH w B m d hs) :
    Calls Try.prog 6 #[crV A n c B m d] w fun e w' => e = .returned (.bool true) ∧ Below w.heap.size w w' := by
  have s0 := (St.refl w).alloc (.cells #[.slice A n c, .slice B m d] 44)
  have HS0 := hid s0
  have K0 := hid (Blk.new w 44 #[.slice A n c, .slice B m d])
  have q0 := K0.out.cell_ (i := 0) (v := .slice A n c) rfl
  have q1 := K0.out.cell_ (i := 1) (v := .slice B m d) rfl
  have h1 := h.st s0
  have h1' := h'.st s0
  clear s0
  by_cases hz : szC 1048576 fs hs < 0
  · go_enter Try.func6, Try.ntmps6
    go_wp2_with fail
    refine (szCredits_any _ _ _ _ _ _ _ _ _ _ h1 h1' (by omega) (by omega)).mono ?_
    rintro e w1 ⟨rfl, s1⟩
    go_wp2_with fail
    go_ret
    exact ⟨rfl, HS0.out.trans s1⟩
  obtain ⟨b1, b2, b3⟩ := szC_bound (show 0 ≤ szC 1048576 fs hs by omega)
  rw [h.len] at b1
  rw [h'.len] at b2
  have hn : n ≤ 1048576 := by omega
  have hm : m ≤ 1048576 := by omega
  have HN2 := hid (show ∀ x ∈ hs, x.1.length ≤ 1048576 from fun x hx => by have := b3 x hx; omega)
  clear b1 b2 b3
  go_enter Try.func6, Try.ntmps6
  go_wp2_with fail
  refine (szCredits_any _ _ _ _ _ _ _ _ _ _ h1 h1' (by omega) (by omega)).mono ?_
  rintro e w1 ⟨rfl, s1⟩
  have HS1 := hid (HS0.out.trans s1)
  have K1 := hid (K0.out.below s1 K0.out.lt)
  clear h1 h1' HS0 K0 s1 q0 q1
  have q0 := K1.out.cell_ (i := 0) (v := .slice A n c) rfl
  have q1 := K1.out.cell_ (i := 1) (v := .slice B m d) rfl
  go_wp2_with fail
  refine (toCredits_any _ _ _ _ _ _ _ _ _ (h.st HS1.out) (h'.st HS1.out) hn hm HN2.out).mono ?_
  rintro e w2 ⟨A2, c2, B2, d2, rfl, o2, p2, s2⟩
  have HS2 := hid (HS1.out.trans s2)
  have K2 := hid (K1.out.below s2 K1.out.lt)
  clear HS1 K1 s2 q0 q1
  go_wp2_with fail
  refine (specCreditsOrdered_any _ _ _ _ _ _ _ _ _ o2.sl p2.sh hn HN2.out).mono ?_
  rintro e w3 ⟨rfl, s3⟩
  have HS3 := hid (HS2.out.trans s3)
  have K3 := hid (K2.out.below s3 K2.out.lt)
  clear HS2 K2 s3 o2 p2
  have q0 := K3.out.cell_ (i := 0) (v := .slice A n c) rfl
  have q1 := K3.out.cell_ (i := 1) (v := .slice B m d) rfl
  go_wp2_with fail
  refine (toCredits_any _ _ _ _ _ _ _ _ _ (h.st HS3.out) (h'.st HS3.out) hn hm HN2.out).mono ?_
  rintro e w4 ⟨A4, c4, B4, d4, rfl, o4, p4, s4⟩
  have HS4 := hid ((HS3.out.trans s4).alloc (.cells #[.slice A4 n c4, .slice B4 m d4] 25))
  have K4 := hid ((K3.out.below s4 K3.out.lt).alloc (.cells #[.slice A4 n c4, .slice B4 m d4] 25))
  have L4 := hid (Blk.new w4 25 #[.slice A4 n c4, .slice B4 m d4])
  have t4 := (St.refl w4).alloc (.cells #[.slice A4 n c4, .slice B4 m d4] 25)
  have H4 := hid (o4.sl.st t4)
  have H4' := hid (p4.sh.st t4)
  clear HS3 K3 s4 o4 p4 q0 q1 t4
  go_wp2_with fail
  generalize w4.alloc (.cells #[.slice A4 n c4, .slice B4 m d4] 25) = W4 at HS4 K4 L4 H4 H4' ⊢
  have q0 := L4.out.cell_ (i := 0) (v := .slice A4 n c4) rfl
  have q1 := L4.out.cell_ (i := 1) (v := .slice B4 m d4) rfl
  go_wp2_with fail
  refine (CreditsOrdered_any _ _ _ _ _ _ _ _ _ H4.out H4'.out hn HN2.out).mono ?_
  rintro e w5 ⟨rfl, s5⟩
  have HS5 := hid (HS4.out.trans s5)
  have K5 := hid (K4.out.below s5 K4.out.lt)
  have L5 := hid (L4.out.below s5 L4.out.lt)
  have H5 := hid (H4.out.st s5)
  have H5' := hid (H4'.out.st s5)
  clear HS4 K4 L4 H4 H4' s5 q0 q1
  have q0 := K5.out.cell_ (i := 0) (v := .slice A n c) rfl
  have q1 := K5.out.cell_ (i := 1) (v := .slice B m d) rfl
  have r0 := L5.out.cell_ (i := 0) (v := .slice A4 n c4) rfl
  have r1 := L5.out.cell_ (i := 1) (v := .slice B4 m d4) rfl
  have hrr : (crOrd fs hs == crOrd fs hs) = true := by simp
  go_wp2_with fail
  go_region_held3 (fun w' => w'.cell? ⟨w4.heap.size, 0, none⟩ = some (.slice A4 n c4) ∧ w'.cell? ⟨w4.heap.size, 1, none⟩ = some (.slice B4 m d4) ∧ w'.cell? ⟨w.heap.size, 0, none⟩ = some (.slice A n c) ∧ w'.cell? ⟨w.heap.size, 1, none⟩ = some (.slice B m d)) (first | go_keep | exact ⟨s6.cell r0, s6.cell r1, s6.cell q0, s6.cell q1⟩ | exact ⟨s7.cell (s6.cell r0), s7.cell (s6.cell r1), s7.cell (s6.cell q0), s7.cell (s6.cell q1)⟩)
    (first
    | (go_at_call 29; refine (toCredits_any _ _ _ _ _ _ _ _ _ (h.st ((HS5.out).trans (Dr.st ⟨1, rfl⟩))) (h'.st ((HS5.out).trans (Dr.st ⟨1, rfl⟩))) hn hm HN2.out).mono ?_; rintro e w6 ⟨A6, c6, B6, d6, rfl, o6, p6, s6⟩; have s56 := St.trans (Dr.st ⟨1, rfl⟩) s6)
    | (go_at_call 17; refine (eqCredits_same _ _ _ _ _ _ _ _ _ _ _ _ _ _ _ (H5.out.st s56) (H5'.out.st s56) o6.sl p6.sh hn hm HN2.out).mono ?_; rintro e w7 ⟨rfl, s7⟩))
  go_wp2_with fail
  go_ret
  exact ⟨rfl, (HS5.out.trans s56).trans s7⟩
end Go.Proofs.Ytggjfbakekfdhaa
