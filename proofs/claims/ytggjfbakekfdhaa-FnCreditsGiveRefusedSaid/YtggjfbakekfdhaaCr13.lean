/- The reference's CreditsNew: what it makes is the call's own; the reader's row; credits without senders. -/
import Derived.Test.YtggjfbakekfdhaaCr12
import Derived.Test.YtggjfbakekfdhaaDraw
namespace Go.Proofs.Ytggjfbakekfdhaa
open Go.RowKit
set_option maxRecDepth 100000 in
set_option maxHeartbeats 2000000 in
theorem specCreditsNew_own (A : Option Addr) (n c : Nat) (xs : List Int) (s : Int) (w : World) (h : SL w A n c xs) (hn : n ≤ 1048576) (hok : (freeOk xs && inB s 1 6) = true) :
    Calls Try.prog 14 #[.slice A n c, .int .i64 s] w fun e w' => ∃ A' c' B' m' d', e = .returned (.tuple #[crV A' 5 c' B' m' d', .bool true]) ∧ (m' : Int) = s ∧ CrS w' w.heap.size A' 5 c' B' m' d' xs (List.replicate m' ([], -1)) ∧ St w w' := by
  simp only [Bool.and_eq_true] at hok
  obtain ⟨hf, hs⟩ := hok
  have hlen : xs.length = 5 := by simp [freeOk] at hf; exact hf.1
  obtain ⟨hs1, hs6⟩ := inB_iff.1 hs
  obtain ⟨sn, rfl⟩ := Int.eq_ofNat_of_zero_le (show 0 ≤ s by omega)
  have hn5 : n = 5 := by have := h.len; omega
  subst hn5
  have b1 := (St.refl w).alloc (.cells #[.slice none 0 0, .slice none 0 0] 25)
  have L1 := hid (Blk.new w 25 #[.slice none 0 0, .slice none 0 0])
  obtain ⟨W0, hW0⟩ : ∃ W0, W0 = w.alloc (.cells #[.slice none 0 0, .slice none 0 0] 25) := ⟨_, rfl⟩
  rw [← hW0] at b1 L1
  have HW := hid hW0
  have HZ := hid (show W0.heap.size = w.heap.size + 1 by rw [hW0]; simp)
  have h1 := hid (h.st b1)
  have h2 := hid ((h.st (b1.alloc (.cells #[] 3))).ri)
  have O1 := hid (OI.lit (w := W0) (e := 3))
  have S1 := hid b1
  clear hW0 b1 h
  go_enter Try.func14, Try.ntmps14
  go_wp2_with fail
  rw [← HW.out]
  refine (l22Free_any _ _ _ _ _ _ h1.out.ri (by omega)).mono ?_
  rintro e w1 ⟨rfl, rfl⟩
  rw [hf]
  go_wp2_with fail
  refine (l6In_any _ _ _ _).mono ?_
  rintro e w1 ⟨rfl, rfl⟩
  rw [hs]
  go_wp2_with (at_builtin; refine wpList_append_src _ rfl _ _ 22 rfl W0.heap.size 3 Try.underlying22 intInfo (some ⟨W0.heap.size, 0, none⟩) 0 0 [] (by first | rfl | (rw [HZ.out]; rfl)) O1.out _ A 5 c xs rfl h2.out (by omega) (by simp) ?_; intro A1 c1 w3 o3 g3; simp only [Nat.zero_add, List.nil_append] at o3)
  have s3 : St W0 w3 := ((St.refl W0).alloc (.cells #[] 3)).grown g3 (fun k hk => by simp only [blockOf, Option.map_some, Option.some.injEq] at hk; omega)
  have HG3 := hid (show w.heap.size < w3.heap.size by have := s3.le; have := HZ.out; omega)
  have S3 := hid (S1.out.trans s3)
  have L3 := hid (L1.out.st s3)
  have C3 := hid (CrS.nil (o3.less (show w.heap.size ≤ W0.heap.size by have := HZ.out; omega)))
  clear o3 g3 O1 h2 s3 S1 L1 h1 hf hs
  have t3 := (St.refl w3).alloc (.cells #[.slice A1 5 c1, .slice none 0 0] 25)
  have G4 := hid (Blk.new w3 25 #[.slice A1 5 c1, .slice none 0 0])
  have S4 := hid (S3.out.trans t3)
  have L4 := hid (L3.out.st t3)
  have C4 := hid (C3.out.st t3)
  clear S3 L3 C3 t3
  generalize w3.alloc (.cells #[.slice A1 5 c1, .slice none 0 0] 25) = w4 at G4 S4 L4 C4 ⊢
  go_loopw [7] (fun i wr => ∃ (k a : Nat) (X : Option Addr), k ≤ sn ∧ i = .int .i64 (k : Int) ∧ Hid (Blk wr w.heap.size 25 #[.slice none 0 0, .slice none 0 0]) ∧ Hid (Blk wr w3.heap.size 25 #[.slice A1 5 c1, .slice X k a]) ∧
    Hid (CrS wr w.heap.size A1 5 c1 X k a xs (List.replicate k ([], -1))) ∧ Hid (St w wr)) (fun i _ => sn - (intOf i).toNat)
  case atStart => exact ⟨0, 0, none, Nat.zero_le _, rfl, L4, G4, C4, S4⟩
  case round =>
    obtain ⟨wa, rfl⟩ : ∃ wo : World, wo = wr := ⟨_, rfl⟩
    obtain ⟨k, a, X, hk, rfl, L, G, Cc, S⟩ := hrel
    by_cases hlt : k < sn
    · have hki2 : (k : Int) < (sn : Int) := by omega
      have sa := (St.refl wa).alloc (.cells #[] 3)
      have C6 := hid (Cc.out.st sa)
      have L6 := hid (L.out.st sa)
      have G6 := hid (G.out.st sa)
      have S6 := hid (S.out.trans sa)
      have u5 := G.out.cell_ (i := 1) (v := .slice X k a) rfl
      have u6 := G6.out.cell_ (i := 1) (v := .slice X k a) rfl
      have oe := hid (OI.lit (w := wa) (e := 3))
      have HSZ := hid (show w.heap.size ≤ wa.heap.size from S.out.le)
      have ne6 : ∀ g, blockOf (some (⟨wa.heap.size, 0, none⟩ : Addr)) = some g → blockOf A1 ≠ some g := fun g hg hA => by have h7 := (Cc.out.bA hA).2; simp only [blockOf, Option.map_some, Option.some.injEq] at hg; omega
      have NE6 := hid ne6
      obtain ⟨vs, r1, r2, r3⟩ := C6.out.ro
      have r1 := hid r1
      have r3 := hid r3
      clear sa ne6
      go_wp2_with (at_builtin; refine wpList_append_el _ rfl _ _ 23 rfl w.heap.size 38 (.agg #[.slice none 0 0, .int .i64 0]) 2 32 Try.underlying23 holdInfo rfl (by decide) (by decide) X k a _ [.slice (some ⟨wa.heap.size, 0, none⟩) 0 0, .int .i64 (-1)] rfl (hold_one _ _ _ _) rfl r1.out _ rfl (by rw [World.heap_alloc_size']; rfl) (by omega) S6.out.le ?_; intro X3 a3 w7 o7 g7; have G7 := hid (G6.out.grown g7 (fun e => (C6.out.apart G6.out (by decide) (by decide)).2 e.symm)); have g71 := G7.out.cell_ (i := 1) (v := .slice X k a) rfl; have f71 := G7.out.frozen 1)
      have bX : ∀ g, blockOf X = some g → w.heap.size ≤ g := fun g hg => (C6.out.bB hg).1
      have C7 := hid (C6.out.push r2 r3.out r1.out o7 g7 (oe.out.less HSZ.out) NE6.out)
      have S7 := hid (S6.out.grown g7 bX)
      have L7 := hid (L6.out.grown g7 (fun e => (C6.out.apart L6.out (by decide) (by decide)).2 e.symm))
      have C8 := hid (C7.out.blk G7.out (by decide) (by decide) (World.grownBy_set w7 w3.heap.size 1 (.slice X3 (k + 1) a3)))
      have hG := HG3.out
      have S8 := hid (S7.out.setCell (p := ⟨w3.heap.size, 1, none⟩) (show w.heap.size ≤ w3.heap.size by omega) (.slice X3 (k + 1) a3))
      have G8 := hid (G7.out.set_ 1 (.slice X3 (k + 1) a3))
      have L8 := hid (L7.out.far (p := ⟨w3.heap.size, 1, none⟩) (show w.heap.size ≠ w3.heap.size by omega) (.slice X3 (k + 1) a3))
      have C9 : Hid (CrS (w7.setCell ⟨w3.heap.size, 1, none⟩ (.slice X3 (k + 1) a3)) w.heap.size A1 5 c1 X3 (k + 1) a3 xs (List.replicate (k + 1) ([], -1))) := by rw [List.replicate_succ']; exact C8
      clear C7 S7 L7 C6 S6 L6 G6 o7 g7 C8
      go_roundw
      case rel => exact ⟨k + 1, _, _, by omega, by go_num, L8, G8, C9, S8⟩
      case measure => simp [intOf]; omega
    · obtain rfl : k = sn := by omega
      have hki2 : ¬ ((k : Int) < (k : Int)) := by omega
      have g0 := G.out.cell_ (i := 0) (v := .slice A1 5 c1) rfl
      have g1 := G.out.cell_ (i := 1) (v := .slice X k a) rfl
      have frr0 := L.out.frozen 0
      have frr1 := L.out.frozen 1
      have qrr0 := L.out.cell_ (i := 0) (v := .slice none 0 0) rfl
      have qrr1 := L.out.cell_ (i := 1) (v := .slice none 0 0) rfl
      have Fr := ((L.out.set_ 0 (.slice A1 5 c1)).set_ 1 (.slice X k a))
      have r0 := Fr.cell_ (i := 0) (v := .slice A1 5 c1) rfl
      have r1 := Fr.cell_ (i := 1) (v := .slice X k a) rfl
      have S9 := hid ((S.out.setCell (p := ⟨w.heap.size, 0, none⟩) (by first | (simp; done) | omega | (simp; omega)) (.slice A1 5 c1)).setCell (p := ⟨w.heap.size, 1, none⟩) (by first | (simp; done) | omega | (simp; omega)) (.slice X k a))
      clear Fr
      have C9 := hid ((Cc.out.blk L.out (by decide) (by decide) (World.grownBy_set wa w.heap.size 0 (.slice A1 5 c1))).blk (L.out.set_ 0 (.slice A1 5 c1)) (by decide) (by decide) (World.grownBy_set _ w.heap.size 1 (.slice X k a)))
      go_wp2_with fail
      refine bodyPost_ret (v := .tuple #[crV A1 5 c1 X k a, .bool true]) (by simp [results, Try.results14, go_sem, r0, r1]) rfl ⟨_, _, _, _, _, rfl, rfl, C9.out, S9.out⟩
/-- Behind a write to the reader's row. -/
theorem CrS.row {w w' : World} {base n c m d R : Nat} {A B : Option Addr} {fs : List Int} {hs : List (List Int × Int)} (h : CrS w base A n c B m d fs hs) (hg : w.grownBy w' (some R)) (hR : R < base) : CrS w' base A n c B m d fs hs := by
  obtain ⟨vs, r1, hv, r2⟩ := h.ro
  refine ⟨h.fr.row hg hR, h.hl, vs, World.ownsRow.kept r1 hg (.inr fun e => ?_), hv, fun k hk => ?_⟩
  · have := (World.ownsRow.lt r1 R e).1
    omega
  · obtain ⟨Ak, nk, ck, xs, t, h7, h8, h9, h10⟩ := r2 k hk
    exact ⟨Ak, nk, ck, xs, t, h7, h8, h9.row hg hR, h10⟩
/-- The holds cut off. -/
theorem CrS.cut {w : World} {base n c m d : Nat} {A B : Option Addr} {fs : List Int} {hs : List (List Int × Int)} (h : CrS w base A n c B m d fs hs) : CrS w base A n c B 0 d fs [] := by
  obtain ⟨vs, r1, hv, r2⟩ := h.ro
  refine ⟨h.fr, rfl, [], ?_, rfl, fun k hk => by omega⟩
  refine ⟨rfl, ?_⟩
  rcases r1.2 with ⟨h1, _⟩ | ⟨g, cap, cur, h1, h2, h3, h4, h5, h6, _⟩
  · injection h1 with h1 h2 h3
    subst h1 h3
    exact .inl ⟨rfl, rfl⟩
  · injection h1 with h1 h7 h8
    subst h1 h8
    exact .inr ⟨g, _, cur, rfl, h2, h3, Nat.zero_le _, h5, h6, by simp [holdCells]⟩
theorem CrV.fit {fs : List Int} {hs : List (List Int × Int)} (v : CrV fs hs) : FitCr fs hs :=
  ⟨by have := v.f5; omega, by have := v.h6; omega, fun x hx => by have := (v.ho x hx).len; omega⟩
end Go.Proofs.Ytggjfbakekfdhaa
