/- Credits copied (the reference); the union of two sets. -/
import Derived.Test.YtggjfbakekfdhaaCr8
import Derived.RegionTactic
import Derived.Deep.RegionHeld3
namespace Go.Proofs.Ytggjfbakekfdhaa
open Go.RowKit
set_option maxHeartbeats 1000000 in
theorem l1Union_any (A B : Option Addr) (n c m d : Nat) (xs ys : List Int) (w : World) (h : SL w A n c xs) (h' : SL w B m d ys) (hn : n ≤ 1048576) (hm : m ≤ 1048576) :
    Calls Try.prog 76 #[.slice A n c, .slice B m d] w (MadeI w (pickedC (fun x => has xs x || has ys x) 5)) := by
  have O0 := hid (OI.lit (w := w) (e := 3))
  have S0 := hid ((St.refl w).alloc (.cells #[] 3))
  go_enter Try.func76, Try.ntmps76
  go_wp2_with fail
  generalize w.alloc (.cells #[] 3) = w1 at O0 S0 ⊢
  go_loopw [6, 5] (fun i v wr => ∃ (k nl a : Nat) (X : Option Addr), k ≤ 5 ∧ i = .int .i64 (k : Int) ∧ v = .slice X nl a ∧ nl ≤ k ∧ Hid (OI wr w.heap.size 3 X nl a (pickedC (fun x => has xs x || has ys x) k)) ∧ Hid (St w wr)) (fun i _ _ => 5 - (intOf i).toNat)
  case atStart => exact ⟨0, 0, 0, _, Nat.zero_le _, rfl, rfl, Nat.le_refl _, O0, S0⟩
  case round =>
    obtain ⟨wa, rfl⟩ : ∃ wo : World, wo = wr := ⟨_, rfl⟩
    obtain ⟨k, nl, a, X, hk, rfl, rfl, hnl, ho, hd⟩ := hrel
    have hle := hd.out.le
    by_cases hlt : k < 5
    · have hi : (k : Int) < 5 := by omega
      have HP := hid (pickedC_succ (fun x => has xs x || has ys x) k)
      have r1 := hid (h.st hd.out)
      have r2 := hid (h'.st hd.out)
      go_wp2_with fail
      refine (l1Has_any _ _ _ _ _ _ _ r1.out.ri (by omega)).mono ?_
      rintro e w2 ⟨rfl, rfl⟩
      cases h1 : has xs (k : Int)
      · go_wp2_with fail
        refine (l1Has_any _ _ _ _ _ _ _ r2.out.ri (by omega)).mono ?_
        rintro e w2 ⟨rfl, rfl⟩
        cases h2 : has ys (k : Int)
        · have HQ := hid (HP.out.trans (by rw [h1, h2]; simp : _ = pickedC (fun x => has xs x || has ys x) k))
          have o3 : Hid (OI wa w.heap.size 3 X nl a (pickedC (fun x => has xs x || has ys x) (k + 1))) := by rw [HQ.out]; exact ho
          go_wp2_with fail
          go_roundw
          case rel => exact ⟨k + 1, nl, a, X, by omega, by go_num, rfl, by omega, o3, hd⟩
          case measure => simp [intOf]; omega
        · have HQ := hid (HP.out.trans (by rw [h1, h2]; rfl : _ = pickedC (fun x => has xs x || has ys x) k ++ [(k : Int)]))
          have oa := ho.out
          go_wp2_with (at_builtin; refine wpList_append_int _ rfl _ _ 22 rfl w.heap.size 3 Try.underlying22 intInfo _ _ _ _ (k : Int) rfl oa rfl (by omega) hle ?_; intro X2 a2 w3 ho3 hg3)
          have o3 : Hid (OI w3 w.heap.size 3 X2 (nl + 1) a2 (pickedC (fun x => has xs x || has ys x) (k + 1))) := by rw [HQ.out]; exact ho3
          have S3 := hid (hd.out.grown hg3 (fun g hg => (oa.lt g hg).1))
          go_roundw
          case rel => exact ⟨k + 1, nl + 1, _, _, by omega, by go_num, rfl, by omega, o3, S3⟩
          case measure => simp [intOf]; omega
      · have HQ := hid (HP.out.trans (by rw [h1]; rfl : _ = pickedC (fun x => has xs x || has ys x) k ++ [(k : Int)]))
        have oa := ho.out
        go_wp2_with (at_builtin; refine wpList_append_int _ rfl _ _ 22 rfl w.heap.size 3 Try.underlying22 intInfo _ _ _ _ (k : Int) rfl oa rfl (by omega) hle ?_; intro X2 a2 w3 ho3 hg3)
        have o3 : Hid (OI w3 w.heap.size 3 X2 (nl + 1) a2 (pickedC (fun x => has xs x || has ys x) (k + 1))) := by rw [HQ.out]; exact ho3
        have S3 := hid (hd.out.grown hg3 (fun g hg => (oa.lt g hg).1))
        go_roundw
        case rel => exact ⟨k + 1, nl + 1, _, _, by omega, by go_num, rfl, by omega, o3, S3⟩
        case measure => simp [intOf]; omega
    · obtain rfl : k = 5 := by omega
      go_wp2_with fail
      go_ret
      have e2 := ho.out.len
      refine ⟨X, a, ?_, ?_, hd.out⟩
      · rw [e2]; rfl
      · rw [e2]; exact ho.out
/-- What copying a hold's list makes of the world. -/
theorem cp1 {wr w4 : World} {Ak X2 : Option Addr} {nk ck a2 : Nat} {t : Int} {xs : List Int} (hg : ((wr.alloc (.cells #[.slice Ak nk ck, .int .i64 t] 38)).alloc (.cells #[] 3)).grownBy w4 (blockOf (some ⟨wr.heap.size + 1, 0, none⟩)))
    (ho : OI w4 (wr.heap.size + 1) 3 X2 nk a2 xs) :
    Hid (Blk w4 wr.heap.size 38 #[.slice Ak nk ck, .int .i64 t]) ∧ Hid (St wr w4) ∧ Hid (St wr (w4.setCell ⟨wr.heap.size, 0, none⟩ (.slice X2 nk a2))) ∧ Hid (Blk (w4.setCell ⟨wr.heap.size, 0, none⟩ (.slice X2 nk a2)) wr.heap.size 38 #[.slice X2 nk a2, .int .i64 t]) ∧
      Hid (OI (w4.setCell ⟨wr.heap.size, 0, none⟩ (.slice X2 nk a2)) (wr.heap.size + 1) 3 X2 nk a2 xs) := by
  have s : St wr ((wr.alloc (.cells #[.slice Ak nk ck, .int .i64 t] 38)).alloc (.cells #[] 3)) := ((St.refl wr).alloc _).alloc _
  have b := (Blk.new wr 38 #[.slice Ak nk ck, .int .i64 t]).alloc (.cells #[] 3)
  have b4 := b.grown hg (fun e => by injection e with e; simp at e)
  have s4 : St wr w4 := s.grown hg (fun k hk => by simp only [blockOf, Option.map_some, Option.some.injEq] at hk; omega)
  refine ⟨b4, s4, s4.setCell (p := ⟨wr.heap.size, 0, none⟩) (Nat.le_refl _) _, b4.set_ 0 _, ho.grown (World.grownBy_set w4 wr.heap.size 0 _) (fun k hk hA => ?_)⟩
  injection hk with hk
  have := (ho.lt k hA).1
  omega
set_option maxRecDepth 100000 in
set_option maxHeartbeats 4000000 in
theorem l22Copy_any (A B : Option Addr) (n c m d : Nat) (fs : List Int) (hs : List (List Int × Int)) (w : World) (h : RdCr w A n c B m d fs hs) (f : FitCr fs hs) :
    Calls Try.prog 65 #[crV A n c B m d] w fun e w' => ∃ A' c' B' d', e = .returned (crV A' n c' B' m d') ∧ CrS w' w.heap.size A' n c' B' m d' fs hs ∧ St w w' := by
  have hn : n ≤ 1048576 := by have := h.sl.len; have := f.n; omega
  have hm : m ≤ 1048576 := by have := h.sh.len; have := f.m; omega
  have HL := hid h.sh.len
  have F := hid f
  have s0 := ((St.refl w).alloc (.cells #[.slice A n c, .slice B m d] 25)).alloc (.cells #[.slice none 0 0, .slice none 0 0] 25)
  have K0 := hid ((Blk.new w 25 #[.slice A n c, .slice B m d]).alloc (.cells #[.slice none 0 0, .slice none 0 0] 25))
  have L0 := hid (show Blk ((w.alloc (.cells #[.slice A n c, .slice B m d] 25)).alloc (.cells #[.slice none 0 0, .slice none 0 0] 25)) (w.heap.size + 1) 25 #[.slice none 0 0, .slice none 0 0] by
    have := Blk.new (w.alloc (.cells #[.slice A n c, .slice B m d] 25)) 25 #[.slice none 0 0, .slice none 0 0]
    rwa [World.heap_alloc_size'] at this)
  obtain ⟨W0, hW0⟩ : ∃ W0, W0 = (w.alloc (.cells #[.slice A n c, .slice B m d] 25)).alloc (.cells #[.slice none 0 0, .slice none 0 0] 25) := ⟨_, rfl⟩
  rw [← hW0] at s0 K0 L0
  have HZ := hid (show W0.heap.size = w.heap.size + 2 by rw [hW0]; simp)
  have S0 := hid s0
  have h2 := hid ((h.sl.st (s0.alloc (.cells #[] 3))).ri)
  have K1 := hid (K0.out.alloc (.cells #[] 3))
  have O1 := hid (OI.lit (w := W0) (e := 3))
  have q0 := K1.out.cell_ (i := 0) (v := .slice A n c) rfl
  have HW := hid hW0
  clear hW0 s0
  go_enter Try.func65, Try.ntmps65
  go_wp2_with (at_builtin; rw [← HW.out]; refine wpList_append_src _ rfl _ _ 22 rfl W0.heap.size 3 Try.underlying22 intInfo (some ⟨W0.heap.size, 0, none⟩) 0 0 [] (by rw [HZ.out]; rfl) O1.out _ A n c fs rfl h2.out (by omega) (by simp) ?_; intro A1 c1 w3 o3 g3; simp only [Nat.zero_add, List.nil_append] at o3)
  have s3 : St W0 w3 := ((St.refl W0).alloc (.cells #[] 3)).grown g3 (fun k hk => by simp only [blockOf, Option.map_some, Option.some.injEq] at hk; omega)
  have HG3 := hid (show w.heap.size + 1 < w3.heap.size by have := s3.le; have := HZ.out; omega)
  have S3 := hid (S0.out.trans s3)
  have K3 := hid (K0.out.st s3)
  have L3 := hid (L0.out.st s3)
  have C3 := hid (CrS.nil (o3.less (show w.heap.size ≤ W0.heap.size by have := HZ.out; omega)))
  clear o3 g3 K1 O1 h2 q0 s3 S0 K0 L0
  have t3 := (St.refl w3).alloc (.cells #[.slice A1 n c1, .slice none 0 0] 25)
  have G4 := hid (Blk.new w3 25 #[.slice A1 n c1, .slice none 0 0])
  have S4 := hid (S3.out.trans t3)
  have K4 := hid (K3.out.st t3)
  have L4 := hid (L3.out.st t3)
  have C4 := hid (C3.out.st t3)
  clear S3 K3 L3 C3 t3
  generalize w3.alloc (.cells #[.slice A1 n c1, .slice none 0 0] 25) = w4 at G4 S4 K4 L4 C4 ⊢
  go_loopw [4] (fun i wr => ∃ (k a : Nat) (X : Option Addr), k ≤ m ∧ i = .int .i64 (k : Int) ∧ Hid (Blk wr w.heap.size 25 #[.slice A n c, .slice B m d]) ∧ Hid (Blk wr (w.heap.size + 1) 25 #[.slice none 0 0, .slice none 0 0]) ∧ Hid (Blk wr w3.heap.size 25 #[.slice A1 n c1, .slice X k a]) ∧
    Hid (CrS wr w.heap.size A1 n c1 X k a fs (hs.take k)) ∧ Hid (St w wr)) (fun i _ => m - (intOf i).toNat)
  case atStart => exact ⟨0, 0, none, Nat.zero_le _, rfl, K4, L4, G4, C4, S4⟩
  case round =>
    obtain ⟨wa, rfl⟩ : ∃ wo : World, wo = wr := ⟨_, rfl⟩
    obtain ⟨k, a, X, hk, rfl, K, L, G, Cc, S⟩ := hrel
    have R := hid (h.sh.st S.out)
    have k1 := K.out.cell_ (i := 1) (v := .slice B m d) rfl
    have hki : (0 : Int) ≤ (k : Int) := by omega
    by_cases hlt : k < m
    · have hki2 : (k : Int) < (m : Int) := by omega
      obtain ⟨ad, Ak, nk, ck, xs, t, rfl, hb1, c0, c1', hx, hsl⟩ := R.out.at_ hlt
      have hnk : nk ≤ 1048576 := by have h8 := F.out.h2 _ (List.mem_of_getElem? hx.out); rw [hsl.len] at h8; exact h8
      have O2 := hid (show OI ((wa.alloc (.cells #[.slice Ak nk ck, .int .i64 t] 38)).alloc (.cells #[] 3)) (wa.heap.size + 1) 3 (some ⟨wa.heap.size + 1, 0, none⟩) 0 0 [] by
        have := OI.lit (w := wa.alloc (.cells #[.slice Ak nk ck, .int .i64 t] 38)) (e := 3)
        rwa [World.heap_alloc_size'] at this)
      have R2 := hid ((hsl.st (((St.refl wa).alloc (.cells #[.slice Ak nk ck, .int .i64 t] 38)).alloc (.cells #[] 3))).ri)
      go_wp2_with (first
        | (at_builtin; refine wpList_append_src _ rfl _ _ 22 rfl (wa.heap.size + 1) 3 Try.underlying22 intInfo (some ⟨wa.heap.size + 1, 0, none⟩) 0 0 [] rfl O2.out _ Ak nk ck xs rfl R2.out (by omega) (by simp) ?_; intro X2 a2 w5 o5 g5; simp only [Nat.zero_add, List.nil_append] at o5; obtain ⟨b5, s5, s6, b6, o6⟩ := cp1 g5 o5; have f5 := b5.out.frozen 0; have e5 := b5.out.cell_ (i := 0) (v := .slice Ak nk ck) rfl; have e6 := b6.out.cell_ (i := 0) (v := .slice X2 nk a2) rfl; have e7 := b6.out.cell_ (i := 1) (v := .int .i64 t) rfl; have G6 := hid (G.out.st s6.out); have C6 := hid (Cc.out.st s6.out); have K6 := hid (K.out.st s6.out); have L6 := hid (L.out.st s6.out); have S6 := hid (S.out.trans s6.out); have u6 := G6.out.cell_ (i := 1) (v := .slice X k a) rfl; obtain ⟨vs, r1, r2, r3⟩ := C6.out.ro; have r1 := hid r1; have r3 := hid r3; have z6 := hid s6.out.le; clear o5 g5)
        | (at_builtin; refine wpList_append_el _ rfl _ _ 23 rfl w.heap.size 38 (.agg #[.slice none 0 0, .int .i64 0]) 2 32 Try.underlying23 holdInfo rfl (by decide) (by decide) X k a _ [.slice X2 nk a2, .int .i64 t] rfl (hold_one _ _ _ _) rfl r1.out w5.heap.size (by simp [World.setCell]) rfl (by omega) S6.out.le ?_; intro X3 a3 w7 o7 g7; have G7 := hid (G6.out.grown g7 (fun e => (C6.out.apart G6.out (by decide) (by decide)).2 e.symm)); have g71 := G7.out.cell_ (i := 1) (v := .slice X k a) rfl; have f71 := G7.out.frozen 1))
      generalize w5.setCell ⟨wa.heap.size, 0, none⟩ (.slice X2 nk a2) = w6 at *
      have ne6 : ∀ g, blockOf X2 = some g → blockOf A1 ≠ some g := fun g hg hA => by have := (o6.out.lt g hg).1; have := (Cc.out.bA hA).2; omega
      have bX : ∀ g, blockOf X = some g → w.heap.size ≤ g ∧ g < w6.heap.size := fun g hg => C6.out.bB hg
      have C7 := hid (C6.out.push r2 r3.out r1.out o7 g7 (o6.out.less (show w.heap.size ≤ wa.heap.size + 1 by have := S.out.le; omega)) ne6)
      have S7 := hid (S6.out.grown g7 (fun g hg => (bX g hg).1))
      have K7 := hid (K6.out.grown g7 (fun e => (C6.out.apart K6.out (by decide) (by decide)).2 e.symm))
      have L7 := hid (L6.out.grown g7 (fun e => (C6.out.apart L6.out (by decide) (by decide)).2 e.symm))
      have C8 := hid (C7.out.blk G7.out (by decide) (by decide) (World.grownBy_set w7 w3.heap.size 1 (.slice X3 (k + 1) a3)))
      have hG := HG3.out
      have S8 := hid (S7.out.setCell (p := ⟨w3.heap.size, 1, none⟩) (show w.heap.size ≤ w3.heap.size by omega) (.slice X3 (k + 1) a3))
      have G8 := hid (G7.out.set_ 1 (.slice X3 (k + 1) a3))
      have K8 := hid (K7.out.far (p := ⟨w3.heap.size, 1, none⟩) (show w.heap.size ≠ w3.heap.size by omega) (.slice X3 (k + 1) a3))
      have L8 := hid (L7.out.far (p := ⟨w3.heap.size, 1, none⟩) (show w.heap.size + 1 ≠ w3.heap.size by omega) (.slice X3 (k + 1) a3))
      rw [← take_snoc hx.out] at C8
      clear C7 S7 K7 L7 C6 S6 K6 L6 G6 o7 g7
      go_roundw
      case rel => exact ⟨k + 1, _, _, by omega, by go_num, K8, L8, G8, C8, S8⟩
      case measure => simp [intOf]; omega
    · obtain rfl : k = m := by omega
      have g0 := G.out.cell_ (i := 0) (v := .slice A1 n c1) rfl
      have g1 := G.out.cell_ (i := 1) (v := .slice X k a) rfl
      have frr0 := L.out.frozen 0
      have frr1 := L.out.frozen 1
      have qrr0 := L.out.cell_ (i := 0) (v := .slice none 0 0) rfl
      have qrr1 := L.out.cell_ (i := 1) (v := .slice none 0 0) rfl
      have Fr := ((L.out.set_ 0 (.slice A1 n c1)).set_ 1 (.slice X k a))
      have r0 := Fr.cell_ (i := 0) (v := .slice A1 n c1) rfl
      have r1 := Fr.cell_ (i := 1) (v := .slice X k a) rfl
      have S9 := hid ((S.out.setCell (p := ⟨w.heap.size + 1, 0, none⟩) (by first | (simp; done) | omega | (simp; omega)) (.slice A1 n c1)).setCell (p := ⟨w.heap.size + 1, 1, none⟩) (by first | (simp; done) | omega | (simp; omega)) (.slice X k a))
      clear Fr
      have C9 := hid ((Cc.out.blk L.out (by decide) (by decide) (World.grownBy_set wa (w.heap.size + 1) 0 (.slice A1 n c1))).blk (L.out.set_ 0 (.slice A1 n c1)) (by decide) (by decide) (World.grownBy_set _ (w.heap.size + 1) 1 (.slice X k a)))
      rw [List.take_of_length_le (by rw [HL.out]; omega)] at C9
      go_wp2_with fail
      refine bodyPost_ret (v := crV A1 n c1 X k a) (by simp [results, Try.results65, go_sem, r0, r1]) rfl ⟨_, _, _, _, rfl, C9.out, S9.out⟩
end Go.Proofs.Ytggjfbakekfdhaa
