/- impl.backTo, cycleFrom, TraceCycle. -/
import Derived.Test.YtfdgbbapbpflcaaQue
import Derived.Test.YtfdgbbapbpflcaaTrL2
namespace Go.Proofs.Ytfdgbbapbpflcaa
open Go.RowKit
theorem back_self (bef : Nat → Option Nat) (s n : Nat) : back bef s (n + 1) s = [s] := by rw [back, if_pos rfl]
theorem back_step {bef : Nat → Option Nat} {s n x y : Nat} (h : x ≠ s) (hy : bef x = some y) : back bef s (n + 1) x = back bef s n y ++ [x] := by rw [back, if_neg h, hy]
theorem back_len (bef : Nat → Option Nat) (s : Nat) : ∀ n x : Nat, (back bef s n x).length ≤ n
  | 0, _ => by simp [back]
  | n + 1, x => by
    rw [back]
    split
    · simp
    · split
      · simp
      · rename_i y _
        have := back_len bef s n y
        simp
        omega
/-- A row of ints that comes back. -/
def BackEnd (ys : List Nat) (w : World) (e : Ending) (w' : World) : Prop := ∃ A n c, e = .returned (.slice A n c) ∧ OI w' w.heap.size 3 A n c (ints ys) ∧ St w w'
theorem OI.lit1 {w : World} {x : Int} : OI (w.alloc (.cells #[.int .i64 x] 3)) w.heap.size 3 (some ⟨w.heap.size, 0, none⟩) 1 1 [x] :=
  World.ownsRow_lit w #[.int .i64 x] 1 (Nat.le_refl _) (by simp [maxLen]) rfl
theorem RI.blk1 {w : World} {b : Nat} {t : TypeId} {x : Int} (h : Blk w b t #[.int .i64 x]) : RI w (b + 1) (some ⟨b, 0, none⟩) 1 [x] := by
  refine ⟨rfl, fun _ => ⟨_, rfl, by simp, fun j u hu => ?_⟩⟩
  cases j with
  | zero =>
    rw [add_zero]
    exact h.cell_ (i := 0) (by simpa using hu)
  | succ j => simp at hu
theorem fromCells_lit (g : Nat → Nat) (b : Nat → Option Nat) : fromCells g b = #[fromAt g (b 0), fromAt g (b 1), fromAt g (b 2), fromAt g (b 3), fromAt g (b 4), fromAt g (b 5), fromAt g (b 6), fromAt g (b 7), fromAt g (b 8), fromAt g (b 9), fromAt g (b 10), fromAt g (b 11)] := rfl
set_option maxRecDepth 100000 in
set_option maxHeartbeats 2000000 in
theorem backTo_any {A : Option Addr} {c0 base : Nat} {g : Nat → Nat} {T : Nat → Bool} {nx : Nat → Nat → Bool} {s : Nat} {line : List Nat} {bef : Nat → Option Nat} {lev : Nat → Nat} (hB : BI nx s line bef lev) (hs12 : s < 12) :
    ∀ (n x : Nat) (w : World), LK w base A 12 c0 g T nx → lev x < n → n ≤ 13 → x ∈ line → Calls Try.prog 60 #[.agg (fromCells g bef), ptr (g x), .int .i64 (s : Int)] w (BackEnd (back bef s n x) w)
  | 0, _, _, _, h, _, _ => absurd h (by omega)
  | n + 1, x, w, h, hlv, hn13, hx => by
    have hx12 : x < 12 := hB.lt x hx
    have c0 := h.c0 hx12
    unfold ptr
    by_cases hs : x = s
    · subst hs
      rw [back_self]
      have a1 := (St.refl w).alloc (.cells (fromCells g bef) 51)
      have c1 := a1.cell c0
      go_enter Try.func60, Try.ntmps60
      go_wp2_with fail
      go_ret
      have e := OI.lit1 (w := w.alloc (.cells (fromCells g bef) 51)) (x := (x : Int))
      rw [World.heap_alloc_size'] at e
      exact ⟨_, _, _, rfl, OI.less e (by omega), a1.alloc _⟩
    · obtain ⟨y, hy, hyl, hnx, hlev⟩ := hB.bf x hx hs
      have HY := hid (hB.lt y hyl)
      have HBS := hid (back_step (n := n) hs hy)
      rw [HBS.out]
      have a1 := (St.refl w).alloc (.cells (fromCells g bef) 51)
      have c1 := a1.cell c0
      have B1 := hid (Blk.new w 51 (fromCells g bef))
      have hxs : ((x : Int) == (s : Int)) = false := by simp; omega
      have hxi0 : (0 : Int) ≤ (x : Int) := by omega
      have hxi1 : (x : Int) < 12 := by omega
      have hfy := from_at g bef hx12
      rw [hy] at hfy
      have q0 := B1.out.cell_ (i := 0) (v := fromAt g (bef 0)) rfl
      have q1 := B1.out.cell_ (i := 1) (v := fromAt g (bef 1)) rfl
      have q2 := B1.out.cell_ (i := 2) (v := fromAt g (bef 2)) rfl
      have q3 := B1.out.cell_ (i := 3) (v := fromAt g (bef 3)) rfl
      have q4 := B1.out.cell_ (i := 4) (v := fromAt g (bef 4)) rfl
      have q5 := B1.out.cell_ (i := 5) (v := fromAt g (bef 5)) rfl
      have q6 := B1.out.cell_ (i := 6) (v := fromAt g (bef 6)) rfl
      have q7 := B1.out.cell_ (i := 7) (v := fromAt g (bef 7)) rfl
      have q8 := B1.out.cell_ (i := 8) (v := fromAt g (bef 8)) rfl
      have q9 := B1.out.cell_ (i := 9) (v := fromAt g (bef 9)) rfl
      have q10 := B1.out.cell_ (i := 10) (v := fromAt g (bef 10)) rfl
      have q11 := B1.out.cell_ (i := 11) (v := fromAt g (bef 11)) rfl
      have qx := B1.out.cell_ (i := x) (v := .pointer (some ⟨g y, 0, none⟩)) hfy
      have LW := hid (h.st a1)
      have SW := hid (show St w (w.alloc (.cells (fromCells g bef) 51)) from a1)
      have HLV := hid (show lev y < n ∧ n ≤ 13 by omega)
      have HYL := hid hyl
      have HSZ := hid (show w.heap.size ≤ (w.alloc (.cells (fromCells g bef) 51)).heap.size from a1.le)
      have HBL := hid (back_len bef s n y)
      clear hfy h hlv hn13 hx c0 hs hy hyl hnx hlev a1
      go_enter Try.func60, Try.ntmps60
      go_wp2_with fail
      clear B1
      generalize w.alloc (.cells (fromCells g bef) 51) = w1 at *
      have LA := hid (LW.out.st (Dr.st ⟨1, rfl⟩ : St w1 (w1.drewN 1)))
      have sB : St w1 ((w1.alloc (.cells #[.int .i64 (x : Int)] 3)).drewN 1) := ((St.refl w1).alloc _).drewN 1
      have LB := hid (LW.out.st sB)
      have QB := hid ((Blk.new w1 3 #[.int .i64 (x : Int)]).dr (w' := (w1.alloc (.cells #[.int .i64 (x : Int)] 3)).drewN 1) ⟨1, rfl⟩)
      have hW := hid (show w.heap.size ≤ w1.heap.size from HSZ.out)
      refine wp_region_held_drew (S := (fun w' => w'.cell? ⟨w.heap.size, 0, none⟩ = some (fromAt g (bef 0)) ∧ w'.cell? ⟨w.heap.size, 1, none⟩ = some (fromAt g (bef 1)) ∧ w'.cell? ⟨w.heap.size, 2, none⟩ = some (fromAt g (bef 2)) ∧ w'.cell? ⟨w.heap.size, 3, none⟩ = some (fromAt g (bef 3)) ∧ w'.cell? ⟨w.heap.size, 4, none⟩ = some (fromAt g (bef 4)) ∧ w'.cell? ⟨w.heap.size, 5, none⟩ = some (fromAt g (bef 5)) ∧ w'.cell? ⟨w.heap.size, 6, none⟩ = some (fromAt g (bef 6)) ∧ w'.cell? ⟨w.heap.size, 7, none⟩ = some (fromAt g (bef 7)) ∧ w'.cell? ⟨w.heap.size, 8, none⟩ = some (fromAt g (bef 8)) ∧ w'.cell? ⟨w.heap.size, 9, none⟩ = some (fromAt g (bef 9)) ∧ w'.cell? ⟨w.heap.size, 10, none⟩ = some (fromAt g (bef 10)) ∧ w'.cell? ⟨w.heap.size, 11, none⟩ = some (fromAt g (bef 11)) ∧ w'.cell? ⟨w.heap.size, x, none⟩ = some (.pointer (some ⟨g y, 0, none⟩)) ∧ w'.cell? ⟨g x, 0, none⟩ = some (.int .i64 (x : Int)))) (by kernel_rfl) ?_ (fun hH0 => ?_)
      · exact ⟨q0, q1, q2, q3, q4, q5, q6, q7, q8, q9, q10, q11, qx, c1⟩
      refine wpAnyH_take (i := 0) (oi := ⟨some 15, _, _, _, _, _⟩) (v := ?_) rfl (by kernel_rfl) (by kernel_rfl) (by kernel_rfl) (fun _ _ _ h => h) (Or.inl ⟨by rfl, ?_⟩) (by assumption) ?_
      rotate_left
      · (intro w hSw; (try dsimp only at hSw); go_simp; (try with_reducible rfl))
      (try simp only [Act.put, List.setIfInBounds_toArray, List.set_cons_zero, List.set_cons_succ])
      refine wpAnyH_take (i := 1) (oi := ⟨some 16, _, _, _, _, _⟩) (v := ?_) rfl (by kernel_rfl) (by kernel_rfl) (by kernel_rfl) (fun _ _ _ h => h) (Or.inl ⟨by rfl, ?_⟩) (by assumption) ?_
      rotate_left
      · (intro w hSw; (try dsimp only at hSw); go_simp; (try with_reducible rfl))
      (try simp only [Act.put, List.setIfInBounds_toArray, List.set_cons_zero, List.set_cons_succ])
      refine wpAnyH_take (i := 2) (oi := ⟨some 17, _, _, _, _, _⟩) (v := ?_) rfl (by kernel_rfl) (by kernel_rfl) (by kernel_rfl) (fun _ _ _ h => h) (Or.inl ⟨by rfl, ?_⟩) (by assumption) ?_
      rotate_left
      · (intro w hSw; (try dsimp only at hSw); go_simp; (try with_reducible rfl))
      (try simp only [Act.put, List.setIfInBounds_toArray, List.set_cons_zero, List.set_cons_succ])
      refine wpAnyH_take (i := 3) (oi := ⟨some 18, _, _, _, _, _⟩) (v := ?_) rfl (by kernel_rfl) (by kernel_rfl) (by kernel_rfl) (fun _ _ _ h => h) (Or.inl ⟨by rfl, ?_⟩) (by assumption) ?_
      rotate_left
      · (intro w hSw; (try dsimp only at hSw); go_simp; (try with_reducible rfl))
      (try simp only [Act.put, List.setIfInBounds_toArray, List.set_cons_zero, List.set_cons_succ])
      refine wpAnyH_take (i := 4) (oi := ⟨some 19, _, _, _, _, _⟩) (v := ?_) rfl (by kernel_rfl) (by kernel_rfl) (by kernel_rfl) (fun _ _ _ h => h) (Or.inl ⟨by rfl, ?_⟩) (by assumption) ?_
      rotate_left
      · (intro w hSw; (try dsimp only at hSw); go_simp; (try with_reducible rfl))
      (try simp only [Act.put, List.setIfInBounds_toArray, List.set_cons_zero, List.set_cons_succ])
      refine wpAnyH_take (i := 5) (oi := ⟨some 20, _, _, _, _, _⟩) (v := ?_) rfl (by kernel_rfl) (by kernel_rfl) (by kernel_rfl) (fun _ _ _ h => h) (Or.inl ⟨by rfl, ?_⟩) (by assumption) ?_
      rotate_left
      · (intro w hSw; (try dsimp only at hSw); go_simp; (try with_reducible rfl))
      (try simp only [Act.put, List.setIfInBounds_toArray, List.set_cons_zero, List.set_cons_succ])
      refine wpAnyH_take (i := 6) (oi := ⟨some 21, _, _, _, _, _⟩) (v := ?_) rfl (by kernel_rfl) (by kernel_rfl) (by kernel_rfl) (fun _ _ _ h => h) (Or.inl ⟨by rfl, ?_⟩) (by assumption) ?_
      rotate_left
      · (intro w hSw; (try dsimp only at hSw); go_simp; (try with_reducible rfl))
      (try simp only [Act.put, List.setIfInBounds_toArray, List.set_cons_zero, List.set_cons_succ])
      refine wpAnyH_take (i := 7) (oi := ⟨some 22, _, _, _, _, _⟩) (v := ?_) rfl (by kernel_rfl) (by kernel_rfl) (by kernel_rfl) (fun _ _ _ h => h) (Or.inl ⟨by rfl, ?_⟩) (by assumption) ?_
      rotate_left
      · (intro w hSw; (try dsimp only at hSw); go_simp; (try with_reducible rfl))
      (try simp only [Act.put, List.setIfInBounds_toArray, List.set_cons_zero, List.set_cons_succ])
      refine wpAnyH_take (i := 9) (oi := ⟨some 24, _, _, _, _, _⟩) (v := ?_) rfl (by kernel_rfl) (by kernel_rfl) (by kernel_rfl) (fun _ _ _ h => h) (Or.inl ⟨by rfl, ?_⟩) (by assumption) ?_
      rotate_left
      · (intro w hSw; (try dsimp only at hSw); go_simp; (try with_reducible rfl))
      (try simp only [Act.put, List.setIfInBounds_toArray, List.set_cons_zero, List.set_cons_succ])
      refine wpAnyH_take (i := 10) (oi := ⟨some 25, _, _, _, _, _⟩) (v := ?_) rfl (by kernel_rfl) (by kernel_rfl) (by kernel_rfl) (fun _ _ _ h => h) (Or.inl ⟨by rfl, ?_⟩) (by assumption) ?_
      rotate_left
      · (intro w hSw; (try dsimp only at hSw); go_simp; (try with_reducible rfl))
      (try simp only [Act.put, List.setIfInBounds_toArray, List.set_cons_zero, List.set_cons_succ])
      refine wpAnyH_take (i := 11) (oi := ⟨some 26, _, _, _, _, _⟩) (v := ?_) rfl (by kernel_rfl) (by kernel_rfl) (by kernel_rfl) (fun _ _ _ h => h) (Or.inl ⟨by rfl, ?_⟩) (by assumption) ?_
      rotate_left
      · (intro w hSw; (try dsimp only at hSw); go_simp; (try with_reducible rfl))
      (try simp only [Act.put, List.setIfInBounds_toArray, List.set_cons_zero, List.set_cons_succ])
      refine wpAnyH_take (i := 12) (oi := ⟨some 27, _, _, _, _, _⟩) (v := ?_) rfl (by kernel_rfl) (by kernel_rfl) (by kernel_rfl) (fun _ _ _ h => h) (Or.inl ⟨by rfl, ?_⟩) (by assumption) ?_
      rotate_left
      · (intro w hSw; (try dsimp only at hSw); go_simp; (try with_reducible rfl))
      (try simp only [Act.put, List.setIfInBounds_toArray, List.set_cons_zero, List.set_cons_succ])
      refine wpAnyH_ready (rs := [8, 13]) (by kernel_rfl) (by simp) ?_
      refine AllReadyH.cons (o := ⟨some 23, _, _, _, _, _⟩) rfl (fun K hK => ?_) ?_
      · skip
        go_simp
        (go_at_call 60; refine (backTo_any hB hs12 n y _ LA.out HLV.out.1 HLV.out.2 HYL.out).mono ?_; rintro e w3 ⟨X, m, a, rfl, o3, s3⟩; have O3 := hid o3; have S3 := hid ((Dr.st ⟨1, rfl⟩ : St w1 (w1.drewN 1)).trans s3); have HM := hid o3.len)
        (first | (refine hK.out _ _ ?_ (fun hH1 => ?_)) | (go_wp2_with fail; refine hK.out _ _ ?_ (fun hH1 => ?_)))
        · exact ⟨S3.out.cell q0, S3.out.cell q1, S3.out.cell q2, S3.out.cell q3, S3.out.cell q4, S3.out.cell q5, S3.out.cell q6, S3.out.cell q7, S3.out.cell q8, S3.out.cell q9, S3.out.cell q10, S3.out.cell q11, S3.out.cell qx, S3.out.cell c1⟩
        clear hK K hH0
        (try simp only [Act.put, List.setIfInBounds_toArray, List.set_cons_zero, List.set_cons_succ])
        refine wpAnyH_ready (rs := [13]) (by kernel_rfl) (by simp) ?_
        refine AllReadyH.cons (o := ⟨some 28, _, _, _, _, _⟩) rfl (fun K hK => ?_) AllReadyH.nil
        go_simp
        (first | (refine hK.out _ _ ?_ (fun hH2 => ?_)) | (go_wp2_with fail; refine hK.out _ _ ?_ (fun hH2 => ?_)))
        · go_keep
        clear hK K hH1
        (try simp only [Act.put, List.setIfInBounds_toArray, List.set_cons_zero, List.set_cons_succ])
        refine wpAnyH_ready (rs := [14]) (by kernel_rfl) (by simp) ?_
        refine AllReadyH.cons (o := ⟨some 29, _, _, _, _, _⟩) rfl (fun K hK => ?_) AllReadyH.nil
        (refine step_append_src (w3.alloc (.cells #[.int .i64 (x : Int)] 3)) rfl _ _ 22 rfl w1.heap.size 3 Try.underlying22 intInfo X m a (ints (back bef s n y)) rfl (World.ownsRow.alloc O3.out _) _ (some ⟨w3.heap.size, 0, none⟩) 1 1 [(x : Int)] rfl (RI.blk1 (Blk.new w3 3 #[.int .i64 (x : Int)])) (by have h1 := HM.out; have h2 := HBL.out; have h3 := HLV.out; simp [ints] at h1; omega) (by have := S3.out.le; simp; omega) ?_; intro X4 a4 w4 o4 g4; have O4 := hid (OI.less o4 hW.out); have S4 := hid (St.grown (S3.out.alloc (.cells #[.int .i64 (x : Int)] 3)) g4 (fun k hk => (O3.out.lt k hk).1)))
        (first | (refine hK.out _ _ ?_ (fun hH3 => ?_)) | (go_wp2_with fail; refine hK.out _ _ ?_ (fun hH3 => ?_)))
        · exact ⟨S4.out.cell q0, S4.out.cell q1, S4.out.cell q2, S4.out.cell q3, S4.out.cell q4, S4.out.cell q5, S4.out.cell q6, S4.out.cell q7, S4.out.cell q8, S4.out.cell q9, S4.out.cell q10, S4.out.cell q11, S4.out.cell qx, S4.out.cell c1⟩
        clear hK K hH2
        (try simp only [Act.put, List.setIfInBounds_toArray, List.set_cons_zero, List.set_cons_succ])
        refine wpAnyH_take (i := 15) (oi := ⟨some 6, _, _, _, _, _⟩) (v := ?_) rfl (by kernel_rfl) (by kernel_rfl) (by kernel_rfl) (fun _ _ _ h => h) (Or.inl ⟨by rfl, ?_⟩) (by assumption) ?_
        rotate_left
        · (intro w hSw; (try dsimp only at hSw); go_simp; (try with_reducible rfl))
        (try simp only [Act.put, List.setIfInBounds_toArray, List.set_cons_zero, List.set_cons_succ])
        refine wpAnyH_done (by kernel_rfl) ?_ _
        clear hH3
        go_wp2_with fail
        go_ret
        refine ⟨_, _, _, rfl, ?_, SW.out.trans S4.out⟩
        rw [TOEnd_ints_snoc]
        exact O4.out
      refine AllReadyH.cons (o := ⟨some 28, _, _, _, _, _⟩) rfl (fun K hK => ?_) ?_
      · skip
        go_simp
        (first | (refine hK.out _ _ ?_ (fun hH1 => ?_)) | (go_wp2_with fail; refine hK.out _ _ ?_ (fun hH1 => ?_)))
        · go_keep
        clear hK K hH0
        (try simp only [Act.put, List.setIfInBounds_toArray, List.set_cons_zero, List.set_cons_succ])
        refine wpAnyH_ready (rs := [8]) (by kernel_rfl) (by simp) ?_
        refine AllReadyH.cons (o := ⟨some 23, _, _, _, _, _⟩) rfl (fun K hK => ?_) AllReadyH.nil
        go_simp
        (go_at_call 60; refine (backTo_any hB hs12 n y _ LB.out HLV.out.1 HLV.out.2 HYL.out).mono ?_; rintro e w3 ⟨X, m, a, rfl, o3, s3⟩; have O3 := hid o3; have S3 := hid (sB.trans s3); have Q3 := hid (QB.out.st s3); have HM := hid o3.len)
        (first | (refine hK.out _ _ ?_ (fun hH2 => ?_)) | (go_wp2_with fail; refine hK.out _ _ ?_ (fun hH2 => ?_)))
        · exact ⟨S3.out.cell q0, S3.out.cell q1, S3.out.cell q2, S3.out.cell q3, S3.out.cell q4, S3.out.cell q5, S3.out.cell q6, S3.out.cell q7, S3.out.cell q8, S3.out.cell q9, S3.out.cell q10, S3.out.cell q11, S3.out.cell qx, S3.out.cell c1⟩
        clear hK K hH1
        (try simp only [Act.put, List.setIfInBounds_toArray, List.set_cons_zero, List.set_cons_succ])
        refine wpAnyH_ready (rs := [14]) (by kernel_rfl) (by simp) ?_
        refine AllReadyH.cons (o := ⟨some 29, _, _, _, _, _⟩) rfl (fun K hK => ?_) AllReadyH.nil
        (refine step_append_src w3 rfl _ _ 22 rfl w1.heap.size 3 Try.underlying22 intInfo X m a (ints (back bef s n y)) rfl (OI.less O3.out (by simp)) _ (some ⟨w1.heap.size, 0, none⟩) 1 1 [(x : Int)] rfl (RI.blk1 Q3.out) (by have h1 := HM.out; have h2 := HBL.out; have h3 := HLV.out; simp [ints] at h1; omega) S3.out.le ?_; intro X4 a4 w4 o4 g4; have O4 := hid (OI.less o4 hW.out); have S4 := hid (St.grown S3.out g4 (fun k hk => by have := (O3.out.lt k hk).1; simp at this; omega)))
        (first | (refine hK.out _ _ ?_ (fun hH3 => ?_)) | (go_wp2_with fail; refine hK.out _ _ ?_ (fun hH3 => ?_)))
        · exact ⟨S4.out.cell q0, S4.out.cell q1, S4.out.cell q2, S4.out.cell q3, S4.out.cell q4, S4.out.cell q5, S4.out.cell q6, S4.out.cell q7, S4.out.cell q8, S4.out.cell q9, S4.out.cell q10, S4.out.cell q11, S4.out.cell qx, S4.out.cell c1⟩
        clear hK K hH2
        (try simp only [Act.put, List.setIfInBounds_toArray, List.set_cons_zero, List.set_cons_succ])
        refine wpAnyH_take (i := 15) (oi := ⟨some 6, _, _, _, _, _⟩) (v := ?_) rfl (by kernel_rfl) (by kernel_rfl) (by kernel_rfl) (fun _ _ _ h => h) (Or.inl ⟨by rfl, ?_⟩) (by assumption) ?_
        rotate_left
        · (intro w hSw; (try dsimp only at hSw); go_simp; (try with_reducible rfl))
        (try simp only [Act.put, List.setIfInBounds_toArray, List.set_cons_zero, List.set_cons_succ])
        refine wpAnyH_done (by kernel_rfl) ?_ _
        clear hH3
        go_wp2_with fail
        go_ret
        refine ⟨_, _, _, rfl, ?_, SW.out.trans S4.out⟩
        rw [TOEnd_ints_snoc]
        exact O4.out
      exact AllReadyH.nil

def nxV (g : Nat → Nat) (f : Nat → Bool) (j : Nat) : Value := if f j then ptr (g j) else .pointer none
def nextCells (g : Nat → Nat) (f : Nat → Bool) : Array Value := #[nxV g f 0, nxV g f 1, nxV g f 2, nxV g f 3, nxV g f 4, nxV g f 5, nxV g f 6, nxV g f 7, nxV g f 8, nxV g f 9, nxV g f 10, nxV g f 11]
theorem next_at (g : Nat → Nat) (f : Nat → Bool) {k : Nat} (h : k < 12) : (nextCells g f)[k]? = some (nxV g f k) := by
  match k, h with
  | 0, _ => rfl
  | 1, _ => rfl
  | 2, _ => rfl
  | 3, _ => rfl
  | 4, _ => rfl
  | 5, _ => rfl
  | 6, _ => rfl
  | 7, _ => rfl
  | 8, _ => rfl
  | 9, _ => rfl
  | 10, _ => rfl
  | 11, _ => rfl
  | k + 12, h => omega
theorem index_12 {cs : Array Value} {j : Nat} {v : Value} (hj : j < 12) (hv : cs[j]? = some v) (W : World) : (Instr.index 51 (.agg cs) (.int .i64 (j : Int))).run Try.prog W = .ok v W := by
  have hu : Try.prog.underlying 51 = some (.array 12 50) := by kernel_rfl
  have hs : (sizeOf 50).run Try.prog W = .ok 1 W := by kernel_rfl
  have h1 : ¬ 12 ≤ j := by omega
  simp [Instr.index, run_underlying hu, asIntOf, hs, part, hv]
  exact fun h => absurd h h1
theorem cut_que {w : World} {base n c : Nat} {e : TypeId} {A : Option Addr} {vs : List Value} (h : QU w base e A n c vs) (hn : 0 < n) :
    ∃ X, (∀ W, (Instr.slice 48 (.slice A n c) (some (.int .i64 1)) none none).run Try.prog W = .ok (.slice X (n - 1) (c - 1)) W) ∧ QU w base e X (n - 1) (c - 1) (vs.drop 1) := by
  have hnc := h.nc
  have hcm := h.cm
  refine ⟨if c = 1 then A else A.map (·.add 1), fun W => ?_, h.cut1 hn⟩
  rw [run_slice_l W 48 A n c (by kernel_rfl) .i64 1 (by omega) (by omega)]
  have hs : (sizeOf (Try.prog.elem 48)).run Try.prog W = .ok 1 W := by kernel_rfl
  rw [hs]
  simp [Result.andThen, sliced]
theorem part_snoc {nx : Nat → Nat → Bool} {s x m : Nat} {line : List Nat} {lev : Nat → Nat} {ps : List Nat} (h : PartB nx s x line lev ps) (hm : nx x m = true → m ≠ s ∧ m ∈ line ∧ lev m ≤ lev x + 1) : PartB nx s x line lev (ps ++ [m]) := by
  intro a ha hn
  rcases List.mem_append.1 ha with ha | ha
  · exact h a ha hn
  · rw [List.mem_singleton] at ha
    subst ha
    exact hm hn
theorem range_drop {j : Nat} (h : j < 12) : (List.range 12).drop j = j :: (List.range 12).drop (j + 1) := by
  rw [List.drop_eq_getElem_cons (by simpa using h)]
  simp
/-- What one round of the outer search has found when it looks at message j. -/
structure InS (nx : Nat → Nat → Bool) (s i x j : Nat) (line0 : List Nat) (bef0 : Nat → Option Nat) (line : List Nat) (bef : Nat → Option Nat) (lev : Nat → Nat) : Prop where
  bi : BI nx s line bef lev
  bp : BP nx s i x line lev
  pt : PartB nx s x line lev (List.range j)
  run : inn nx s x ((List.range 12).drop j) line bef = inn nx s x (List.range 12) line0 bef0
section
variable {nx : Nat → Nat → Bool} {s i x j : Nat} {line0 : List Nat} {bef0 : Nat → Option Nat} {line : List Nat} {bef : Nat → Option Nat} {lev : Nat → Nat}
theorem InS.start (h1 : BI nx s line bef lev) (h2 : BO nx s i line lev) (hx : line[i]? = some x) : InS nx s i x 0 line bef line bef lev :=
  ⟨h1, h2.at_ hx, fun a ha => by simp at ha, rfl⟩
theorem InS.no (h : InS nx s i x j line0 bef0 line bef lev) (hj : j < 12) (hn : nx x j = false) : InS nx s i x (j + 1) line0 bef0 line bef lev := by
  refine ⟨h.bi, h.bp, ?_, ?_⟩
  · rw [List.range_succ]; exact part_snoc h.pt (fun e => by rw [hn] at e; cases e)
  · rw [← h.run, range_drop hj, inn]; simp [hn]
theorem InS.hit (h : InS nx s i x j line0 bef0 line bef lev) (hj : j < 12) (hn : nx x j = true) (hs : j = s) : inn nx s x (List.range 12) line0 bef0 = (true, line, bef) := by
  rw [← h.run, range_drop hj, inn, if_pos hn, if_pos hs]
theorem InS.old (h : InS nx s i x j line0 bef0 line bef lev) (hj : j < 12) (hn : nx x j = true) (hs : j ≠ s) {y : Nat} (hb : bef j = some y) : InS nx s i x (j + 1) line0 bef0 line bef lev := by
  refine ⟨h.bi, h.bp, ?_, ?_⟩
  · rw [List.range_succ]
    refine part_snoc h.pt (fun _ => ?_)
    have hm : j ∈ line := by
      rcases Decidable.em (j ∈ line) with hm | hm
      · exact hm
      · have := h.bi.bn j hm; rw [this] at hb; cases hb
    exact ⟨hs, hm, h.bp.top j hm⟩
  · rw [← h.run, range_drop hj, inn, if_pos hn, if_neg hs, if_neg (by rw [hb]; simp)]
theorem InS.new (h : InS nx s i x j line0 bef0 line bef lev) (hj : j < 12) (hn : nx x j = true) (hs : j ≠ s) (hb : bef j = none) : InS nx s i x (j + 1) line0 bef0 (line ++ [j]) (updB bef j x) (fun a => if a = j then lev x + 1 else lev a) := by
  obtain ⟨h1, h2, h3, h4⟩ := h.bi.add h.bp hj hn hs hb
  have hx := List.mem_of_getElem? h.bp.at_
  have hxl := h4 x hx
  refine ⟨h2, h3, ?_, ?_⟩
  · rw [List.range_succ]
    refine part_snoc (fun a ha hna => ?_) (fun _ => ?_)
    · obtain ⟨p1, p2, p3⟩ := h.pt a ha hna
      refine ⟨p1, List.mem_append_left _ p2, ?_⟩
      show (if a = j then lev x + 1 else lev a) ≤ (if x = j then lev x + 1 else lev x) + 1
      rw [h4 a p2, hxl]; exact p3
    · refine ⟨hs, by simp, ?_⟩
      show (if j = j then lev x + 1 else lev j) ≤ (if x = j then lev x + 1 else lev x) + 1
      rw [if_pos rfl, hxl]
      exact Nat.le_refl _
  · rw [← h.run, range_drop hj, inn, if_pos hn, if_neg hs, if_pos hb]
theorem InS.done (h : InS nx s i x 12 line0 bef0 line bef lev) : BI nx s line bef lev ∧ BO nx s (i + 1) line lev ∧ inn nx s x (List.range 12) line0 bef0 = (false, line, bef) :=
  ⟨h.bi, BO.next h.bi h.bp h.pt, by rw [← h.run, show (List.range 12).drop 12 = [] from rfl, inn]⟩
theorem InS.len (h : InS nx s i x j line0 bef0 line bef lev) : line.length ≤ 12 := h.bi.len
end
/-- What the outer search has found. -/
structure OuS (nx : Nat → Nat → Bool) (s k i : Nat) (line : List Nat) (bef : Nat → Option Nat) (lev : Nat → Nat) : Prop where
  bi : BI nx s line bef lev
  bo : BO nx s i line lev
  run : outr nx s k i line bef = outr nx s 13 0 [s] (fun _ => none)
section
variable {nx : Nat → Nat → Bool} {s k i x : Nat} {line : List Nat} {bef : Nat → Option Nat} {lev : Nat → Nat}
theorem OuS.start (hs : s < 12) : OuS nx s 13 0 [s] (fun _ => none) (fun _ => 0) := ⟨BI.zero nx hs, BO.zero nx s, rfl⟩
theorem OuS.none_ (h : OuS nx s k i line bef lev) (hi : line.length ≤ i) : cyc nx s = [] := by
  have : outr nx s k i line bef = none := by
    cases k with
    | zero => rfl
    | succ k => rw [outr, List.getElem?_eq_none hi]
  unfold cyc
  rw [← h.run, this]
theorem OuS.in_ (h : OuS nx s k i line bef lev) (hx : line[i]? = some x) : InS nx s i x 0 line bef line bef lev := InS.start h.bi h.bo hx
theorem OuS.hit (h : OuS nx s (k + 1) i line bef lev) (hx : line[i]? = some x) {line' : List Nat} {bef' : Nat → Option Nat} (hi : inn nx s x (List.range 12) line bef = (true, line', bef')) : cyc nx s = back bef' s 13 x := by
  unfold cyc
  rw [← h.run, outr, hx]
  simp only [hi]
theorem OuS.next (h : OuS nx s (k + 1) i line bef lev) (hx : line[i]? = some x) {line' : List Nat} {bef' : Nat → Option Nat} {lev' : Nat → Nat} (hi : InS nx s i x 12 line bef line' bef' lev') : OuS nx s k (i + 1) line' bef' lev' := by
  obtain ⟨h1, h2, h3⟩ := hi.done
  refine ⟨h1, h2, ?_⟩
  rw [← h.run]
  rw [outr, hx]
  simp only [h3]
end
set_option maxRecDepth 100000 in
set_option maxHeartbeats 4000000 in
theorem cycleFrom_any {A : Option Addr} {c0 base s : Nat} {g : Nat → Nat} {T : Nat → Bool} {nx : Nat → Nat → Bool} {w : World} (h : LK w base A 12 c0 g T nx) (hs12 : s < 12) :
    Calls Try.prog 54 #[.slice A 12 c0, .int .i64 (s : Int)] w (BackEnd (cyc nx s) w) := by
  obtain ⟨R, rfl, _, _, cR⟩ := h.at_ hs12
  have H := hid h
  have hsi0 : (0 : Int) ≤ (s : Int) := by omega
  have hsi1 : (s : Int) < 12 := by omega
  have a1 := (St.refl w).alloc (.cells (fromCells g (fun _ => none)) 51)
  have cR := a1.cell cR
  have B1 := hid ((Blk.new w 51 (fromCells g (fun _ => none))).alloc (.cells #[ptr (g s)] 50))
  have a2 := a1.alloc (.cells #[ptr (g s)] 50)
  have q1 := World.ownsRow_lit (size := 1) (base := w.heap.size) (e := 50) (w.alloc (.cells (fromCells g (fun _ => none)) 51)) #[ptr (g s)] 1 (by simp) (by simp [maxLen]) rfl
  have Q1 := hid (QU.of_own q1 (by omega))
  rw [World.heap_alloc_size'] at Q1
  have S2 := hid a2
  clear h a1 a2 q1
  rw [from_nil] at B1 S2 Q1 cR
  unfold ptr at B1 S2 Q1 cR
  go_enter Try.func54, Try.ntmps54
  go_wp2_with fail
  generalize (w.alloc (.cells _ 51)).alloc _ = w2 at *
  go_loopg [6] 13 (fun k v wr => ∃ (i n c : Nat) (X : Option Addr) (line : List Nat) (bef : Nat → Option Nat) (lev : Nat → Nat), k + i = 13 ∧ n ≤ 12 ∧ v = .slice X n c ∧ Hid (n + i = line.length) ∧ Hid (QU wr w.heap.size 50 X n c ((line.drop i).map fun x => ptr (g x))) ∧ Hid (Blk wr w.heap.size 51 (fromCells g bef)) ∧ Hid (OuS nx s k i line bef lev) ∧ Hid (St w wr))
  case atStart =>
    exact ⟨0, 1, 1, _, [s], fun _ => none, fun _ => 0, by omega, by omega, rfl, hid rfl, Q1, B1, hid (OuS.start hs12), S2⟩
  case round =>
    obtain ⟨i, n, c, X, line, bef, lev, hki, hn12, rfl, hlen, hq, hb, ho, hst⟩ := hrel
    by_cases hn0 : n = 0
    · subst hn0
      have HN := hid (ho.out.none_ (by have := hlen.out; omega))
      go_wp2_with fail
      go_ret
      exact ⟨_, _, _, rfl, by rw [HN.out]; exact World.ownsRow_nil _ _ _ _, hst.out⟩
    · have hnp : 0 < n := by omega
      have hni : (0 : Int) < (n : Int) := by omega
      obtain ⟨k', rfl⟩ : ∃ k', gk = k' + 1 := ⟨gk - 1, by have := ho.out.bi.len; have := hlen.out; omega⟩
      obtain ⟨ad, v0, rfl, hv0, hc0⟩ := hq.out.at0 hnp
      obtain ⟨X1, hrun1, hq1⟩ := cut_que hq.out hnp
      obtain ⟨x, hx⟩ : ∃ x, line[i]? = some x := ⟨_, List.getElem?_eq_getElem (by have := hlen.out; omega)⟩
      have hv : v0 = .pointer (some ⟨g x, 0, none⟩) := by
        rw [List.getElem?_map, List.getElem?_drop, Nat.add_zero, hx] at hv0
        exact (Option.some.inj hv0).symm
      subst hv
      have HX := hid hx
      have hx12 := ho.out.bi.lt x (List.mem_of_getElem? hx)
      have HL := hid (H.out.st hst.out)
      have m0 := HL.out.c2 hx12 (j := 0) (by omega)
      have m1 := HL.out.c2 hx12 (j := 1) (by omega)
      have m2 := HL.out.c2 hx12 (j := 2) (by omega)
      have m3 := HL.out.c2 hx12 (j := 3) (by omega)
      have m4 := HL.out.c2 hx12 (j := 4) (by omega)
      have m5 := HL.out.c2 hx12 (j := 5) (by omega)
      have m6 := HL.out.c2 hx12 (j := 6) (by omega)
      have m7 := HL.out.c2 hx12 (j := 7) (by omega)
      have m8 := HL.out.c2 hx12 (j := 8) (by omega)
      have m9 := HL.out.c2 hx12 (j := 9) (by omega)
      have m10 := HL.out.c2 hx12 (j := 10) (by omega)
      have m11 := HL.out.c2 hx12 (j := 11) (by omega)
      change wr.cell? ⟨g x, 2, none⟩ = some (nxV g (nx x) 0) at m0
      change wr.cell? ⟨g x, 3, none⟩ = some (nxV g (nx x) 1) at m1
      change wr.cell? ⟨g x, 4, none⟩ = some (nxV g (nx x) 2) at m2
      change wr.cell? ⟨g x, 5, none⟩ = some (nxV g (nx x) 3) at m3
      change wr.cell? ⟨g x, 6, none⟩ = some (nxV g (nx x) 4) at m4
      change wr.cell? ⟨g x, 7, none⟩ = some (nxV g (nx x) 5) at m5
      change wr.cell? ⟨g x, 8, none⟩ = some (nxV g (nx x) 6) at m6
      change wr.cell? ⟨g x, 9, none⟩ = some (nxV g (nx x) 7) at m7
      change wr.cell? ⟨g x, 10, none⟩ = some (nxV g (nx x) 8) at m8
      change wr.cell? ⟨g x, 11, none⟩ = some (nxV g (nx x) 9) at m9
      change wr.cell? ⟨g x, 12, none⟩ = some (nxV g (nx x) 10) at m10
      change wr.cell? ⟨g x, 13, none⟩ = some (nxV g (nx x) 11) at m11
      have HQ1 := hid hq1
      rw [← List.map_drop, List.drop_drop] at HQ1
      have HI := hid (ho.out.in_ hx)
      have HLE := hid (show (n - 1) + (i + 1) = line.length by have := hlen.out; omega)
      have HW2 := hid (show w.heap.size ≤ wr.heap.size from hst.out.le)
      have HQ0 := hid trivial
      clear hv0 hx hq hq1
      go_wp2_with fail
      clear m0 m1 m2 m3 m4 m5 m6 m7 m8 m9 m10 m11 hc0 hrun1 HQ0
      go_loopw [6, 27] (fun v t wo => ∃ (j n c : Nat) (X : Option Addr) (line' : List Nat) (bef' : Nat → Option Nat) (lev' : Nat → Nat), j ≤ 12 ∧ n ≤ 12 ∧ t = .int .i64 (j : Int) ∧ v = .slice X n c ∧ Hid (n + (i + 1) = line'.length) ∧ Hid (QU wo w.heap.size 50 X n c ((line'.drop (i + 1)).map fun x => ptr (g x))) ∧ Hid (Blk wo w.heap.size 51 (fromCells g bef')) ∧ Hid (InS nx s i x j line bef line' bef' lev') ∧ Hid (St w wo)) (fun _ t _ => 12 - (intOf t).toNat)
      case atStart => exact ⟨0, n - 1, c - 1, X1, line, bef, lev, by omega, by omega, rfl, rfl, HLE, HQ1, hb, HI, hst⟩
      case round =>
        obtain ⟨wa, rfl⟩ : ∃ wo : World, wo = wr := ⟨_, rfl⟩
        clear HQ1 hb HI hst HL HLE HW2
        obtain ⟨j, n2, c2, X2, line2, bef2, lev2, hj, hn2, rfl, rfl, hlen2, hq2, hb2, hi2, hst2⟩ := hrel
        by_cases hj12 : j < 12
        · have hji : (j : Int) < 12 := by omega
          have hj0 : (0 : Int) ≤ (j : Int) := by omega
          have hnv0 : (#[nxV g (nx x) 0, nxV g (nx x) 1, nxV g (nx x) 2, nxV g (nx x) 3, nxV g (nx x) 4, nxV g (nx x) 5, nxV g (nx x) 6, nxV g (nx x) 7, nxV g (nx x) 8, nxV g (nx x) 9, nxV g (nx x) 10, nxV g (nx x) 11] : Array Value)[j]? = some (nxV g (nx x) j) := next_at g (nx x) hj12
          have hnv := index_12 hj12 hnv0
          clear hnv0
          cases hN : nx x j
          · have HI3 := hid (hi2.out.no hj12 hN)
            rw [show nxV g (nx x) j = .pointer none by unfold nxV; rw [hN]; rfl] at hnv
            clear hN
            go_wp2_with fail
            go_roundw
            case rel => exact ⟨j + 1, n2, c2, X2, line2, bef2, lev2, by omega, hn2, by go_num, rfl, hlen2, hq2, hb2, HI3, hst2⟩
            case measure => simp [intOf]; omega
          · rw [show nxV g (nx x) j = .pointer (some ⟨g j, 0, none⟩) by unfold nxV; rw [hN]; rfl] at hnv
            have HNN := hid hN
            clear hN
            by_cases hjs : j = s
            · have HC := hid (ho.out.hit HX.out (hi2.out.hit hj12 HNN.out hjs))
              subst hjs
              have HX2 := hid (List.mem_of_getElem? hi2.out.bp.at_)
              have HLV := hid (hi2.out.bi.lev12 HX2.out)
              have HL2 := hid (H.out.st hst2.out)
              have q0 := hb2.out.cell_ (i := 0) (v := fromAt g (bef2 0)) rfl
              have q1 := hb2.out.cell_ (i := 1) (v := fromAt g (bef2 1)) rfl
              have q2 := hb2.out.cell_ (i := 2) (v := fromAt g (bef2 2)) rfl
              have q3 := hb2.out.cell_ (i := 3) (v := fromAt g (bef2 3)) rfl
              have q4 := hb2.out.cell_ (i := 4) (v := fromAt g (bef2 4)) rfl
              have q5 := hb2.out.cell_ (i := 5) (v := fromAt g (bef2 5)) rfl
              have q6 := hb2.out.cell_ (i := 6) (v := fromAt g (bef2 6)) rfl
              have q7 := hb2.out.cell_ (i := 7) (v := fromAt g (bef2 7)) rfl
              have q8 := hb2.out.cell_ (i := 8) (v := fromAt g (bef2 8)) rfl
              have q9 := hb2.out.cell_ (i := 9) (v := fromAt g (bef2 9)) rfl
              have q10 := hb2.out.cell_ (i := 10) (v := fromAt g (bef2 10)) rfl
              have q11 := hb2.out.cell_ (i := 11) (v := fromAt g (bef2 11)) rfl
              go_wp2_with fail
              refine (backTo_any hi2.out.bi hj12 13 x _ HL2.out (by have := HLV.out; omega) (by omega) HX2.out).mono ?_
              rintro e w3 ⟨X3, n3, c3, rfl, o3, s3⟩
              go_wp2_with fail
              go_ret
              exact ⟨_, _, _, rfl, by rw [HC.out]; exact OI.less o3 hst2.out.le, hst2.out.trans s3⟩
            · have hjsi : ((j : Int) == (s : Int)) = false := by simp; omega
              have hfr := from_at g bef2 hj12
              have qj := hb2.out.cell_ hfr
              have fz := hb2.out.frozen j
              cases hbf : bef2 j with
              | some y =>
                have HI3 := hid (hi2.out.old hj12 HNN.out hjs hbf)
                rw [hbf] at qj
                change wa.cell? ⟨w.heap.size, j, none⟩ = some (.pointer (some ⟨g y, 0, none⟩)) at qj
                clear hbf hfr
                go_wp2_with fail
                go_roundw
                case rel => exact ⟨j + 1, n2, c2, X2, line2, bef2, lev2, by omega, hn2, by go_num, rfl, hlen2, hq2, hb2, HI3, hst2⟩
                case measure => simp [intOf]; omega
              | none =>
                have HI3 := hid (hi2.out.new hj12 HNN.out hjs hbf)
                rw [hbf] at qj
                change wa.cell? ⟨w.heap.size, j, none⟩ = some (.pointer none) at qj
                clear hbf hfr
                have HB3 := hid (hb2.out.set_ j (ptr (g x)))
                rw [from_set g bef2 x hj12] at HB3
                have HQ3 := hid (hq2.out.grown (World.grownBy_set wa w.heap.size j (ptr (g x))) (fun k hk => by injection hk with hk; subst hk; exact hq2.out.ne_ hb2.out (by decide)))
                have HS3 := hid (hst2.out.setCell (p := ⟨w.heap.size, j, none⟩) (Nat.le_refl _) (ptr (g x)))
                have HL3 := hid (show n2 + 1 + (i + 1) = (line2 ++ [j]).length by rw [List.length_append, ← hlen2.out]; simp; omega)
                have hnn : n2 + 1 ≤ 12 := by have := HI3.out.len; rw [← HL3.out] at this; omega
                have HDR := hid (show (line2 ++ [j]).drop (i + 1) = line2.drop (i + 1) ++ [j] from List.drop_append_of_le_length (by have := hlen2.out; omega))
                unfold ptr at HB3 HQ3 HS3
                go_wp2_with (at_builtin; go_loud (refine wpList_append_que _ rfl _ _ 48 rfl w.heap.size 50 (.pointer none) Try.underlying48 linkInfo rfl X2 n2 c2 _ (.pointer (some ⟨g j, 0, none⟩)) rfl HQ3.out rfl rfl (by simp) (by omega) HS3.out.le ?_); intro X4 c4 w4 q4 g4)
                have HQ4 := hid (show QU w4 w.heap.size 50 X4 (n2 + 1) c4 (((line2 ++ [j]).drop (i + 1)).map fun x => ptr (g x)) by rw [HDR.out, List.map_append]; exact q4)
                have HB4 := hid (HB3.out.grown g4 (fun e => hq2.out.ne_ hb2.out (by decide) e.symm))
                have HS4 := hid (St.grown HS3.out g4 (fun k hk => (hq2.out.lt k hk).1))
                go_roundw
                case rel => exact ⟨j + 1, n2 + 1, c4, X4, line2 ++ [j], updB bef2 j x, _, by omega, hnn, by go_num, rfl, HL3, HQ4, HB4, HI3, HS4⟩
                case measure => simp [intOf]; omega
        · obtain rfl : j = 12 := by omega
          have HO3 := hid (ho.out.next HX.out hi2.out)
          go_wp2_with fail
          go_roundg k'
          case measure => omega
          case rel => exact ⟨i + 1, n2, c2, X2, line2, bef2, lev2, by omega, hn2, rfl, hlen2, hq2, hb2, HO3, hst2⟩
end Go.Proofs.Ytfdgbbapbpflcaa
