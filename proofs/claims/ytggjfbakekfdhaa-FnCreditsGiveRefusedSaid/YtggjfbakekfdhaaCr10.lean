/- The reference: a credit taken. -/
import Derived.Test.YtggjfbakekfdhaaCr9
namespace Go.Proofs.Ytggjfbakekfdhaa
open Go.RowKit
theorem ins_union (xs : List Int) (g : Int) : pickedC (fun x => has xs x || has [g] x) 5 = insC xs g := by
  unfold insC
  congr 1
  funext x
  rw [Bool.or_comm]
  congr 1
  simp only [has, List.contains, List.elem]
  cases x == g <;> rfl
theorem getD_of {fs : List Int} {k : Nat} {x : Int} (h : fs[k]? = some x) : fs.getD k 0 = x := by simp [List.getD_eq_getElem?_getD, h]
theorem takeC_of {fs : List Int} {hs : List (List Int × Int)} {k g : Nat} {x t : Int} {xs : List Int} (h : hs[k]? = some (xs, t)) (hx : fs[g]? = some x) : takeC fs hs k g = (fs.set g (x - 1), hs.set k (insC xs g, -1)) := by
  unfold takeC
  rw [Int.toNat_natCast, getD_of hx, holdAt_of h]
theorem Turned.grow {P : Nat → Prop} {a b c : World} {row : Option Nat} (h : Turned P a b) (k : b.grownBy c row) (hr : ∀ g, row = some g → P g ∨ a.heap.size ≤ g) : Turned P a c :=
  ⟨k.os.trans h.os, k.tape.trans h.tape, k.output.trans h.output, Nat.le_trans h.size k.size, fun i hi hn => (k.block i (Nat.lt_of_lt_of_le hi h.size) (fun e => by rcases hr i e.symm with h1 | h1; exact hn h1; omega)).trans (h.block i hi hn)⟩
theorem Turned.set {P : Nat → Prop} {a b : World} (h : Turned P a b) {g i : Nat} (hr : P g ∨ a.heap.size ≤ g) (u : Value) : Turned P a (b.setCell ⟨g, i, none⟩ u) :=
  h.grow (World.grownBy_set b g i u) (fun k hk => by injection hk with hk; subst hk; exact hr)
theorem Turned.step {P : Nat → Prop} {a b c : World} (h : Turned P a b) (s : St b c) : Turned P a c := h.trans (Turned.of_st s)
theorem SL_one (W : World) (e : TypeId) (g : Int) : SL (W.alloc (.cells #[.int .i64 g] e)) (some ⟨W.heap.size, 0, none⟩) 1 1 [g] := by
  refine ⟨⟨rfl, fun _ => ⟨_, rfl, by simp, fun j u hu => ?_⟩⟩, Nat.le_refl _, by simp [maxLen]⟩
  match j with
  | 0 =>
    rw [add_zero]
    simp at hu
    subst hu
    exact (Blk.new W e #[.int .i64 g]).cell_ (i := 0) rfl
  | j + 1 => simp at hu
theorem CrS.fz {w : World} {base n c m d b k : Nat} {A : Option Addr} {fs : List Int} {hs : List (List Int × Int)} (h : CrS w base A n c (some ⟨b, 0, none⟩) m d fs hs) (hk : k < m) (j : Nat) : w.frozen? ⟨b, j, none⟩ = false := by
  obtain ⟨b', Ak, nk, ck, xs, t, e, _, _, _, _, _, hz, _⟩ := h.hold hk
  injection e with e
  injection e with e
  subst e
  exact hz j
theorem CrS.put {w : World} {base n c m d b k : Nat} {A : Option Addr} {fs : List Int} {hs : List (List Int × Int)} (h : CrS w base A n c (some ⟨b, 0, none⟩) m d fs hs) (hk : k < m) {A' : Option Addr} {n' c' : Nat} {ys : List Int} (u : Int) (o : OI w base 3 A' n' c' ys) (hne : ∀ g, blockOf A' = some g → blockOf A ≠ some g) :
    CrS ((w.setCell ⟨b, k * 2, none⟩ (.slice A' n' c')).setCell ⟨b, k * 2 + 1, none⟩ (.int .i64 u)) base A n c (some ⟨b, 0, none⟩) m d fs (hs.set k (ys, u)) := by
  obtain ⟨b', Ak, nk, ck, xs, t, e, _, _, hx, _, _, _, _, _, h2⟩ := h.hold hk
  injection e with e
  injection e with e
  subst e
  have c1 := (h2 A' n' c' ys o hne).out
  obtain ⟨b', Ak', nk', ck', xs', t', e, _, _, hx', _, _, _, _, h1, _⟩ := c1.hold hk
  injection e with e
  injection e with e
  subst e
  have hkl : k < hs.length := (List.getElem?_eq_some_iff.1 hx.out).1
  have := hx'.out
  rw [List.getElem?_set_self hkl] at this
  injection this with this
  injection this with e1 e2
  subst e1 e2
  have c2 := (h1 u).out
  rwa [List.set_set] at c2
set_option maxRecDepth 100000 in
set_option maxHeartbeats 4000000 in
theorem l22Take_any (A B : Option Addr) (c m d base k g : Nat) (fs : List Int) (hs : List (List Int × Int)) (w : World) (h : CrS w base A 5 c B m d fs hs) (hb : base ≤ w.heap.size) (hk : k < m) (hg : g < 5) (hfr : ∀ x ∈ fs, 0 ≤ x ∧ x ≤ 10) (hl5 : ∀ x ∈ hs, x.1.length ≤ 1048576) :
    Calls Try.prog 66 #[crV A 5 c B m d, .int .i64 (k : Int), .int .i64 (g : Int)] w fun e w' => e = .returned (crV A 5 c B m d) ∧ CrS w' base A 5 c B m d (takeC fs hs k g).1 (takeC fs hs k g).2 ∧ Turned (fun i => blockOf A = some i ∨ blockOf B = some i) w w' := by
  have s0 := ((St.refl w).alloc (.cells #[.slice A 5 c, .slice B m d] 25)).alloc (.cells #[.slice none 0 0, .slice none 0 0] 25)
  have K0 := hid ((Blk.new w 25 #[.slice A 5 c, .slice B m d]).alloc (.cells #[.slice none 0 0, .slice none 0 0] 25))
  have L0 := hid (show Blk ((w.alloc (.cells #[.slice A 5 c, .slice B m d] 25)).alloc (.cells #[.slice none 0 0, .slice none 0 0] 25)) (w.heap.size + 1) 25 #[.slice none 0 0, .slice none 0 0] by
    have := Blk.new (w.alloc (.cells #[.slice A 5 c, .slice B m d] 25)) 25 #[.slice none 0 0, .slice none 0 0]
    rwa [World.heap_alloc_size'] at this)
  have C0 := hid (h.st s0)
  have S0 := hid s0
  have HFR := hid hfr
  have HL5 := hid hl5
  have hgi : (0 : Int) ≤ (g : Int) := by omega
  have hgi2 : (g : Int) < 5 := by omega
  have hki : (0 : Int) ≤ (k : Int) := by omega
  have hki2 : (k : Int) < (m : Int) := by omega
  clear h s0 hfr hl5
  go_enter Try.func66, Try.ntmps66
  go_wp2_with fail
  generalize (w.alloc (.cells _ 25)).alloc (.cells _ 25) = w0 at *
  obtain ⟨b, x, rfl, hb1, hb2, hx, e1, e2, hset⟩ := C0.out.free (k := g) hg
  have hxr := HFR.out x (List.mem_of_getElem? hx.out)
  have q1 : IntKind.i64.wrap (x - 1) = x - 1 := IntWalk.i64_in _ (by omega)
  have k0 := K0.out.cell_ (i := 0) (v := .slice (some ⟨b, 0, none⟩) 5 c) rfl
  have d1 : St (w0.setCell ⟨b, g, none⟩ (.int .i64 (x - 1))) (w0.setCell ⟨b, g, none⟩ (.int .i64 (x - 1))).drew := Dr.st ⟨1, rfl⟩
  have C1 := hid ((hset (x - 1)).out.st d1)
  have T1 := hid (((Turned.of_st S0.out : Turned (fun i => blockOf (some (⟨b, 0, none⟩ : Addr)) = some i ∨ blockOf B = some i) w w0).set (g := b) (i := g) (.inl (.inl rfl)) (.int .i64 (x - 1))).step d1)
  have hnk : w.heap.size ≠ b := fun e => (C0.out.apart K0.out (by decide) (by decide)).1 (by rw [e]; rfl)
  have hnl : w.heap.size + 1 ≠ b := fun e => (C0.out.apart L0.out (by decide) (by decide)).1 (by rw [e]; rfl)
  have K1 := hid ((K0.out.far (p := ⟨b, g, none⟩) hnk (.int .i64 (x - 1))).st d1)
  have L1 := hid ((L0.out.far (p := ⟨b, g, none⟩) hnl (.int .i64 (x - 1))).st d1)
  clear hset d1
  refine wp_region_held_drew (S := (fun w' => w'.cell? ⟨w.heap.size, 0, none⟩ = some (.slice (some ⟨b, 0, none⟩) 5 c))) (by kernel_rfl) ?_ (fun hH0 => ?_)
  · exact k0
  refine wpAnyH_take (i := 0) (oi := ⟨some 7, _, _, _, _, _⟩) (v := ?_) rfl (by kernel_rfl) (by kernel_rfl) (by kernel_rfl) (fun _ _ _ h => h) (Or.inl ⟨by rfl, ?_⟩) (by assumption) ?_
  rotate_left
  · (intro w hSw; (try dsimp only at hSw); go_simp; (try with_reducible rfl))
  (try simp only [Act.put, List.setIfInBounds_toArray, List.set_cons_zero, List.set_cons_succ])
  refine wpAnyH_take (i := 1) (oi := ⟨some 8, _, _, _, _, _⟩) (v := ?_) rfl (by kernel_rfl) (by kernel_rfl) (by kernel_rfl) (fun _ _ _ h => h) (Or.inl ⟨by rfl, ?_⟩) (by assumption) ?_
  rotate_left
  · (intro w hSw; (try dsimp only at hSw); go_simp; (try with_reducible rfl))
  (try simp only [Act.put, List.setIfInBounds_toArray, List.set_cons_zero, List.set_cons_succ])
  refine wpAnyH_take (i := 2) (oi := ⟨some 9, _, _, _, _, _⟩) (v := ?_) rfl (by kernel_rfl) (by kernel_rfl) (by kernel_rfl) (fun _ _ _ h => h) (Or.inl ⟨by rfl, ?_⟩) (by assumption) ?_
  rotate_left
  · (intro w hSw; (try dsimp only at hSw); go_simp; (try with_reducible rfl))
  (try simp only [Act.put, List.setIfInBounds_toArray, List.set_cons_zero, List.set_cons_succ])
  refine wpAnyH_take (i := 3) (oi := ⟨some 10, _, _, _, _, _⟩) (v := ?_) rfl (by kernel_rfl) (by kernel_rfl) (by kernel_rfl) (fun _ _ _ h => h) (Or.inl ⟨by rfl, ?_⟩) (by assumption) ?_
  rotate_left
  · (intro w hSw; (try dsimp only at hSw); go_simp; (try with_reducible rfl))
  (try simp only [Act.put, List.setIfInBounds_toArray, List.set_cons_zero, List.set_cons_succ])
  refine wpAnyH_take (i := 4) (oi := ⟨some 11, _, _, _, _, _⟩) (v := ?_) rfl (by kernel_rfl) (by kernel_rfl) (by kernel_rfl) (fun _ _ _ h => h) (Or.inl ⟨by rfl, ?_⟩) (by assumption) ?_
  rotate_left
  · (intro w hSw; (try dsimp only at hSw); go_simp; (try with_reducible rfl))
  (try simp only [Act.put, List.setIfInBounds_toArray, List.set_cons_zero, List.set_cons_succ])
  refine wpAnyH_take (i := 5) (oi := ⟨some 12, _, _, _, _, _⟩) (v := ?_) rfl (by kernel_rfl) (by kernel_rfl) (by kernel_rfl) (fun _ _ _ h => h) (Or.inl ⟨by rfl, ?_⟩) (by assumption) ?_
  rotate_left
  · (intro w hSw; (try dsimp only at hSw); go_simp; (try with_reducible rfl))
  (try simp only [Act.put, List.setIfInBounds_toArray, List.set_cons_zero, List.set_cons_succ])
  refine wpAnyH_take (i := 6) (oi := ⟨some 13, _, _, _, _, _⟩) (v := ?_) rfl (by kernel_rfl) (by kernel_rfl) (by kernel_rfl) (fun _ _ _ h => h) (Or.inl ⟨by rfl, ?_⟩) (by assumption) ?_
  rotate_left
  · (intro w hSw; (try dsimp only at hSw); go_simp; (try with_reducible rfl))
  (try simp only [Act.put, List.setIfInBounds_toArray, List.set_cons_zero, List.set_cons_succ])
  refine wpAnyH_ready (rs := [7]) (by kernel_rfl) (by simp) ?_
  refine AllReadyH.cons (o := ⟨some 14, _, _, _, _, _⟩) rfl (fun K hK => ?_) AllReadyH.nil
  go_simp
  (first | (refine hK.out _ _ ?_ (fun hH1 => ?_)) | (go_wp2_with fail; refine hK.out _ _ ?_ (fun hH1 => ?_)))
  · go_keep
  clear hK K hH0
  (try simp only [Act.put, List.setIfInBounds_toArray, List.set_cons_zero, List.set_cons_succ])
  refine wpAnyH_take (i := 8) (oi := ⟨some 15, _, _, _, _, _⟩) (v := ?_) rfl (by kernel_rfl) (by kernel_rfl) (by kernel_rfl) (fun _ _ _ h => h) (Or.inl ⟨by rfl, ?_⟩) (by assumption) ?_
  rotate_left
  · (intro w hSw; (try dsimp only at hSw); go_simp; (try with_reducible rfl))
  (try simp only [Act.put, List.setIfInBounds_toArray, List.set_cons_zero, List.set_cons_succ])
  refine wpAnyH_take (i := 9) (oi := ⟨some 16, _, _, _, _, _⟩) (v := ?_) rfl (by kernel_rfl) (by kernel_rfl) (by kernel_rfl) (fun _ _ _ h => h) (Or.inl ⟨by rfl, ?_⟩) (by assumption) ?_
  rotate_left
  · (intro w hSw; (try dsimp only at hSw); go_simp; (try with_reducible rfl))
  (try simp only [Act.put, List.setIfInBounds_toArray, List.set_cons_zero, List.set_cons_succ])
  refine wpAnyH_ready (rs := [10]) (by kernel_rfl) (by simp) ?_
  refine AllReadyH.cons (o := ⟨none, _, _, _, _, _⟩) rfl (fun K hK => ?_) AllReadyH.nil
  go_simp
  (first | (refine hK.out _ _ ?_ (fun hH2 => ?_)) | (go_wp2_with fail; refine hK.out _ _ ?_ (fun hH2 => ?_)))
  · exact K1.out.cell_ (i := 0) (v := .slice (some ⟨b, 0, none⟩) 5 c) rfl
  clear hK K hH1
  (try simp only [Act.put, List.setIfInBounds_toArray, List.set_cons_zero, List.set_cons_succ])
  refine wpAnyH_done (by kernel_rfl) ?_ _
  clear hH2
  go_wp2_with fail
  generalize (w0.setCell ⟨b, g, none⟩ (.int .i64 (x - 1))).drew = w1 at *
  clear e1 e2 k0 q1 hnk hnl hb2 S0 K0 L0 C0
  obtain ⟨b2, Ak, nk, ck, xs, t, rfl, hb3, hb4, hx2, e1, e2, hfz, hsl, _, _⟩ := C1.out.hold hk
  have hnx : nk ≤ 1048576 := by have h8 := HL5.out _ (List.mem_of_getElem? hx2.out); rw [hsl.out.len] at h8; exact h8
  have k1 := K1.out.cell_ (i := 1) (v := .slice (some ⟨b2, 0, none⟩) m d) rfl
  have sa := ((St.refl w1).alloc (.cells #[.int .i64 (g : Int)] 3)).drew
  have hk2 : w.heap.size ≠ b2 := fun e => (C1.out.apart K1.out (by decide) (by decide)).2 (by rw [e]; rfl)
  have hl2 : w.heap.size + 1 ≠ b2 := fun e => (C1.out.apart L1.out (by decide) (by decide)).2 (by rw [e]; rfl)
  have HA := hid (hsl.out.st sa)
  have HB := hid ((SL_one w1 3 (g : Int)).st (Dr.st ⟨1, rfl⟩ : St _ (w1.alloc (.cells #[.int .i64 (g : Int)] 3)).drew))
  have SA := hid sa
  clear sa hsl
  refine wp_region_held_drew (S := (fun w' => w'.cell? ⟨w.heap.size, 1, none⟩ = some (.slice (some ⟨b2, 0, none⟩) m d))) (by kernel_rfl) ?_ (fun hH0 => ?_)
  · exact k1
  refine wpAnyH_take (i := 0) (oi := ⟨some 17, _, _, _, _, _⟩) (v := ?_) rfl (by kernel_rfl) (by kernel_rfl) (by kernel_rfl) (fun _ _ _ h => h) (Or.inl ⟨by rfl, ?_⟩) (by assumption) ?_
  rotate_left
  · (intro w hSw; (try dsimp only at hSw); go_simp; (try with_reducible rfl))
  (try simp only [Act.put, List.setIfInBounds_toArray, List.set_cons_zero, List.set_cons_succ])
  refine wpAnyH_take (i := 1) (oi := ⟨some 18, _, _, _, _, _⟩) (v := ?_) rfl (by kernel_rfl) (by kernel_rfl) (by kernel_rfl) (fun _ _ _ h => h) (Or.inl ⟨by rfl, ?_⟩) (by assumption) ?_
  rotate_left
  · (intro w hSw; (try dsimp only at hSw); go_simp; (try with_reducible rfl))
  (try simp only [Act.put, List.setIfInBounds_toArray, List.set_cons_zero, List.set_cons_succ])
  refine wpAnyH_take (i := 2) (oi := ⟨some 19, _, _, _, _, _⟩) (v := ?_) rfl (by kernel_rfl) (by kernel_rfl) (by kernel_rfl) (fun _ _ _ h => h) (Or.inl ⟨by rfl, ?_⟩) (by assumption) ?_
  rotate_left
  · (intro w hSw; (try dsimp only at hSw); go_simp; (try with_reducible rfl))
  (try simp only [Act.put, List.setIfInBounds_toArray, List.set_cons_zero, List.set_cons_succ])
  refine wpAnyH_take (i := 3) (oi := ⟨some 20, _, _, _, _, _⟩) (v := ?_) rfl (by kernel_rfl) (by kernel_rfl) (by kernel_rfl) (fun _ _ _ h => h) (Or.inl ⟨by rfl, ?_⟩) (by assumption) ?_
  rotate_left
  · (intro w hSw; (try dsimp only at hSw); go_simp; (try with_reducible rfl))
  (try simp only [Act.put, List.setIfInBounds_toArray, List.set_cons_zero, List.set_cons_succ])
  refine wpAnyH_take (i := 4) (oi := ⟨some 21, _, _, _, _, _⟩) (v := ?_) rfl (by kernel_rfl) (by kernel_rfl) (by kernel_rfl) (fun _ _ _ h => h) (Or.inl ⟨by rfl, ?_⟩) (by assumption) ?_
  rotate_left
  · (intro w hSw; (try dsimp only at hSw); go_simp; (try with_reducible rfl))
  (try simp only [Act.put, List.setIfInBounds_toArray, List.set_cons_zero, List.set_cons_succ])
  refine wpAnyH_take (i := 5) (oi := ⟨some 22, _, _, _, _, _⟩) (v := ?_) rfl (by kernel_rfl) (by kernel_rfl) (by kernel_rfl) (fun _ _ _ h => h) (Or.inl ⟨by rfl, ?_⟩) (by assumption) ?_
  rotate_left
  · (intro w hSw; (try dsimp only at hSw); go_simp; (try with_reducible rfl))
  (try simp only [Act.put, List.setIfInBounds_toArray, List.set_cons_zero, List.set_cons_succ])
  refine wpAnyH_take (i := 6) (oi := ⟨some 23, _, _, _, _, _⟩) (v := ?_) rfl (by kernel_rfl) (by kernel_rfl) (by kernel_rfl) (fun _ _ _ h => h) (Or.inl ⟨by rfl, ?_⟩) (by assumption) ?_
  rotate_left
  · (intro w hSw; (try dsimp only at hSw); go_simp; (try with_reducible rfl))
  (try simp only [Act.put, List.setIfInBounds_toArray, List.set_cons_zero, List.set_cons_succ])
  refine wpAnyH_take (i := 7) (oi := ⟨some 24, _, _, _, _, _⟩) (v := ?_) rfl (by kernel_rfl) (by kernel_rfl) (by kernel_rfl) (fun _ _ _ h => h) (Or.inl ⟨by rfl, ?_⟩) (by assumption) ?_
  rotate_left
  · (intro w hSw; (try dsimp only at hSw); go_simp; (try with_reducible rfl))
  (try simp only [Act.put, List.setIfInBounds_toArray, List.set_cons_zero, List.set_cons_succ])
  refine wpAnyH_take (i := 9) (oi := ⟨some 26, _, _, _, _, _⟩) (v := ?_) rfl (by kernel_rfl) (by kernel_rfl) (by kernel_rfl) (fun _ _ _ h => h) (Or.inl ⟨by rfl, ?_⟩) (by assumption) ?_
  rotate_left
  · (intro w hSw; (try dsimp only at hSw); go_simp; (try with_reducible rfl))
  (try simp only [Act.put, List.setIfInBounds_toArray, List.set_cons_zero, List.set_cons_succ])
  refine wpAnyH_ready (rs := [8, 10]) (by kernel_rfl) (by simp) ?_
  refine AllReadyH.cons (o := ⟨some 25, _, _, _, _, _⟩) rfl (fun K hK => ?_) ?_
  · skip
    go_simp
    (first | (refine hK.out _ _ ?_ (fun hH1 => ?_)) | (go_wp2_with fail; refine hK.out _ _ ?_ (fun hH1 => ?_)))
    · first | exact k1 | exact SA.out.cell k1
    clear hK K hH0
    (try simp only [Act.put, List.setIfInBounds_toArray, List.set_cons_zero, List.set_cons_succ])
    refine wpAnyH_ready (rs := [10]) (by kernel_rfl) (by simp) ?_
    refine AllReadyH.cons (o := ⟨some 27, _, _, _, _, _⟩) rfl (fun K hK => ?_) AllReadyH.nil
    go_simp
    (first | (refine hK.out _ _ ?_ (fun hH2 => ?_)) | (go_wp2_with fail; refine hK.out _ _ ?_ (fun hH2 => ?_)))
    · exact SA.out.cell k1
    clear hK K hH1
    (try simp only [Act.put, List.setIfInBounds_toArray, List.set_cons_zero, List.set_cons_succ])
    refine wpAnyH_ready (rs := [11]) (by kernel_rfl) (by simp) ?_
    refine AllReadyH.cons (o := ⟨some 28, _, _, _, _, _⟩) rfl (fun K hK => ?_) AllReadyH.nil
    go_simp
    (go_at_call 76; refine (l1Union_any _ _ _ _ _ _ _ _ _ HA.out HB.out hnx (by omega)).mono ?_; rintro e w2 ⟨X, a, rfl, o2, s2⟩; rw [ins_union] at o2 ⊢; have U2 := SA.out.trans s2; have C2 := hid (C1.out.st U2); have g1 := U2.cell e1; have g2 := U2.cell e2; have y1 := C2.out.fz hk (k * 2); have y2 := C2.out.fz hk (k * 2 + 1); have C3 := hid (C2.out.put hk (-1) (o2.less (show base ≤ (w1.alloc (.cells #[.int .i64 (g : Int)] 3)).drew.heap.size by have := SA.out.le; have := T1.out.size; omega)) (fun q hq hA => by have h7 := (o2.lt q hq).1; have h8 := (C1.out.bA hA).2; have h9 := SA.out.le; omega)); have K3 := hid (((K1.out.st U2).far (p := ⟨b2, k * 2, none⟩) hk2 (.slice X (insC xs g).length a)).far (p := ⟨b2, k * 2 + 1, none⟩) hk2 (.int .i64 (-1))); have L3 := hid (((L1.out.st U2).far (p := ⟨b2, k * 2, none⟩) hl2 (.slice X (insC xs g).length a)).far (p := ⟨b2, k * 2 + 1, none⟩) hl2 (.int .i64 (-1))); have T3 := hid (((T1.out.step U2).set (g := b2) (i := k * 2) (.inl (.inr rfl)) (.slice X (insC xs g).length a)).set (g := b2) (i := k * 2 + 1) (.inl (.inr rfl)) (.int .i64 (-1))))
    (first | (refine hK.out _ _ ?_ (fun hH3 => ?_)) | (go_wp2_with fail; refine hK.out _ _ ?_ (fun hH3 => ?_)))
    · exact U2.cell k1
    clear hK K hH2
    (try simp only [Act.put, List.setIfInBounds_toArray, List.set_cons_zero, List.set_cons_succ])
    refine wpAnyH_take (i := 12) (oi := ⟨some 29, _, _, _, _, _⟩) (v := ?_) rfl (by kernel_rfl) (by kernel_rfl) (by kernel_rfl) (fun _ _ _ h => h) (Or.inl ⟨by rfl, ?_⟩) (by assumption) ?_
    rotate_left
    · (intro w hSw; (try dsimp only at hSw); go_simp; (try with_reducible rfl))
    (try simp only [Act.put, List.setIfInBounds_toArray, List.set_cons_zero, List.set_cons_succ])
    refine wpAnyH_take (i := 13) (oi := ⟨some 30, _, _, _, _, _⟩) (v := ?_) rfl (by kernel_rfl) (by kernel_rfl) (by kernel_rfl) (fun _ _ _ h => h) (Or.inl ⟨by rfl, ?_⟩) (by assumption) ?_
    rotate_left
    · (intro w hSw; (try dsimp only at hSw); go_simp; (try with_reducible rfl))
    (try simp only [Act.put, List.setIfInBounds_toArray, List.set_cons_zero, List.set_cons_succ])
    refine wpAnyH_ready (rs := [14]) (by kernel_rfl) (by simp) ?_
    refine AllReadyH.cons (o := ⟨none, _, _, _, _, _⟩) rfl (fun K hK => ?_) AllReadyH.nil
    go_simp
    (first | (refine hK.out _ _ ?_ (fun hH4 => ?_)) | (go_wp2_with fail; refine hK.out _ _ ?_ (fun hH4 => ?_)))
    · exact K3.out.cell_ (i := 1) (v := .slice (some ⟨b2, 0, none⟩) m d) rfl
    clear hK K hH3
    (try simp only [Act.put, List.setIfInBounds_toArray, List.set_cons_zero, List.set_cons_succ])
    refine wpAnyH_done (by kernel_rfl) ?_ _
    clear hH4
    have HE := hid (takeC_of hx2.out hx.out)
    generalize (w2.setCell ⟨b2, k * 2, none⟩ (.slice X (insC xs g).length a)).setCell ⟨b2, k * 2 + 1, none⟩ (.int .i64 (-1)) = w3 at *
    have z0 := K3.out.cell_ (i := 0) (v := .slice (some ⟨b, 0, none⟩) 5 c) rfl
    have z1 := K3.out.cell_ (i := 1) (v := .slice (some ⟨b2, 0, none⟩) m d) rfl
    have f0 := L3.out.frozen 0
    have f1 := L3.out.frozen 1
    have o0 := L3.out.cell_ (i := 0) (v := .slice none 0 0) rfl
    have o1 := L3.out.cell_ (i := 1) (v := .slice none 0 0) rfl
    have L4 := L3.out.set_ 0 (.slice (some ⟨b, 0, none⟩) 5 c)
    have L5 := L4.set_ 1 (.slice (some ⟨b2, 0, none⟩) m d)
    have r0 := L5.cell_ (i := 0) (v := .slice (some ⟨b, 0, none⟩) 5 c) rfl
    have r1 := L5.cell_ (i := 1) (v := .slice (some ⟨b2, 0, none⟩) m d) rfl
    have C5 := hid ((C3.out.blk L3.out (by decide) (by decide) (World.grownBy_set w3 (w.heap.size + 1) 0 (.slice (some ⟨b, 0, none⟩) 5 c))).blk L4 (by decide) (by decide) (World.grownBy_set _ (w.heap.size + 1) 1 (.slice (some ⟨b2, 0, none⟩) m d)))
    have T5 := hid ((T3.out.set (g := w.heap.size + 1) (i := 0) (.inr (by omega)) (.slice (some ⟨b, 0, none⟩) 5 c)).set (g := w.heap.size + 1) (i := 1) (.inr (by omega)) (.slice (some ⟨b2, 0, none⟩) m d))
    clear L4 L5 o2 s2 U2 g1 g2 y1 y2 e1 e2
    go_wp2_with fail
    refine bodyPost_ret (v := crV (some ⟨b, 0, none⟩) 5 c (some ⟨b2, 0, none⟩) m d) (by simp [results, Try.results66, go_sem, r0, r1]) rfl ⟨rfl, by rw [HE.out]; exact C5.out, T5.out⟩
  refine AllReadyH.cons (o := ⟨some 27, _, _, _, _, _⟩) rfl (fun K hK => ?_) ?_
  · skip
    go_simp
    (first | (refine hK.out _ _ ?_ (fun hH1 => ?_)) | (go_wp2_with fail; refine hK.out _ _ ?_ (fun hH1 => ?_)))
    · exact SA.out.cell k1
    clear hK K hH0
    (try simp only [Act.put, List.setIfInBounds_toArray, List.set_cons_zero, List.set_cons_succ])
    refine wpAnyH_ready (rs := [8]) (by kernel_rfl) (by simp) ?_
    refine AllReadyH.cons (o := ⟨some 25, _, _, _, _, _⟩) rfl (fun K hK => ?_) AllReadyH.nil
    go_simp
    (first | (refine hK.out _ _ ?_ (fun hH2 => ?_)) | (go_wp2_with fail; refine hK.out _ _ ?_ (fun hH2 => ?_)))
    · first | exact k1 | exact SA.out.cell k1
    clear hK K hH1
    (try simp only [Act.put, List.setIfInBounds_toArray, List.set_cons_zero, List.set_cons_succ])
    refine wpAnyH_ready (rs := [11]) (by kernel_rfl) (by simp) ?_
    refine AllReadyH.cons (o := ⟨some 28, _, _, _, _, _⟩) rfl (fun K hK => ?_) AllReadyH.nil
    go_simp
    (go_at_call 76; refine (l1Union_any _ _ _ _ _ _ _ _ _ HA.out HB.out hnx (by omega)).mono ?_; rintro e w2 ⟨X, a, rfl, o2, s2⟩; rw [ins_union] at o2 ⊢; have U2 := SA.out.trans s2; have C2 := hid (C1.out.st U2); have g1 := U2.cell e1; have g2 := U2.cell e2; have y1 := C2.out.fz hk (k * 2); have y2 := C2.out.fz hk (k * 2 + 1); have C3 := hid (C2.out.put hk (-1) (o2.less (show base ≤ (w1.alloc (.cells #[.int .i64 (g : Int)] 3)).drew.heap.size by have := SA.out.le; have := T1.out.size; omega)) (fun q hq hA => by have h7 := (o2.lt q hq).1; have h8 := (C1.out.bA hA).2; have h9 := SA.out.le; omega)); have K3 := hid (((K1.out.st U2).far (p := ⟨b2, k * 2, none⟩) hk2 (.slice X (insC xs g).length a)).far (p := ⟨b2, k * 2 + 1, none⟩) hk2 (.int .i64 (-1))); have L3 := hid (((L1.out.st U2).far (p := ⟨b2, k * 2, none⟩) hl2 (.slice X (insC xs g).length a)).far (p := ⟨b2, k * 2 + 1, none⟩) hl2 (.int .i64 (-1))); have T3 := hid (((T1.out.step U2).set (g := b2) (i := k * 2) (.inl (.inr rfl)) (.slice X (insC xs g).length a)).set (g := b2) (i := k * 2 + 1) (.inl (.inr rfl)) (.int .i64 (-1))))
    (first | (refine hK.out _ _ ?_ (fun hH3 => ?_)) | (go_wp2_with fail; refine hK.out _ _ ?_ (fun hH3 => ?_)))
    · exact U2.cell k1
    clear hK K hH2
    (try simp only [Act.put, List.setIfInBounds_toArray, List.set_cons_zero, List.set_cons_succ])
    refine wpAnyH_take (i := 12) (oi := ⟨some 29, _, _, _, _, _⟩) (v := ?_) rfl (by kernel_rfl) (by kernel_rfl) (by kernel_rfl) (fun _ _ _ h => h) (Or.inl ⟨by rfl, ?_⟩) (by assumption) ?_
    rotate_left
    · (intro w hSw; (try dsimp only at hSw); go_simp; (try with_reducible rfl))
    (try simp only [Act.put, List.setIfInBounds_toArray, List.set_cons_zero, List.set_cons_succ])
    refine wpAnyH_take (i := 13) (oi := ⟨some 30, _, _, _, _, _⟩) (v := ?_) rfl (by kernel_rfl) (by kernel_rfl) (by kernel_rfl) (fun _ _ _ h => h) (Or.inl ⟨by rfl, ?_⟩) (by assumption) ?_
    rotate_left
    · (intro w hSw; (try dsimp only at hSw); go_simp; (try with_reducible rfl))
    (try simp only [Act.put, List.setIfInBounds_toArray, List.set_cons_zero, List.set_cons_succ])
    refine wpAnyH_ready (rs := [14]) (by kernel_rfl) (by simp) ?_
    refine AllReadyH.cons (o := ⟨none, _, _, _, _, _⟩) rfl (fun K hK => ?_) AllReadyH.nil
    go_simp
    (first | (refine hK.out _ _ ?_ (fun hH4 => ?_)) | (go_wp2_with fail; refine hK.out _ _ ?_ (fun hH4 => ?_)))
    · exact K3.out.cell_ (i := 1) (v := .slice (some ⟨b2, 0, none⟩) m d) rfl
    clear hK K hH3
    (try simp only [Act.put, List.setIfInBounds_toArray, List.set_cons_zero, List.set_cons_succ])
    refine wpAnyH_done (by kernel_rfl) ?_ _
    clear hH4
    have HE := hid (takeC_of hx2.out hx.out)
    generalize (w2.setCell ⟨b2, k * 2, none⟩ (.slice X (insC xs g).length a)).setCell ⟨b2, k * 2 + 1, none⟩ (.int .i64 (-1)) = w3 at *
    have z0 := K3.out.cell_ (i := 0) (v := .slice (some ⟨b, 0, none⟩) 5 c) rfl
    have z1 := K3.out.cell_ (i := 1) (v := .slice (some ⟨b2, 0, none⟩) m d) rfl
    have f0 := L3.out.frozen 0
    have f1 := L3.out.frozen 1
    have o0 := L3.out.cell_ (i := 0) (v := .slice none 0 0) rfl
    have o1 := L3.out.cell_ (i := 1) (v := .slice none 0 0) rfl
    have L4 := L3.out.set_ 0 (.slice (some ⟨b, 0, none⟩) 5 c)
    have L5 := L4.set_ 1 (.slice (some ⟨b2, 0, none⟩) m d)
    have r0 := L5.cell_ (i := 0) (v := .slice (some ⟨b, 0, none⟩) 5 c) rfl
    have r1 := L5.cell_ (i := 1) (v := .slice (some ⟨b2, 0, none⟩) m d) rfl
    have C5 := hid ((C3.out.blk L3.out (by decide) (by decide) (World.grownBy_set w3 (w.heap.size + 1) 0 (.slice (some ⟨b, 0, none⟩) 5 c))).blk L4 (by decide) (by decide) (World.grownBy_set _ (w.heap.size + 1) 1 (.slice (some ⟨b2, 0, none⟩) m d)))
    have T5 := hid ((T3.out.set (g := w.heap.size + 1) (i := 0) (.inr (by omega)) (.slice (some ⟨b, 0, none⟩) 5 c)).set (g := w.heap.size + 1) (i := 1) (.inr (by omega)) (.slice (some ⟨b2, 0, none⟩) m d))
    clear L4 L5 o2 s2 U2 g1 g2 y1 y2 e1 e2
    go_wp2_with fail
    refine bodyPost_ret (v := crV (some ⟨b, 0, none⟩) 5 c (some ⟨b2, 0, none⟩) m d) (by simp [results, Try.results66, go_sem, r0, r1]) rfl ⟨rfl, by rw [HE.out]; exact C5.out, T5.out⟩
  exact AllReadyH.nil
end Go.Proofs.Ytggjfbakekfdhaa
