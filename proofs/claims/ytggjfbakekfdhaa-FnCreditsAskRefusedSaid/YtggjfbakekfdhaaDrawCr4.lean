/- Draws of credits with a sender, and a group, for the laws. -/
import Derived.Test.YtggjfbakekfdhaaDrawCr3
namespace Go.Proofs.Ytggjfbakekfdhaa
open Go.RowKit Go.Sort
theorem cell_set {W : World} {g i : Nat} {u : Value} {p : Addr} {v : Value} (h : W.cell? p = some v) (hp : p.block ≠ g) : (W.setCell ⟨g, i, none⟩ u).cell? p = some v :=
  (World.cell?_setCell_other W _ p u (fun e => hp (by subst e; rfl))).trans h
/-- Credits that were drawn, a sender and a group. -/
def DrawnCA (w : World) (e : Ending) (w' : World) : Prop :=
  ∃ A n c B m d fs hs s g, e = .returned (.tuple #[crV A n c B m d, .int .i64 s, .int .i64 g]) ∧ RdCr w' A n c B m d fs hs ∧ FitCr fs hs ∧ St w w'
def DrawnCG (w : World) (e : Ending) (w' : World) : Prop :=
  ∃ A n c B m d fs hs s, e = .returned (.tuple #[crV A n c B m d, .int .i64 s]) ∧ RdCr w' A n c B m d fs hs ∧ FitCr fs hs ∧ St w w'
structure DA (w W : World) (R L G b : Nat) (A : Option Addr) (n c : Nat) (B : Option Addr) (m d : Nat) (fs : List Int) (hs : List (List Int × Int)) : Prop where
  z : Blk W w.heap.size 25 #[.slice none 0 0, .slice none 0 0]
  g : Blk W G 25 #[.slice A n c, .slice B m d]
  c : CrS W b A n c B m d fs hs
  f : FitCr fs hs
  r : Rd W R L
  s : St w W
  wR : w.heap.size < R
  Rb : R < b
  bG : b ≤ G
section
variable {w W W1 : World} {R L L' G b n c m d : Nat} {A B : Option Addr} {fs : List Int} {hs : List (List Int × Int)}
theorem DA.pick (h : DA w W R L G b A n c B m d fs hs) (hr : Rd W1 R L') (hg : W.grownBy W1 (some R)) : DA w W1 R L' G b A n c B m d fs hs := by
  have h1 := h.wR
  have h2 := h.Rb
  have h3 := h.bG
  exact ⟨h.z.grown hg (fun e => by injection e with e; omega), h.g.grown hg (fun e => by injection e with e; omega), h.c.row hg h2, h.f, hr, h.s.grown hg (fun k hk => by injection hk with hk; omega), h1, h2, h3⟩
theorem DA.dr (h : DA w W R L G b A n c B m d fs hs) (s : Dr W W1) : DA w W1 R L G b A n c B m d fs hs :=
  ⟨h.z.dr s, h.g.dr s, h.c.st s.st, h.f, h.r.dr s, h.s.dr s, h.wR, h.Rb, h.bG⟩
theorem DA.fin (h : DA w W R L G b A n c B m d fs hs) :
    Hid (Blk ((W.setCell ⟨w.heap.size, 0, none⟩ (.slice A n c)).setCell ⟨w.heap.size, 1, none⟩ (.slice B m d)) w.heap.size 25 #[.slice A n c, .slice B m d]) ∧
    Hid (RdCr ((W.setCell ⟨w.heap.size, 0, none⟩ (.slice A n c)).setCell ⟨w.heap.size, 1, none⟩ (.slice B m d)) A n c B m d fs hs) ∧
    Hid (St w ((W.setCell ⟨w.heap.size, 0, none⟩ (.slice A n c)).setCell ⟨w.heap.size, 1, none⟩ (.slice B m d))) := by
  have g1 := World.grownBy_set W w.heap.size 0 (.slice A n c)
  have g2 := World.grownBy_set (W.setCell ⟨w.heap.size, 0, none⟩ (.slice A n c)) w.heap.size 1 (.slice B m d)
  have Z1 := h.z.set_ 0 (.slice A n c)
  exact ⟨Z1.set_ 1 (.slice B m d), ((h.c.blk h.z (by decide) (by decide) g1).blk Z1 (by decide) (by decide) g2).rd, (h.s.setCell (p := ⟨w.heap.size, 0, none⟩) (Nat.le_refl _) _).setCell (p := ⟨w.heap.size, 1, none⟩) (Nat.le_refl _) _⟩
end
set_option maxHeartbeats 2000000 in
theorem DrawCreditsAsk_any (A : Option Addr) (n c : Nat) (bs : List Nat) (w : World) (h : RB w w.heap.size A n bs) (hn : n ≤ 1048576) (hnc : n ≤ c) (hc : c ≤ maxLen) :
    Calls Try.prog 37 #[.slice A n c] w (DrawnCA w) := by
  have S0 := hid ((St.refl w).alloc (.cells #[.slice none 0 0, .slice none 0 0] 25))
  have K0 := hid (Blk.new w 25 #[.slice none 0 0, .slice none 0 0])
  have h0 := (h.below S0.out).more S0.out.size
  have z0 := K0.out.lt
  go_enter Try.func37, Try.ntmps37
  go_wp2_with fail
  generalize w.alloc (.cells #[.slice none 0 0, .slice none 0 0] 25) = w0 at S0 K0 h0 z0 ⊢
  refine (l6Open_any _ _ _ _ _ h0 hn hnc hc).mono ?_
  rintro e w1 ⟨rfl, hr1, b1⟩
  have z1 : w0.heap.size < w1.heap.size := hr1.lt
  have b1 : St w0 w1 := b1
  have S1 := hid (S0.out.trans b1)
  have K1 := hid (K0.out.below b1 K0.out.lt)
  clear b1 S0 K0
  go_wp2_with fail
  refine (l92Credits_any _ _ _ hr1 (by omega)).mono ?_
  rintro e w2 ⟨A2, n2, c2, B2, m2, d2, fs, hs, rfl, oc, hf, hr2, hg2⟩
  have hm2 : m2 ≤ 1048576 := by have := oc.hl; have := hf.m; omega
  have K2 := K1.out.grown hg2 (by intro e; injection e with e; omega)
  have s2 := S1.out.grown hg2 (fun k hk => by injection hk with hk; omega)
  have sa := (St.refl w2).alloc (.cells #[.slice A2 n2 c2, .slice B2 m2 d2] 25)
  have D2 := hid (show DA w (w2.alloc (.cells #[.slice A2 n2 c2, .slice B2 m2 d2] 25)) w0.heap.size (0 + 200) w2.heap.size w1.heap.size A2 n2 c2 B2 m2 d2 fs hs from
    ⟨K2.st sa, Blk.new w2 25 #[.slice A2 n2 c2, .slice B2 m2 d2], oc.st sa, hf, hr2.below sa hr2.lt, s2.trans sa, z0, z1, hg2.size⟩)
  clear oc hf hr2 hg2 K2 s2 sa K1 S1 hr1
  go_wp2_with fail
  generalize w2.alloc (.cells #[.slice A2 n2 c2, .slice B2 m2 d2] 25) = w3 at *
  generalize w2.heap.size = G at *
  generalize w0.heap.size = R at *
  have g0 := D2.out.g.cell_ (i := 0) (v := .slice A2 n2 c2) rfl
  have g1 := D2.out.g.cell_ (i := 1) (v := .slice B2 m2 d2) rfl
  have D3 := hid (D2.out.dr (W1 := w3.drew) ⟨1, rfl⟩)
  clear D2
  have hGw : G ≠ w.heap.size := by have h1 := D3.out.bG; have h2 := D3.out.Rb; have h3 := D3.out.wR; omega
  have hmx : -9223372036854775808 ≤ (if (m2 : Int) < 1 then (1 : Int) else (m2 : Int)) ∧ (if (m2 : Int) < 1 then (1 : Int) else (m2 : Int)) ≤ 9223372036854775807 := by split <;> omega
  refine wp_region_held_drew (S := (fun w' => w'.cell? ⟨G, 0, none⟩ = some (.slice A2 n2 c2) ∧ w'.cell? ⟨G, 1, none⟩ = some (.slice B2 m2 d2))) (by kernel_rfl) ?_ (fun hH0 => ?_)
  · exact ⟨g0, g1⟩
  refine wpAnyH_take (i := 0) (oi := ⟨some 11, _, _, _, _, _⟩) (v := ?_) rfl (by kernel_rfl) (by kernel_rfl) (by kernel_rfl) (fun _ _ _ h => h) (Or.inl ⟨by rfl, ?_⟩) (by assumption) ?_
  rotate_left
  · (intro w hSw; (try dsimp only at hSw); go_simp; (try with_reducible rfl))
  (try simp only [Act.put, List.setIfInBounds_toArray, List.set_cons_zero, List.set_cons_succ])
  refine wpAnyH_take (i := 1) (oi := ⟨some 12, _, _, _, _, _⟩) (v := ?_) rfl (by kernel_rfl) (by kernel_rfl) (by kernel_rfl) (fun _ _ _ h => h) (Or.inl ⟨by rfl, ?_⟩) (by assumption) ?_
  rotate_left
  · (intro w hSw; (try dsimp only at hSw); go_simp; (try with_reducible rfl))
  (try simp only [Act.put, List.setIfInBounds_toArray, List.set_cons_zero, List.set_cons_succ])
  refine wpAnyH_take (i := 2) (oi := ⟨some 13, _, _, _, _, _⟩) (v := ?_) rfl (by kernel_rfl) (by kernel_rfl) (by kernel_rfl) (fun _ _ _ h => h) (Or.inl ⟨by rfl, ?_⟩) (by assumption) ?_
  rotate_left
  · (intro w hSw; (try dsimp only at hSw); go_simp; (try with_reducible rfl))
  (try simp only [Act.put, List.setIfInBounds_toArray, List.set_cons_zero, List.set_cons_succ])
  refine wpAnyH_take (i := 3) (oi := ⟨some 14, _, _, _, _, _⟩) (v := ?_) rfl (by kernel_rfl) (by kernel_rfl) (by kernel_rfl) (fun _ _ _ h => h) (Or.inl ⟨by rfl, ?_⟩) (by assumption) ?_
  rotate_left
  · (intro w hSw; (try dsimp only at hSw); go_simp; (try with_reducible rfl))
  (try simp only [Act.put, List.setIfInBounds_toArray, List.set_cons_zero, List.set_cons_succ])
  refine wpAnyH_take (i := 4) (oi := ⟨some 15, _, _, _, _, _⟩) (v := ?_) rfl (by kernel_rfl) (by kernel_rfl) (by kernel_rfl) (fun _ _ _ h => h) (Or.inl ⟨by rfl, ?_⟩) (by assumption) ?_
  rotate_left
  · (intro w hSw; (try dsimp only at hSw); go_simp; (try with_reducible rfl))
  (try simp only [Act.put, List.setIfInBounds_toArray, List.set_cons_zero, List.set_cons_succ])
  refine wpAnyH_take (i := 7) (oi := ⟨some 18, _, _, _, _, _⟩) (v := ?_) rfl (by kernel_rfl) (by kernel_rfl) (by kernel_rfl) (fun _ _ _ h => h) (Or.inl ⟨by rfl, ?_⟩) (by assumption) ?_
  rotate_left
  · (intro w hSw; (try dsimp only at hSw); go_simp; (try with_reducible rfl))
  (try simp only [Act.put, List.setIfInBounds_toArray, List.set_cons_zero, List.set_cons_succ])
  refine wpAnyH_take (i := 12) (oi := ⟨some 23, _, _, _, _, _⟩) (v := ?_) rfl (by kernel_rfl) (by kernel_rfl) (by kernel_rfl) (fun _ _ _ h => h) (Or.inl ⟨by rfl, ?_⟩) (by assumption) ?_
  rotate_left
  · (intro w hSw; (try dsimp only at hSw); go_simp; (try with_reducible rfl))
  (try simp only [Act.put, List.setIfInBounds_toArray, List.set_cons_zero, List.set_cons_succ])
  refine wpAnyH_take (i := 14) (oi := ⟨some 25, _, _, _, _, _⟩) (v := ?_) rfl (by kernel_rfl) (by kernel_rfl) (by kernel_rfl) (fun _ _ _ h => h) (Or.inl ⟨by rfl, ?_⟩) (by assumption) ?_
  rotate_left
  · (intro w hSw; (try dsimp only at hSw); go_simp; (try with_reducible rfl))
  (try simp only [Act.put, List.setIfInBounds_toArray, List.set_cons_zero, List.set_cons_succ])
  refine wpAnyH_ready (rs := [5]) (by kernel_rfl) (by simp) ?_
  refine AllReadyH.cons (o := ⟨some 16, _, _, _, _, _⟩) rfl (fun K hK => ?_) AllReadyH.nil
  go_simp
  (first | (refine hK.out _ _ ?_ (fun hH1 => ?_)) | (go_wp2_with fail; refine hK.out _ _ ?_ (fun hH1 => ?_)))
  · exact ⟨g0, g1⟩
  clear hK K hH0
  (try simp only [Act.put, List.setIfInBounds_toArray, List.set_cons_zero, List.set_cons_succ])
  refine wpAnyH_ready (rs := [6]) (by kernel_rfl) (by simp) ?_
  refine AllReadyH.cons (o := ⟨some 17, _, _, _, _, _⟩) rfl (fun K hK => ?_) AllReadyH.nil
  go_simp
  (refine (pick_any _ _ _ _ D3.out.r (by omega) hmx.1 hmx.2).mono ?_; rintro e w5 ⟨x1, rfl, _, hrd5, hg5⟩; have D5 := hid (D3.out.pick hrd5 hg5))
  (first | (refine hK.out _ _ ?_ (fun hH2 => ?_)) | (go_wp2_with fail; refine hK.out _ _ ?_ (fun hH2 => ?_)))
  · exact ⟨D5.out.g.cell_ (i := 0) (v := .slice A2 n2 c2) rfl, D5.out.g.cell_ (i := 1) (v := .slice B2 m2 d2) rfl⟩
  clear hK K hH1
  (try simp only [Act.put, List.setIfInBounds_toArray, List.set_cons_zero, List.set_cons_succ])
  refine wpAnyH_ready (rs := [8]) (by kernel_rfl) (by simp) ?_
  refine AllReadyH.cons (o := ⟨some 19, _, _, _, _, _⟩) rfl (fun K hK => ?_) AllReadyH.nil
  go_simp
  (refine (pick_any _ _ _ _ D5.out.r (by omega) (by omega) (by omega)).mono ?_; rintro e w6 ⟨x2, rfl, _, hrd6, hg6⟩; have D6 := hid (D5.out.pick hrd6 hg6))
  (first | (refine hK.out _ _ ?_ (fun hH3 => ?_)) | (go_wp2_with fail; refine hK.out _ _ ?_ (fun hH3 => ?_)))
  · exact ⟨D6.out.g.cell_ (i := 0) (v := .slice A2 n2 c2) rfl, D6.out.g.cell_ (i := 1) (v := .slice B2 m2 d2) rfl⟩
  clear hK K hH2
  (try simp only [Act.put, List.setIfInBounds_toArray, List.set_cons_zero, List.set_cons_succ])
  refine wpAnyH_take (i := 9) (oi := ⟨some 20, _, _, _, _, _⟩) (v := ?_) rfl (by kernel_rfl) (by kernel_rfl) (by kernel_rfl) (fun _ _ _ h => h) (Or.inl ⟨by rfl, ?_⟩) (by assumption) ?_
  rotate_left
  · (intro w hSw; (try dsimp only at hSw); go_simp; (try with_reducible rfl))
  (try simp only [Act.put, List.setIfInBounds_toArray, List.set_cons_zero, List.set_cons_succ])
  refine wpAnyH_take (i := 10) (oi := ⟨some 21, _, _, _, _, _⟩) (v := ?_) rfl (by kernel_rfl) (by kernel_rfl) (by kernel_rfl) (fun _ _ _ h => h) (Or.inl ⟨by rfl, ?_⟩) (by assumption) ?_
  rotate_left
  · (intro w hSw; (try dsimp only at hSw); go_simp; (try with_reducible rfl))
  (try simp only [Act.put, List.setIfInBounds_toArray, List.set_cons_zero, List.set_cons_succ])
  refine wpAnyH_take (i := 11) (oi := ⟨some 22, _, _, _, _, _⟩) (v := ?_) rfl (by kernel_rfl) (by kernel_rfl) (by kernel_rfl) (fun _ _ _ h => h) (Or.inl ⟨by rfl, ?_⟩) (by assumption) ?_
  rotate_left
  · (intro w hSw; (try dsimp only at hSw); go_simp; (try with_reducible rfl))
  (try simp only [Act.put, List.setIfInBounds_toArray, List.set_cons_zero, List.set_cons_succ])
  refine wpAnyH_ready (rs := [13]) (by kernel_rfl) (by simp) ?_
  refine AllReadyH.cons (o := ⟨some 24, _, _, _, _, _⟩) rfl (fun K hK => ?_) AllReadyH.nil
  go_simp
  (refine (pick_any _ _ _ _ D6.out.r (by omega) (by omega) (by omega)).mono ?_; rintro e w7 ⟨x3, rfl, _, hrd7, hg7⟩; have D7 := hid (D6.out.pick hrd7 hg7))
  (first | (refine hK.out _ _ ?_ (fun hH4 => ?_)) | (go_wp2_with fail; refine hK.out _ _ ?_ (fun hH4 => ?_)))
  · exact ⟨D7.out.g.cell_ (i := 0) (v := .slice A2 n2 c2) rfl, D7.out.g.cell_ (i := 1) (v := .slice B2 m2 d2) rfl⟩
  clear hK K hH3
  (try simp only [Act.put, List.setIfInBounds_toArray, List.set_cons_zero, List.set_cons_succ])
  refine wpAnyH_ready (rs := [15]) (by kernel_rfl) (by simp) ?_
  refine AllReadyH.cons (o := ⟨some 26, _, _, _, _, _⟩) rfl (fun K hK => ?_) AllReadyH.nil
  go_simp
  (refine (pick_any _ _ _ _ D7.out.r (by omega) (by omega) (by omega)).mono ?_; rintro e w8 ⟨x4, rfl, _, hrd8, hg8⟩; have D8 := hid (D7.out.pick hrd8 hg8); have y0 := D8.out.z.cell_ (i := 0) (v := .slice none 0 0) rfl; have y1 := D8.out.z.cell_ (i := 1) (v := .slice none 0 0) rfl; have f0 := D8.out.z.frozen 0; have f1 := D8.out.z.frozen 1)
  (first | (refine hK.out _ _ ?_ (fun hH5 => ?_)) | (go_wp2_with fail; refine hK.out _ _ ?_ (fun hH5 => ?_)))
  · exact ⟨D8.out.g.cell_ (i := 0) (v := .slice A2 n2 c2) rfl, D8.out.g.cell_ (i := 1) (v := .slice B2 m2 d2) rfl⟩
  clear hK K hH4
  (try simp only [Act.put, List.setIfInBounds_toArray, List.set_cons_zero, List.set_cons_succ])
  refine wpAnyH_take (i := 16) (oi := ⟨some 27, _, _, _, _, _⟩) (v := ?_) rfl (by kernel_rfl) (by kernel_rfl) (by kernel_rfl) (fun _ _ _ h => h) (Or.inl ⟨by rfl, ?_⟩) (by assumption) ?_
  rotate_left
  · (intro w hSw; (try dsimp only at hSw); go_simp; (try with_reducible rfl))
  (try simp only [Act.put, List.setIfInBounds_toArray, List.set_cons_zero, List.set_cons_succ])
  refine wpAnyH_take (i := 17) (oi := ⟨some 28, _, _, _, _, _⟩) (v := ?_) rfl (by kernel_rfl) (by kernel_rfl) (by kernel_rfl) (fun _ _ _ h => h) (Or.inl ⟨by rfl, ?_⟩) (by assumption) ?_
  rotate_left
  · (intro w hSw; (try dsimp only at hSw); go_simp; (try with_reducible rfl))
  (try simp only [Act.put, List.setIfInBounds_toArray, List.set_cons_zero, List.set_cons_succ])
  refine wpAnyH_ready (rs := [18]) (by kernel_rfl) (by simp) ?_
  refine AllReadyH.cons (o := ⟨none, _, _, _, _, _⟩) rfl (fun K hK => ?_) AllReadyH.nil
  go_simp
  (first | (refine hK.out _ _ ?_ (fun hH6 => ?_)) | (go_wp2_with fail; refine hK.out _ _ ?_ (fun hH6 => ?_)))
  · exact ⟨cell_set (cell_set (D8.out.g.cell_ (i := 0) (v := .slice A2 n2 c2) rfl) hGw) hGw, cell_set (cell_set (D8.out.g.cell_ (i := 1) (v := .slice B2 m2 d2) rfl) hGw) hGw⟩
  clear hK K hH5
  (try simp only [Act.put, List.setIfInBounds_toArray, List.set_cons_zero, List.set_cons_succ])
  refine wpAnyH_take (i := 19) (oi := ⟨some 3, _, _, _, _, _⟩) (v := ?_) rfl (by kernel_rfl) (by kernel_rfl) (by kernel_rfl) (fun _ _ _ h => h) (Or.inl ⟨by rfl, ?_⟩) (by assumption) ?_
  rotate_left
  · (intro w hSw; (try dsimp only at hSw); go_simp; (try with_reducible rfl))
  (try simp only [Act.put, List.setIfInBounds_toArray, List.set_cons_zero, List.set_cons_succ])
  refine wpAnyH_take (i := 20) (oi := ⟨some 4, _, _, _, _, _⟩) (v := ?_) rfl (by kernel_rfl) (by kernel_rfl) (by kernel_rfl) (fun _ _ _ h => h) (Or.inl ⟨by rfl, ?_⟩) (by assumption) ?_
  rotate_left
  · (intro w hSw; (try dsimp only at hSw); go_simp; (try with_reducible rfl))
  (try simp only [Act.put, List.setIfInBounds_toArray, List.set_cons_zero, List.set_cons_succ])
  refine wpAnyH_done (by kernel_rfl) ?_ _
  clear hH6
  obtain ⟨F, HR, HS⟩ := D8.out.fin
  have r0 := F.out.cell_ (i := 0) (v := .slice A2 n2 c2) rfl
  have r1 := F.out.cell_ (i := 1) (v := .slice B2 m2 d2) rfl
  have HF := hid D8.out.f
  go_wp2_with fail
  all_goals refine bodyPost_ret (v := .tuple #[crV A2 n2 c2 B2 m2 d2, .int .i64 (IntKind.i64.wrap (x1 + IntKind.i64.wrap (IntKind.i64.wrap (x2.tdiv 19) * 7))), .int .i64 (IntKind.i64.wrap (x3 - IntKind.i64.wrap (x4.tdiv 19)))]) (by simp [results, Try.results37, go_sem, r0, r1]) rfl ⟨_, _, _, _, _, _, _, _, _, _, rfl, HR.out, HF.out, HS.out⟩
set_option maxHeartbeats 2000000 in
theorem DrawCreditsGive_any (A : Option Addr) (n c : Nat) (bs : List Nat) (w : World) (h : RB w w.heap.size A n bs) (hn : n ≤ 1048576) (hnc : n ≤ c) (hc : c ≤ maxLen) :
    Calls Try.prog 40 #[.slice A n c] w (DrawnCG w) := by
  have S0 := hid ((St.refl w).alloc (.cells #[.slice none 0 0, .slice none 0 0] 25))
  have K0 := hid (Blk.new w 25 #[.slice none 0 0, .slice none 0 0])
  have h0 := (h.below S0.out).more S0.out.size
  have z0 := K0.out.lt
  go_enter Try.func40, Try.ntmps40
  go_wp2_with fail
  generalize w.alloc (.cells #[.slice none 0 0, .slice none 0 0] 25) = w0 at S0 K0 h0 z0 ⊢
  refine (l6Open_any _ _ _ _ _ h0 hn hnc hc).mono ?_
  rintro e w1 ⟨rfl, hr1, b1⟩
  have z1 : w0.heap.size < w1.heap.size := hr1.lt
  have b1 : St w0 w1 := b1
  have S1 := hid (S0.out.trans b1)
  have K1 := hid (K0.out.below b1 K0.out.lt)
  clear b1 S0 K0
  go_wp2_with fail
  refine (l92Credits_any _ _ _ hr1 (by omega)).mono ?_
  rintro e w2 ⟨A2, n2, c2, B2, m2, d2, fs, hs, rfl, oc, hf, hr2, hg2⟩
  have hm2 : m2 ≤ 1048576 := by have := oc.hl; have := hf.m; omega
  have K2 := K1.out.grown hg2 (by intro e; injection e with e; omega)
  have s2 := S1.out.grown hg2 (fun k hk => by injection hk with hk; omega)
  have sa := (St.refl w2).alloc (.cells #[.slice A2 n2 c2, .slice B2 m2 d2] 25)
  have D2 := hid (show DA w (w2.alloc (.cells #[.slice A2 n2 c2, .slice B2 m2 d2] 25)) w0.heap.size (0 + 200) w2.heap.size w1.heap.size A2 n2 c2 B2 m2 d2 fs hs from
    ⟨K2.st sa, Blk.new w2 25 #[.slice A2 n2 c2, .slice B2 m2 d2], oc.st sa, hf, hr2.below sa hr2.lt, s2.trans sa, z0, z1, hg2.size⟩)
  clear oc hf hr2 hg2 K2 s2 sa K1 S1 hr1
  go_wp2_with fail
  generalize w2.alloc (.cells #[.slice A2 n2 c2, .slice B2 m2 d2] 25) = w3 at *
  generalize w2.heap.size = G at *
  generalize w0.heap.size = R at *
  have g0 := D2.out.g.cell_ (i := 0) (v := .slice A2 n2 c2) rfl
  have g1 := D2.out.g.cell_ (i := 1) (v := .slice B2 m2 d2) rfl
  have D3 := hid (D2.out.dr (W1 := w3.drew) ⟨1, rfl⟩)
  clear D2
  have hGw : G ≠ w.heap.size := by have h1 := D3.out.bG; have h2 := D3.out.Rb; have h3 := D3.out.wR; omega
  have hmx : -9223372036854775808 ≤ (if (m2 : Int) < 1 then (1 : Int) else (m2 : Int)) ∧ (if (m2 : Int) < 1 then (1 : Int) else (m2 : Int)) ≤ 9223372036854775807 := by split <;> omega
  refine wp_region_held_drew (S := (fun w' => w'.cell? ⟨G, 0, none⟩ = some (.slice A2 n2 c2) ∧ w'.cell? ⟨G, 1, none⟩ = some (.slice B2 m2 d2))) (by kernel_rfl) ?_ (fun hH0 => ?_)
  · exact ⟨g0, g1⟩
  refine wpAnyH_take (i := 0) (oi := ⟨some 10, _, _, _, _, _⟩) (v := ?_) rfl (by kernel_rfl) (by kernel_rfl) (by kernel_rfl) (fun _ _ _ h => h) (Or.inl ⟨by rfl, ?_⟩) (by assumption) ?_
  rotate_left
  · (intro w hSw; (try dsimp only at hSw); go_simp; (try with_reducible rfl))
  (try simp only [Act.put, List.setIfInBounds_toArray, List.set_cons_zero, List.set_cons_succ])
  refine wpAnyH_take (i := 1) (oi := ⟨some 11, _, _, _, _, _⟩) (v := ?_) rfl (by kernel_rfl) (by kernel_rfl) (by kernel_rfl) (fun _ _ _ h => h) (Or.inl ⟨by rfl, ?_⟩) (by assumption) ?_
  rotate_left
  · (intro w hSw; (try dsimp only at hSw); go_simp; (try with_reducible rfl))
  (try simp only [Act.put, List.setIfInBounds_toArray, List.set_cons_zero, List.set_cons_succ])
  refine wpAnyH_take (i := 2) (oi := ⟨some 12, _, _, _, _, _⟩) (v := ?_) rfl (by kernel_rfl) (by kernel_rfl) (by kernel_rfl) (fun _ _ _ h => h) (Or.inl ⟨by rfl, ?_⟩) (by assumption) ?_
  rotate_left
  · (intro w hSw; (try dsimp only at hSw); go_simp; (try with_reducible rfl))
  (try simp only [Act.put, List.setIfInBounds_toArray, List.set_cons_zero, List.set_cons_succ])
  refine wpAnyH_take (i := 3) (oi := ⟨some 13, _, _, _, _, _⟩) (v := ?_) rfl (by kernel_rfl) (by kernel_rfl) (by kernel_rfl) (fun _ _ _ h => h) (Or.inl ⟨by rfl, ?_⟩) (by assumption) ?_
  rotate_left
  · (intro w hSw; (try dsimp only at hSw); go_simp; (try with_reducible rfl))
  (try simp only [Act.put, List.setIfInBounds_toArray, List.set_cons_zero, List.set_cons_succ])
  refine wpAnyH_take (i := 4) (oi := ⟨some 14, _, _, _, _, _⟩) (v := ?_) rfl (by kernel_rfl) (by kernel_rfl) (by kernel_rfl) (fun _ _ _ h => h) (Or.inl ⟨by rfl, ?_⟩) (by assumption) ?_
  rotate_left
  · (intro w hSw; (try dsimp only at hSw); go_simp; (try with_reducible rfl))
  (try simp only [Act.put, List.setIfInBounds_toArray, List.set_cons_zero, List.set_cons_succ])
  refine wpAnyH_take (i := 7) (oi := ⟨some 17, _, _, _, _, _⟩) (v := ?_) rfl (by kernel_rfl) (by kernel_rfl) (by kernel_rfl) (fun _ _ _ h => h) (Or.inl ⟨by rfl, ?_⟩) (by assumption) ?_
  rotate_left
  · (intro w hSw; (try dsimp only at hSw); go_simp; (try with_reducible rfl))
  (try simp only [Act.put, List.setIfInBounds_toArray, List.set_cons_zero, List.set_cons_succ])
  refine wpAnyH_ready (rs := [5]) (by kernel_rfl) (by simp) ?_
  refine AllReadyH.cons (o := ⟨some 15, _, _, _, _, _⟩) rfl (fun K hK => ?_) AllReadyH.nil
  go_simp
  (first | (refine hK.out _ _ ?_ (fun hH1 => ?_)) | (go_wp2_with fail; refine hK.out _ _ ?_ (fun hH1 => ?_)))
  · exact ⟨g0, g1⟩
  clear hK K hH0
  (try simp only [Act.put, List.setIfInBounds_toArray, List.set_cons_zero, List.set_cons_succ])
  refine wpAnyH_ready (rs := [6]) (by kernel_rfl) (by simp) ?_
  refine AllReadyH.cons (o := ⟨some 16, _, _, _, _, _⟩) rfl (fun K hK => ?_) AllReadyH.nil
  go_simp
  (refine (pick_any _ _ _ _ D3.out.r (by omega) hmx.1 hmx.2).mono ?_; rintro e w5 ⟨x1, rfl, _, hrd5, hg5⟩; have D5 := hid (D3.out.pick hrd5 hg5))
  (first | (refine hK.out _ _ ?_ (fun hH2 => ?_)) | (go_wp2_with fail; refine hK.out _ _ ?_ (fun hH2 => ?_)))
  · exact ⟨D5.out.g.cell_ (i := 0) (v := .slice A2 n2 c2) rfl, D5.out.g.cell_ (i := 1) (v := .slice B2 m2 d2) rfl⟩
  clear hK K hH1
  (try simp only [Act.put, List.setIfInBounds_toArray, List.set_cons_zero, List.set_cons_succ])
  refine wpAnyH_ready (rs := [8]) (by kernel_rfl) (by simp) ?_
  refine AllReadyH.cons (o := ⟨some 18, _, _, _, _, _⟩) rfl (fun K hK => ?_) AllReadyH.nil
  go_simp
  (refine (pick_any _ _ _ _ D5.out.r (by omega) (by omega) (by omega)).mono ?_; rintro e w6 ⟨x2, rfl, _, hrd6, hg6⟩; have D6 := hid (D5.out.pick hrd6 hg6); have y0 := D6.out.z.cell_ (i := 0) (v := .slice none 0 0) rfl; have y1 := D6.out.z.cell_ (i := 1) (v := .slice none 0 0) rfl; have f0 := D6.out.z.frozen 0; have f1 := D6.out.z.frozen 1)
  (first | (refine hK.out _ _ ?_ (fun hH3 => ?_)) | (go_wp2_with fail; refine hK.out _ _ ?_ (fun hH3 => ?_)))
  · exact ⟨D6.out.g.cell_ (i := 0) (v := .slice A2 n2 c2) rfl, D6.out.g.cell_ (i := 1) (v := .slice B2 m2 d2) rfl⟩
  clear hK K hH2
  (try simp only [Act.put, List.setIfInBounds_toArray, List.set_cons_zero, List.set_cons_succ])
  refine wpAnyH_take (i := 9) (oi := ⟨some 19, _, _, _, _, _⟩) (v := ?_) rfl (by kernel_rfl) (by kernel_rfl) (by kernel_rfl) (fun _ _ _ h => h) (Or.inl ⟨by rfl, ?_⟩) (by assumption) ?_
  rotate_left
  · (intro w hSw; (try dsimp only at hSw); go_simp; (try with_reducible rfl))
  (try simp only [Act.put, List.setIfInBounds_toArray, List.set_cons_zero, List.set_cons_succ])
  refine wpAnyH_take (i := 10) (oi := ⟨some 20, _, _, _, _, _⟩) (v := ?_) rfl (by kernel_rfl) (by kernel_rfl) (by kernel_rfl) (fun _ _ _ h => h) (Or.inl ⟨by rfl, ?_⟩) (by assumption) ?_
  rotate_left
  · (intro w hSw; (try dsimp only at hSw); go_simp; (try with_reducible rfl))
  (try simp only [Act.put, List.setIfInBounds_toArray, List.set_cons_zero, List.set_cons_succ])
  refine wpAnyH_ready (rs := [11]) (by kernel_rfl) (by simp) ?_
  refine AllReadyH.cons (o := ⟨none, _, _, _, _, _⟩) rfl (fun K hK => ?_) AllReadyH.nil
  go_simp
  (first | (refine hK.out _ _ ?_ (fun hH4 => ?_)) | (go_wp2_with fail; refine hK.out _ _ ?_ (fun hH4 => ?_)))
  · exact ⟨cell_set (cell_set (D6.out.g.cell_ (i := 0) (v := .slice A2 n2 c2) rfl) hGw) hGw, cell_set (cell_set (D6.out.g.cell_ (i := 1) (v := .slice B2 m2 d2) rfl) hGw) hGw⟩
  clear hK K hH3
  (try simp only [Act.put, List.setIfInBounds_toArray, List.set_cons_zero, List.set_cons_succ])
  refine wpAnyH_take (i := 12) (oi := ⟨some 3, _, _, _, _, _⟩) (v := ?_) rfl (by kernel_rfl) (by kernel_rfl) (by kernel_rfl) (fun _ _ _ h => h) (Or.inl ⟨by rfl, ?_⟩) (by assumption) ?_
  rotate_left
  · (intro w hSw; (try dsimp only at hSw); go_simp; (try with_reducible rfl))
  (try simp only [Act.put, List.setIfInBounds_toArray, List.set_cons_zero, List.set_cons_succ])
  refine wpAnyH_done (by kernel_rfl) ?_ _
  clear hH4
  obtain ⟨F, HR, HS⟩ := D6.out.fin
  have r0 := F.out.cell_ (i := 0) (v := .slice A2 n2 c2) rfl
  have r1 := F.out.cell_ (i := 1) (v := .slice B2 m2 d2) rfl
  have HF := hid D6.out.f
  go_wp2_with fail
  all_goals refine bodyPost_ret (v := .tuple #[crV A2 n2 c2 B2 m2 d2, .int .i64 (IntKind.i64.wrap (x1 - IntKind.i64.wrap (x2.tdiv 19)))]) (by simp [results, Try.results40, go_sem, r0, r1]) rfl ⟨_, _, _, _, _, _, _, _, _, rfl, HR.out, HF.out, HS.out⟩
end Go.Proofs.Ytggjfbakekfdhaa
