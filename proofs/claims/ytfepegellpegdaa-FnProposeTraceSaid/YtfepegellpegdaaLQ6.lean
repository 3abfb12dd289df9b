/- FnProposeTrace returns true. -/
import Derived.Test.YtfepegellpegdaaLawPr
namespace Go.Proofs.Ytfepegellpegdaa
open Go.RowKit Go.Sort
theorem addBlock (a : Addr) (n : Nat) : (a.add n).block = a.block := by unfold Addr.add; split <;> rfl
/-- The four stores of a new entry. -/
abbrev setE0 (W : World) (E : Nat) (m t g : Int) (f : Bool) : World := (((W.setCell ⟨E, 0, none⟩ (.int .i64 m)).setCell ⟨E, 1, none⟩ (.int .i64 t)).setCell ⟨E, 2, none⟩ (.int .i64 g)).setCell ⟨E, 3, none⟩ (.bool f)
theorem stE0 {w W : World} {E : Nat} (s : St w W) (hE : w.heap.size ≤ E) (m t g : Int) (f : Bool) : St w (setE0 W E m t g f) :=
  (((s.setCell (p := ⟨E, 0, none⟩) hE _).setCell (p := ⟨E, 1, none⟩) hE _).setCell (p := ⟨E, 2, none⟩) hE _).setCell (p := ⟨E, 3, none⟩) hE _
theorem cellE0 {W : World} {E : Nat} {m t g : Int} {f : Bool} {p : Addr} {v : Value} (h : W.cell? p = some v) (hp : p.block ≠ E) : (setE0 W E m t g f).cell? p = some v := cell_set (cell_set (cell_set (cell_set h hp) hp) hp) hp
set_option maxRecDepth 100000 in
set_option maxHeartbeats 2000000 in
theorem walkPTrace (A : Option Addr) (n c : Nat) (bs : List Nat) {w : World} (h : RB w w.heap.size A n bs) (hnc : n ≤ c ∧ c ≤ maxLen) :
    Calls Try.prog 10 #[.slice A n c] w fun e w' => e = .returned (.bool true) ∧ Below w.heap.size w w' := by
  obtain ⟨hnc, hcm⟩ := hnc
  have HCM := hid hcm
  clear hcm
  by_cases hn : 1048576 < n
  · have hn : (1048576 : Int) < (n : Int) := by omega
    go_enter Try.func10, Try.ntmps10
    go_wp2_with fail
    go_ret
    exact ⟨rfl, Below.refl _ _⟩
  have hni : ¬ (1048576 : Int) < (n : Int) := by omega
  go_enter Try.func10, Try.ntmps10
  go_wp2_with fail
  refine (DrawGroupPropose_any _ _ _ _ _ h (by omega) hnc HCM.out).mono ?_
  rintro e w1 ⟨I, K, A1, n1, c1, B1, m1, d1, ps, ds, x, rfl, D⟩
  have hn1 := D.n
  have hm1 := D.m
  have X := hid (LG.new (I := I) (K := K) D.i D.j D.s)
  clear D h hn hni hnc HCM
  go_upto_region 4 with (fail)
  generalize w1.alloc (.cells (grC I K A1 n1 c1 B1 m1 d1) 25) = w2 at *
  generalize w1.heap.size = bx at *
  have q0 := X.out.k.cell_ (i := 0) (v := .int .i64 I) rfl
  have q1 := X.out.k.cell_ (i := 1) (v := .int .i64 K) rfl
  have q2 := X.out.k.cell_ (i := 2) (v := .slice A1 n1 c1) rfl
  have q3 := X.out.k.cell_ (i := 3) (v := .slice B1 m1 d1) rfl
  go_wp2_with fail
  refine (GroupPropose_any _ _ _ _ _ _ _ _ _ _ x _ X.out.i X.out.j (by omega) (by omega)).mono ?_
  rintro e w3 ⟨A2, n2, c2, B2, m2, d2, rfl, C2, s3⟩
  obtain ⟨⟨⟨I', K', ps', ds'⟩, ⟨t', g'⟩, ok⟩, hr⟩ : ∃ r, propM ⟨I, K, ps, ds⟩ x = r := ⟨_, rfl⟩
  have hpl := prop_len ⟨I, K, ps, ds⟩ x
  rw [hr] at C2 hpl ⊢
  simp only at C2 hpl ⊢
  rw [X.out.i.len, X.out.j.len, C2.oi.se.len, C2.oh.se.len] at hpl
  obtain ⟨hn2, hm2⟩ := hpl
  have HR := hid hr
  clear hr
  have O := hid (PO.new (t := t') (g := g') C2)
  have sa := ((St.refl w3).alloc (.cells (grC I' K' A2 n2 c2 B2 m2 d2) 25)).alloc (.cells #[.int .i64 t', .int .i64 g'] 29)
  have ss := s3.trans sa
  replace X := hid (X.out.st ss)
  replace q0 := ss.cell q0
  replace q1 := ss.cell q1
  replace q2 := ss.cell q2
  replace q3 := ss.cell q3
  clear s3 sa ss C2
  go_upto_region 5 with (fail)
  generalize (w3.alloc (.cells _ 25)).alloc (.cells _ 29) = w4 at *
  generalize w3.heap.size = b1 at *
  go_wp2_with fail
  refine (specGroupPropose_any _ _ _ _ _ _ _ _ _ _ x _ X.out.i X.out.j (by omega) (by omega)).mono ?_
  rintro e w5 ⟨A3, n3, c3, B3, m3, d3, rfl, C3, s5⟩
  rw [HR.out] at C3 ⊢
  simp only at C3 ⊢
  have Q := hid (PO.new (t := t') (g := g') C3)
  have sa := ((St.refl w5).alloc (.cells (grC I' K' A3 n3 c3 B3 m3 d3) 25)).alloc (.cells #[.int .i64 t', .int .i64 g'] 29)
  have ss := s5.trans sa
  replace X := hid (X.out.st ss)
  replace O := hid (O.out.st ss)
  replace q0 := ss.cell q0
  replace q1 := ss.cell q1
  replace q2 := ss.cell q2
  replace q3 := ss.cell q3
  clear s5 sa ss C3
  go_upto_region 6 with (fail)
  generalize (w5.alloc (.cells _ 25)).alloc (.cells _ 29) = w6 at *
  generalize w5.heap.size = b2 at *
  have o0 := O.out.k.cell_ (i := 0) (v := .int .i64 I') rfl
  have o1 := O.out.k.cell_ (i := 1) (v := .int .i64 K') rfl
  have o2 := O.out.k.cell_ (i := 2) (v := .slice A2 n2 c2) rfl
  have o3 := O.out.k.cell_ (i := 3) (v := .slice B2 m2 d2) rfl
  have t0 := O.out.s.cell_ (i := 0) (v := .int .i64 t') rfl
  have t1 := O.out.s.cell_ (i := 1) (v := .int .i64 g') rfl
  have k0 := Q.out.k.cell_ (i := 0) (v := .int .i64 I') rfl
  have k1 := Q.out.k.cell_ (i := 1) (v := .int .i64 K') rfl
  have k2 := Q.out.k.cell_ (i := 2) (v := .slice A3 n3 c3) rfl
  have k3 := Q.out.k.cell_ (i := 3) (v := .slice B3 m3 d3) rfl
  have r0 := Q.out.s.cell_ (i := 0) (v := .int .i64 t') rfl
  have r1 := Q.out.s.cell_ (i := 1) (v := .int .i64 g') rfl
  cases ok
  · go_wp2_with fail
    refine (sameGroup_same O.out.i O.out.j Q.out.i Q.out.j (by omega) (by omega)).mono ?_
    rintro e w7 ⟨rfl, s7⟩
    replace X := hid (X.out.st s7)
    replace O := hid (O.out.st s7)
    replace Q := hid (Q.out.st s7)
    replace q0 := s7.cell q0
    replace q1 := s7.cell q1
    replace q2 := s7.cell q2
    replace q3 := s7.cell q3
    replace o0 := s7.cell o0
    replace o1 := s7.cell o1
    replace o2 := s7.cell o2
    replace o3 := s7.cell o3
    replace t0 := s7.cell t0
    replace t1 := s7.cell t1
    replace k0 := s7.cell k0
    replace k1 := s7.cell k1
    replace k2 := s7.cell k2
    replace k3 := s7.cell k3
    replace r0 := s7.cell r0
    replace r1 := s7.cell r1
    clear s7
    go_wp2_with fail
    refine (sameGroup_same O.out.i O.out.j Q.out.i Q.out.j (by omega) (by omega)).mono ?_
    rintro e w8 ⟨rfl, s8⟩
    replace X := hid (X.out.st s8)
    replace O := hid (O.out.st s8)
    replace Q := hid (Q.out.st s8)
    replace q0 := s8.cell q0
    replace q1 := s8.cell q1
    replace q2 := s8.cell q2
    replace q3 := s8.cell q3
    replace o0 := s8.cell o0
    replace o1 := s8.cell o1
    replace o2 := s8.cell o2
    replace o3 := s8.cell o3
    replace t0 := s8.cell t0
    replace t1 := s8.cell t1
    replace k0 := s8.cell k0
    replace k1 := s8.cell k1
    replace k2 := s8.cell k2
    replace k3 := s8.cell k3
    replace r0 := s8.cell r0
    replace r1 := s8.cell r1
    clear s8
    go_wp2_with fail
    go_ret
    exact ⟨rfl, X.out.s⟩
  have V := hid (propM_valid HR.out).1
  go_wp2_with fail
  refine (sameGroup_same O.out.i O.out.j Q.out.i Q.out.j (by omega) (by omega)).mono ?_
  rintro e w7 ⟨rfl, s7⟩
  replace X := hid (X.out.st s7)
  replace O := hid (O.out.st s7)
  replace Q := hid (Q.out.st s7)
  replace q0 := s7.cell q0
  replace q1 := s7.cell q1
  replace q2 := s7.cell q2
  replace q3 := s7.cell q3
  replace o0 := s7.cell o0
  replace o1 := s7.cell o1
  replace o2 := s7.cell o2
  replace o3 := s7.cell o3
  replace t0 := s7.cell t0
  replace t1 := s7.cell t1
  replace k0 := s7.cell k0
  replace k1 := s7.cell k1
  replace k2 := s7.cell k2
  replace k3 := s7.cell k3
  replace r0 := s7.cell r0
  replace r1 := s7.cell r1
  clear s7
  obtain ⟨hds, hpe⟩ := prop_trace HR.out
  simp only at hds hpe
  subst hds
  have hnl : n1 ≤ 1048576 := by omega
  clear k0 k1 k2 k3 r0 r1 Q o0 o1 o2 o3 t0 t1 q0 q1 q2 q3
  go_upto_region 9 with (fail)
  go_loopw [11] (fun i wr => ∃ j : Nat, j ≤ n1 ∧ i = .int .i64 (j : Int) ∧ Hid (St w7 wr)) (fun i _ => n1 - (intOf i).toNat)
  case atStart => exact ⟨0, Nat.zero_le _, rfl, St.refl _⟩
  case round =>
    obtain ⟨wa, rfl⟩ : ∃ wo : World, wo = wr := ⟨_, rfl⟩
    obtain ⟨j, hj, rfl, hd⟩ := hrel
    have X2 := hid (X.out.st hd.out)
    have O2 := hid (O.out.st hd.out)
    have q2 := X2.out.k.cell_ (i := 2) (v := .slice A1 n1 c1) rfl
    have o0 := O2.out.k.cell_ (i := 0) (v := .int .i64 I') rfl
    have o1 := O2.out.k.cell_ (i := 1) (v := .int .i64 K') rfl
    have o2 := O2.out.k.cell_ (i := 2) (v := .slice A2 n2 c2) rfl
    have o3 := O2.out.k.cell_ (i := 3) (v := .slice B2 m2 d2) rfl
    have hj0 : (0 : Int) ≤ (j : Int) := by omega
    by_cases hlt : j < n1
    · have hji : (j : Int) < (n1 : Int) := by omega
      obtain ⟨ad, m', t2, g2, f', rfl, hbl, hy, c0, c1', c2', c3⟩ := X2.out.i.at_ hlt
      have HST := hid (hpe _ (List.mem_of_getElem? hy.out))
      have HRS := hid (show stRes (some (m', (t2, g2), f')) = .tuple #[enV m' t2 g2 f', .bool true] from rfl)
      simp only at HST
      have sA := hid (((St.refl wa).alloc (.cells #[.int .i64 0, .int .i64 0, .int .i64 0, .bool false] 31)).drew)
      have NA := hid ((Blk.new wa 31 #[.int .i64 0, .int .i64 0, .int .i64 0, .bool false]).dr (w' := (wa.alloc (.cells #[.int .i64 0, .int .i64 0, .int .i64 0, .bool false] 31)).drew) ⟨1, rfl⟩)
      have sB := hid (Dr.st ⟨1, rfl⟩ : St wa wa.drew)
      have hEx : bx ≠ wa.heap.size := Nat.ne_of_lt X2.out.k.lt
      have hEo : b1 ≠ wa.heap.size := Nat.ne_of_lt O2.out.k.lt
      have hEa : (ad.add (j * 4)).block ≠ wa.heap.size := by rw [addBlock]; omega
      clear hy
      go_upto_region 11 with (fail)
      go_cut [12] (fun s12 wx => ∃ X : Nat, s12 = .pointer (some ⟨X, 0, none⟩) ∧ Hid (Blk wx X 31 #[.int .i64 m', .int .i64 t2, .int .i64 g2, .bool f']) ∧ Hid (St wa wx))
      case first =>
        refine wp_region_held_drew (S := (fun w' => w'.cell? ⟨bx, 2, none⟩ = some (.slice (some ad) n1 c1) ∧ w'.cell? ⟨b1, 0, none⟩ = some (.int .i64 I') ∧ w'.cell? ⟨b1, 1, none⟩ = some (.int .i64 K') ∧ w'.cell? ⟨b1, 2, none⟩ = some (.slice A2 n2 c2) ∧ w'.cell? ⟨b1, 3, none⟩ = some (.slice B2 m2 d2) ∧ w'.cell? (ad.add (j * 4)) = some (.int .i64 m'))) (by kernel_rfl) ?_ (fun hH0 => ?_)
        · exact ⟨q2, o0, o1, o2, o3, c0⟩
        refine wpAnyH_take (i := 0) (oi := ⟨some 75, _, _, _, _, _⟩) (v := ?_) rfl (by kernel_rfl) (by kernel_rfl) (by kernel_rfl) (fun _ _ _ h => h) (Or.inl ⟨by rfl, ?_⟩) (by assumption) ?_
        rotate_left
        · (intro w hSw; (try dsimp only at hSw); go_simp; (try with_reducible rfl))
        (try simp only [Act.put, List.setIfInBounds_toArray, List.set_cons_zero, List.set_cons_succ])
        refine wpAnyH_take (i := 1) (oi := ⟨some 76, _, _, _, _, _⟩) (v := ?_) rfl (by kernel_rfl) (by kernel_rfl) (by kernel_rfl) (fun _ _ _ h => h) (Or.inl ⟨by rfl, ?_⟩) (by assumption) ?_
        rotate_left
        · (intro w hSw; (try dsimp only at hSw); go_simp; (try with_reducible rfl))
        (try simp only [Act.put, List.setIfInBounds_toArray, List.set_cons_zero, List.set_cons_succ])
        refine wpAnyH_take (i := 2) (oi := ⟨some 77, _, _, _, _, _⟩) (v := ?_) rfl (by kernel_rfl) (by kernel_rfl) (by kernel_rfl) (fun _ _ _ h => h) (Or.inl ⟨by rfl, ?_⟩) (by assumption) ?_
        rotate_left
        · (intro w hSw; (try dsimp only at hSw); go_simp; (try with_reducible rfl))
        (try simp only [Act.put, List.setIfInBounds_toArray, List.set_cons_zero, List.set_cons_succ])
        refine wpAnyH_take (i := 3) (oi := ⟨some 78, _, _, _, _, _⟩) (v := ?_) rfl (by kernel_rfl) (by kernel_rfl) (by kernel_rfl) (fun _ _ _ h => h) (Or.inl ⟨by rfl, ?_⟩) (by assumption) ?_
        rotate_left
        · (intro w hSw; (try dsimp only at hSw); go_simp; (try with_reducible rfl))
        (try simp only [Act.put, List.setIfInBounds_toArray, List.set_cons_zero, List.set_cons_succ])
        refine wpAnyH_take (i := 4) (oi := ⟨some 79, _, _, _, _, _⟩) (v := ?_) rfl (by kernel_rfl) (by kernel_rfl) (by kernel_rfl) (fun _ _ _ h => h) (Or.inl ⟨by rfl, ?_⟩) (by assumption) ?_
        rotate_left
        · (intro w hSw; (try dsimp only at hSw); go_simp; (try with_reducible rfl))
        (try simp only [Act.put, List.setIfInBounds_toArray, List.set_cons_zero, List.set_cons_succ])
        refine wpAnyH_take (i := 5) (oi := ⟨some 80, _, _, _, _, _⟩) (v := ?_) rfl (by kernel_rfl) (by kernel_rfl) (by kernel_rfl) (fun _ _ _ h => h) (Or.inl ⟨by rfl, ?_⟩) (by assumption) ?_
        rotate_left
        · (intro w hSw; (try dsimp only at hSw); go_simp; (try with_reducible rfl))
        (try simp only [Act.put, List.setIfInBounds_toArray, List.set_cons_zero, List.set_cons_succ])
        refine wpAnyH_take (i := 6) (oi := ⟨some 81, _, _, _, _, _⟩) (v := ?_) rfl (by kernel_rfl) (by kernel_rfl) (by kernel_rfl) (fun _ _ _ h => h) (Or.inl ⟨by rfl, ?_⟩) (by assumption) ?_
        rotate_left
        · (intro w hSw; (try dsimp only at hSw); go_simp; (try with_reducible rfl))
        (try simp only [Act.put, List.setIfInBounds_toArray, List.set_cons_zero, List.set_cons_succ])
        refine wpAnyH_ready (rs := [7, 11]) (by kernel_rfl) (by simp) ?_
        refine AllReadyH.cons (o := ⟨some 82, _, _, _, _, _⟩) rfl (fun K hK => ?_) ?_
        · skip
          go_simp
          (go_at_call 18; (with_reducible refine (GroupStamp_any _ _ _ _ _ _ _ _ _ _ m' _ (O2.out.i.st sB.out) (O2.out.j.st sB.out) (by omega) (by omega)).mono ?_); rintro e w8 ⟨rfl, s8⟩; rw [HST.out, HRS.out]; have U8 := hid (sB.out.trans s8); (try have N8 := hid (N6.out.st s8)); (try (have n0 := N8.out.cell_ (i := 0) (v := .int .i64 0) rfl; have n1' := N8.out.cell_ (i := 1) (v := .int .i64 0) rfl; have n2' := N8.out.cell_ (i := 2) (v := .int .i64 0) rfl; have n3 := N8.out.cell_ (i := 3) (v := .bool false) rfl; have nf0 := N8.out.frozen 0; have nf1 := N8.out.frozen 1; have nf2 := N8.out.frozen 2; have nf3 := N8.out.frozen 3)))
          (first | (refine hK.out _ _ ?_ (fun hH1 => ?_)) | (go_wp2_with fail; refine hK.out _ _ ?_ (fun hH1 => ?_)))
          · exact ⟨U8.out.cell q2, U8.out.cell o0, U8.out.cell o1, U8.out.cell o2, U8.out.cell o3, U8.out.cell c0⟩
          clear hK K hH0
          (try simp only [Act.put, List.setIfInBounds_toArray, List.set_cons_zero, List.set_cons_succ])
          refine wpAnyH_take (i := 8) (oi := ⟨some 74, _, _, _, _, _⟩) (v := ?_) rfl (by kernel_rfl) (by kernel_rfl) (by kernel_rfl) (fun _ _ _ h => h) (Or.inl ⟨by rfl, ?_⟩) (by assumption) ?_
          rotate_left
          · (intro w hSw; (try dsimp only at hSw); go_simp; (try with_reducible rfl))
          (try simp only [Act.put, List.setIfInBounds_toArray, List.set_cons_zero, List.set_cons_succ])
          refine wpAnyH_take (i := 9) (oi := ⟨some 83, _, _, _, _, _⟩) (v := ?_) rfl (by kernel_rfl) (by kernel_rfl) (by kernel_rfl) (fun _ _ _ h => h) (Or.inl ⟨by rfl, ?_⟩) (by assumption) ?_
          rotate_left
          · (intro w hSw; (try dsimp only at hSw); go_simp; (try with_reducible rfl))
          (try simp only [Act.put, List.setIfInBounds_toArray, List.set_cons_zero, List.set_cons_succ])
          refine wpAnyH_take (i := 10) (oi := ⟨some 84, _, _, _, _, _⟩) (v := ?_) rfl (by kernel_rfl) (by kernel_rfl) (by kernel_rfl) (fun _ _ _ h => h) (Or.inl ⟨by rfl, ?_⟩) (by assumption) ?_
          rotate_left
          · (intro w hSw; (try dsimp only at hSw); go_simp; (try with_reducible rfl))
          (try simp only [Act.put, List.setIfInBounds_toArray, List.set_cons_zero, List.set_cons_succ])
          refine wpAnyH_ready (rs := [11]) (by kernel_rfl) (by simp) ?_
          refine AllReadyH.cons (o := ⟨some 12, _, _, _, _, _⟩) rfl (fun K hK => ?_) AllReadyH.nil
          (go_simp; have N9 := hid (Blk.new w8 31 #[.int .i64 m', .int .i64 t2, .int .i64 g2, .bool f']); have T9 := hid (U8.out.alloc (.cells #[.int .i64 m', .int .i64 t2, .int .i64 g2, .bool f'] 31)); have U8 := hid (U8.out.alloc (.cells #[.int .i64 0, .int .i64 0, .int .i64 0, .bool false] 31)); have M9 := hid (Blk.new w8 31 #[.int .i64 0, .int .i64 0, .int .i64 0, .bool false]); have n0 := M9.out.cell_ (i := 0) (v := .int .i64 0) rfl; have n1' := M9.out.cell_ (i := 1) (v := .int .i64 0) rfl; have n2' := M9.out.cell_ (i := 2) (v := .int .i64 0) rfl; have n3 := M9.out.cell_ (i := 3) (v := .bool false) rfl; have nf0 := M9.out.frozen 0; have nf1 := M9.out.frozen 1; have nf2 := M9.out.frozen 2; have nf3 := M9.out.frozen 3)
          (first | (refine hK.out _ _ ?_ (fun hH2 => ?_)) | (go_wp2_with fail; refine hK.out _ _ ?_ (fun hH2 => ?_)))
          · exact ⟨U8.out.cell q2, U8.out.cell o0, U8.out.cell o1, U8.out.cell o2, U8.out.cell o3, U8.out.cell c0⟩
          clear hK K hH1
          (try simp only [Act.put, List.setIfInBounds_toArray, List.set_cons_zero, List.set_cons_succ])
          refine wpAnyH_ready (rs := [12]) (by kernel_rfl) (by simp) ?_
          refine AllReadyH.cons (o := ⟨none, _, _, _, _, _⟩) rfl (fun K hK => ?_) AllReadyH.nil
          go_simp
          (first | (refine hK.out _ _ ?_ (fun hH3 => ?_)) | (go_wp2_with fail; refine hK.out _ _ ?_ (fun hH3 => ?_)))
          · exact ⟨T9.out.cell q2, T9.out.cell o0, T9.out.cell o1, T9.out.cell o2, T9.out.cell o3, T9.out.cell c0⟩
          clear hK K hH2
          (try simp only [Act.put, List.setIfInBounds_toArray, List.set_cons_zero, List.set_cons_succ])
          refine wpAnyH_take (i := 13) (oi := ⟨some 13, _, _, _, _, _⟩) (v := ?_) rfl (by kernel_rfl) (by kernel_rfl) (by kernel_rfl) (fun _ _ _ h => h) (Or.inl ⟨by rfl, ?_⟩) (by assumption) ?_
          rotate_left
          · (intro w hSw; (try dsimp only at hSw); go_simp; (try with_reducible rfl))
          (try simp only [Act.put, List.setIfInBounds_toArray, List.set_cons_zero, List.set_cons_succ])
          refine wpAnyH_done (by kernel_rfl) ?_ _
          clear hH3
          go_wp2_with fail
          go_meet
          exact ⟨_, rfl, N9, T9⟩
        refine AllReadyH.cons (o := ⟨some 12, _, _, _, _, _⟩) rfl (fun K hK => ?_) ?_
        · skip
          (go_simp; have sB := sA; have N6 := NA)
          (first | (refine hK.out _ _ ?_ (fun hH1 => ?_)) | (go_wp2_with fail; refine hK.out _ _ ?_ (fun hH1 => ?_)))
          · exact ⟨sA.out.cell q2, sA.out.cell o0, sA.out.cell o1, sA.out.cell o2, sA.out.cell o3, sA.out.cell c0⟩
          clear hK K hH0
          (try simp only [Act.put, List.setIfInBounds_toArray, List.set_cons_zero, List.set_cons_succ])
          refine wpAnyH_ready (rs := [7]) (by kernel_rfl) (by simp) ?_
          refine AllReadyH.cons (o := ⟨some 82, _, _, _, _, _⟩) rfl (fun K hK => ?_) AllReadyH.nil
          go_simp
          (go_at_call 18; (with_reducible refine (GroupStamp_any _ _ _ _ _ _ _ _ _ _ m' _ (O2.out.i.st sB.out) (O2.out.j.st sB.out) (by omega) (by omega)).mono ?_); rintro e w8 ⟨rfl, s8⟩; rw [HST.out, HRS.out]; have U8 := hid (sB.out.trans s8); (try have N8 := hid (N6.out.st s8)); (try (have n0 := N8.out.cell_ (i := 0) (v := .int .i64 0) rfl; have n1' := N8.out.cell_ (i := 1) (v := .int .i64 0) rfl; have n2' := N8.out.cell_ (i := 2) (v := .int .i64 0) rfl; have n3 := N8.out.cell_ (i := 3) (v := .bool false) rfl; have nf0 := N8.out.frozen 0; have nf1 := N8.out.frozen 1; have nf2 := N8.out.frozen 2; have nf3 := N8.out.frozen 3)))
          (first | (refine hK.out _ _ ?_ (fun hH2 => ?_)) | (go_wp2_with fail; refine hK.out _ _ ?_ (fun hH2 => ?_)))
          · exact ⟨U8.out.cell q2, U8.out.cell o0, U8.out.cell o1, U8.out.cell o2, U8.out.cell o3, U8.out.cell c0⟩
          clear hK K hH1
          (try simp only [Act.put, List.setIfInBounds_toArray, List.set_cons_zero, List.set_cons_succ])
          refine wpAnyH_take (i := 8) (oi := ⟨some 74, _, _, _, _, _⟩) (v := ?_) rfl (by kernel_rfl) (by kernel_rfl) (by kernel_rfl) (fun _ _ _ h => h) (Or.inl ⟨by rfl, ?_⟩) (by assumption) ?_
          rotate_left
          · (intro w hSw; (try dsimp only at hSw); go_simp; (try with_reducible rfl))
          (try simp only [Act.put, List.setIfInBounds_toArray, List.set_cons_zero, List.set_cons_succ])
          refine wpAnyH_take (i := 9) (oi := ⟨some 83, _, _, _, _, _⟩) (v := ?_) rfl (by kernel_rfl) (by kernel_rfl) (by kernel_rfl) (fun _ _ _ h => h) (Or.inl ⟨by rfl, ?_⟩) (by assumption) ?_
          rotate_left
          · (intro w hSw; (try dsimp only at hSw); go_simp; (try with_reducible rfl))
          (try simp only [Act.put, List.setIfInBounds_toArray, List.set_cons_zero, List.set_cons_succ])
          refine wpAnyH_take (i := 10) (oi := ⟨some 84, _, _, _, _, _⟩) (v := ?_) rfl (by kernel_rfl) (by kernel_rfl) (by kernel_rfl) (fun _ _ _ h => h) (Or.inl ⟨by rfl, ?_⟩) (by assumption) ?_
          rotate_left
          · (intro w hSw; (try dsimp only at hSw); go_simp; (try with_reducible rfl))
          (try simp only [Act.put, List.setIfInBounds_toArray, List.set_cons_zero, List.set_cons_succ])
          refine wpAnyH_ready (rs := [12]) (by kernel_rfl) (by simp) ?_
          refine AllReadyH.cons (o := ⟨none, _, _, _, _, _⟩) rfl (fun K hK => ?_) AllReadyH.nil
          go_simp
          (first | (refine hK.out _ _ ?_ (fun hH3 => ?_)) | (go_wp2_with fail; refine hK.out _ _ ?_ (fun hH3 => ?_)))
          · exact ⟨cellE0 (U8.out.cell q2) hEx, cellE0 (U8.out.cell o0) hEo, cellE0 (U8.out.cell o1) hEo, cellE0 (U8.out.cell o2) hEo, cellE0 (U8.out.cell o3) hEo, cellE0 (U8.out.cell c0) hEa⟩
          clear hK K hH2
          (try simp only [Act.put, List.setIfInBounds_toArray, List.set_cons_zero, List.set_cons_succ])
          refine wpAnyH_take (i := 13) (oi := ⟨some 13, _, _, _, _, _⟩) (v := ?_) rfl (by kernel_rfl) (by kernel_rfl) (by kernel_rfl) (fun _ _ _ h => h) (Or.inl ⟨by rfl, ?_⟩) (by assumption) ?_
          rotate_left
          · (intro w hSw; (try dsimp only at hSw); go_simp; (try with_reducible rfl))
          (try simp only [Act.put, List.setIfInBounds_toArray, List.set_cons_zero, List.set_cons_succ])
          refine wpAnyH_done (by kernel_rfl) ?_ _
          clear hH3
          have N9 := hid ((((N8.out.set_ 0 (.int .i64 m')).set_ 1 (.int .i64 t2)).set_ 2 (.int .i64 g2)).set_ 3 (.bool f'))
          have T9 := hid (stE0 U8.out (Nat.le_refl _) m' t2 g2 f')
          go_wp2_with fail
          go_meet
          exact ⟨_, rfl, N9, T9⟩
        exact AllReadyH.nil
      case rest =>
        obtain ⟨E, rfl, NB, SB⟩ := hcut
        clear sA NA sB q2 o0 o1 o2 o3 hEx hEo hEa HST HRS
        have X3 := hid (X2.out.st SB.out)
        have q2 := X3.out.k.cell_ (i := 2) (v := .slice (some ad) n1 c1) rfl
        have e0 := NB.out.cell_ (i := 0) (v := .int .i64 m') rfl
        have e1 := NB.out.cell_ (i := 1) (v := .int .i64 t2) rfl
        have e2 := NB.out.cell_ (i := 2) (v := .int .i64 g2) rfl
        have e3 := NB.out.cell_ (i := 3) (v := .bool f') rfl
        have c0 := SB.out.cell c0
        have c1' := SB.out.cell c1'
        have c2' := SB.out.cell c2'
        have c3 := SB.out.cell c3
        go_wp2_with fail
        go_quiet (fail)
        have hd2 := hid ((hd.out.trans SB.out).trans (Dr.st ⟨nq, rfl⟩ : St wc (wc.drewN nq)))
        go_wp2_with fail
        go_roundw
        case rel => exact ⟨j + 1, by omega, by go_num, hd2⟩
        case measure => simp [intOf]; omega
    · obtain rfl : j = n1 := by omega
      have hji : ¬ ((j : Int) < (j : Int)) := by omega
      have q3 := X2.out.k.cell_ (i := 3) (v := .slice B1 m1 d1) rfl
      go_wp2_with fail
      refine (sameEntries_same O2.out.j X2.out.j (by omega)).mono ?_
      rintro e w12 ⟨rfl, d12⟩
      go_wp2_with fail
      go_ret
      exact ⟨rfl, X2.out.s.trans d12.st⟩
end Go.Proofs.Ytfepegellpegdaa
