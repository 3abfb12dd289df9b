/- FnTraceFewer returns true. -/
import Derived.Test.YtfdgbbapbpflcaaTrC5
import Derived.Test.YtfdgbbapbpflcaaTrL2
namespace Go.Proofs.Ytfdgbbapbpflcaa
open Go.RowKit
theorem cut_rows {w : World} {B n : Nat} {A : Option Addr} {hs : List Value} (h : Reads w B 1 A n hs) {c : Nat} (k : Nat) (ki : Int) (hki : ki = (k : Int)) (hk : k ≤ n) (hc : n ≤ c) :
    ∃ X, (∀ W, (Instr.slice 29 (.slice A n c) (some (.int .i64 ki)) none none).run Try.prog W = .ok (.slice X (n - k) (c - k)) W) ∧ Reads w B 1 X (n - k) (hs.drop k) := by
  subst hki
  have hr := h.cut hk hc
  rw [Nat.mul_one] at hr
  refine ⟨if c = k then A else A.map (·.add k), fun W => ?_, hr⟩
  rw [run_slice_l W 29 A n c (by kernel_rfl) .i64 (k : Int) (by omega) (by omega)]
  have hs : (sizeOf (Try.prog.elem 29)).run Try.prog W = .ok 1 W := by kernel_rfl
  rw [hs]
  simp [Result.andThen, sliced]
theorem inner_cut {w : World} {n k : Nat} {xss : List (List Int)} {hs : List Value} (hk : k < n) (hl : hs.length = n) (hx : xss.length = n)
    (h : ∀ k, k < n → ∃ Ak nk ck xs, hs[k]? = some (.slice Ak nk ck) ∧ xss[k]? = some xs ∧ SL w Ak nk ck xs) :
    ∀ j, j < k + (n - (k + 1)) → ∃ Ak nk ck xs, (hs.take k ++ hs.drop (k + 1))[j]? = some (.slice Ak nk ck) ∧ (xss.take k ++ xss.drop (k + 1))[j]? = some xs ∧ SL w Ak nk ck xs := by
  refine inner_app (by rw [List.length_take, hl]; omega) (by rw [List.length_take, hx]; omega) (fun j hj => ?_) (fun j hj => ?_)
  · obtain ⟨Ak, nk, ck, xs, h1, h2, h3⟩ := h j (by omega)
    exact ⟨Ak, nk, ck, xs, by rw [List.getElem?_take, if_pos hj]; exact h1, by rw [List.getElem?_take, if_pos hj]; exact h2, h3⟩
  · obtain ⟨Ak, nk, ck, xs, h1, h2, h3⟩ := h (k + 1 + j) (by omega)
    exact ⟨Ak, nk, ck, xs, by rw [List.getElem?_drop]; exact h1, by rw [List.getElem?_drop]; exact h2, h3⟩
theorem inner_set {w : World} {n k m c : Nat} {A : Option Addr} {ys : List Int} {xss : List (List Int)} {hs : List Value} (hl : hs.length = n) (hx : xss.length = n) (hy : SL w A m c ys)
    (h : ∀ k, k < n → ∃ Ak nk ck xs, hs[k]? = some (.slice Ak nk ck) ∧ xss[k]? = some xs ∧ SL w Ak nk ck xs) :
    ∀ j, j < n → ∃ Ak nk ck xs, (hs.set k (.slice A m c))[j]? = some (.slice Ak nk ck) ∧ (xss.set k ys)[j]? = some xs ∧ SL w Ak nk ck xs := by
  intro j hj
  by_cases e : k = j
  · subst e
    exact ⟨A, m, c, ys, by rw [List.getElem?_set, if_pos rfl, if_pos (by omega)], by rw [List.getElem?_set, if_pos rfl, if_pos (by omega)], hy⟩
  · obtain ⟨Ak, nk, ck, xs, h1, h2, h3⟩ := h j hj
    exact ⟨Ak, nk, ck, xs, by rw [List.getElem?_set, if_neg e]; exact h1, by rw [List.getElem?_set, if_neg e]; exact h2, h3⟩
theorem less_ok {xss : List (List Int)} (h : toOk xss = true) (k : Nat) : toOk (xss.take k ++ xss.drop (k + 1)) = true := by
  refine fewer_order h (by simp; omega) fun ys hy => ⟨ys, ?_, List.prefix_refl _⟩
  rcases List.mem_append.1 hy with hy | hy
  · exact List.mem_of_mem_take hy
  · exact List.mem_of_mem_drop hy
theorem part_ok {xss : List (List Int)} (h : toOk xss = true) {k : Nat} {t : List Int} (ht : xss[k]? = some t) (j : Nat) : toOk (xss.set k (t.take j)) = true := by
  refine fewer_order h (by simp) fun ys hy => ?_
  rcases List.mem_or_eq_of_mem_set hy with hy | rfl
  · exact ⟨ys, hy, List.prefix_refl _⟩
  · exact ⟨t, List.mem_of_getElem? ht, List.take_prefix _ _⟩
set_option maxRecDepth 100000 in
set_option maxHeartbeats 4000000 in
theorem walkTraceFewer (A : Option Addr) (n c : Nat) (bs : List Nat) {w : World} (h : RB w w.heap.size A n bs) (hnc : n ≤ c ∧ c ≤ maxLen) (A' : Option Addr) (n' c' : Nat) (bs' : List Nat) (_ : RB w w.heap.size A' n' bs') (_ : n' ≤ c' ∧ c' ≤ maxLen) :
    Calls Try.prog 10 #[.slice A n c, .slice A' n' c'] w fun e w' => e = .returned (.bool true) ∧ Below w.heap.size w w' := by
  obtain ⟨hnc, hcm⟩ := hnc
  have HCM := hid hcm
  clear hcm
  by_cases hn : 1048576 < n
  · have hn : (1048576 : Int) < (n : Int) := by omega
    go_enter Try.func10, Try.ntmps10
    go_wp2_with fail
    go_ret
    exact ⟨rfl, Below.refl _ _⟩
  by_cases hn' : 1048576 < n'
  · have hn : ¬ (1048576 : Int) < (n : Int) := by omega
    have hn' : (1048576 : Int) < (n' : Int) := by omega
    go_enter Try.func10, Try.ntmps10
    go_wp2_with fail
    go_ret
    exact ⟨rfl, Below.refl _ _⟩
  have hni' : ¬ (1048576 : Int) < (n' : Int) := by omega
  have hni : ¬ (1048576 : Int) < (n : Int) := by omega
  go_enter Try.func10, Try.ntmps10
  go_wp2_with fail
  refine (DrawTraceOrder_any _ _ _ _ _ h (by omega) hnc HCM.out).mono ?_
  rintro e w1 ⟨A1, n1, c1, xss, rfl, i1, hn1, ll, s1⟩
  have I := hid i1
  have LL := hid ll
  have BIG := hid (big_of ll)
  have S := hid s1
  have HLEN := hid i1.len
  clear i1 ll s1
  obtain ⟨ok, hok⟩ : ∃ b, toOk xss = b := ⟨_, rfl⟩
  have HOK := hid hok
  have HV12 := hid (toV_le' xss)
  clear hok
  go_wp2_with fail
  refine (TraceOrder_any _ _ _ _ _ I.out (by omega) BIG.out).mono ?_
  rintro e w2 ⟨A2, n2, c2, rfl, o2, s2⟩
  rw [HOK.out]
  have O := hid o2.sl
  have HON := hid o2.len
  replace I := hid (I.out.st s2)
  replace S := hid (S.out.st s2)
  clear o2 s2
  go_wp2_with fail
  refine (specTraceOrder_any _ _ _ _ _ I.out (by omega) BIG.out).mono ?_
  rintro e w3 ⟨A3, n3, c3, rfl, o3, s3⟩
  rw [HOK.out]
  have W := hid o3
  replace I := hid (I.out.st s3)
  replace S := hid (S.out.st s3)
  replace O := hid (O.out.st s3)
  clear o3 s3
  have hoo : (ok == ok) = true := by simp
  have hon : (ok != ok) = false := by simp
  cases ok
  · go_wp2_with fail
    refine (sameInts_same O.out W.out (by have := HV12.out; omega)).mono ?_
    rintro e w4 ⟨rfl, s4⟩
    replace I := hid (I.out.st s4)
    replace S := hid (S.out.st s4)
    replace O := hid (O.out.st s4)
    replace W := hid (W.out.st s4)
    clear s4
    go_wp2_with fail
    refine (sameInts_same O.out W.out (by have := HV12.out; omega)).mono ?_
    rintro e w5 ⟨rfl, s5⟩
    replace I := hid (I.out.st s5)
    replace S := hid (S.out.st s5)
    replace O := hid (O.out.st s5)
    replace W := hid (W.out.st s5)
    clear s5
    go_wp2_with fail
    go_ret
    exact ⟨rfl, S.out⟩
  go_wp2_with fail
  refine (sameInts_same O.out W.out (by have := HV12.out; omega)).mono ?_
  rintro e w4 ⟨rfl, s4⟩
  replace I := hid (I.out.st s4)
  replace S := hid (S.out.st s4)
  replace O := hid (O.out.st s4)
  replace W := hid (W.out.st s4)
  clear s4
  have hn12 : n2 ≤ 12 := by have h1 := HON.out; have h2 := HV12.out; omega
  by_cases h0 : n1 = 0
  · subst h0
    go_wp2_with fail
    refine (sameInts_same O.out W.out (by have := HV12.out; omega)).mono ?_
    rintro e w5 ⟨rfl, s5⟩
    go_wp2_with fail
    go_ret
    exact ⟨rfl, S.out.trans s5⟩
  have hnz : ((n1 : Int) == 0) = false := by simp; omega
  clear hoo hon W O
  obtain ⟨k, hk, hkn⟩ : ∃ k : Nat, (n' : Int) % (n1 : Int) = (k : Int) ∧ k < n1 := ⟨n' % n1, by simp, Nat.mod_lt _ (by omega)⟩
  obtain ⟨hs, hrow⟩ := I.out.row_
  have HHL := hid hrow.len
  have HONE := hid hrow.one
  have hnc := I.out.nc
  obtain ⟨X, hrun, hcut⟩ := cut_rows hrow.1 (c := c1) (k + 1) ((k : Int) + 1) (by omega) (by omega) hnc
  have hru := hrow.1.upto (k := k) (by omega)
  rw [Nat.mul_one] at hru
  have R4 := hid hrow
  have a4 := (St.refl w4).alloc (.cells #[] 22)
  have E1 := hid (World.ownsRow.dr (row_lit w4 22 1) (w' := (w4.alloc (.cells #[] 22)).drew) ⟨1, rfl⟩)
  have PS1 := hid (show St w4 ((w4.alloc (.cells #[] 22)).drew) from a4.drew)
  have RU := hid (show Reads ((w4.alloc (.cells #[] 22)).drew) w4.heap.size 1 A1 k (hs.take k) from Reads.alloc hru (Nat.le_refl _) _)
  have HCUT := hid (show Reads w4 w4.heap.size 1 X (n1 - (k + 1)) (hs.drop (k + 1)) from hcut)
  have ONE1 := hid (show ∀ u ∈ hs.take k, u.oneCell' = true from fun u hu => HONE.out u (List.mem_of_mem_take hu))
  have ONE2 := hid (show ∀ u ∈ hs.drop (k + 1), u.oneCell' = true from fun u hu => HONE.out u (List.mem_of_mem_drop hu))
  have L1 := hid (show w4.heap.size ≤ ((w4.alloc (.cells #[] 22)).drew).heap.size by simp)
  have GB1 := hid (show ∀ j, blockOf (some ⟨w4.heap.size, 0, none⟩) = some j → w4.heap.size ≤ j from fun j hj => by simp [blockOf] at hj; omega)
  have G1 := hid (show 0 + k ≤ 1099511627776 by omega)
  have G2 := hid (show (0 + k) * 24 ≤ 140737488355328 by omega)
  have G3 := hid (show k + (n1 - (k + 1)) ≤ 1099511627776 by omega)
  have G4 := hid (show (k + (n1 - (k + 1))) * 24 ≤ 140737488355328 by omega)
  have HKN := hid hkn
  have hkc : (k : Int) ≤ (c1 : Int) := by omega
  have hk1 : (k : Int) + 1 ≤ (n1 : Int) := by omega
  have hv : IntKind.i64.wrap ((k : Int) + 1) = (k : Int) + 1 := IntWalk.i64_in _ (by omega)
  clear hrow hcut hru a4
  go_wp2_with fail
  refine wp_region_held_drew (S := (fun _ => True)) (by kernel_rfl) ?_ (fun hH0 => ?_)
  · trivial
  refine wpAnyH_take (i := 1) (oi := ⟨some 69, _, _, _, _, _⟩) (v := ?_) rfl (by kernel_rfl) (by kernel_rfl) (by kernel_rfl) (fun _ _ _ h => h) (Or.inl ⟨by rfl, ?_⟩) (by assumption) ?_
  rotate_left
  · (intro w hSw; (try dsimp only at hSw); go_simp; (try with_reducible rfl))
  (try simp only [Act.put, List.setIfInBounds_toArray, List.set_cons_zero, List.set_cons_succ])
  refine wpAnyH_take (i := 2) (oi := ⟨some 70, _, _, _, _, _⟩) (v := ?_) rfl (by kernel_rfl) (by kernel_rfl) (by kernel_rfl) (fun _ _ _ h => h) (Or.inl ⟨by rfl, ?_⟩) (by assumption) ?_
  rotate_left
  · (intro w hSw; (try dsimp only at hSw); go_simp; (try with_reducible rfl))
  (try simp only [Act.put, List.setIfInBounds_toArray, List.set_cons_zero, List.set_cons_succ])
  refine wpAnyH_take (i := 3) (oi := ⟨some 71, _, _, _, _, _⟩) (v := ?_) rfl (by kernel_rfl) (by kernel_rfl) (by kernel_rfl) (fun _ _ _ h => h) (Or.inl ⟨by rfl, ?_⟩) (by assumption) ?_
  rotate_left
  · (intro w hSw; (try dsimp only at hSw); go_simp; (try with_reducible rfl))
  (try simp only [Act.put, List.setIfInBounds_toArray, List.set_cons_zero, List.set_cons_succ])
  refine wpAnyH_take (i := 5) (oi := ⟨some 73, _, _, _, _, _⟩) (v := ?_) rfl (by kernel_rfl) (by kernel_rfl) (by kernel_rfl) (fun _ _ _ h => h) (Or.inl ⟨by rfl, ?_⟩) (by assumption) ?_
  rotate_left
  · (intro w hSw; (try dsimp only at hSw); go_simp; (try with_reducible rfl))
  (try simp only [Act.put, List.setIfInBounds_toArray, List.set_cons_zero, List.set_cons_succ])
  refine wpAnyH_take (i := 6) (oi := ⟨some 74, _, _, _, _, _⟩) (v := ?_) rfl (by kernel_rfl) (by kernel_rfl) (by kernel_rfl) (fun _ _ _ h => h) (Or.inl ⟨by rfl, ?_⟩) (by assumption) ?_
  rotate_left
  · (intro w hSw; (try dsimp only at hSw); go_simp; (try with_reducible rfl))
  (try simp only [Act.put, List.setIfInBounds_toArray, List.set_cons_zero, List.set_cons_succ])
  refine wpAnyH_take (i := 7) (oi := ⟨some 75, _, _, _, _, _⟩) (v := ?_) rfl (by kernel_rfl) (by kernel_rfl) (by kernel_rfl) (fun _ _ _ h => h) (Or.inl ⟨by rfl, ?_⟩) (by assumption) ?_
  rotate_left
  · (intro w hSw; (try dsimp only at hSw); go_simp; (try with_reducible rfl))
  (try simp only [Act.put, List.setIfInBounds_toArray, List.set_cons_zero, List.set_cons_succ])
  refine wpAnyH_take (i := 8) (oi := ⟨some 76, _, _, _, _, _⟩) (v := ?_) rfl (by kernel_rfl) (by kernel_rfl) (by kernel_rfl) (fun _ _ _ h => h) (Or.inl ⟨by rfl, ?_⟩) (by assumption) ?_
  rotate_left
  · (intro w hSw; (try dsimp only at hSw); go_simp; (try with_reducible rfl))
  (try simp only [Act.put, List.setIfInBounds_toArray, List.set_cons_zero, List.set_cons_succ])
  refine wpAnyH_ready (rs := [0]) (by kernel_rfl) (by simp) ?_
  refine AllReadyH.cons (o := ⟨some 68, _, _, _, _, _⟩) rfl (fun K hK => ?_) AllReadyH.nil
  go_simp
  (first | (refine hK.out _ _ ?_ (fun hH1 => ?_)) | (go_wp2_with fail; refine hK.out _ _ ?_ (fun hH1 => ?_)))
  · trivial
  clear hK K hH0
  (try simp only [Act.put, List.setIfInBounds_toArray, List.set_cons_zero, List.set_cons_succ])
  refine wpAnyH_ready (rs := [4]) (by kernel_rfl) (by simp) ?_
  refine AllReadyH.cons (o := ⟨some 72, _, _, _, _, _⟩) rfl (fun K hK => ?_) AllReadyH.nil
  (refine step_append_rows ((w4.alloc (.cells #[] 22)).drew) (by rfl) (.tmp 68) (.tmp 71) 29 (by rfl) w4.heap.size 22 1 24 (.slice none 0 0) Try.underlying29 sliceInfo (by rfl) (by omega) (some ⟨w4.heap.size, 0, none⟩) 0 0 [] (by rfl) E1.out _ A1 k c1 (hs.take k) (by rfl) RU.out ONE1.out G1.out G2.out L1.out ?_; intro X5 a5 w5 o5 g5; simp only [Nat.zero_add, List.nil_append] at o5 ⊢; have s5 : St w4 w5 := St.grown PS1.out g5 GB1.out; have x5 := hid (HCUT.out.below s5))
  (first | (refine hK.out _ _ ?_ (fun hH2 => ?_)) | (go_wp2_with fail; refine hK.out _ _ ?_ (fun hH2 => ?_)))
  · trivial
  clear hK K hH1
  (try simp only [Act.put, List.setIfInBounds_toArray, List.set_cons_zero, List.set_cons_succ])
  refine wpAnyH_ready (rs := [9]) (by kernel_rfl) (by simp) ?_
  refine AllReadyH.cons (o := ⟨some 77, _, _, _, _, _⟩) rfl (fun K hK => ?_) AllReadyH.nil
  (refine step_append_rows w5 (by rfl) (.tmp 72) (.tmp 76) 29 (by rfl) w4.heap.size 22 1 24 (.slice none 0 0) Try.underlying29 sliceInfo (by rfl) (by omega) X5 k a5 (hs.take k) (by rfl) o5 _ X (n1 - (k + 1)) (c1 - (k + 1)) (hs.drop (k + 1)) (by rfl) x5.out ONE2.out G3.out G4.out s5.le ?_; intro X6 a6 w6 o6 g6; have s6 : St w4 w6 := St.grown s5 g6 (fun q hq => (World.ownsRow.lt o5 q (by rw [ownBlock_slice]; exact hq)).1))
  (first | (refine hK.out _ _ ?_ (fun hH3 => ?_)) | (go_wp2_with fail; refine hK.out _ _ ?_ (fun hH3 => ?_)))
  · trivial
  clear hK K hH2
  (try simp only [Act.put, List.setIfInBounds_toArray, List.set_cons_zero, List.set_cons_succ])
  refine wpAnyH_take (i := 10) (oi := ⟨some 11, _, _, _, _, _⟩) (v := ?_) rfl (by kernel_rfl) (by kernel_rfl) (by kernel_rfl) (fun _ _ _ h => h) (Or.inl ⟨by rfl, ?_⟩) (by assumption) ?_
  rotate_left
  · (intro w hSw; (try dsimp only at hSw); go_simp; (try with_reducible rfl))
  (try simp only [Act.put, List.setIfInBounds_toArray, List.set_cons_zero, List.set_cons_succ])
  refine wpAnyH_done (by kernel_rfl) ?_ _
  clear hH3
  have LS := hid (SLL.of_own (xss := xss.take k ++ xss.drop (k + 1)) (n := k + (n1 - (k + 1))) (by rw [List.length_append, List.length_take, List.length_drop, HLEN.out]; have := HKN.out; omega) o6 (inner_cut HKN.out HHL.out HLEN.out (fun j hj => by
    obtain ⟨Ak, nk, ck, xs, e1, e2, e3⟩ := R4.out.2 j hj
    exact ⟨Ak, nk, ck, xs, e1, e2, e3.st s6⟩)))
  have R6 := hid (R4.out.st s6)
  replace I := hid (I.out.st s6)
  replace S := hid (S.out.st s6)
  clear E1 PS1 RU HCUT ONE1 ONE2 L1 GB1 G1 G2 G3 G4 R4 o5 o6 g5 g6 s5 x5 s6 hrun
  have a7 := (St.refl w6).alloc (.cells #[] 22)
  have HO := hid (row_lit w6 22 1)
  have ht7 := a7.le
  have R7 := hid (R6.out.1.alloc (Nat.le_refl _) (.cells #[] 22))
  have S7 := hid a7
  clear a7
  go_wp2_with (at_builtin; refine wpList_append_rows _ rfl _ _ 29 rfl w6.heap.size 22 1 24 (.slice none 0 0) Try.underlying29 sliceInfo rfl (by omega) (some ⟨w6.heap.size, 0, none⟩) 0 0 [] rfl HO.out _ A1 n1 c1 hs rfl R7.out HONE.out (by omega) (by omega) ht7 ?_; intro X8 b8 w8 o8 g8; simp only [Nat.zero_add, List.nil_append] at o8 ⊢; have S8 := hid (S7.out.grown g8 (fun g hg => by simp [blockOf] at hg; omega)))
  obtain ⟨R, cap8, hv8, hb8, hlt8⟩ := World.ownsRow.form o8 (by omega)
  injection hv8 with hv8 _ hv9
  subst hv8 hv9
  obtain ⟨ad, At, nt, ct, t, rfl, hct, hxt, hskt⟩ := I.out.at_' hkn
  have hct6 := hct
  have hct := S8.out.cell hct
  have PT0 := hid trivial
  have hnt : nt ≤ 10 := by have := LL.out t (List.mem_of_getElem? hxt.out); rw [hskt.out.len] at this; exact this
  obtain ⟨hq, hhq, hhn⟩ : ∃ q : Nat, (nt : Int) / 2 = (q : Int) ∧ q ≤ nt := ⟨nt / 2, by simp, by omega⟩
  have hnct := hskt.out.nc
  have hqc : (hq : Int) ≤ (ct : Int) := by omega
  have c9 := o8.cellAt k (by omega)
  obtain ⟨u9, hu9⟩ : ∃ u, hs[k]? = some u := ⟨_, List.getElem?_eq_getElem (by rw [HHL.out]; exact hkn)⟩
  rw [hu9] at c9
  have c9s : (w8.cell? ⟨R, k, none⟩).isSome = true := by rw [c9]; rfl
  have f9 := o8.frozenAt k
  obtain ⟨o10', g10⟩ := World.ownsRow.stored o8 k (.slice At hq ct)
  have o10 := World.ownsRow.dr o10' (w' := (w8.setCell ⟨R, k, none⟩ (.slice At hq ct)).drew) ⟨1, rfl⟩
  have s10 : St w6 (w8.setCell ⟨R, k, none⟩ (.slice At hq ct)).drew := (S8.out.setCell (p := ⟨R, k, none⟩) hb8 _).drew
  have TQ := hid (show SL w6 At hq ct (t.take hq) from ⟨hskt.out.ri.upto hhn, by omega, hskt.out.cm⟩)
  have c9' := hid c9
  clear c9
  have PT := hid (SLL.of_own (xss := xss.set k (t.take hq)) (n := n1) (by rw [List.length_set, HLEN.out]) o10 (inner_set HHL.out HLEN.out (TQ.out.st s10) (fun j hj => by
    obtain ⟨Ak, nk, ck, xs, e1, e2, e3⟩ := R6.out.2 j hj
    exact ⟨Ak, nk, ck, xs, e1, e2, e3.st s10⟩)))
  have hk0 : (0 : Int) ≤ (k : Int) := by omega
  have hk2 : (k : Int) < (n1 : Int) := by omega
  have hqw : IntKind.i64.wrap (hq : Int) = (hq : Int) := IntWalk.i64_in _ ⟨by omega, by omega⟩
  have hq0 : (0 : Int) ≤ (hq : Int) := by omega
  have k1 := s10.cell hct6
  have k2 : ((w8.setCell ⟨R, k, none⟩ (.slice At hq ct)).drew.cell? ⟨R, k, none⟩).isSome = true := by
    rw [o10.cellAt k (by omega), List.getElem?_set, if_pos rfl, if_pos (by rw [HHL.out]; exact hkn)]; rfl
  have k3 := o10.frozenAt k
  have BIGL := hid (show ∀ xs ∈ xss.take k ++ xss.drop (k + 1), xs.length ≤ 1048576 from fun xs hx => BIG.out xs (by
    rcases List.mem_append.1 hx with hx | hx
    · exact List.mem_of_mem_take hx
    · exact List.mem_of_mem_drop hx))
  have BIGP := hid (show ∀ xs ∈ xss.set k (t.take hq), xs.length ≤ 1048576 from fun xs hx => by
    rcases List.mem_or_eq_of_mem_set hx with hx | rfl
    · exact BIG.out xs hx
    · rw [List.length_take]; omega)
  have OK1 := hid (less_ok HOK.out k)
  have OK2 := hid (part_ok HOK.out hxt.out hq)
  have S10 := hid s10
  clear o8 o10 o10' g8 g10 s10 PT0
  go_wp2_with fail
  refine wp_region_held_drew (S := (fun w' => w'.cell? (ad.add k) = some (.slice At nt ct) ∧ (w'.cell? ⟨R, k, none⟩).isSome = true ∧ w'.frozen? ⟨R, k, none⟩ = false)) (by kernel_rfl) ?_ (fun hH0 => ?_)
  · exact ⟨hct, c9s, f9⟩
  refine wpAnyH_take (i := 0) (oi := ⟨some 81, _, _, _, _, _⟩) (v := ?_) rfl (by kernel_rfl) (by kernel_rfl) (by kernel_rfl) (fun _ _ _ h => h) (Or.inl ⟨by rfl, ?_⟩) (by assumption) ?_
  rotate_left
  · (intro w hSw; (try dsimp only at hSw); go_simp; (try with_reducible rfl))
  (try simp only [Act.put, List.setIfInBounds_toArray, List.set_cons_zero, List.set_cons_succ])
  refine wpAnyH_take (i := 1) (oi := ⟨some 82, _, _, _, _, _⟩) (v := ?_) rfl (by kernel_rfl) (by kernel_rfl) (by kernel_rfl) (fun _ _ _ h => h) (Or.inl ⟨by rfl, ?_⟩) (by assumption) ?_
  rotate_left
  · (intro w hSw; (try dsimp only at hSw); go_simp; (try with_reducible rfl))
  (try simp only [Act.put, List.setIfInBounds_toArray, List.set_cons_zero, List.set_cons_succ])
  refine wpAnyH_take (i := 2) (oi := ⟨some 83, _, _, _, _, _⟩) (v := ?_) rfl (by kernel_rfl) (by kernel_rfl) (by kernel_rfl) (fun _ _ _ h => h) (Or.inl ⟨by rfl, ?_⟩) (by assumption) ?_
  rotate_left
  · (intro w hSw; (try dsimp only at hSw); go_simp; (try with_reducible rfl))
  (try simp only [Act.put, List.setIfInBounds_toArray, List.set_cons_zero, List.set_cons_succ])
  refine wpAnyH_take (i := 3) (oi := ⟨some 84, _, _, _, _, _⟩) (v := ?_) rfl (by kernel_rfl) (by kernel_rfl) (by kernel_rfl) (fun _ _ _ h => h) (Or.inl ⟨by rfl, ?_⟩) (by assumption) ?_
  rotate_left
  · (intro w hSw; (try dsimp only at hSw); go_simp; (try with_reducible rfl))
  (try simp only [Act.put, List.setIfInBounds_toArray, List.set_cons_zero, List.set_cons_succ])
  refine wpAnyH_take (i := 4) (oi := ⟨some 85, _, _, _, _, _⟩) (v := ?_) rfl (by kernel_rfl) (by kernel_rfl) (by kernel_rfl) (fun _ _ _ h => h) (Or.inl ⟨by rfl, ?_⟩) (by assumption) ?_
  rotate_left
  · (intro w hSw; (try dsimp only at hSw); go_simp; (try with_reducible rfl))
  (try simp only [Act.put, List.setIfInBounds_toArray, List.set_cons_zero, List.set_cons_succ])
  refine wpAnyH_take (i := 5) (oi := ⟨some 86, _, _, _, _, _⟩) (v := ?_) rfl (by kernel_rfl) (by kernel_rfl) (by kernel_rfl) (fun _ _ _ h => h) (Or.inl ⟨by rfl, ?_⟩) (by assumption) ?_
  rotate_left
  · (intro w hSw; (try dsimp only at hSw); go_simp; (try with_reducible rfl))
  (try simp only [Act.put, List.setIfInBounds_toArray, List.set_cons_zero, List.set_cons_succ])
  refine wpAnyH_take (i := 6) (oi := ⟨some 87, _, _, _, _, _⟩) (v := ?_) rfl (by kernel_rfl) (by kernel_rfl) (by kernel_rfl) (fun _ _ _ h => h) (Or.inl ⟨by rfl, ?_⟩) (by assumption) ?_
  rotate_left
  · (intro w hSw; (try dsimp only at hSw); go_simp; (try with_reducible rfl))
  (try simp only [Act.put, List.setIfInBounds_toArray, List.set_cons_zero, List.set_cons_succ])
  refine wpAnyH_take (i := 7) (oi := ⟨some 88, _, _, _, _, _⟩) (v := ?_) rfl (by kernel_rfl) (by kernel_rfl) (by kernel_rfl) (fun _ _ _ h => h) (Or.inl ⟨by rfl, ?_⟩) (by assumption) ?_
  rotate_left
  · (intro w hSw; (try dsimp only at hSw); go_simp; (try with_reducible rfl))
  (try simp only [Act.put, List.setIfInBounds_toArray, List.set_cons_zero, List.set_cons_succ])
  refine wpAnyH_take (i := 8) (oi := ⟨some 89, _, _, _, _, _⟩) (v := ?_) rfl (by kernel_rfl) (by kernel_rfl) (by kernel_rfl) (fun _ _ _ h => h) (Or.inl ⟨by rfl, ?_⟩) (by assumption) ?_
  rotate_left
  · (intro w hSw; (try dsimp only at hSw); go_simp; (try with_reducible rfl))
  (try simp only [Act.put, List.setIfInBounds_toArray, List.set_cons_zero, List.set_cons_succ])
  refine wpAnyH_take (i := 9) (oi := ⟨some 90, _, _, _, _, _⟩) (v := ?_) rfl (by kernel_rfl) (by kernel_rfl) (by kernel_rfl) (fun _ _ _ h => h) (Or.inl ⟨by rfl, ?_⟩) (by assumption) ?_
  rotate_left
  · (intro w hSw; (try dsimp only at hSw); go_simp; (try with_reducible rfl))
  (try simp only [Act.put, List.setIfInBounds_toArray, List.set_cons_zero, List.set_cons_succ])
  refine wpAnyH_take (i := 10) (oi := ⟨some 91, _, _, _, _, _⟩) (v := ?_) rfl (by kernel_rfl) (by kernel_rfl) (by kernel_rfl) (fun _ _ _ h => h) (Or.inl ⟨by rfl, ?_⟩) (by assumption) ?_
  rotate_left
  · (intro w hSw; (try dsimp only at hSw); go_simp; (try with_reducible rfl))
  (try simp only [Act.put, List.setIfInBounds_toArray, List.set_cons_zero, List.set_cons_succ])
  refine wpAnyH_take (i := 11) (oi := ⟨some 92, _, _, _, _, _⟩) (v := ?_) rfl (by kernel_rfl) (by kernel_rfl) (by kernel_rfl) (fun _ _ _ h => h) (Or.inl ⟨by rfl, ?_⟩) (by assumption) ?_
  rotate_left
  · (intro w hSw; (try dsimp only at hSw); go_simp; (try with_reducible rfl))
  (try simp only [Act.put, List.setIfInBounds_toArray, List.set_cons_zero, List.set_cons_succ])
  refine wpAnyH_take (i := 12) (oi := ⟨some 93, _, _, _, _, _⟩) (v := ?_) rfl (by kernel_rfl) (by kernel_rfl) (by kernel_rfl) (fun _ _ _ h => h) (Or.inl ⟨by rfl, ?_⟩) (by assumption) ?_
  rotate_left
  · (intro w hSw; (try dsimp only at hSw); go_simp; (try with_reducible rfl))
  (try simp only [Act.put, List.setIfInBounds_toArray, List.set_cons_zero, List.set_cons_succ])
  refine wpAnyH_take (i := 13) (oi := ⟨some 94, _, _, _, _, _⟩) (v := ?_) rfl (by kernel_rfl) (by kernel_rfl) (by kernel_rfl) (fun _ _ _ h => h) (Or.inl ⟨by rfl, ?_⟩) (by assumption) ?_
  rotate_left
  · (intro w hSw; (try dsimp only at hSw); go_simp; (try with_reducible rfl))
  (try simp only [Act.put, List.setIfInBounds_toArray, List.set_cons_zero, List.set_cons_succ])
  refine wpAnyH_ready (rs := [14]) (by kernel_rfl) (by simp) ?_
  refine AllReadyH.cons (o := ⟨none, _, _, _, _, _⟩) rfl (fun K hK => ?_) AllReadyH.nil
  obtain ⟨u, hu⟩ := Option.isSome_iff_exists.1 hH0.2.1; go_simp
  (first | (refine hK.out _ _ ?_ (fun hH1 => ?_)) | (go_wp2_with fail; refine hK.out _ _ ?_ (fun hH1 => ?_)))
  · exact ⟨k1, k2, k3⟩
  clear hK K hH0
  (try simp only [Act.put, List.setIfInBounds_toArray, List.set_cons_zero, List.set_cons_succ])
  refine wpAnyH_done (by kernel_rfl) ?_ _
  clear hH1
  generalize (w8.setCell ⟨R, k, none⟩ (.slice At hq ct)).drew = w10 at *
  replace S := hid (S.out.st S10.out)
  replace LS := hid (LS.out.st S10.out)
  go_wp2_with fail
  refine (TraceOrder_any _ _ _ _ _ LS.out (by omega) BIGL.out).mono ?_
  rintro e w11 ⟨A11, n11, c11, rfl, o11, s11⟩
  rw [OK1.out]
  replace S := hid (S.out.st s11)
  replace PT := hid (PT.out.st s11)
  clear o11 s11
  go_wp2_with fail
  refine (TraceOrder_any _ _ _ _ _ PT.out (by omega) BIGP.out).mono ?_
  rintro e w12 ⟨A12, n12, c12, rfl, o12, s12⟩
  rw [OK2.out]
  replace S := hid (S.out.st s12)
  clear o12 s12
  go_wp2_with fail
  go_ret
  exact ⟨rfl, S.out⟩
end Go.Proofs.Ytfdgbbapbpflcaa
