/- Rounds as the argument of an exact law: size, copy, marks. -/
import Derived.Test.YtldclkjknhjbfaaRd2
import Derived.Test.YtldclkjknhjbfaaRes
namespace Go.Proofs.Ytldclkjknhjbfaa
open Go.RowKit Go.Sort
theorem stampInfo : (Try.prog.info? 45).map (fun i => (i.zero, i.size, i.bytes)) = some (some (.agg #[.int .i64 0, .int .i64 0]), 2, 16) := by kernel_rfl
theorem toStamp_any (t g : Int) (w : World) : Calls Try.prog 46 #[.agg #[.int .i64 t, .int .i64 g]] w fun e w' => e = .returned (.agg #[.int .i64 t, .int .i64 g]) ∧ St w w' := by
  have s1 := hid ((((St.refl w).alloc (.cells #[.int .i64 t, .int .i64 g] 59)).alloc (.cells #[.int .i64 t, .int .i64 g] 45)).alloc (.cells #[.int .i64 t, .int .i64 g] 45))
  go_enter Try.func46, Try.ntmps46
  go_wp2_with fail
  refine bodyPost_ret (v := .agg #[.int .i64 t, .int .i64 g]) (by simp [results, Try.results46, go_sem]) rfl ⟨rfl, s1.out⟩
theorem szStampS_any (A : Option Addr) (n c : Nat) (left : Int) (w : World) (hl : 0 ≤ left) (hl' : left ≤ 1048576) (hn : n ≤ 9223372036854775807) :
    Calls Try.prog 56 #[.slice A n c, .int .i64 left] w fun e w' => e = .returned (.int .i64 (szM left n)) ∧ w = w' := by
  by_cases h : left < n
  · have hm := hid (show szM left n = -1 from if_pos h)
    have h' : left - n < 0 := by omega
    go_enter Try.func56, Try.ntmps56
    go_wp2
    go_ret
    exact ⟨ret_int hm.out.symm, rfl⟩
  · have hm := hid (show szM left n = left - n from if_neg h)
    have h' : ¬ left - n < 0 := by omega
    go_enter Try.func56, Try.ntmps56
    go_wp2
    go_ret
    exact ⟨ret_int hm.out.symm, rfl⟩
theorem made_stamps (n : Nat) : (madeCells #[.int .i64 0, .int .i64 0] (n * 2)).toList = stampCells (List.replicate n (0, 0)) := by
  apply List.ext_getElem?
  intro j
  by_cases hj : j < n * 2
  · obtain ⟨h1, h2⟩ := stampCells_at (List.replicate n (0, 0)) (j / 2) 0 0 (by rw [List.getElem?_replicate, if_pos (by omega)])
    rcases Nat.mod_two_eq_zero_or_one j with h | h
    · have e : j / 2 * 2 = j := by omega
      rw [e] at h1
      rw [h1]
      simp [madeCells, hj, h]
    · have e : j / 2 * 2 + 1 = j := by omega
      rw [e] at h2
      rw [h2]
      simp [madeCells, hj, h]
  · have l1 : (madeCells #[Value.int .i64 0, .int .i64 0] (n * 2)).toList.length = n * 2 := by simp [madeCells]
    have l2 : (stampCells (List.replicate n (0, 0))).length = n * 2 := by rw [stampCells_len, List.length_replicate]
    rw [List.getElem?_eq_none (by omega), List.getElem?_eq_none (by omega)]
theorem OS.st {w w' : World} {base n c : Nat} {A : Option Addr} {ss : List (Int × Int)} (h : OS w base A n c ss) (s : St w w') : OS w' base A n c ss := ⟨h.1, own_below h.2 s⟩
theorem OS.less {w : World} {base base' n c : Nat} {A : Option Addr} {ss : List (Int × Int)} (h : OS w base A n c ss) (hb : base' ≤ base) : OS w base' A n c ss := ⟨h.1, OI_less_row h.2 hb⟩
theorem OS.grown {w w' : World} {base n c : Nat} {A : Option Addr} {ss : List (Int × Int)} {row : Option Nat} (h : OS w base A n c ss) (hg : w.grownBy w' row) (hr : ∀ k, row = some k → blockOf A ≠ some k) : OS w' base A n c ss := by
  refine ⟨h.1, World.ownsRow.kept h.2 hg ?_⟩
  rw [ownBlock_slice]
  cases hA : blockOf A with
  | none => exact .inl rfl
  | some g => right; intro e; exact hr g e.symm hA
theorem OS.lt {w : World} {base n c : Nat} {A : Option Addr} {ss : List (Int × Int)} (h : OS w base A n c ss) : ∀ g, blockOf A = some g → base ≤ g ∧ g < w.heap.size := fun g hg => World.ownsRow.lt h.2 g (by rw [ownBlock_slice]; exact hg)
theorem OS.turned {P : Nat → Prop} {w w' : World} {base n c : Nat} {A : Option Addr} {ss : List (Int × Int)} (h : OS w base A n c ss) (k : Turned P w w') (hP : ∀ g, P g → g < base) : OS w' base A n c ss := ⟨h.1, own_turned h.2 k hP⟩
set_option maxHeartbeats 1000000 in
theorem toStampS_any (A : Option Addr) (n c : Nat) (ss : List (Int × Int)) (w : World) (h : SS w A n c ss) (hn : n ≤ 1048576) :
    Calls Try.prog 58 #[.slice A n c] w fun e w' => ∃ A' c', e = .returned (.slice A' n c') ∧ OS w' w.heap.size A' n c' ss ∧ St w w' := by
  obtain ⟨i0, hi0, hz0, hz1, hz2⟩ := info_parts stampInfo
  have HL := hid h.len
  go_enter Try.func58, Try.ntmps58
  go_wp2_with (at_make; refine wpList_make_full _ rfl _ _ 23 rfl w.heap.size 45 i0 (.agg #[.int .i64 0, .int .i64 0]) 2 Try.underlying23 hi0 hz0 hz1 _ _ _ _ n rfl rfl rfl rfl (by rw [hz2]; omega) (by unfold maxLen; omega) (Nat.le_refl _) ?_; intro w1 hown hgrow)
  have hbel : St w w1 := (Below.refl w.heap.size w).grown hgrow (Nat.le_refl _) (by simp)
  have ho := hown
  rw [show Value.cells (.agg #[.int .i64 0, .int .i64 0]) = #[.int .i64 0, .int .i64 0] from rfl, made_stamps] at ho
  clear hown hgrow
  have HO : Hid (OS w1 w.heap.size (some ⟨w.heap.size, 0, none⟩) n n (ss.take 0 ++ (List.replicate n (0, 0)).drop 0)) := ⟨by simp, by simpa using ho⟩
  clear ho
  go_loopw [4] (fun t wr => ∃ i : Nat, i ≤ n ∧ t = .int .i64 i ∧ Hid (OS wr w.heap.size (some ⟨w.heap.size, 0, none⟩) n n (ss.take i ++ (List.replicate n (0, 0)).drop i)) ∧ Hid (St w wr)) (fun t _ => n - (intOf t).toNat)
  case atStart => exact ⟨0, Nat.zero_le _, rfl, HO, hbel⟩
  case round =>
    obtain ⟨i, hi, rfl, ho, hbw⟩ := hrel
    by_cases hlt : i < n
    · obtain ⟨ad, t, g, rfl, hb1, hc1, hc2, hx⟩ := (h.st hbw.out).at_ hlt
      go_wp2_with fail
      refine (toStamp_any _ _ _).mono ?_
      rintro e w2 ⟨rfl, s2⟩
      obtain ⟨b, t', g', he, hb, hbl, hx', hc0', hc1', hf0, hf1, hset⟩ := (ho.out.st s2).at_ hlt
      injection he with he
      injection he with he
      subst he
      obtain ⟨hs1, hs2⟩ := hset t g
      have hbw2 := hid ((hbw.out.trans s2).grown hs2 (fun k hk => by injection hk with hk; omega))
      clear hset s2
      go_wp2_with fail
      go_roundw
      case rel =>
        refine ⟨i + 1, by omega, by go_num, ?_, hbw2⟩
        rw [take_snoc hx.out, ← set_front rfl (by rw [List.length_take, HL.out]; omega) (by rw [List.length_replicate]; exact hlt)]; exact hs1
      case measure => simp [intOf]; omega
    · obtain rfl : i = n := by omega
      go_wp2_with fail
      go_ret
      have := ho.out
      rw [List.drop_of_length_le (by rw [List.length_replicate]; omega), List.append_nil, List.take_of_length_le (by rw [HL.out]; omega)] at this
      exact ⟨_, _, rfl, this, hbw.out⟩
/-- n stamps that can be marked. -/
def WS (P : Nat → Prop) (w : World) (A : Option Addr) (n : Nat) : Prop := ∀ k, k < n → ∃ b t g, A = some ⟨b, 0, none⟩ ∧ P b ∧ w.cell? ⟨b, k * 2, none⟩ = some (.int .i64 t) ∧ w.cell? ⟨b, k * 2 + 1, none⟩ = some (.int .i64 g) ∧ w.frozen? ⟨b, k * 2, none⟩ = false ∧ w.frozen? ⟨b, k * 2 + 1, none⟩ = false
theorem WS.kept {P : Nat → Prop} {w w' : World} {A : Option Addr} {n : Nat} (h : WS P w A n) (k : Kept P w w') : WS P w' A n := by
  intro j hj
  obtain ⟨b, t, g, h1, h2, h3, h4, h5, h6⟩ := h j hj
  obtain ⟨u, h7, h8⟩ := k.ck _ _ h3
  obtain ⟨y, rfl⟩ := kind_int h8
  obtain ⟨v, h9, h10⟩ := k.ck _ _ h4
  obtain ⟨z, rfl⟩ := kind_int h10
  exact ⟨b, y, z, h1, h2, h7, h9, (k.fz _ _ h3).trans h5, (k.fz _ _ h4).trans h6⟩
theorem OS.ws {P : Nat → Prop} {w : World} {base n c : Nat} {A : Option Addr} {ss : List (Int × Int)} (h : OS w base A n c ss) (hP : ∀ g, base ≤ g → g < w.heap.size → P g) : WS P w A n := by
  intro j hj
  obtain ⟨b, t, g, h1, h2, h3, _, h4, h5, h6, h7, _⟩ := h.at_ hj
  exact ⟨b, t, g, h1, hP b h2 h3, h4, h5, h6, h7⟩
set_option maxHeartbeats 1000000 in
theorem markStampS_w (P : Nat → Prop) (A : Option Addr) (n c : Nat) (k : Int) (w : World) (h : WS P w A n) (hn : n ≤ 1048576) (hk : 0 ≤ k) (hk' : k ≤ 4611686018427387904) :
    Calls Try.prog 53 #[.slice A n c, .int .i64 k] w fun e w' => e = .returned (.int .i64 (k + 2 * n)) ∧ Kept P w w' := by
  go_enter Try.func53, Try.ntmps53
  go_wp2_with fail
  go_loopw [1, 5] (fun s t wr => ∃ i : Nat, i ≤ n ∧ t = .int .i64 i ∧ s = .int .i64 (k + 2 * i) ∧ Hid (Kept P w wr)) (fun _ t _ => n - (intOf t).toNat)
  case atStart => exact ⟨0, Nat.zero_le _, rfl, by simp, Kept.refl _⟩
  case round =>
    obtain ⟨i, hi, rfl, rfl, hg⟩ := hrel
    by_cases hlt : i < n
    · obtain ⟨b, t, g, rfl, hP, hc0, hc1, hf0, hf1⟩ := (h.kept hg.out) i hlt
      have k1 := Kept.set wr b (i * 2) (.int .i64 (k + 2 * i)) hc0 (.inl ⟨_, _, _, rfl, rfl⟩) hP
      obtain ⟨b', t', g', he, hP', hc0', hc1', hf0', hf1'⟩ := (h.kept (hg.out.trans k1)) i hlt
      injection he with he
      injection he with he
      subst he
      have k2 := hid ((hg.out.trans k1).trans (Kept.set _ b (i * 2 + 1) (.int .i64 (k + 2 * i + 1)) hc1' (.inl ⟨_, _, _, rfl, rfl⟩) hP))
      clear k1
      go_wp2_with fail
      go_roundw
      case rel => exact ⟨i + 1, by omega, by go_num, by go_num, k2⟩
      case measure => simp [intOf]; omega
    · obtain rfl : i = n := by omega
      go_wp2_with fail
      go_ret
      exact ⟨rfl, hg.out⟩
set_option maxHeartbeats 2000000 in
theorem toRound_any (M : Int) (A B : Option Addr) (n c m d : Nat) (xs : List Int) (ss : List (Int × Int)) (w : World) (h : SL w A n c xs) (h' : SS w B m d ss) (hn : n ≤ 1048576) (hm : m ≤ 1048576) :
    Calls Try.prog 26 #[rdV M A n c B m d] w fun e w' => ∃ A' c' B' d', e = .returned (rdV M A' n c' B' m d') ∧ OI w' w.heap.size 3 A' n c' xs ∧ OS w' w.heap.size B' m d' ss ∧ St w w' := by
  have s0 := ((St.refl w).alloc (.cells #[.int .i64 M, .slice A n c, .slice B m d] 36)).alloc (.cells #[.int .i64 0, .slice none 0 0, .slice none 0 0] 25) |>.alloc (.cells #[.int .i64 M, .slice none 0 0, .slice none 0 0] 25)
  have b1 := Blk.new w 36 #[.int .i64 M, .slice A n c, .slice B m d]
  have b2 := Blk.new (w.alloc (.cells #[.int .i64 M, .slice A n c, .slice B m d] 36)) 25 #[.int .i64 0, .slice none 0 0, .slice none 0 0]
  have b3 := Blk.new ((w.alloc (.cells #[.int .i64 M, .slice A n c, .slice B m d] 36)).alloc (.cells #[.int .i64 0, .slice none 0 0, .slice none 0 0] 25)) 25 #[.int .i64 M, .slice none 0 0, .slice none 0 0]
  have e1 : (w.alloc (.cells #[.int .i64 M, .slice A n c, .slice B m d] 36)).heap.size = w.heap.size + 1 := by simp
  have e2 : ((w.alloc (.cells #[.int .i64 M, .slice A n c, .slice B m d] 36)).alloc (.cells #[.int .i64 0, .slice none 0 0, .slice none 0 0] 25)).heap.size = w.heap.size + 1 + 1 := by simp
  rw [e1] at b2
  rw [e2] at b3
  have HB1 := hid ((b1.alloc (.cells #[.int .i64 0, .slice none 0 0, .slice none 0 0] 25)).alloc (.cells #[.int .i64 M, .slice none 0 0, .slice none 0 0] 25))
  have HB2 := hid (b2.alloc (.cells #[.int .i64 M, .slice none 0 0, .slice none 0 0] 25))
  have HB3 := hid b3
  have HS := hid s0
  have HE := hid (show (((w.alloc (.cells #[.int .i64 M, .slice A n c, .slice B m d] 36)).alloc (.cells #[.int .i64 0, .slice none 0 0, .slice none 0 0] 25)).alloc (.cells #[.int .i64 M, .slice none 0 0, .slice none 0 0] 25)).heap.size = w.heap.size + 3 by simp)
  have h1 := h.st s0
  clear b1 b2 b3 e1 e2 s0
  go_enter Try.func26, Try.ntmps26
  go_wp2_with fail
  generalize ((w.alloc (.cells #[.int .i64 M, .slice A n c, .slice B m d] 36)).alloc (.cells #[.int .i64 0, .slice none 0 0, .slice none 0 0] 25)).alloc (.cells #[.int .i64 M, .slice none 0 0, .slice none 0 0] 25) = W at HB1 HB2 HB3 HS HE h1 ⊢
  refine (toIntS_any _ _ _ _ _ _ h1.ri hn (Nat.le_refl _)).mono ?_
  rintro e w1 ⟨rfl, o1, b1, _⟩
  have s1 : St W w1 := b1
  have c1 := HB1.out.below s1 HB1.out.lt
  have c2 := HB2.out.below s1 HB2.out.lt
  have c3 := HB3.out.below s1 HB3.out.lt
  have st1 := hid (HS.out.trans s1)
  have z := HE.out
  have le1 := s1.le
  clear HB1 HB2 HB3 h1 HS HE s1
  have hf := c3.frozen 1
  have hc := c3.cell_ (i := 1) (v := .slice none 0 0) rfl
  have hc1 := c1.cell_ (i := 2) (v := .slice B m d) rfl
  have D1 := hid (c1.far (p := ⟨w.heap.size + 1 + 1, 1, none⟩) (by simp; omega) (.slice (some ⟨W.heap.size, 0, none⟩) n n))
  have D2 := hid (c2.far (p := ⟨w.heap.size + 1 + 1, 1, none⟩) (by simp) (.slice (some ⟨W.heap.size, 0, none⟩) n n))
  have D3 := hid (c3.set_ 1 (.slice (some ⟨W.heap.size, 0, none⟩) n n))
  have hd1 := D1.out.cell_ (i := 2) (v := .slice B m d) rfl
  have S1 := hid (st1.out.setCell (p := ⟨w.heap.size + 1 + 1, 1, none⟩) (by simp; omega) (.slice (some ⟨W.heap.size, 0, none⟩) n n))
  have hne : ∀ q, q < W.heap.size → ∀ g, some q = some g → blockOf (some ⟨W.heap.size, 0, none⟩) ≠ some g := fun q hq g hg hA => by injection hg with hg; have := (o1.lt g hA).1; omega
  have O1 := hid (o1.grown (World.grownBy_set w1 (w.heap.size + 1 + 1) 1 (.slice (some ⟨W.heap.size, 0, none⟩) n n)) (hne _ (by omega)))
  have LE1 := hid (show W.heap.size ≤ (w1.setCell ⟨w.heap.size + 1 + 1, 1, none⟩ (.slice (some ⟨W.heap.size, 0, none⟩) n n)).heap.size by simp [World.setCell]; omega)
  have HNE := hid hne
  have HZ := hid z
  clear c1 c2 c3 z o1 hne st1 le1
  go_wp2_with fail
  generalize w1.setCell ⟨w.heap.size + 1 + 1, 1, none⟩ (.slice (some ⟨W.heap.size, 0, none⟩) n n) = W2 at D1 D2 D3 hd1 S1 O1 LE1 ⊢
  have h2 := h'.st S1.out
  refine (toStampS_any _ _ _ _ _ h2 hm).mono ?_
  rintro e w3 ⟨B3, d3, rfl, o3, s3⟩
  have s3 : St W2 w3 := s3
  have z := HZ.out
  have le2 := LE1.out
  have c2 := D2.out.below s3 D2.out.lt
  have c3 := D3.out.below s3 D3.out.lt
  have O3 := O1.out.below s3 (fun g hg => (O1.out.lt g hg).2)
  have S3 := S1.out.trans s3
  have hf3 := c3.frozen 2
  have hc3 := c3.cell_ (i := 2) (v := .slice none 0 0) rfl
  have hm0 := c3.cell_ (i := 0) (v := .int .i64 M) rfl
  have hm1 := c3.cell_ (i := 1) (v := .slice (some ⟨W.heap.size, 0, none⟩) n n) rfl
  have hz0 := c2.cell_ (i := 0) (v := .int .i64 0) rfl
  have hzf0 := c2.frozen 0
  have hz1 := c2.cell_ (i := 1) (v := .slice none 0 0) rfl
  have hzf1 := c2.frozen 1
  have hz2 := c2.cell_ (i := 2) (v := .slice none 0 0) rfl
  have hzf2 := c2.frozen 2
  have e2 := c2.far (p := ⟨w.heap.size + 1 + 1, 2, none⟩) (by simp) (.slice B3 m d3)
  have e3 := c3.set_ 2 (.slice B3 m d3)
  have he0 := e3.cell_ (i := 0) (v := .int .i64 M) rfl
  have he1 := e3.cell_ (i := 1) (v := .slice (some ⟨W.heap.size, 0, none⟩) n n) rfl
  have he2 := e3.cell_ (i := 2) (v := .slice B3 m d3) rfl
  have hg0 := e2.frozen 0
  have hg1 := e2.frozen 1
  have hg2 := e2.frozen 2
  have f2 := (((e2.set_ 0 (.int .i64 M)).set_ 1 (.slice (some ⟨W.heap.size, 0, none⟩) n n)).set_ 2 (.slice B3 m d3))
  have f0_ := f2.cell_ (i := 0) (v := .int .i64 M) rfl
  have f1_ := f2.cell_ (i := 1) (v := .slice (some ⟨W.heap.size, 0, none⟩) n n) rfl
  have f2_ := f2.cell_ (i := 2) (v := .slice B3 m d3) rfl
  have S4 := hid ((((S3.setCell (p := ⟨w.heap.size + 1 + 1, 2, none⟩) (by simp; omega) (.slice B3 m d3)).setCell (p := ⟨w.heap.size + 1, 0, none⟩) (by simp) (.int .i64 M)).setCell (p := ⟨w.heap.size + 1, 1, none⟩) (by simp) (.slice (some ⟨W.heap.size, 0, none⟩) n n)).setCell (p := ⟨w.heap.size + 1, 2, none⟩) (by simp) (.slice B3 m d3))
  have O4 := hid (((((O3.grown (World.grownBy_set w3 (w.heap.size + 1 + 1) 2 (.slice B3 m d3)) (HNE.out _ (by omega))).grown (World.grownBy_set _ (w.heap.size + 1) 0 (.int .i64 M)) (HNE.out _ (by omega))).grown (World.grownBy_set _ (w.heap.size + 1) 1 (.slice (some ⟨W.heap.size, 0, none⟩) n n)) (HNE.out _ (by omega))).grown (World.grownBy_set _ (w.heap.size + 1) 2 (.slice B3 m d3)) (HNE.out _ (by omega))).less (show w.heap.size ≤ W.heap.size by omega))
  have P4 := hid (((((o3.grown (World.grownBy_set w3 (w.heap.size + 1 + 1) 2 (.slice B3 m d3)) (fun g hg hA => by injection hg with hg; have := (o3.lt g hA).1; omega)).grown (World.grownBy_set _ (w.heap.size + 1) 0 (.int .i64 M)) (fun g hg hA => by injection hg with hg; have := (o3.lt g hA).1; omega)).grown (World.grownBy_set _ (w.heap.size + 1) 1 (.slice (some ⟨W.heap.size, 0, none⟩) n n)) (fun g hg hA => by injection hg with hg; have := (o3.lt g hA).1; omega)).grown (World.grownBy_set _ (w.heap.size + 1) 2 (.slice B3 m d3)) (fun g hg hA => by injection hg with hg; have := (o3.lt g hA).1; omega)).less (show w.heap.size ≤ W2.heap.size by omega))
  clear c2 c3 e2 e3 f2 z O3 S3 s3 o3 hd1 le2
  go_wp2_with fail
  refine bodyPost_ret (v := rdV M (some ⟨W.heap.size, 0, none⟩) n n B3 m d3) (by simp [results, Try.results26, go_sem, f0_, f1_, f2_]) rfl ?_
  exact ⟨_, _, _, _, rfl, O4.out, P4.out, S4.out⟩
end Go.Proofs.Ytldclkjknhjbfaa
