/- Both CreditsNew; eqCredits; marks of new credits. -/
import Derived.Test.YtggjfbakekfdhaaCr1
namespace Go.Proofs.Ytggjfbakekfdhaa
open Go.RowKit

/-- append of one element of a struct type to a row of the call's own. -/
theorem wpList_append_el {P : Program} {ops : Array Oper} {rest : List Oper} {o : Oper} {a : Act} {Q : Exit → Act → World → Prop} (W : World) (hgd : o.guard = none) (s x : Operand) (t : TypeId)
    (ho : o.op = .call { callee := .builtin .append, args := #[s, x], argTypes := #[t, t] })
    (base : Nat) (e : TypeId) (z : Value) (size bytes : Nat) (ht : P.underlying t = some (.slice e)) (hI : (P.info? e).map (fun i => (i.zero, i.size, i.bytes)) = some (some z, size, bytes)) (hzs : z.cells.size = size) (hsz : 0 < size) (hbs : bytes ≤ 64)
    (A : Option Addr) (m c : Nat) (ys : List Value) (els : List Value) (hel : els.length = size) (h1 : ∀ u ∈ els, u.oneCell' = true) (hs : a.eval s = .slice A m c) (hown : W.ownsRow base e size (.slice A m c) m ys)
    (H : Nat) (hH : W.heap.size = H) (hx : a.eval x = .slice (some ⟨H, 0, none⟩) 1 1) (hm : m + 1 ≤ 1099511627776) (hbase : base ≤ W.heap.size)
    (h : ∀ A' c' w', w'.ownsRow base e size (.slice A' (m + 1) c') (m + 1) (ys ++ els) → W.grownBy w' (blockOf A) → wpList P ops Q rest (a.put o.dst (.slice A' (m + 1) c')) w') :
    wpList P ops Q (o :: rest) a (W.alloc (.cells els.toArray e)) := by
  subst hH
  obtain ⟨i0, hi0, hz0, hz1, hz2⟩ := info_parts hI
  have hbb : (m + 1) * bytes ≤ 140737488355328 := Nat.le_trans (Nat.mul_le_mul (Nat.le_refl (m + 1)) hbs) (by omega)
  refine wpList_append_own (W.alloc (.cells els.toArray e)) hgd s x t ho base e i0 z size bytes ht hi0 hz0 hz1 hz2 hzs hsz _ _ _ hs (World.ownsRow.alloc hown _) ⟨W.heap.size, 0, none⟩ 1 1 els hx (by simpa using hel) ?_ h1 (by unfold maxLen; omega) hbb (by simp; omega) ?_
  · intro j u hj
    have hb := Blk.new W e els.toArray
    have := hb.cell_ (i := j) (v := u) (by simpa using hj)
    unfold Addr.add
    split
    · rename_i h0; subst h0; exact this
    · simpa using this
  · intro v' w' h2 h3 _
    rw [ownBlock_slice] at h3
    have h5 : W.grownBy (W.alloc (.cells els.toArray e)) (blockOf A) := World.grownBy_alloc _ _ _
    have hv : ∃ A' c', v' = .slice A' (m + 1) c' := by
      rcases h2.2 with ⟨_, h0⟩ | ⟨g, cap, cur, hv, _⟩
      · omega
      · exact ⟨_, _, hv⟩
    obtain ⟨A', c', rfl⟩ := hv
    exact h A' c' w' h2 (grown_trans' h5 h3)

theorem hold_one (A : Option Addr) (n c : Nat) (t : Int) : ∀ u ∈ [Value.slice A n c, .int .i64 t], u.oneCell' = true := by
  intro u hu
  simp only [List.mem_cons, List.not_mem_nil, or_false] at hu
  rcases hu with rfl | rfl <;> rfl
theorem holdInfo : (Try.prog.info? 38).map (fun i => (i.zero, i.size, i.bytes)) = some (some (.agg #[.slice none 0 0, .int .i64 0]), 2, 32) := by kernel_rfl
/-- The cells of holds whose first parts read as nothing. -/
def holdCells (hs : List (Value × Int)) : List Value := hs.flatMap fun h => [h.1, .int .i64 h.2]
theorem holdCells_len (hs : List (Value × Int)) : (holdCells hs).length = hs.length * 2 := by
  induction hs with
  | nil => rfl
  | cons h t ih => simp [holdCells] at ih ⊢; omega
theorem holdCells_snoc (hs : List (Value × Int)) (v : Value) (t : Int) : holdCells (hs ++ [(v, t)]) = holdCells hs ++ [v, .int .i64 t] := by simp [holdCells]
theorem holdCells_at : ∀ (hs : List (Value × Int)) (k : Nat) (v : Value) (t : Int), hs[k]? = some (v, t) → (holdCells hs)[k * 2]? = some v ∧ (holdCells hs)[k * 2 + 1]? = some (.int .i64 t)
  | [], k, _, _, h => by simp at h
  | h :: r, 0, v, t, hk => by
    simp at hk; subst hk
    simp [holdCells]
  | h :: r, k + 1, v, t, hk => by
    simp at hk
    have := holdCells_at r k v t hk
    have e1 : (k + 1) * 2 = k * 2 + 2 := by omega
    have e2 : (k + 1) * 2 + 1 = k * 2 + 1 + 2 := by omega
    rw [e2, e1]
    have hc : holdCells (h :: r) = h.1 :: .int .i64 h.2 :: holdCells r := rfl
    rw [hc]
    simpa using this
theorem holdCells_set (v : Value) (u : Int) : ∀ (ts : List Int) (k : Nat), (holdCells (ts.map fun t => (v, t))).set (k * 2 + 1) (.int .i64 u) = holdCells ((ts.set k u).map fun t => (v, t))
  | [], k => by simp [holdCells]
  | t :: r, 0 => by simp [holdCells]
  | t :: r, k + 1 => by
    have e : (k + 1) * 2 + 1 = (k * 2 + 1) + 2 := by omega
    have hc : ∀ (t : Int) (r : List Int), holdCells ((t :: r).map fun t => (v, t)) = v :: .int .i64 t :: holdCells (r.map fun t => (v, t)) := fun _ _ => rfl
    rw [e, List.set_cons_succ, hc, hc]
    rw [← holdCells_set v u r k]
    rfl
/-- Holds of nothing, in a row of the call's own. -/
def OH (w : World) (base : Nat) (A : Option Addr) (n c : Nat) (ts : List Int) : Prop := ts.length = n ∧ w.ownsRow base 38 2 (.slice A n c) n (holdCells (ts.map fun t => (.slice none 0 0, t)))
theorem OH.sh {w : World} {base n c : Nat} {A : Option Addr} {ts : List Int} (h : OH w base A n c ts) : SH w A n c (ts.map fun t => ([], t)) := by
  refine ⟨by simpa using h.1, (own_cap' h.2).1, (own_cap' h.2).2, fun hn => ?_⟩
  obtain ⟨ad, h4, h5, h6⟩ := (Reads.of_own h.2).2 hn
  refine ⟨ad, h4, h5, fun k hk => ?_⟩
  have hk' : k < ts.length := by rw [h.1]; exact hk
  obtain ⟨h7, h8⟩ := holdCells_at (ts.map fun t => (.slice none 0 0, t)) k (.slice none 0 0) ts[k] (by simp [hk'])
  exact ⟨none, 0, 0, [], ts[k], h6 _ _ h7, h6 _ _ h8, by simp [hk'], SL.none_⟩

/-- How CreditsNew ends. -/
def NewEnd (free : List Int) (senders : Int) (w : World) (e : Ending) (w' : World) : Prop :=
  St w w' ∧ ((freeOk free && inB senders 1 6) = false ∧ e = .returned (.tuple #[crV none 0 0 none 0 0, .bool false]) ∨
    (freeOk free && inB senders 1 6) = true ∧ ∃ A c A' n' c', e = .returned (.tuple #[crV A 5 c A' n' c', .bool true]) ∧ (n' : Int) = senders ∧ OI w' w.heap.size 3 A 5 c free ∧ OH w' w.heap.size A' n' c' (List.replicate n' (-1)))
set_option maxHeartbeats 1000000 in
theorem CreditsNew_any (A : Option Addr) (n c : Nat) (xs : List Int) (s : Int) (w : World) (h : RI w w.heap.size A n xs) (hn : n ≤ 1048576) :
    Calls Try.prog 16 #[.slice A n c, .int .i64 s] w (NewEnd xs s w) := by
  have b1 := (St.refl w).alloc (.cells #[.slice none 0 0, .slice none 0 0] 25)
  have h1 := (h.below b1).more b1.le
  cases hf : freeOk xs
  · go_enter Try.func16, Try.ntmps16
    go_wp2_with fail
    refine (areFree_any _ _ _ _ _ _ h1 (by omega)).mono ?_
    rintro e w1 ⟨rfl, rfl⟩
    go_wp2_with fail
    refine bodyPost_ret (v := .tuple #[crV none 0 0 none 0 0, .bool false]) (by simp [results, Try.results16, go_sem]) rfl ⟨b1, .inl ⟨by rw [hf]; rfl, rfl⟩⟩
  by_cases hs1 : s < 1
  · have HF := hid (show (freeOk xs && inB s 1 6) = false by rw [hf]; simp [inB]; omega)
    go_enter Try.func16, Try.ntmps16
    go_wp2_with fail
    refine (areFree_any _ _ _ _ _ _ h1 (by omega)).mono ?_
    rintro e w1 ⟨rfl, rfl⟩
    go_wp2_with fail
    refine bodyPost_ret (v := .tuple #[crV none 0 0 none 0 0, .bool false]) (by simp [results, Try.results16, go_sem]) rfl ⟨b1, .inl ⟨HF.out, rfl⟩⟩
  by_cases hs6 : 6 < s
  · have HF := hid (show (freeOk xs && inB s 1 6) = false by rw [hf]; simp [inB]; omega)
    go_enter Try.func16, Try.ntmps16
    go_wp2_with fail
    refine (areFree_any _ _ _ _ _ _ h1 (by omega)).mono ?_
    rintro e w1 ⟨rfl, rfl⟩
    go_wp2_with fail
    refine bodyPost_ret (v := .tuple #[crV none 0 0 none 0 0, .bool false]) (by simp [results, Try.results16, go_sem]) rfl ⟨b1, .inl ⟨HF.out, rfl⟩⟩
  have HF := hid (show (freeOk xs && inB s 1 6) = true by rw [hf]; simp [inB]; omega)
  have hlen : xs.length = 5 := by simp [freeOk] at hf; exact hf.1
  have HLen := hid hlen
  clear hlen
  obtain ⟨sn, rfl⟩ := Int.eq_ofNat_of_zero_le (show 0 ≤ s by omega)
  go_enter Try.func16, Try.ntmps16
  go_wp2_with fail
  refine (areFree_any _ _ _ _ _ _ h1 (by omega)).mono ?_
  rintro e w1 ⟨rfl, rfl⟩
  go_wp2_with fail
  refine (cloneInt_any _ _ _ _ _ ((h.below b1).more b1.le) hn).mono ?_
  rintro e w1 ⟨A1, c1, rfl, o1, s1⟩
  rw [HLen.out] at o1
  have bz : w.heap.size < w1.heap.size := by have := s1.le; simp at this; omega
  have r1 : Blk w1 w.heap.size 25 #[.slice none 0 0, .slice none 0 0] := (Blk.new w 25 #[.slice none 0 0, .slice none 0 0]).below s1 (by simp)
  have b2 := b1.trans s1
  clear s1
  have HR := hid (r1.alloc (.cells #[.slice A1 5 c1, .slice none 0 0] 25))
  have HC := hid (Blk.new w1 25 #[.slice A1 5 c1, .slice none 0 0])
  have HO := hid (World.ownsRow.alloc o1 (.cells #[.slice A1 5 c1, .slice none 0 0] 25))
  have HB := hid (b2.alloc (.cells #[.slice A1 5 c1, .slice none 0 0] 25))
  have HL1 := hid (fun k (hk : blockOf A1 = some k) => (o1.lt k hk))
  rw [HLen.out]
  clear o1 r1 b2
  go_wp2_with fail
  go_loopw [23] (fun i wr => ∃ (k a : Nat) (X : Option Addr), k ≤ sn ∧ i = .int .i64 k ∧ Hid (Blk wr w.heap.size 25 #[.slice none 0 0, .slice none 0 0]) ∧ Hid (Blk wr w1.heap.size 25 #[.slice A1 5 c1, .slice X k a]) ∧
    Hid (OI wr w.heap.size 3 A1 5 c1 xs) ∧ Hid (wr.ownsRow (w1.heap.size + 1) 38 2 (.slice X k a) k (holdCells (List.replicate k (.slice none 0 0, -1)))) ∧ Hid (St w wr) ∧ w1.heap.size < wr.heap.size) (fun i _ => sn - (intOf i).toNat)
  case atStart => exact ⟨0, 0, none, Nat.zero_le _, rfl, HR.out, HC.out, OI.less HO.out (by have := b1.le; simp), World.ownsRow_nil _ _ _ _, HB, by simp⟩
  case round =>
    obtain ⟨k, a, X, hk, rfl, hR, hC, hO, hW, hS, hz⟩ := hrel
    by_cases hlt : k < sn
    · have hci := hC.out.cell_ (i := 1) (v := .slice X k a) rfl
      have hcfz := hC.out.frozen 1
      have hX : ∀ g, blockOf X = some g → w1.heap.size + 1 ≤ g ∧ g < wr.heap.size := fun g hg => World.ownsRow.lt hW.out g (by rw [ownBlock_slice]; exact hg)
      have HX := hid hX
      clear hX
      go_wp2_with (at_builtin; refine wpList_append_el _ rfl _ _ 23 rfl (w1.heap.size + 1) 38 (.agg #[.slice none 0 0, .int .i64 0]) 2 32 Try.underlying23 holdInfo rfl (by decide) (by decide) X k a _ [.slice none 0 0, .int .i64 (-1)] rfl (hold_one _ _ _ _) rfl hW.out _ rfl rfl (by omega) (by omega) ?_; intro X2 a2 w3 ho3 hg3; have hne : ∀ g, blockOf X = some g → w1.heap.size < g := (fun g hg => (by have := (HX.out g hg).1; omega)); have c3 := hC.out.grown hg3 (fun e => (by have := hne _ e.symm; omega)); have c3c := c3.cell_ (i := 1) (v := .slice X k a) rfl; have c3f := c3.frozen 1)
      have r3 := hR.out.grown hg3 (fun e => by have := hne _ e.symm; omega)
      have o3 := hO.out.grown hg3 (fun g hg hA => by have := hne _ hg; have := (HL1.out g hA).2; omega)
      have s3 := St.grown hS.out hg3 (fun g hg => by have := hne _ hg; omega)
      have z3 := hg3.size
      have R4 := hid (r3.far (p := ⟨w1.heap.size, 1, none⟩) (by simp; omega) (.slice X2 (k + 1) a2))
      have C4 := hid (c3.set_ 1 (.slice X2 (k + 1) a2))
      have O4 := hid (o3.grown (World.grownBy_set w3 w1.heap.size 1 (.slice X2 (k + 1) a2)) (fun g hg hA => by injection hg with hg; have := (HL1.out g hA).2; omega))
      have W4 := hid (World.ownsRow.kept ho3 (World.grownBy_set w3 w1.heap.size 1 (.slice X2 (k + 1) a2)) (.inr (by rw [ownBlock_slice]; intro e; have := (World.ownsRow.lt ho3 _ (by rw [ownBlock_slice]; exact e)).1; omega)))
      have S4 := hid (s3.setCell (p := ⟨w1.heap.size, 1, none⟩) (by simp; omega) (.slice X2 (k + 1) a2))
      clear r3 c3 o3 s3 ho3 hg3
      go_roundw
      case rel => exact ⟨k + 1, a2, X2, by omega, by go_num, R4, C4, O4, by rw [List.replicate_succ', holdCells_snoc]; exact W4, S4, by simp [World.setCell]; omega⟩
      case measure => simp [intOf]; omega
    · obtain rfl : k = sn := by omega
      have hci := hC.out.cell_ (i := 1) (v := .slice X k a) rfl
      have hci0 := hC.out.cell_ (i := 0) (v := .slice A1 5 c1) rfl
      have hrf := hR.out.frozen 0
      have hrf1 := hR.out.frozen 1
      have hr0 := hR.out.cell_ (i := 0) (v := .slice none 0 0) rfl
      have hr1 := hR.out.cell_ (i := 1) (v := .slice none 0 0) rfl
      have f2 := (hR.out.set_ 0 (.slice A1 5 c1)).set_ 1 (.slice X k a)
      have f0 := f2.cell_ (i := 0) (v := .slice A1 5 c1) rfl
      have f1 := f2.cell_ (i := 1) (v := .slice X k a) rfl
      have hneA : ∀ g, some w.heap.size = some g → blockOf A1 ≠ some g := fun g hg hA => by injection hg with hg; have := (HL1.out g hA).1; simp at this; omega
      have hneX : (Value.slice X k a).ownBlock ≠ some w.heap.size := by rw [ownBlock_slice]; intro e; have := (World.ownsRow.lt hW.out _ (by rw [ownBlock_slice]; exact e)).1; omega
      have O5 := hid ((hO.out.grown (World.grownBy_set wr w.heap.size 0 (.slice A1 5 c1)) hneA).grown (World.grownBy_set _ w.heap.size 1 (.slice X k a)) hneA)
      have W5 := hid (World.ownsRow.kept (World.ownsRow.kept hW.out (World.grownBy_set wr w.heap.size 0 (.slice A1 5 c1)) (.inr hneX)) (World.grownBy_set _ w.heap.size 1 (.slice X k a)) (.inr hneX))
      have S5 := hid ((hS.out.setCell (p := ⟨w.heap.size, 0, none⟩) (Nat.le_refl _) (.slice A1 5 c1)).setCell (p := ⟨w.heap.size, 1, none⟩) (Nat.le_refl _) (.slice X k a))
      clear f2 hneA hneX
      go_wp2_with fail
      refine bodyPost_ret (v := .tuple #[crV A1 5 c1 X k a, .bool true]) (by simp [results, Try.results16, go_sem, f0, f1]) rfl ⟨S5.out, .inr ⟨HF.out, _, _, _, _, _, rfl, rfl, O5.out, ⟨by simp, ?_⟩⟩⟩
      have e : (List.replicate k (-1 : Int)).map (fun t => (Value.slice none 0 0, t)) = List.replicate k (.slice none 0 0, -1) := by simp
      rw [e]
      exact OI_less_row W5.out (by omega)

theorem SH_of_row {w : World} {base n c : Nat} {A : Option Addr} {hs : List (Value × Int)} (hl : hs.length = n) (hh : ∀ h ∈ hs, (∃ B, h.1 = .slice B 0 0) ∧ h.2 = -1) (h : w.ownsRow base 38 2 (.slice A n c) n (holdCells hs)) : SH w A n c (List.replicate n ([], -1)) := by
  refine ⟨by simp, (own_cap' h).1, (own_cap' h).2, fun hn => ?_⟩
  obtain ⟨ad, h4, h5, h6⟩ := (Reads.of_own h).2 hn
  refine ⟨ad, h4, h5, fun k hk => ?_⟩
  have hk' : k < hs.length := by rw [hl]; exact hk
  obtain ⟨⟨B, hB⟩, ht⟩ := hh hs[k] (List.getElem_mem hk')
  obtain ⟨h7, h8⟩ := holdCells_at hs k hs[k].1 hs[k].2 (by simp [hk'])
  rw [hB] at h7
  rw [ht] at h8
  exact ⟨B, 0, 0, [], -1, h6 _ _ h7, h6 _ _ h8, by simp [hk], ⟨⟨rfl, fun h => absurd h (by omega)⟩, Nat.le_refl _, by simp [maxLen]⟩⟩
/-- How the reference's CreditsNew ends. -/
def NewEndS (free : List Int) (senders : Int) (w : World) (e : Ending) (w' : World) : Prop :=
  St w w' ∧ ((freeOk free && inB senders 1 6) = false ∧ e = .returned (.tuple #[crV none 0 0 none 0 0, .bool false]) ∨
    (freeOk free && inB senders 1 6) = true ∧ ∃ A c A' n' c', e = .returned (.tuple #[crV A 5 c A' n' c', .bool true]) ∧ (n' : Int) = senders ∧ SL w' A 5 c free ∧ SH w' A' n' c' (List.replicate n' ([], -1)))
set_option maxHeartbeats 1000000 in
theorem specCreditsNew_any (A : Option Addr) (n c : Nat) (xs : List Int) (s : Int) (w : World) (h : RI w w.heap.size A n xs) (hn : n ≤ 1048576) :
    Calls Try.prog 14 #[.slice A n c, .int .i64 s] w (NewEndS xs s w) := by
  have b1 := (St.refl w).alloc (.cells #[.slice none 0 0, .slice none 0 0] 25)
  have h1 := (h.below b1).more b1.le
  cases hf : freeOk xs
  · go_enter Try.func14, Try.ntmps14
    go_wp2_with fail
    refine (l22Free_any _ _ _ _ _ _ h1 (by omega)).mono ?_
    rintro e w1 ⟨rfl, rfl⟩
    go_wp2_with fail
    refine bodyPost_ret (v := .tuple #[crV none 0 0 none 0 0, .bool false]) (by simp [results, Try.results14, go_sem]) rfl ⟨b1, .inl ⟨by rw [hf]; rfl, rfl⟩⟩
  cases hs : inB s 1 6
  · have HF := hid (show (freeOk xs && inB s 1 6) = false by rw [hf, hs]; rfl)
    go_enter Try.func14, Try.ntmps14
    go_wp2_with fail
    refine (l22Free_any _ _ _ _ _ _ h1 (by omega)).mono ?_
    rintro e w1 ⟨rfl, rfl⟩
    go_wp2_with fail
    refine (l6In_any _ _ _ _).mono ?_
    rintro e w1 ⟨rfl, rfl⟩
    go_wp2_with fail
    refine bodyPost_ret (v := .tuple #[crV none 0 0 none 0 0, .bool false]) (by simp [results, Try.results14, go_sem]) rfl ⟨b1, .inl ⟨HF.out, rfl⟩⟩
  have HF := hid (show (freeOk xs && inB s 1 6) = true by rw [hf, hs]; rfl)
  have hlen : xs.length = 5 := by simp [freeOk] at hf; exact hf.1
  obtain ⟨hs1, hs6⟩ := inB_iff.1 hs
  obtain ⟨sn, rfl⟩ := Int.eq_ofNat_of_zero_le (show 0 ≤ s by omega)
  have hn5 : n = 5 := by have := h.len; omega
  subst hn5
  have HLen := hid hlen
  clear hlen
  have b2 := b1.alloc (.cells #[] 3)
  have HO := hid (OI.lit (w := (w.alloc (.cells #[.slice none 0 0, .slice none 0 0] 25))) (e := 3))
  have h2 := hid ((h.below b2).more b2.le)
  have HZ := hid (show (w.alloc (.cells #[.slice none 0 0, .slice none 0 0] 25)).heap.size = w.heap.size + 1 by simp)
  go_enter Try.func14, Try.ntmps14
  go_wp2_with fail
  refine (l22Free_any _ _ _ _ _ _ h1 (by omega)).mono ?_
  rintro e w1 ⟨rfl, rfl⟩
  go_wp2_with fail
  refine (l6In_any _ _ _ _).mono ?_
  rintro e w1 ⟨rfl, rfl⟩
  rw [HZ.out] at HO
  go_wp2_with (at_builtin; refine wpList_append_src _ rfl _ _ 22 rfl (w.heap.size + 1) 3 Try.underlying22 intInfo (some ⟨w.heap.size + 1, 0, none⟩) 0 0 [] rfl HO.out _ A 5 c xs rfl h2.out (by omega) (by simp) ?_; intro A1 c1 w1 o1 hg1; simp only [Nat.zero_add, List.nil_append] at o1 ⊢)
  have hz1 := hg1.size
  simp only [World.heap_alloc_size', blockOf, Option.map_some] at hz1 hg1
  have r1 : Blk w1 w.heap.size 25 #[.slice none 0 0, .slice none 0 0] :=
    ((Blk.new w 25 #[.slice none 0 0, .slice none 0 0]).alloc (.cells #[] 3)).grown hg1 (by simp)
  have s1 : St w w1 := St.grown b2 hg1 (fun g hg => by injection hg with hg; omega)
  have HR := hid (r1.alloc (.cells #[.slice A1 5 c1, .slice none 0 0] 25))
  have HC := hid (Blk.new w1 25 #[.slice A1 5 c1, .slice none 0 0])
  have HO1 := hid (World.ownsRow.alloc o1 (.cells #[.slice A1 5 c1, .slice none 0 0] 25))
  have HB := hid (s1.alloc (.cells #[.slice A1 5 c1, .slice none 0 0] 25))
  have HL1 := hid (fun k (hk : blockOf A1 = some k) => (OI.lt o1 k hk))
  clear o1 r1 s1 hg1 b2
  go_loopw [7] (fun i wr => ∃ (k a : Nat) (X : Option Addr) (hs : List (Value × Int)), k ≤ sn ∧ i = .int .i64 k ∧ Hid (Blk wr w.heap.size 25 #[.slice none 0 0, .slice none 0 0]) ∧ Hid (Blk wr w1.heap.size 25 #[.slice A1 5 c1, .slice X k a]) ∧
    Hid (OI wr w.heap.size 3 A1 5 c1 xs) ∧ Hid (wr.ownsRow (w1.heap.size + 1) 38 2 (.slice X k a) k (holdCells hs)) ∧ Hid (hs.length = k ∧ ∀ h ∈ hs, (∃ B, h.1 = .slice B 0 0) ∧ h.2 = -1) ∧ Hid (St w wr) ∧ w1.heap.size < wr.heap.size) (fun i _ => sn - (intOf i).toNat)
  case atStart => exact ⟨0, 0, none, [], Nat.zero_le _, rfl, HR.out, HC.out, OI.less HO1.out (by omega), World.ownsRow_nil _ _ _ _, ⟨rfl, by simp⟩, HB, by simp⟩
  case round =>
    obtain ⟨k, a, X, hs, hk, rfl, hR, hC, hO, hW, hH, hS, hz⟩ := hrel
    by_cases hlt : k < sn
    · have hci := (hC.out.alloc (.cells #[] 3)).cell_ (i := 1) (v := .slice X k a) rfl
      have hci' := hC.out.cell_ (i := 1) (v := .slice X k a) rfl
      have hcfz := hC.out.frozen 1
      have hX : ∀ g, blockOf X = some g → w1.heap.size + 1 ≤ g ∧ g < wr.heap.size := fun g hg => World.ownsRow.lt hW.out g (by rw [ownBlock_slice]; exact hg)
      have HX := hid hX
      clear hX
      have hWa := hid (World.ownsRow.alloc hW.out (.cells #[] 3))
      go_wp2_with (at_builtin; refine wpList_append_el _ rfl _ _ 23 rfl (w1.heap.size + 1) 38 (.agg #[.slice none 0 0, .int .i64 0]) 2 32 Try.underlying23 holdInfo rfl (by decide) (by decide) X k a _ [.slice (some ⟨wr.heap.size, 0, none⟩) 0 0, .int .i64 (-1)] rfl (hold_one _ _ _ _) rfl hWa.out (wr.heap.size + 1) (by simp) rfl (by omega) (by simp; omega) ?_; intro X2 a2 w3 ho3 hg3; have hne : ∀ g, blockOf X = some g → w1.heap.size < g := (fun g hg => (by have := (HX.out g hg).1; omega)); have c3 := (hC.out.alloc (.cells #[] 3)).grown hg3 (fun e => (by have := hne _ e.symm; omega)); have c3c := c3.cell_ (i := 1) (v := .slice X k a) rfl; have c3f := c3.frozen 1)
      have r3 := (hR.out.alloc (.cells #[] 3)).grown hg3 (fun e => by have := hne _ e.symm; omega)
      have o3 := OI.grown (World.ownsRow.alloc hO.out (.cells #[] 3)) hg3 (fun g hg hA => by have := hne _ hg; have := (HL1.out g hA).2; omega)
      have s3 := St.grown (hS.out.alloc (.cells #[] 3)) hg3 (fun g hg => by have := hne _ hg; omega)
      have z3 := hg3.size
      simp only [World.heap_alloc_size'] at z3
      have R4 := hid (r3.far (p := ⟨w1.heap.size, 1, none⟩) (by simp; omega) (.slice X2 (k + 1) a2))
      have C4 := hid (c3.set_ 1 (.slice X2 (k + 1) a2))
      have O4 := hid (o3.grown (World.grownBy_set w3 w1.heap.size 1 (.slice X2 (k + 1) a2)) (fun g hg hA => by injection hg with hg; have := (HL1.out g hA).2; omega))
      have W4 := hid (World.ownsRow.kept ho3 (World.grownBy_set w3 w1.heap.size 1 (.slice X2 (k + 1) a2)) (.inr (by rw [ownBlock_slice]; intro e; have := (World.ownsRow.lt ho3 _ (by rw [ownBlock_slice]; exact e)).1; omega)))
      have S4 := hid (s3.setCell (p := ⟨w1.heap.size, 1, none⟩) (by simp; omega) (.slice X2 (k + 1) a2))
      have H4 : Hid ((hs ++ [(Value.slice (some ⟨wr.heap.size, 0, none⟩) 0 0, (-1 : Int))]).length = k + 1 ∧ ∀ h ∈ hs ++ [(Value.slice (some ⟨wr.heap.size, 0, none⟩) 0 0, (-1 : Int))], (∃ B, h.1 = .slice B 0 0) ∧ h.2 = -1) := by
        refine ⟨by rw [List.length_append, hH.out.1]; rfl, fun h hh => ?_⟩
        rcases List.mem_append.1 hh with hh | hh
        · exact hH.out.2 h hh
        · rw [List.mem_singleton.1 hh]; exact ⟨⟨_, rfl⟩, rfl⟩
      clear r3 c3 o3 s3 ho3 hg3
      go_roundw
      case rel => exact ⟨k + 1, a2, X2, _, by omega, by go_num, R4, C4, O4, by rw [← holdCells_snoc] at W4; exact W4, H4, S4, by simp [World.setCell]; omega⟩
      case measure => simp [intOf]; omega
    · obtain rfl : k = sn := by omega
      have hci := hC.out.cell_ (i := 1) (v := .slice X k a) rfl
      have hci0 := hC.out.cell_ (i := 0) (v := .slice A1 5 c1) rfl
      have hrf := hR.out.frozen 0
      have hrf1 := hR.out.frozen 1
      have hr0 := hR.out.cell_ (i := 0) (v := .slice none 0 0) rfl
      have hr1 := hR.out.cell_ (i := 1) (v := .slice none 0 0) rfl
      have f2 := (hR.out.set_ 0 (.slice A1 5 c1)).set_ 1 (.slice X k a)
      have f0 := f2.cell_ (i := 0) (v := .slice A1 5 c1) rfl
      have f1 := f2.cell_ (i := 1) (v := .slice X k a) rfl
      have hneA : ∀ g, some w.heap.size = some g → blockOf A1 ≠ some g := fun g hg hA => by injection hg with hg; have := (HL1.out g hA).1; omega
      have hneX : (Value.slice X k a).ownBlock ≠ some w.heap.size := by rw [ownBlock_slice]; intro e; have := (World.ownsRow.lt hW.out _ (by rw [ownBlock_slice]; exact e)).1; omega
      have O5 := hid ((hO.out.grown (World.grownBy_set wr w.heap.size 0 (.slice A1 5 c1)) hneA).grown (World.grownBy_set _ w.heap.size 1 (.slice X k a)) hneA)
      have W5 := hid (World.ownsRow.kept (World.ownsRow.kept hW.out (World.grownBy_set wr w.heap.size 0 (.slice A1 5 c1)) (.inr hneX)) (World.grownBy_set _ w.heap.size 1 (.slice X k a)) (.inr hneX))
      have S5 := hid ((hS.out.setCell (p := ⟨w.heap.size, 0, none⟩) (Nat.le_refl _) (.slice A1 5 c1)).setCell (p := ⟨w.heap.size, 1, none⟩) (Nat.le_refl _) (.slice X k a))
      clear f2 hneA hneX
      go_wp2_with fail
      refine bodyPost_ret (v := .tuple #[crV A1 5 c1 X k a, .bool true]) (by simp [results, Try.results14, go_sem, f0, f1]) rfl ⟨S5.out, .inr ⟨HF.out, _, _, _, _, _, rfl, rfl, O5.out.sl, SH_of_row hH.out.1 hH.out.2 W5.out⟩⟩
end Go.Proofs.Ytggjfbakekfdhaa
