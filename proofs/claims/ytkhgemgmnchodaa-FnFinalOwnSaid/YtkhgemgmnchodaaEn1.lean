/- Entries: the laws' comparison, copy and marks. -/
import Derived.Test.YtkhgemgmnchodaaEnts
import Derived.RegionTactic
import Derived.Deep.RegionHeld3
namespace Go.Proofs.Ytkhgemgmnchodaa
open Go.RowKit Go.Sort
theorem mod3 (k : Int) : decide (k % 3 = 0) = (k % 3 == 0) := by rw [Bool.eq_iff_iff]; simp
set_option maxHeartbeats 1000000 in
theorem eqEntry_same (m t g : Int) (f : Bool) (w : World) :
    Calls Try.prog 69 #[enV m t g f, enV m t g f] w fun e w' => e = .returned (.bool true) ∧ St w w' := by
  have s1 := ((St.refl w).alloc (.cells #[.int .i64 m, .int .i64 t, .int .i64 g, .bool f] 34)).alloc (.cells #[.int .i64 m, .int .i64 t, .int .i64 g, .bool f] 34)
  have b1 := (Blk.new w 34 #[.int .i64 m, .int .i64 t, .int .i64 g, .bool f]).alloc (.cells #[.int .i64 m, .int .i64 t, .int .i64 g, .bool f] 34)
  have b2 := Blk.new (w.alloc (.cells #[.int .i64 m, .int .i64 t, .int .i64 g, .bool f] 34)) 34 #[.int .i64 m, .int .i64 t, .int .i64 g, .bool f]
  rw [World.heap_alloc_size'] at b2
  have B1 := hid b1
  have B2 := hid b2
  have S1 := hid s1
  clear b1 b2 s1
  have hne := neq_of (x := m) (y := m) rfl
  rw [beq_self_eq_true] at hne
  go_enter Try.func69, Try.ntmps69
  go_wp2_with fail
  refine (eqStamp_any _ _ _ _ _).mono ?_
  rintro e w1 ⟨rfl, s2⟩
  have he : eqS (t, g) (t, g) = true := eqS_iff.2 rfl
  rw [he]
  have c1 := (B1.out.st s2).cell_ (i := 3) (v := .bool f) rfl
  have c2 := (B2.out.st s2).cell_ (i := 3) (v := .bool f) rfl
  go_wp2_with fail
  go_ret
  exact ⟨rfl, S1.out.trans s2⟩
set_option maxHeartbeats 1000000 in
theorem eqEntryS_same (A A' : Option Addr) (n c n' c' : Nat) (es : List Ent) (w : World) (h : SE w A n c es) (h' : SE w A' n' c' es) (hn : n ≤ 1048576) :
    Calls Try.prog 60 #[.slice A n c, .slice A' n' c'] w fun e w' => e = .returned (.bool true) ∧ St w w' := by
  obtain rfl : n = n' := h.len.symm.trans h'.len
  go_enter Try.func60, Try.ntmps60
  go_wp2_with fail
  go_loopw [5] (fun i wr => ∃ k : Nat, k ≤ n ∧ i = .int .i64 k ∧ Hid (St w wr)) (fun i _ => n - (intOf i).toNat)
  case atStart => exact ⟨0, Nat.zero_le _, rfl, St.refl _⟩
  case round =>
    obtain ⟨k, hk, rfl, hd⟩ := hrel
    have h := h.st hd.out
    have h' := h'.st hd.out
    by_cases hlt : k < n
    · obtain ⟨ad, m, t, g, f, rfl, hb1, hx, hc0, hc1, hc2, hc3⟩ := h.at_ hlt
      obtain ⟨ad', m', t', g', f', rfl, hb1', hx', hc0', hc1', hc2', hc3'⟩ := h'.at_ hlt
      have he := hx.out
      rw [hx'.out] at he
      injection he with he
      injection he with e1 e2
      injection e2 with e2 e3
      injection e2 with e2 e4
      subst e1 e2 e3 e4
      have hki : (0 : Int) ≤ (k : Int) := by omega
      have hki2 : (k : Int) < (n : Int) := by omega
      go_wp2_with fail
      go_region_held3 (fun w' => w'.cell? (ad.add (k * 4)) = some (.int .i64 m') ∧ w'.cell? ⟨(ad.add (k * 4)).block, (ad.add (k * 4)).off + 1, none⟩ = some (.int .i64 t') ∧ w'.cell? ⟨(ad.add (k * 4)).block, (ad.add (k * 4)).off + 2, none⟩ = some (.int .i64 g') ∧ w'.cell? ⟨(ad.add (k * 4)).block, (ad.add (k * 4)).off + 3, none⟩ = some (.bool f') ∧ w'.cell? (ad'.add (k * 4)) = some (.int .i64 m') ∧ w'.cell? ⟨(ad'.add (k * 4)).block, (ad'.add (k * 4)).off + 1, none⟩ = some (.int .i64 t') ∧ w'.cell? ⟨(ad'.add (k * 4)).block, (ad'.add (k * 4)).off + 2, none⟩ = some (.int .i64 g') ∧ w'.cell? ⟨(ad'.add (k * 4)).block, (ad'.add (k * 4)).off + 3, none⟩ = some (.bool f')) (first | go_keep | exact ⟨s1.cell hc0, s1.cell hc1, s1.cell hc2, s1.cell hc3, s1.cell hc0', s1.cell hc1', s1.cell hc2', s1.cell hc3'⟩)
        ((go_at_call 69; refine (eqEntry_same _ _ _ _ _).mono ?_; rintro e w1 ⟨rfl, s1⟩))
      have hd2 := hid (hd.out.drew.trans s1)
      go_wp2_with fail
      go_roundw
      case rel => exact ⟨k + 1, by omega, by go_num, hd2⟩
      case measure => simp [intOf]; omega
    · obtain rfl : k = n := by omega
      go_wp2_with fail
      go_ret
      exact ⟨rfl, hd.out⟩
theorem toStamp_any (t g : Int) (w : World) : Calls Try.prog 28 #[.agg #[.int .i64 t, .int .i64 g]] w fun e w' => e = .returned (.agg #[.int .i64 t, .int .i64 g]) ∧ St w w' := by
  have s1 := hid ((((St.refl w).alloc (.cells #[.int .i64 t, .int .i64 g] 52)).alloc (.cells #[.int .i64 t, .int .i64 g] 32)).alloc (.cells #[.int .i64 t, .int .i64 g] 32))
  go_enter Try.func28, Try.ntmps28
  go_wp2_with fail
  refine bodyPost_ret (v := .agg #[.int .i64 t, .int .i64 g]) (by simp [results, Try.results28, go_sem]) rfl ⟨rfl, s1.out⟩
set_option maxHeartbeats 2000000 in
theorem toEntry_any (m t g : Int) (f : Bool) (w : World) : Calls Try.prog 68 #[enV m t g f] w fun e w' => e = .returned (enV m t g f) ∧ St w w' := by
  have s3 := (((St.refl w).alloc (.cells #[.int .i64 m, .int .i64 t, .int .i64 g, .bool f] 88)).alloc (.cells #[.int .i64 0, .int .i64 0, .int .i64 0, .bool false] 34)).alloc (.cells #[.int .i64 m, .int .i64 0, .int .i64 0, .bool false] 34)
  have b1 := ((Blk.new w 88 #[.int .i64 m, .int .i64 t, .int .i64 g, .bool f]).alloc (.cells #[.int .i64 0, .int .i64 0, .int .i64 0, .bool false] 34)).alloc (.cells #[.int .i64 m, .int .i64 0, .int .i64 0, .bool false] 34)
  have b2 := (Blk.new (w.alloc (.cells #[.int .i64 m, .int .i64 t, .int .i64 g, .bool f] 88)) 34 #[.int .i64 0, .int .i64 0, .int .i64 0, .bool false]).alloc (.cells #[.int .i64 m, .int .i64 0, .int .i64 0, .bool false] 34)
  have b3 := Blk.new ((w.alloc (.cells #[.int .i64 m, .int .i64 t, .int .i64 g, .bool f] 88)).alloc (.cells #[.int .i64 0, .int .i64 0, .int .i64 0, .bool false] 34)) 34 #[.int .i64 m, .int .i64 0, .int .i64 0, .bool false]
  rw [World.heap_alloc_size'] at b2
  rw [World.heap_alloc_size', World.heap_alloc_size'] at b3
  have B1 := hid b1
  have B2 := hid b2
  have B3 := hid b3
  have S3 := hid s3
  clear b1 b2 b3 s3
  go_enter Try.func68, Try.ntmps68
  go_wp2_with fail
  refine (toStamp_any _ _ _).mono ?_
  rintro e w1 ⟨rfl, s1⟩
  have c1 := B1.out.st s1
  have c2 := B2.out.st s1
  have c3 := B3.out.st s1
  have S4 := hid (S3.out.trans s1)
  have q13 := c1.cell_ (i := 3) (v := .bool f) rfl
  have q30 := c3.cell_ (i := 0) (v := .int .i64 m) rfl
  have f30 := c3.frozen 0
  have q31 := c3.cell_ (i := 1) (v := .int .i64 0) rfl
  have f31 := c3.frozen 1
  have q32 := c3.cell_ (i := 2) (v := .int .i64 0) rfl
  have f32 := c3.frozen 2
  have q33 := c3.cell_ (i := 3) (v := .bool false) rfl
  have f33 := c3.frozen 3
  have q20 := c2.cell_ (i := 0) (v := .int .i64 0) rfl
  have f20 := c2.frozen 0
  have q21 := c2.cell_ (i := 1) (v := .int .i64 0) rfl
  have f21 := c2.frozen 1
  have q22 := c2.cell_ (i := 2) (v := .int .i64 0) rfl
  have f22 := c2.frozen 2
  have q23 := c2.cell_ (i := 3) (v := .bool false) rfl
  have f23 := c2.frozen 3
  have e2 := ((c2.far (p := ⟨w.heap.size + 1 + 1, 1, none⟩) (by simp) (.int .i64 t)).far (p := ⟨w.heap.size + 1 + 1, 2, none⟩) (by simp) (.int .i64 g)).far (p := ⟨w.heap.size + 1 + 1, 3, none⟩) (by simp) (.bool f)
  have f2 := (((e2.set_ 0 (.int .i64 m)).set_ 1 (.int .i64 t)).set_ 2 (.int .i64 g)).set_ 3 (.bool f)
  have r0 := f2.cell_ (i := 0) (v := .int .i64 m) rfl
  have r1 := f2.cell_ (i := 1) (v := .int .i64 t) rfl
  have r2 := f2.cell_ (i := 2) (v := .int .i64 g) rfl
  have r3 := f2.cell_ (i := 3) (v := .bool f) rfl
  have S5 := hid (((((((S4.out.setCell (p := ⟨w.heap.size + 1 + 1, 1, none⟩) (by simp; omega) (.int .i64 t)).setCell (p := ⟨w.heap.size + 1 + 1, 2, none⟩) (by simp; omega) (.int .i64 g)).setCell (p := ⟨w.heap.size + 1 + 1, 3, none⟩) (by simp; omega) (.bool f)).setCell (p := ⟨w.heap.size + 1, 0, none⟩) (by simp) (.int .i64 m)).setCell (p := ⟨w.heap.size + 1, 1, none⟩) (by simp) (.int .i64 t)).setCell (p := ⟨w.heap.size + 1, 2, none⟩) (by simp) (.int .i64 g)).setCell (p := ⟨w.heap.size + 1, 3, none⟩) (by simp) (.bool f))
  clear c1 c2 c3 e2 f2
  go_wp2_with fail
  refine bodyPost_ret (v := enV m t g f) (by simp [results, Try.results68, go_sem, r0, r1, r2, r3]) rfl ⟨rfl, S5.out⟩
theorem made_ents (n : Nat) : (madeCells #[.int .i64 0, .int .i64 0, .int .i64 0, .bool false] (n * 4)).toList = entCells (List.replicate n (0, (0, 0), false)) := by
  apply List.ext_getElem?
  intro j
  by_cases hj : j < n * 4
  · obtain ⟨h1, h2, h3, h4⟩ := entCells_at (List.replicate n (0, (0, 0), false)) (j / 4) (0, (0, 0), false) (by rw [List.getElem?_replicate, if_pos (by omega)])
    have hm : j % 4 = 0 ∨ j % 4 = 1 ∨ j % 4 = 2 ∨ j % 4 = 3 := by omega
    rcases hm with h | h | h | h
    · have e : j / 4 * 4 = j := by omega
      rw [e] at h1
      rw [h1]
      simp [madeCells, hj, h]
    · have e : j / 4 * 4 + 1 = j := by omega
      rw [e] at h2
      rw [h2]
      simp [madeCells, hj, h]
    · have e : j / 4 * 4 + 2 = j := by omega
      rw [e] at h3
      rw [h3]
      simp [madeCells, hj, h]
    · have e : j / 4 * 4 + 3 = j := by omega
      rw [e] at h4
      rw [h4]
      simp [madeCells, hj, h]
  · have l1 : (madeCells #[Value.int .i64 0, .int .i64 0, .int .i64 0, .bool false] (n * 4)).toList.length = n * 4 := by simp [madeCells]
    have l2 : (entCells (List.replicate n (0, (0, 0), false))).length = n * 4 := by rw [entCells_len, List.length_replicate]
    rw [List.getElem?_eq_none (by omega), List.getElem?_eq_none (by omega)]
set_option maxHeartbeats 2000000 in
theorem toEntryS_any (A : Option Addr) (n c : Nat) (es : List Ent) (w : World) (h : SE w A n c es) (hn : n ≤ 1048576) :
    Calls Try.prog 59 #[.slice A n c] w fun e w' => ∃ A' c', e = .returned (.slice A' n c') ∧ OE w' w.heap.size A' n c' es ∧ St w w' := by
  obtain ⟨i0, hi0, hz0, hz1, hz2⟩ := info_parts entInfo
  have HL := hid h.len
  go_enter Try.func59, Try.ntmps59
  go_wp2_with (at_make; refine wpList_make_full _ rfl _ _ 23 rfl w.heap.size 34 i0 (.agg #[.int .i64 0, .int .i64 0, .int .i64 0, .bool false]) 4 Try.underlying23 hi0 hz0 hz1 _ _ _ _ n rfl rfl rfl rfl (by rw [hz2]; omega) (by unfold maxLen; omega) (Nat.le_refl _) ?_; intro w1 hown hgrow)
  have hbel : St w w1 := (Below.refl w.heap.size w).grown hgrow (Nat.le_refl _) (by simp)
  have ho := hown
  rw [show Value.cells (.agg #[.int .i64 0, .int .i64 0, .int .i64 0, .bool false]) = #[.int .i64 0, .int .i64 0, .int .i64 0, .bool false] from rfl, made_ents] at ho
  clear hown hgrow
  have HO : Hid (OE w1 w.heap.size (some ⟨w.heap.size, 0, none⟩) n n (es.take 0 ++ (List.replicate n (0, (0, 0), false)).drop 0)) := ⟨by simp, by simpa using ho⟩
  clear ho
  go_loopw [4] (fun t wr => ∃ i : Nat, i ≤ n ∧ t = .int .i64 i ∧ Hid (OE wr w.heap.size (some ⟨w.heap.size, 0, none⟩) n n (es.take i ++ (List.replicate n (0, (0, 0), false)).drop i)) ∧ Hid (St w wr)) (fun t _ => n - (intOf t).toNat)
  case atStart => exact ⟨0, Nat.zero_le _, rfl, HO, hbel⟩
  case round =>
    obtain ⟨i, hi, rfl, ho, hbw⟩ := hrel
    by_cases hlt : i < n
    · obtain ⟨ad, m, t, g, f, rfl, hb1, hx, hc0, hc1, hc2, hc3⟩ := (h.st hbw.out).at_ hlt
      go_wp2_with fail
      refine (toEntry_any _ _ _ _ _).mono ?_
      rintro e w2 ⟨rfl, s2⟩
      obtain ⟨b, m', t', g', f', he, hb, hbl, hx', hea, hfz, hset⟩ := (ho.out.st s2).at_ hlt
      injection he with he
      injection he with he
      subst he
      have z0 := hea.c0
      have z1 := hea.c1
      have z2 := hea.c2
      have z3 := hea.c3
      have y0 := hfz (i * 4)
      have y1 := hfz (i * 4 + 1)
      have y2 := hfz (i * 4 + 2)
      have y3 := hfz (i * 4 + 3)
      obtain ⟨hs1, hs2⟩ := hset m t g f
      have hbw2 := hid ((hbw.out.trans s2).grown hs2 (fun k hk => by injection hk with hk; omega))
      clear hset s2 hfz hea
      go_wp2_with fail
      go_roundw
      case rel =>
        refine ⟨i + 1, by omega, by go_num, ?_, hbw2⟩
        rw [take_snoc hx.out, ← set_front rfl (by rw [List.length_take, HL.out]; omega) (by rw [List.length_replicate]; exact hlt)]; exact hs1
      case measure => simp [intOf]; omega
    · obtain rfl : i = n := by omega
      go_wp2_with fail
      go_ret
      have := ho.out
      rw [List.drop_of_length_le (by rw [List.length_replicate]; omega), List.append_nil, List.take_of_length_le (by rw [HL.out]; omega)] at this
      exact ⟨_, _, rfl, this, hbw.out⟩
theorem szEntryS_any (A : Option Addr) (n c : Nat) (left : Int) (w : World) (hl : 0 ≤ left) (hl' : left ≤ 1048576) (hn : n ≤ 9223372036854775807) :
    Calls Try.prog 58 #[.slice A n c, .int .i64 left] w fun e w' => e = .returned (.int .i64 (szM left n)) ∧ w = w' := by
  by_cases h : left < n
  · have hm := hid (show szM left n = -1 from if_pos h)
    have h' : left - n < 0 := by omega
    go_enter Try.func58, Try.ntmps58
    go_wp2
    go_ret
    exact ⟨ret_int hm.out.symm, rfl⟩
  · have hm := hid (show szM left n = left - n from if_neg h)
    have h' : ¬ left - n < 0 := by omega
    go_enter Try.func58, Try.ntmps58
    go_wp2
    go_ret
    exact ⟨ret_int hm.out.symm, rfl⟩
end Go.Proofs.Ytkhgemgmnchodaa
