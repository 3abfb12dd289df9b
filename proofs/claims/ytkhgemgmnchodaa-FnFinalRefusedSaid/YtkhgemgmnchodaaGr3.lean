/- GroupValid of the program; clone of entries. -/
import Derived.Test.YtkhgemgmnchodaaGr2
import Derived.Test.YtkhgemgmnchodaaSeen
namespace Go.Proofs.Ytkhgemgmnchodaa
open Go.RowKit Go.Sort
/-- A slice of entries that a function has made: new. -/
def MadeE (w : World) (es : List Ent) (e : Ending) (w' : World) : Prop := ∃ A c, e = .returned (.slice A es.length c) ∧ OE w' w.heap.size A es.length c es ∧ St w w'
theorem cloneEntry_any (A : Option Addr) (n c : Nat) (es : List Ent) (w : World) (h : SE w A n c es) (hn : n ≤ 1048576) :
    Calls Try.prog 43 #[.slice A n c] w (MadeE w es) := by
  obtain ⟨i0, hi0, hz0, hz1, hz2⟩ := info_parts entInfo
  have HL := hid h.len
  have HR := hid h.reads
  go_enter Try.func43, Try.ntmps43
  go_wp2_with (first
    | (at_make; refine wpList_make_own _ rfl _ _ 23 rfl w.heap.size 34 i0 (.agg #[.int .i64 0, .int .i64 0, .int .i64 0, .bool false]) 4 Try.underlying23 hi0 hz0 hz1 _ _ _ n rfl rfl rfl (by rw [hz2]; omega) (by unfold maxLen; omega) (Nat.le_refl _) ?_; intro w1 hown hgrow; have s1 : St w w1 := St.grown (St.refl w) hgrow (by simp); have h1 := hid (HR.out.below s1))
    | (at_builtin; refine wpList_append_rows _ rfl _ _ 23 rfl w.heap.size 34 4 32 (.agg #[.int .i64 0, .int .i64 0, .int .i64 0, .bool false]) Try.underlying23 entInfo rfl (by omega) (some ⟨w.heap.size, 0, none⟩) 0 n [] rfl hown _ A n c (entCells es) rfl h1.out (entCells_one _) (by omega) (by omega) s1.size ?_; intro X a w2 ho2 hg2))
  have s2 : St w w2 := St.grown s1 hg2 (fun k hk => by injection hk with hk; subst hk; exact Nat.le_refl _)
  go_wp2_with fail
  go_ret
  have hl := HL.out
  refine ⟨X, a, ?_, ?_, s2⟩
  · rw [hl]; simp
  · rw [hl]; exact ⟨hl, by simpa using ho2⟩
theorem isTime_any (n : Int) (w : World) :
    Calls Try.prog 53 #[.int .i64 n] w fun e w' => e = .returned (.bool (inB n 0 999)) ∧ w = w' := by
  by_cases h1 : 0 ≤ n
  · go_enter Try.func53, Try.ntmps53
    go_wp2
    go_ret
    exact ⟨ret_bool (by simp [inB, h1]), rfl⟩
  · go_enter Try.func53, Try.ntmps53
    go_wp2
    go_ret
    exact ⟨ret_bool (by simp [inB]; omega), rfl⟩
theorem ent_msg {I K : Int} {es : List Ent} (h : listOk I K es = true) : ∀ m ∈ msgs es, isMsg m = true := by
  simp only [listOk, Bool.and_eq_true, List.all_eq_true] at h
  intro m hm
  obtain ⟨e, he, rfl⟩ := List.mem_map.1 hm
  exact (entOk_iff.1 (h.1 e he)).1
theorem nodup_snoc {xs : List Int} {m : Int} (h : xs.Nodup) (hm : has xs m = false) : (xs ++ [m]).Nodup := by
  rw [List.nodup_append]
  refine ⟨h, by simp, fun a ha b hb e => ?_⟩
  rw [List.mem_singleton] at hb
  subst hb
  subst e
  have : has xs a = true := by simpa [has] using ha
  rw [hm] at this
  cases this
theorem nodup_bad {xs : List Int} {k : Nat} {m : Int} (hx : xs[k]? = some m) (hm : has (xs.take k) m = true) : ¬ xs.Nodup := by
  intro hd
  have hs : (xs.take (k + 1)).Nodup := hd.sublist (List.take_sublist _ _)
  rw [take_snoc hx, List.nodup_append] at hs
  exact hs.2.2 m (by simpa [has] using hm) m (by simp) rfl
theorem msgs_at {es : List Ent} {k : Nat} {e : Ent} (h : es[k]? = some e) : (msgs es)[k]? = some e.1 := by simp [msgs, h]
theorem msgs_len (es : List Ent) : (msgs es).length = es.length := by simp [msgs]
theorem all_fin_bad {es : List Ent} {k : Nat} {m : Int} {s : Int × Int} (h : es[k]? = some (m, s, false)) : es.all (·.2.2) = false := by
  rw [Bool.eq_false_iff]
  intro ha
  rw [List.all_eq_true] at ha
  have := ha _ (List.mem_of_getElem? h)
  cases this
theorem head_nil (ds : List Ent) : headOk [] ds = true := rfl
theorem head_one {ps ds : List Ent} {p : Ent} (h : ps[0]? = some p) (hd : ds.length = 0) : headOk ps ds = !p.2.2 := by
  obtain rfl := List.eq_nil_of_length_eq_zero hd
  cases ps with
  | nil => simp at h
  | cons q t =>
    simp at h
    subst h
    simp [headOk]
theorem head_fin {ps ds : List Ent} {m : Int} {s : Int × Int} (h : ps[0]? = some (m, s, true)) : headOk ps ds = false := by
  cases ps with
  | nil => simp at h
  | cons q t =>
    simp at h
    subst h
    simp [headOk]
theorem head_two {ps ds : List Ent} {p d : Ent} {n : Nat} (h : ps[0]? = some p) (hl : ds.length = n + 1) (hd : ds[n]? = some d) : headOk ps ds = (!p.2.2 && ltE d p) := by
  have hg : ds.getLast? = some d := by rw [List.getLast?_eq_getElem?, hl]; exact hd
  cases ps with
  | nil => simp at h
  | cons q t =>
    simp at h
    subst h
    simp [headOk, hg]
set_option maxRecDepth 100000 in
set_option maxHeartbeats 4000000 in
theorem GroupValid_any (I K : Int) (A B : Option Addr) (n c m d : Nat) (ps ds : List Ent) (w : World) (h : SE w A n c ps) (h' : SE w B m d ds) (hn : n ≤ 1048576) (hm : m ≤ 1048576) :
    Calls Try.prog 23 #[grV I K A n c B m d] w fun e w' => e = .returned (.bool (grOk ⟨I, K, ps, ds⟩)) ∧ St w w' := by
  have hdef := hid (show grOk ⟨I, K, ps, ds⟩ = (inB I 0 4 && (inB K 0 999 && (listOk I K ps && (listOk I K ds && (decide (msgs (ds ++ ps)).Nodup && (ds.all (·.2.2) && headOk ps ds)))))) from rfl)
  have HL := hid h.len
  have HL' := hid h'.len
  have HH := hid h
  have HH' := hid h'
  have s0 := (St.refl w).alloc (.cells (grC I K A n c B m d) 25)
  have k0 := Blk.new w 25 (grC I K A n c B m d)
  have H0 := hid (h.st s0)
  have H0' := hid (h'.st s0)
  have S0 := hid s0
  have K0 := hid k0
  clear h h' s0 k0
  cases h1 : inB I 0 4
  · have HB := hid (hdef.out.trans (by rw [h1]; rfl : _ = false))
    go_enter Try.func23, Try.ntmps23
    go_wp2_with fail
    refine (isGroup_any _ _).mono ?_
    rintro e w1 ⟨rfl, rfl⟩
    rw [h1]
    go_wp2_with fail
    go_ret
    exact ⟨ret_bool HB.out.symm, S0.out⟩
  cases h2 : inB K 0 999
  · have HB := hid (hdef.out.trans (by rw [h1, h2]; rfl : _ = false))
    go_enter Try.func23, Try.ntmps23
    go_wp2_with fail
    refine (isGroup_any _ _).mono ?_
    rintro e w1 ⟨rfl, rfl⟩
    rw [h1]
    go_wp2_with fail
    refine (isTime_any _ _).mono ?_
    rintro e w1 ⟨rfl, rfl⟩
    rw [h2]
    go_wp2_with fail
    go_ret
    exact ⟨ret_bool HB.out.symm, S0.out⟩
  have hdef := hid (hdef.out.trans (by rw [h1, h2, Bool.true_and, Bool.true_and] : _ = (listOk I K ps && (listOk I K ds && (decide (msgs (ds ++ ps)).Nodup && (ds.all (·.2.2) && headOk ps ds))))))
  go_enter Try.func23, Try.ntmps23
  go_wp2_with fail
  have g0 := K0.out.cell_ (i := 0) (v := .int .i64 I) rfl
  have g1 := K0.out.cell_ (i := 1) (v := .int .i64 K) rfl
  have g2 := K0.out.cell_ (i := 2) (v := .slice A n c) rfl
  have g3 := K0.out.cell_ (i := 3) (v := .slice B m d) rfl
  generalize w.alloc (.cells _ 25) = w0 at *
  refine (isGroup_any _ _).mono ?_
  rintro e w1 ⟨rfl, rfl⟩
  rw [h1]
  go_wp2_with fail
  refine (isTime_any _ _).mono ?_
  rintro e w1 ⟨rfl, rfl⟩
  rw [h2]
  go_wp2_with fail
  clear h1 h2
  refine (areEntries_any _ _ _ _ _ _ _ _ _ _ _ _ _ H0.out).mono ?_
  rintro e w1 ⟨rfl, s1⟩
  have S1 := hid (S0.out.trans s1)
  have K1 := hid (K0.out.st s1)
  have H1 := hid (H0.out.st s1)
  have H1' := hid (H0'.out.st s1)
  have g0 := s1.cell g0
  have g1 := s1.cell g1
  have g2 := s1.cell g2
  have g3 := s1.cell g3
  clear s1 S0 K0 H0 H0'
  cases h1 : listOk I K ps
  · have HB := hid (hdef.out.trans (by rw [h1]; rfl : _ = false))
    go_wp2_with fail
    go_ret
    exact ⟨ret_bool HB.out.symm, S1.out⟩
  have HMP := hid (ent_msg h1)
  have hdef := hid (hdef.out.trans (by rw [h1, Bool.true_and] : _ = (listOk I K ds && (decide (msgs (ds ++ ps)).Nodup && (ds.all (·.2.2) && headOk ps ds)))))
  clear h1
  go_wp2_with fail
  refine (areEntries_any _ _ _ _ _ _ _ _ _ _ _ _ _ H1'.out).mono ?_
  rintro e w2 ⟨rfl, s2⟩
  have S2 := hid (S1.out.trans s2)
  have K2 := hid (K1.out.st s2)
  have H2 := hid (H1.out.st s2)
  have H2' := hid (H1'.out.st s2)
  clear s2 S1 K1 H1 H1' g0 g1 g2 g3
  cases h1 : listOk I K ds
  · have HB := hid (hdef.out.trans (by rw [h1]; rfl : _ = false))
    go_wp2_with fail
    go_ret
    exact ⟨ret_bool HB.out.symm, S2.out⟩
  have HMD := hid (ent_msg h1)
  have hdef := hid (hdef.out.trans (by rw [h1, Bool.true_and] : _ = (decide (msgs (ds ++ ps)).Nodup && (ds.all (·.2.2) && headOk ps ds))))
  clear h1
  have a3 := (St.refl w2).alloc (.cells (seenCells []) 73)
  have SB := hid (Blk.new w2 73 (seenCells []))
  have S3 := hid (S2.out.trans a3)
  have K3 := hid (K2.out.st a3)
  have H3 := hid (H2.out.st a3)
  have H3' := hid (H2'.out.st a3)
  have HZ := hid (show w2.heap.size < (w2.alloc (.cells (seenCells []) 73)).heap.size by simp)
  have HZW := hid K2.out.lt
  rw [seen_nil] at SB S3 K3 H3 H3' HZ
  clear a3 S2 K2 H2 H2'
  go_wp2_with fail
  generalize w2.alloc (.cells _ 73) = w3 at *
  have g2 := K3.out.cell_ (i := 2) (v := .slice A n c) rfl
  have g3 := K3.out.cell_ (i := 3) (v := .slice B m d) rfl
  have HD := hid (H3'.out.st (Dr.st ⟨1, rfl⟩ : St w3 (w3.drewN 1)))
  refine wp_region_held_drew (S := (fun w' => w'.cell? ⟨w.heap.size, 2, none⟩ = some (.slice A n c) ∧ w'.cell? ⟨w.heap.size, 3, none⟩ = some (.slice B m d))) (by kernel_rfl) ?_ (fun hH0 => ?_)
  · exact ⟨g2, g3⟩
  refine wpAnyH_take (i := 0) (oi := ⟨some 33, _, _, _, _, _⟩) (v := ?_) rfl (by kernel_rfl) (by kernel_rfl) (by kernel_rfl) (fun _ _ _ h => h) (Or.inl ⟨by rfl, ?_⟩) (by assumption) ?_
  rotate_left
  · (intro w hSw; (try dsimp only at hSw); go_simp; (try with_reducible rfl))
  (try simp only [Act.put, List.setIfInBounds_toArray, List.set_cons_zero, List.set_cons_succ])
  refine wpAnyH_take (i := 1) (oi := ⟨some 34, _, _, _, _, _⟩) (v := ?_) rfl (by kernel_rfl) (by kernel_rfl) (by kernel_rfl) (fun _ _ _ h => h) (Or.inl ⟨by rfl, ?_⟩) (by assumption) ?_
  rotate_left
  · (intro w hSw; (try dsimp only at hSw); go_simp; (try with_reducible rfl))
  (try simp only [Act.put, List.setIfInBounds_toArray, List.set_cons_zero, List.set_cons_succ])
  refine wpAnyH_take (i := 3) (oi := ⟨some 36, _, _, _, _, _⟩) (v := ?_) rfl (by kernel_rfl) (by kernel_rfl) (by kernel_rfl) (fun _ _ _ h => h) (Or.inl ⟨by rfl, ?_⟩) (by assumption) ?_
  rotate_left
  · (intro w hSw; (try dsimp only at hSw); go_simp; (try with_reducible rfl))
  (try simp only [Act.put, List.setIfInBounds_toArray, List.set_cons_zero, List.set_cons_succ])
  refine wpAnyH_take (i := 4) (oi := ⟨some 37, _, _, _, _, _⟩) (v := ?_) rfl (by kernel_rfl) (by kernel_rfl) (by kernel_rfl) (fun _ _ _ h => h) (Or.inl ⟨by rfl, ?_⟩) (by assumption) ?_
  rotate_left
  · (intro w hSw; (try dsimp only at hSw); go_simp; (try with_reducible rfl))
  (try simp only [Act.put, List.setIfInBounds_toArray, List.set_cons_zero, List.set_cons_succ])
  refine wpAnyH_take (i := 7) (oi := ⟨some 40, _, _, _, _, _⟩) (v := ?_) rfl (by kernel_rfl) (by kernel_rfl) (by kernel_rfl) (fun _ _ _ h => h) (Or.inl ⟨by rfl, ?_⟩) (by assumption) ?_
  rotate_left
  · (intro w hSw; (try dsimp only at hSw); go_simp; (try with_reducible rfl))
  (try simp only [Act.put, List.setIfInBounds_toArray, List.set_cons_zero, List.set_cons_succ])
  refine wpAnyH_ready (rs := [2]) (by kernel_rfl) (by simp) ?_
  refine AllReadyH.cons (o := ⟨some 35, _, _, _, _, _⟩) rfl (fun K hK => ?_) AllReadyH.nil
  go_simp
  (go_at_call 43; refine (cloneEntry_any _ _ _ _ _ HD.out hm).mono ?_; rintro e w4 ⟨X, a, rfl, o4, s4⟩; have O4 := hid o4; have U4 := (Dr.st ⟨1, rfl⟩ : St w3 (w3.drewN 1)).trans s4; have H4 := hid (H3.out.st U4); have hl4 := HL'.out; rw [hl4])
  (first | (refine hK.out _ _ ?_ (fun hH1 => ?_)) | (go_wp2_with fail; refine hK.out _ _ ?_ (fun hH1 => ?_)))
  · exact ⟨U4.cell g2, U4.cell g3⟩
  clear hK K hH0
  (try simp only [Act.put, List.setIfInBounds_toArray, List.set_cons_zero, List.set_cons_succ])
  refine wpAnyH_ready (rs := [5]) (by kernel_rfl) (by simp) ?_
  refine AllReadyH.cons (o := ⟨some 38, _, _, _, _, _⟩) rfl (fun K hK => ?_) AllReadyH.nil
  (refine step_append_rows w4 rfl _ _ 23 rfl w3.heap.size 34 4 32 (.agg #[.int .i64 0, .int .i64 0, .int .i64 0, .bool false]) Try.underlying23 entInfo rfl (by omega) X m a (entCells ds) rfl (by have h5 := O4.out.2; rw [hl4] at h5; exact h5) _ A n c (entCells ps) rfl H4.out.reads (entCells_one _) (by omega) (by omega) U4.le ?_; intro X5 a5 w5 o5 g5; have U5 := U4.grown g5 (fun k hk => (O4.out.lt k hk).1); obtain ⟨N, hN⟩ : ∃ N, N = m + n := ⟨_, rfl⟩; rw [← hN] at o5 ⊢; have HNN := hid hN; have O5 := hid (show OE w5 w3.heap.size X5 N a5 (ds ++ ps) from ⟨by rw [List.length_append, HL.out, HL'.out, HNN.out], by rw [entCells_app]; exact o5⟩); have hnb := hid (show N ≤ 2097152 by omega); clear hN)
  (first | (refine hK.out _ _ ?_ (fun hH2 => ?_)) | (go_wp2_with fail; refine hK.out _ _ ?_ (fun hH2 => ?_)))
  · exact ⟨U5.cell g2, U5.cell g3⟩
  clear hK K hH1
  (try simp only [Act.put, List.setIfInBounds_toArray, List.set_cons_zero, List.set_cons_succ])
  refine wpAnyH_take (i := 6) (oi := ⟨some 39, _, _, _, _, _⟩) (v := ?_) rfl (by kernel_rfl) (by kernel_rfl) (by kernel_rfl) (fun _ _ _ h => h) (Or.inl ⟨by rfl, ?_⟩) (by assumption) ?_
  rotate_left
  · (intro w hSw; (try dsimp only at hSw); go_simp; (try with_reducible rfl))
  (try simp only [Act.put, List.setIfInBounds_toArray, List.set_cons_zero, List.set_cons_succ])
  refine wpAnyH_done (by kernel_rfl) ?_ _
  clear hH2
  have S5 := hid (S3.out.trans U5)
  have K5 := hid (K3.out.st U5)
  have SB5 := hid (SB.out.st U5)
  have HSZ := hid (show w2.heap.size < w5.heap.size by have := HZ.out; have := U5.le; omega)
  have HMS := hid (show ∀ x ∈ msgs (ds ++ ps), isMsg x = true from fun x hx => by
    rw [msgs, List.map_append] at hx
    rcases List.mem_append.1 hx with hx | hx
    · exact HMD.out x hx
    · exact HMP.out x hx)
  have hnb := hnb.out
  clear S3 K3 H3 H3' SB O4 U4 U5 o4 o5 g5 s4 H4 g2 g3 HD HMD HMP
  go_wp2_with fail
  go_loopw [40] (fun i wr => ∃ k : Nat, k ≤ N ∧ i = .int .i64 (k : Int) ∧ Hid (((msgs (ds ++ ps)).take k).Nodup) ∧ Hid (Blk wr w2.heap.size 73 (seenCells ((msgs (ds ++ ps)).take k))) ∧ Hid (Turned (fun g => g = w2.heap.size) w5 wr)) (fun i _ => N - (intOf i).toNat)
  case atStart => exact ⟨0, Nat.zero_le _, rfl, hid (by simp), SB5, hid (Turned.of_st (St.refl _))⟩
  case round =>
    obtain ⟨wa, rfl⟩ : ∃ wo : World, wo = wr := ⟨_, rfl⟩
    obtain ⟨k, hk, rfl, hnd, hsb, htu⟩ := hrel
    have HE6 := hid ((O5.out.turned htu.out (fun g hg => by rw [hg]; exact HZ.out)).se)
    have S6 := hid (Turned.st S5.out htu.out (fun i hi => by rw [hi]; have := HZW.out; omega))
    by_cases hlt : k < N
    · obtain ⟨ad, m1, t, g, f, rfl, hb1, hx, hc0, hc1, hc2, hc3⟩ := HE6.out.at_ hlt
      obtain ⟨mm, rfl, hm12⟩ := isMsg_nat (HMS.out m1 (List.mem_map_of_mem (f := fun x : Ent => x.1) (List.mem_of_getElem? hx.out)))
      have HMA := hid (msgs_at hx.out)
      have TA := hid (htu.out.trans (Turned.of_st ((St.refl wa).alloc (.cells #[.int .i64 (mm : Int), .int .i64 t, .int .i64 g, .bool f] 34))))
      have SA := hid (hsb.out.alloc (.cells #[.int .i64 (mm : Int), .int .i64 t, .int .i64 g, .bool f] 34))
      have q1 := SA.out.cell_ (seen_at ((msgs (ds ++ ps)).take k) hm12)
      have q2 := SA.out.frozen mm
      have hki : (0 : Int) ≤ (k : Int) := by omega
      have hki2 : (k : Int) < (N : Int) := by omega
      have hmi : (0 : Int) ≤ (mm : Int) := by omega
      have hmi2 : (mm : Int) < 12 := by omega
      cases hb : has ((msgs (ds ++ ps)).take k) (mm : Int)
      · have HN2 := hid (show ((msgs (ds ++ ps)).take (k + 1)).Nodup by rw [take_snoc HMA.out]; exact nodup_snoc hnd.out hb)
        have SB2 := hid (SA.out.set_ mm (.bool true))
        rw [seen_set _ hm12, ← take_snoc HMA.out] at SB2
        have T2 := hid (TA.out.trans (Turned.of_grown (World.grownBy_set _ w2.heap.size mm (.bool true)) (fun i hi => by injection hi with hi; exact hi.symm)))
        rw [hb] at q1
        clear TA SA hb
        go_wp2_with fail
        go_roundw
        case rel => exact ⟨k + 1, by omega, by go_num, HN2, SB2, T2⟩
        case measure => simp [intOf]; omega
      · have HB := hid (hdef.out.trans (by rw [decide_eq_false (nodup_bad HMA.out hb)]; rfl : _ = false))
        have S7 := hid (S6.out.alloc (.cells #[.int .i64 (mm : Int), .int .i64 t, .int .i64 g, .bool f] 34))
        rw [hb] at q1
        clear TA SA hb
        go_wp2_with fail
        go_ret
        exact ⟨ret_bool HB.out.symm, S7.out⟩
    · obtain rfl : k = N := by omega
      have hdef := hid (hdef.out.trans (by
        have h5 := hnd.out
        rw [List.take_of_length_le (by rw [msgs_len, List.length_append, HL.out, HL'.out, HNN.out]; omega)] at h5
        rw [decide_eq_true h5, Bool.true_and] : _ = (ds.all (·.2.2) && headOk ps ds)))
      have K6 := hid (K5.out.turned htu.out (by have := HZW.out; omega))
      have R6 := hid (HH.out.st S6.out)
      have R6' := hid (HH'.out.st S6.out)
      have g2 := K6.out.cell_ (i := 2) (v := .slice A n c) rfl
      have g3 := K6.out.cell_ (i := 3) (v := .slice B m d) rfl
      clear HE6 hsb htu hnd O5 HMS SB5 K5 S5
      go_wp2_with fail
      go_loopw [55] (fun i wr => ∃ k : Nat, k ≤ m ∧ i = .int .i64 (k : Int) ∧ Hid ((ds.take k).all (·.2.2) = true) ∧ Hid (St wa wr)) (fun i _ => m - (intOf i).toNat)
      case atStart => exact ⟨0, Nat.zero_le _, rfl, hid rfl, St.refl _⟩
      case round =>
        obtain ⟨wb, rfl⟩ : ∃ wo : World, wo = wr := ⟨_, rfl⟩
        obtain ⟨j, hj, rfl, hal, hd⟩ := hrel
        have R7 := hid (R6'.out.st hd.out)
        have S7 := hid (S6.out.trans hd.out)
        by_cases hlt : j < m
        · obtain ⟨ad, m1, t, g, f, rfl, hb1, hx, hc0, hc1, hc2, hc3⟩ := R7.out.at_ hlt
          have S8 := hid (hd.out.alloc (.cells #[.int .i64 m1, .int .i64 t, .int .i64 g, .bool f] 34))
          have hki : (0 : Int) ≤ (j : Int) := by omega
          have hki2 : (j : Int) < (m : Int) := by omega
          cases f
          · have HB := hid (hdef.out.trans (by rw [all_fin_bad hx.out]; rfl : _ = false))
            go_wp2_with fail
            go_ret
            exact ⟨ret_bool HB.out.symm, S6.out.trans S8.out⟩
          · have HA2 := hid (show (ds.take (j + 1)).all (·.2.2) = true by rw [take_snoc hx.out, List.all_append, hal.out]; rfl)
            go_wp2_with fail
            go_roundw
            case rel => exact ⟨j + 1, by omega, by go_num, HA2, S8⟩
            case measure => simp [intOf]; omega
        · obtain rfl : j = m := by omega
          have hdef := hid (hdef.out.trans (by
            have h5 := hal.out
            rw [List.take_of_length_le (by rw [HL'.out]; omega)] at h5
            rw [h5, Bool.true_and] : _ = headOk ps ds))
          have K7 := hid (K6.out.st hd.out)
          have P7 := hid (R6.out.st hd.out)
          have g2 := K7.out.cell_ (i := 2) (v := .slice A n c) rfl
          have g3 := K7.out.cell_ (i := 3) (v := .slice B j d) rfl
          clear hal hd R6 R6' S6 K6
          by_cases hn0 : n = 0
          · subst hn0
            have HB := hid (hdef.out.trans (by rw [List.eq_nil_of_length_eq_zero HL.out]; rfl : _ = true))
            go_wp2_with fail
            go_ret
            exact ⟨ret_bool HB.out.symm, S7.out⟩
          · have hn1 : (0 : Int) < (n : Int) := by omega
            have hn2 : ¬ ((n : Int) = 0) := by omega
            obtain ⟨ad, m1, t, g, f, rfl, hb1, hx, hc0, hc1, hc2, hc3⟩ := P7.out.at_ (k := 0) (by omega)
            have B8 := hid (Blk.new wb 34 #[.int .i64 m1, .int .i64 t, .int .i64 g, .bool f])
            have s8 := (St.refl wb).alloc (.cells #[.int .i64 m1, .int .i64 t, .int .i64 g, .bool f] 34)
            have K8 := hid (K7.out.st s8)
            have R8 := hid (R7.out.st s8)
            have S8 := hid (S7.out.trans s8)
            clear s8 R7 P7 S7 K7
            rw [Nat.zero_mul, add_zero] at hc0 hc1 hc2 hc3
            go_wp2_with fail
            generalize wb.alloc (.cells _ 34) = w8 at *
            have b1 := B8.out.cell_ (i := 1) (v := .int .i64 t) rfl
            have b2 := B8.out.cell_ (i := 2) (v := .int .i64 g) rfl
            have b3 := B8.out.cell_ (i := 3) (v := .bool f) rfl
            have g3 := K8.out.cell_ (i := 3) (v := .slice B j d) rfl
            have S9 := hid (S8.out.drewN 1)
            cases f
            · rcases j with _ | j
              · have HB := hid (hdef.out.trans (head_one hx.out HL'.out))
                refine wp_region_held_drew (S := (fun w' => w'.cell? ⟨wb.heap.size, 3, none⟩ = some (.bool false) ∧ w'.cell? ⟨w.heap.size, 3, none⟩ = some (.slice B 0 d))) (by kernel_rfl) ?_ (fun hH0 => ?_)
                · exact ⟨b3, g3⟩
                refine wpAnyH_take (i := 0) (oi := ⟨some 71, _, _, _, _, _⟩) (v := ?_) rfl (by kernel_rfl) (by kernel_rfl) (by kernel_rfl) (fun _ _ _ h => h) (Or.inl ⟨by rfl, ?_⟩) (by assumption) ?_
                rotate_left
                · (intro w hSw; (try dsimp only at hSw); go_simp; (try with_reducible rfl))
                (try simp only [Act.put, List.setIfInBounds_toArray, List.set_cons_zero, List.set_cons_succ])
                refine wpAnyH_take (i := 1) (oi := ⟨some 72, _, _, _, _, _⟩) (v := ?_) rfl (by kernel_rfl) (by kernel_rfl) (by kernel_rfl) (fun _ _ _ h => h) (Or.inl ⟨by rfl, ?_⟩) (by assumption) ?_
                rotate_left
                · (intro w hSw; (try dsimp only at hSw); go_simp; (try with_reducible rfl))
                (try simp only [Act.put, List.setIfInBounds_toArray, List.set_cons_zero, List.set_cons_succ])
                refine wpAnyH_take (i := 2) (oi := ⟨some 73, _, _, _, _, _⟩) (v := ?_) rfl (by kernel_rfl) (by kernel_rfl) (by kernel_rfl) (fun _ _ _ h => h) (Or.inl ⟨by rfl, ?_⟩) (by assumption) ?_
                rotate_left
                · (intro w hSw; (try dsimp only at hSw); go_simp; (try with_reducible rfl))
                (try simp only [Act.put, List.setIfInBounds_toArray, List.set_cons_zero, List.set_cons_succ])
                refine wpAnyH_take (i := 3) (oi := ⟨some 74, _, _, _, _, _⟩) (v := ?_) rfl (by kernel_rfl) (by kernel_rfl) (by kernel_rfl) (fun _ _ _ h => h) (Or.inl ⟨by rfl, ?_⟩) (by assumption) ?_
                rotate_left
                · (intro w hSw; (try dsimp only at hSw); go_simp; (try with_reducible rfl))
                (try simp only [Act.put, List.setIfInBounds_toArray, List.set_cons_zero, List.set_cons_succ])
                refine wpAnyH_take (i := 4) (oi := ⟨some 75, _, _, _, _, _⟩) (v := ?_) rfl (by kernel_rfl) (by kernel_rfl) (by kernel_rfl) (fun _ _ _ h => h) (Or.inl ⟨by rfl, ?_⟩) (by assumption) ?_
                rotate_left
                · (intro w hSw; (try dsimp only at hSw); go_simp; (try with_reducible rfl))
                (try simp only [Act.put, List.setIfInBounds_toArray, List.set_cons_zero, List.set_cons_succ])
                refine wpAnyH_take (i := 5) (oi := ⟨some 76, _, _, _, _, _⟩) (v := ?_) rfl (by kernel_rfl) (by kernel_rfl) (by kernel_rfl) (fun _ _ _ h => h) (Or.inl ⟨by rfl, ?_⟩) (by assumption) ?_
                rotate_left
                · (intro w hSw; (try dsimp only at hSw); go_simp; (try with_reducible rfl))
                (try simp only [Act.put, List.setIfInBounds_toArray, List.set_cons_zero, List.set_cons_succ])
                refine wpAnyH_take (i := 6) (oi := ⟨some 77, _, _, _, _, _⟩) (v := ?_) rfl (by kernel_rfl) (by kernel_rfl) (by kernel_rfl) (fun _ _ _ h => h) (Or.inl ⟨by rfl, ?_⟩) (by assumption) ?_
                rotate_left
                · (intro w hSw; (try dsimp only at hSw); go_simp; (try with_reducible rfl))
                (try simp only [Act.put, List.setIfInBounds_toArray, List.set_cons_zero, List.set_cons_succ])
                refine wpAnyH_take (i := 7) (oi := ⟨some 78, _, _, _, _, _⟩) (v := ?_) rfl (by kernel_rfl) (by kernel_rfl) (by kernel_rfl) (fun _ _ _ h => h) (Or.inl ⟨by rfl, ?_⟩) (by assumption) ?_
                rotate_left
                · (intro w hSw; (try dsimp only at hSw); go_simp; (try with_reducible rfl))
                (try simp only [Act.put, List.setIfInBounds_toArray, List.set_cons_zero, List.set_cons_succ])
                refine wpAnyH_take (i := 8) (oi := ⟨some 79, _, _, _, _, _⟩) (v := ?_) rfl (by kernel_rfl) (by kernel_rfl) (by kernel_rfl) (fun _ _ _ h => h) (Or.inl ⟨by rfl, ?_⟩) (by assumption) ?_
                rotate_left
                · (intro w hSw; (try dsimp only at hSw); go_simp; (try with_reducible rfl))
                (try simp only [Act.put, List.setIfInBounds_toArray, List.set_cons_zero, List.set_cons_succ])
                refine wpAnyH_take (i := 9) (oi := ⟨some 80, _, _, _, _, _⟩) (v := undef) rfl (by kernel_rfl) (by kernel_rfl) (by kernel_rfl) (fun _ _ _ h => h) (Or.inr ⟨by rfl, rfl⟩) (by assumption) ?_
                (try simp only [Act.put, List.setIfInBounds_toArray, List.set_cons_zero, List.set_cons_succ])
                refine wpAnyH_take (i := 10) (oi := ⟨some 81, _, _, _, _, _⟩) (v := undef) rfl (by kernel_rfl) (by kernel_rfl) (by kernel_rfl) (fun _ _ _ h => h) (Or.inr ⟨by rfl, rfl⟩) (by assumption) ?_
                (try simp only [Act.put, List.setIfInBounds_toArray, List.set_cons_zero, List.set_cons_succ])
                refine wpAnyH_take (i := 11) (oi := ⟨some 82, _, _, _, _, _⟩) (v := undef) rfl (by kernel_rfl) (by kernel_rfl) (by kernel_rfl) (fun _ _ _ h => h) (Or.inr ⟨by rfl, rfl⟩) (by assumption) ?_
                (try simp only [Act.put, List.setIfInBounds_toArray, List.set_cons_zero, List.set_cons_succ])
                refine wpAnyH_take (i := 12) (oi := ⟨some 83, _, _, _, _, _⟩) (v := undef) rfl (by kernel_rfl) (by kernel_rfl) (by kernel_rfl) (fun _ _ _ h => h) (Or.inr ⟨by rfl, rfl⟩) (by assumption) ?_
                (try simp only [Act.put, List.setIfInBounds_toArray, List.set_cons_zero, List.set_cons_succ])
                refine wpAnyH_take (i := 13) (oi := ⟨some 84, _, _, _, _, _⟩) (v := undef) rfl (by kernel_rfl) (by kernel_rfl) (by kernel_rfl) (fun _ _ _ h => h) (Or.inr ⟨by rfl, rfl⟩) (by assumption) ?_
                (try simp only [Act.put, List.setIfInBounds_toArray, List.set_cons_zero, List.set_cons_succ])
                refine wpAnyH_take (i := 14) (oi := ⟨some 85, _, _, _, _, _⟩) (v := undef) rfl (by kernel_rfl) (by kernel_rfl) (by kernel_rfl) (fun _ _ _ h => h) (Or.inr ⟨by rfl, rfl⟩) (by assumption) ?_
                (try simp only [Act.put, List.setIfInBounds_toArray, List.set_cons_zero, List.set_cons_succ])
                refine wpAnyH_take (i := 15) (oi := ⟨some 86, _, _, _, _, _⟩) (v := undef) rfl (by kernel_rfl) (by kernel_rfl) (by kernel_rfl) (fun _ _ _ h => h) (Or.inr ⟨by rfl, rfl⟩) (by assumption) ?_
                (try simp only [Act.put, List.setIfInBounds_toArray, List.set_cons_zero, List.set_cons_succ])
                refine wpAnyH_take (i := 16) (oi := ⟨some 87, _, _, _, _, _⟩) (v := undef) rfl (by kernel_rfl) (by kernel_rfl) (by kernel_rfl) (fun _ _ _ h => h) (Or.inr ⟨by rfl, rfl⟩) (by assumption) ?_
                (try simp only [Act.put, List.setIfInBounds_toArray, List.set_cons_zero, List.set_cons_succ])
                refine wpAnyH_take (i := 17) (oi := ⟨some 88, _, _, _, _, _⟩) (v := undef) rfl (by kernel_rfl) (by kernel_rfl) (by kernel_rfl) (fun _ _ _ h => h) (Or.inr ⟨by rfl, rfl⟩) (by assumption) ?_
                (try simp only [Act.put, List.setIfInBounds_toArray, List.set_cons_zero, List.set_cons_succ])
                refine wpAnyH_take (i := 18) (oi := ⟨some 89, _, _, _, _, _⟩) (v := undef) rfl (by kernel_rfl) (by kernel_rfl) (by kernel_rfl) (fun _ _ _ h => h) (Or.inr ⟨by rfl, rfl⟩) (by assumption) ?_
                (try simp only [Act.put, List.setIfInBounds_toArray, List.set_cons_zero, List.set_cons_succ])
                refine wpAnyH_take (i := 19) (oi := ⟨some 90, _, _, _, _, _⟩) (v := undef) rfl (by kernel_rfl) (by kernel_rfl) (by kernel_rfl) (fun _ _ _ h => h) (Or.inr ⟨by rfl, rfl⟩) (by assumption) ?_
                (try simp only [Act.put, List.setIfInBounds_toArray, List.set_cons_zero, List.set_cons_succ])
                refine wpAnyH_take (i := 20) (oi := ⟨some 91, _, _, _, _, _⟩) (v := undef) rfl (by kernel_rfl) (by kernel_rfl) (by kernel_rfl) (fun _ _ _ h => h) (Or.inr ⟨by rfl, rfl⟩) (by assumption) ?_
                (try simp only [Act.put, List.setIfInBounds_toArray, List.set_cons_zero, List.set_cons_succ])
                refine wpAnyH_take (i := 21) (oi := ⟨some 92, _, _, _, _, _⟩) (v := ?_) rfl (by kernel_rfl) (by kernel_rfl) (by kernel_rfl) (fun _ _ _ h => h) (Or.inl ⟨by rfl, ?_⟩) (by assumption) ?_
                rotate_left
                · (intro w hSw; (try dsimp only at hSw); go_simp; (try with_reducible rfl))
                (try simp only [Act.put, List.setIfInBounds_toArray, List.set_cons_zero, List.set_cons_succ])
                refine wpAnyH_take (i := 22) (oi := ⟨some 93, _, _, _, _, _⟩) (v := ?_) rfl (by kernel_rfl) (by kernel_rfl) (by kernel_rfl) (fun _ _ _ h => h) (Or.inl ⟨by rfl, ?_⟩) (by assumption) ?_
                rotate_left
                · (intro w hSw; (try dsimp only at hSw); go_simp; (try with_reducible rfl))
                (try simp only [Act.put, List.setIfInBounds_toArray, List.set_cons_zero, List.set_cons_succ])
                refine wpAnyH_take (i := 23) (oi := ⟨some 2, _, _, _, _, _⟩) (v := ?_) rfl (by kernel_rfl) (by kernel_rfl) (by kernel_rfl) (fun _ _ _ h => h) (Or.inl ⟨by rfl, ?_⟩) (by assumption) ?_
                rotate_left
                · (intro w hSw; (try dsimp only at hSw); go_simp; (try with_reducible rfl))
                (try simp only [Act.put, List.setIfInBounds_toArray, List.set_cons_zero, List.set_cons_succ])
                refine wpAnyH_done (by kernel_rfl) ?_ _
                clear hH0
                go_wp2_with fail
                go_ret
                exact ⟨ret_bool HB.out.symm, S9.out⟩
              · obtain ⟨ad', m', t', g', f', rfl, hb1', hx', hc0', hc1', hc2', hc3'⟩ := R8.out.at_ (k := j) (by omega)
                have HB := hid (hdef.out.trans (head_two hx.out HL'.out hx'.out))
                have p1 := hc1'
                have p2 : w8.cell? ⟨(ad'.add (j * 4)).block, (ad'.add (j * 4)).off + 1 + 1, none⟩ = some (.int .i64 g') := hc2'
                have q1 : IntKind.i64.wrap (j : Int) = (j : Int) := IntWalk.i64_in _ (by omega)
                have q2 : ((j : Int) + 1).toNat = j + 1 := by omega
                have q6 : ¬ ((j : Int) + 1 = 0) := by omega
                have q8 : (0 : Int) ≤ (j : Int) := by omega
                have q9 : (j : Int) < (j : Int) + 1 := by omega
                clear hc0' hc1' hc2' hc3' hc0 hc1 hc2 hc3
                have HLT := hid (show ltE (m', (t', g'), f') (m1, (t, g), false) = ltS (t', g') (t, g) from rfl)
                refine wp_region_held_drew (S := (fun w' => w'.cell? ⟨wb.heap.size, 3, none⟩ = some (.bool false) ∧ w'.cell? ⟨w.heap.size, 3, none⟩ = some (.slice (some ad') (j + 1) d) ∧ w'.cell? ⟨(ad'.add (j * 4)).block, (ad'.add (j * 4)).off + 1, none⟩ = some (.int .i64 t') ∧ w'.cell? ⟨(ad'.add (j * 4)).block, (ad'.add (j * 4)).off + 1 + 1, none⟩ = some (.int .i64 g') ∧ w'.cell? ⟨wb.heap.size, 1, none⟩ = some (.int .i64 t) ∧ w'.cell? ⟨wb.heap.size, 2, none⟩ = some (.int .i64 g))) (by kernel_rfl) ?_ (fun hH0 => ?_)
                · exact ⟨b3, g3, p1, p2, b1, b2⟩
                refine wpAnyH_take (i := 0) (oi := ⟨some 71, _, _, _, _, _⟩) (v := ?_) rfl (by kernel_rfl) (by kernel_rfl) (by kernel_rfl) (fun _ _ _ h => h) (Or.inl ⟨by rfl, ?_⟩) (by assumption) ?_
                rotate_left
                · (intro w hSw; (try dsimp only at hSw); go_simp; (try with_reducible rfl))
                (try simp only [Act.put, List.setIfInBounds_toArray, List.set_cons_zero, List.set_cons_succ])
                refine wpAnyH_take (i := 1) (oi := ⟨some 72, _, _, _, _, _⟩) (v := ?_) rfl (by kernel_rfl) (by kernel_rfl) (by kernel_rfl) (fun _ _ _ h => h) (Or.inl ⟨by rfl, ?_⟩) (by assumption) ?_
                rotate_left
                · (intro w hSw; (try dsimp only at hSw); go_simp; (try with_reducible rfl))
                (try simp only [Act.put, List.setIfInBounds_toArray, List.set_cons_zero, List.set_cons_succ])
                refine wpAnyH_take (i := 2) (oi := ⟨some 73, _, _, _, _, _⟩) (v := ?_) rfl (by kernel_rfl) (by kernel_rfl) (by kernel_rfl) (fun _ _ _ h => h) (Or.inl ⟨by rfl, ?_⟩) (by assumption) ?_
                rotate_left
                · (intro w hSw; (try dsimp only at hSw); go_simp; (try with_reducible rfl))
                (try simp only [Act.put, List.setIfInBounds_toArray, List.set_cons_zero, List.set_cons_succ])
                refine wpAnyH_take (i := 3) (oi := ⟨some 74, _, _, _, _, _⟩) (v := ?_) rfl (by kernel_rfl) (by kernel_rfl) (by kernel_rfl) (fun _ _ _ h => h) (Or.inl ⟨by rfl, ?_⟩) (by assumption) ?_
                rotate_left
                · (intro w hSw; (try dsimp only at hSw); go_simp; (try with_reducible rfl))
                (try simp only [Act.put, List.setIfInBounds_toArray, List.set_cons_zero, List.set_cons_succ])
                refine wpAnyH_take (i := 4) (oi := ⟨some 75, _, _, _, _, _⟩) (v := ?_) rfl (by kernel_rfl) (by kernel_rfl) (by kernel_rfl) (fun _ _ _ h => h) (Or.inl ⟨by rfl, ?_⟩) (by assumption) ?_
                rotate_left
                · (intro w hSw; (try dsimp only at hSw); go_simp; (try with_reducible rfl))
                (try simp only [Act.put, List.setIfInBounds_toArray, List.set_cons_zero, List.set_cons_succ])
                refine wpAnyH_take (i := 5) (oi := ⟨some 76, _, _, _, _, _⟩) (v := ?_) rfl (by kernel_rfl) (by kernel_rfl) (by kernel_rfl) (fun _ _ _ h => h) (Or.inl ⟨by rfl, ?_⟩) (by assumption) ?_
                rotate_left
                · (intro w hSw; (try dsimp only at hSw); go_simp; (try with_reducible rfl))
                (try simp only [Act.put, List.setIfInBounds_toArray, List.set_cons_zero, List.set_cons_succ])
                refine wpAnyH_take (i := 6) (oi := ⟨some 77, _, _, _, _, _⟩) (v := ?_) rfl (by kernel_rfl) (by kernel_rfl) (by kernel_rfl) (fun _ _ _ h => h) (Or.inl ⟨by rfl, ?_⟩) (by assumption) ?_
                rotate_left
                · (intro w hSw; (try dsimp only at hSw); go_simp; (try with_reducible rfl))
                (try simp only [Act.put, List.setIfInBounds_toArray, List.set_cons_zero, List.set_cons_succ])
                refine wpAnyH_take (i := 7) (oi := ⟨some 78, _, _, _, _, _⟩) (v := ?_) rfl (by kernel_rfl) (by kernel_rfl) (by kernel_rfl) (fun _ _ _ h => h) (Or.inl ⟨by rfl, ?_⟩) (by assumption) ?_
                rotate_left
                · (intro w hSw; (try dsimp only at hSw); go_simp; (try with_reducible rfl))
                (try simp only [Act.put, List.setIfInBounds_toArray, List.set_cons_zero, List.set_cons_succ])
                refine wpAnyH_take (i := 8) (oi := ⟨some 79, _, _, _, _, _⟩) (v := ?_) rfl (by kernel_rfl) (by kernel_rfl) (by kernel_rfl) (fun _ _ _ h => h) (Or.inl ⟨by rfl, ?_⟩) (by assumption) ?_
                rotate_left
                · (intro w hSw; (try dsimp only at hSw); go_simp; (try with_reducible rfl))
                (try simp only [Act.put, List.setIfInBounds_toArray, List.set_cons_zero, List.set_cons_succ])
                refine wpAnyH_take (i := 9) (oi := ⟨some 80, _, _, _, _, _⟩) (v := ?_) rfl (by kernel_rfl) (by kernel_rfl) (by kernel_rfl) (fun _ _ _ h => h) (Or.inl ⟨by rfl, ?_⟩) (by assumption) ?_
                rotate_left
                · (intro w hSw; (try dsimp only at hSw); go_simp; (try with_reducible rfl))
                (try simp only [Act.put, List.setIfInBounds_toArray, List.set_cons_zero, List.set_cons_succ])
                refine wpAnyH_take (i := 10) (oi := ⟨some 81, _, _, _, _, _⟩) (v := ?_) rfl (by kernel_rfl) (by kernel_rfl) (by kernel_rfl) (fun _ _ _ h => h) (Or.inl ⟨by rfl, ?_⟩) (by assumption) ?_
                rotate_left
                · (intro w hSw; (try dsimp only at hSw); go_simp; (try with_reducible rfl))
                (try simp only [Act.put, List.setIfInBounds_toArray, List.set_cons_zero, List.set_cons_succ])
                refine wpAnyH_take (i := 11) (oi := ⟨some 82, _, _, _, _, _⟩) (v := ?_) rfl (by kernel_rfl) (by kernel_rfl) (by kernel_rfl) (fun _ _ _ h => h) (Or.inl ⟨by rfl, ?_⟩) (by assumption) ?_
                rotate_left
                · (intro w hSw; (try dsimp only at hSw); go_simp; (try with_reducible rfl))
                (try simp only [Act.put, List.setIfInBounds_toArray, List.set_cons_zero, List.set_cons_succ])
                refine wpAnyH_take (i := 12) (oi := ⟨some 83, _, _, _, _, _⟩) (v := ?_) rfl (by kernel_rfl) (by kernel_rfl) (by kernel_rfl) (fun _ _ _ h => h) (Or.inl ⟨by rfl, ?_⟩) (by assumption) ?_
                rotate_left
                · (intro w hSw; (try dsimp only at hSw); go_simp; (try with_reducible rfl))
                (try simp only [Act.put, List.setIfInBounds_toArray, List.set_cons_zero, List.set_cons_succ])
                refine wpAnyH_take (i := 13) (oi := ⟨some 84, _, _, _, _, _⟩) (v := ?_) rfl (by kernel_rfl) (by kernel_rfl) (by kernel_rfl) (fun _ _ _ h => h) (Or.inl ⟨by rfl, ?_⟩) (by assumption) ?_
                rotate_left
                · (intro w hSw; (try dsimp only at hSw); go_simp; (try with_reducible rfl))
                (try simp only [Act.put, List.setIfInBounds_toArray, List.set_cons_zero, List.set_cons_succ])
                refine wpAnyH_take (i := 14) (oi := ⟨some 85, _, _, _, _, _⟩) (v := ?_) rfl (by kernel_rfl) (by kernel_rfl) (by kernel_rfl) (fun _ _ _ h => h) (Or.inl ⟨by rfl, ?_⟩) (by assumption) ?_
                rotate_left
                · (intro w hSw; (try dsimp only at hSw); go_simp; (try with_reducible rfl))
                (try simp only [Act.put, List.setIfInBounds_toArray, List.set_cons_zero, List.set_cons_succ])
                refine wpAnyH_take (i := 15) (oi := ⟨some 86, _, _, _, _, _⟩) (v := ?_) rfl (by kernel_rfl) (by kernel_rfl) (by kernel_rfl) (fun _ _ _ h => h) (Or.inl ⟨by rfl, ?_⟩) (by assumption) ?_
                rotate_left
                · (intro w hSw; (try dsimp only at hSw); go_simp; (try with_reducible rfl))
                (try simp only [Act.put, List.setIfInBounds_toArray, List.set_cons_zero, List.set_cons_succ])
                refine wpAnyH_take (i := 16) (oi := ⟨some 87, _, _, _, _, _⟩) (v := ?_) rfl (by kernel_rfl) (by kernel_rfl) (by kernel_rfl) (fun _ _ _ h => h) (Or.inl ⟨by rfl, ?_⟩) (by assumption) ?_
                rotate_left
                · (intro w hSw; (try dsimp only at hSw); go_simp; (try with_reducible rfl))
                (try simp only [Act.put, List.setIfInBounds_toArray, List.set_cons_zero, List.set_cons_succ])
                refine wpAnyH_take (i := 17) (oi := ⟨some 88, _, _, _, _, _⟩) (v := ?_) rfl (by kernel_rfl) (by kernel_rfl) (by kernel_rfl) (fun _ _ _ h => h) (Or.inl ⟨by rfl, ?_⟩) (by assumption) ?_
                rotate_left
                · (intro w hSw; (try dsimp only at hSw); go_simp; (try with_reducible rfl))
                (try simp only [Act.put, List.setIfInBounds_toArray, List.set_cons_zero, List.set_cons_succ])
                refine wpAnyH_take (i := 18) (oi := ⟨some 89, _, _, _, _, _⟩) (v := ?_) rfl (by kernel_rfl) (by kernel_rfl) (by kernel_rfl) (fun _ _ _ h => h) (Or.inl ⟨by rfl, ?_⟩) (by assumption) ?_
                rotate_left
                · (intro w hSw; (try dsimp only at hSw); go_simp; (try with_reducible rfl))
                (try simp only [Act.put, List.setIfInBounds_toArray, List.set_cons_zero, List.set_cons_succ])
                refine wpAnyH_take (i := 19) (oi := ⟨some 90, _, _, _, _, _⟩) (v := ?_) rfl (by kernel_rfl) (by kernel_rfl) (by kernel_rfl) (fun _ _ _ h => h) (Or.inl ⟨by rfl, ?_⟩) (by assumption) ?_
                rotate_left
                · (intro w hSw; (try dsimp only at hSw); go_simp; (try with_reducible rfl))
                (try simp only [Act.put, List.setIfInBounds_toArray, List.set_cons_zero, List.set_cons_succ])
                refine wpAnyH_ready (rs := [20]) (by kernel_rfl) (by simp) ?_
                refine AllReadyH.cons (o := ⟨some 91, _, _, _, _, _⟩) rfl (fun K hK => ?_) AllReadyH.nil
                go_simp
                (go_at_call 41; refine (less_any _ _ _ _ _).mono ?_; rintro e w9 ⟨rfl, s9⟩; have U9 := (Dr.st ⟨1, rfl⟩ : St w8 (w8.drewN 1)).trans s9)
                (first | (refine hK.out _ _ ?_ (fun hH1 => ?_)) | (go_wp2_with fail; refine hK.out _ _ ?_ (fun hH1 => ?_)))
                · exact ⟨U9.cell b3, U9.cell g3, U9.cell p1, U9.cell p2, U9.cell b1, U9.cell b2⟩
                clear hK K hH0
                (try simp only [Act.put, List.setIfInBounds_toArray, List.set_cons_zero, List.set_cons_succ])
                refine wpAnyH_take (i := 21) (oi := ⟨some 92, _, _, _, _, _⟩) (v := ?_) rfl (by kernel_rfl) (by kernel_rfl) (by kernel_rfl) (fun _ _ _ h => h) (Or.inl ⟨by rfl, ?_⟩) (by assumption) ?_
                rotate_left
                · (intro w hSw; (try dsimp only at hSw); go_simp; (try with_reducible rfl))
                (try simp only [Act.put, List.setIfInBounds_toArray, List.set_cons_zero, List.set_cons_succ])
                refine wpAnyH_take (i := 22) (oi := ⟨some 93, _, _, _, _, _⟩) (v := ?_) rfl (by kernel_rfl) (by kernel_rfl) (by kernel_rfl) (fun _ _ _ h => h) (Or.inl ⟨by rfl, ?_⟩) (by assumption) ?_
                rotate_left
                · (intro w hSw; (try dsimp only at hSw); go_simp; (try with_reducible rfl))
                (try simp only [Act.put, List.setIfInBounds_toArray, List.set_cons_zero, List.set_cons_succ])
                refine wpAnyH_take (i := 23) (oi := ⟨some 2, _, _, _, _, _⟩) (v := ?_) rfl (by kernel_rfl) (by kernel_rfl) (by kernel_rfl) (fun _ _ _ h => h) (Or.inl ⟨by rfl, ?_⟩) (by assumption) ?_
                rotate_left
                · (intro w hSw; (try dsimp only at hSw); go_simp; (try with_reducible rfl))
                (try simp only [Act.put, List.setIfInBounds_toArray, List.set_cons_zero, List.set_cons_succ])
                refine wpAnyH_done (by kernel_rfl) ?_ _
                clear hH1
                have S10 := hid (S8.out.trans U9)
                go_wp2_with fail
                go_ret
                exact ⟨ret_bool ((HB.out.trans (by rw [HLT.out]; rfl)).symm), S10.out⟩
            · have HB := hid (hdef.out.trans (head_fin hx.out))
              refine wp_region_held_drew (S := (fun w' => w'.cell? ⟨wb.heap.size, 3, none⟩ = some (.bool true))) (by kernel_rfl) ?_ (fun hH0 => ?_)
              · exact b3
              refine wpAnyH_take (i := 0) (oi := ⟨some 71, _, _, _, _, _⟩) (v := ?_) rfl (by kernel_rfl) (by kernel_rfl) (by kernel_rfl) (fun _ _ _ h => h) (Or.inl ⟨by rfl, ?_⟩) (by assumption) ?_
              rotate_left
              · (intro w hSw; (try dsimp only at hSw); go_simp; (try with_reducible rfl))
              (try simp only [Act.put, List.setIfInBounds_toArray, List.set_cons_zero, List.set_cons_succ])
              refine wpAnyH_take (i := 1) (oi := ⟨some 72, _, _, _, _, _⟩) (v := ?_) rfl (by kernel_rfl) (by kernel_rfl) (by kernel_rfl) (fun _ _ _ h => h) (Or.inl ⟨by rfl, ?_⟩) (by assumption) ?_
              rotate_left
              · (intro w hSw; (try dsimp only at hSw); go_simp; (try with_reducible rfl))
              (try simp only [Act.put, List.setIfInBounds_toArray, List.set_cons_zero, List.set_cons_succ])
              refine wpAnyH_take (i := 2) (oi := ⟨some 73, _, _, _, _, _⟩) (v := ?_) rfl (by kernel_rfl) (by kernel_rfl) (by kernel_rfl) (fun _ _ _ h => h) (Or.inl ⟨by rfl, ?_⟩) (by assumption) ?_
              rotate_left
              · (intro w hSw; (try dsimp only at hSw); go_simp; (try with_reducible rfl))
              (try simp only [Act.put, List.setIfInBounds_toArray, List.set_cons_zero, List.set_cons_succ])
              refine wpAnyH_take (i := 3) (oi := ⟨some 74, _, _, _, _, _⟩) (v := ?_) rfl (by kernel_rfl) (by kernel_rfl) (by kernel_rfl) (fun _ _ _ h => h) (Or.inl ⟨by rfl, ?_⟩) (by assumption) ?_
              rotate_left
              · (intro w hSw; (try dsimp only at hSw); go_simp; (try with_reducible rfl))
              (try simp only [Act.put, List.setIfInBounds_toArray, List.set_cons_zero, List.set_cons_succ])
              refine wpAnyH_take (i := 4) (oi := ⟨some 75, _, _, _, _, _⟩) (v := undef) rfl (by kernel_rfl) (by kernel_rfl) (by kernel_rfl) (fun _ _ _ h => h) (Or.inr ⟨by rfl, rfl⟩) (by assumption) ?_
              (try simp only [Act.put, List.setIfInBounds_toArray, List.set_cons_zero, List.set_cons_succ])
              refine wpAnyH_take (i := 5) (oi := ⟨some 76, _, _, _, _, _⟩) (v := undef) rfl (by kernel_rfl) (by kernel_rfl) (by kernel_rfl) (fun _ _ _ h => h) (Or.inr ⟨by rfl, rfl⟩) (by assumption) ?_
              (try simp only [Act.put, List.setIfInBounds_toArray, List.set_cons_zero, List.set_cons_succ])
              refine wpAnyH_take (i := 6) (oi := ⟨some 77, _, _, _, _, _⟩) (v := undef) rfl (by kernel_rfl) (by kernel_rfl) (by kernel_rfl) (fun _ _ _ h => h) (Or.inr ⟨by rfl, rfl⟩) (by assumption) ?_
              (try simp only [Act.put, List.setIfInBounds_toArray, List.set_cons_zero, List.set_cons_succ])
              refine wpAnyH_take (i := 7) (oi := ⟨some 78, _, _, _, _, _⟩) (v := undef) rfl (by kernel_rfl) (by kernel_rfl) (by kernel_rfl) (fun _ _ _ h => h) (Or.inr ⟨by rfl, rfl⟩) (by assumption) ?_
              (try simp only [Act.put, List.setIfInBounds_toArray, List.set_cons_zero, List.set_cons_succ])
              refine wpAnyH_take (i := 8) (oi := ⟨some 79, _, _, _, _, _⟩) (v := undef) rfl (by kernel_rfl) (by kernel_rfl) (by kernel_rfl) (fun _ _ _ h => h) (Or.inr ⟨by rfl, rfl⟩) (by assumption) ?_
              (try simp only [Act.put, List.setIfInBounds_toArray, List.set_cons_zero, List.set_cons_succ])
              refine wpAnyH_take (i := 9) (oi := ⟨some 80, _, _, _, _, _⟩) (v := undef) rfl (by kernel_rfl) (by kernel_rfl) (by kernel_rfl) (fun _ _ _ h => h) (Or.inr ⟨by rfl, rfl⟩) (by assumption) ?_
              (try simp only [Act.put, List.setIfInBounds_toArray, List.set_cons_zero, List.set_cons_succ])
              refine wpAnyH_take (i := 10) (oi := ⟨some 81, _, _, _, _, _⟩) (v := undef) rfl (by kernel_rfl) (by kernel_rfl) (by kernel_rfl) (fun _ _ _ h => h) (Or.inr ⟨by rfl, rfl⟩) (by assumption) ?_
              (try simp only [Act.put, List.setIfInBounds_toArray, List.set_cons_zero, List.set_cons_succ])
              refine wpAnyH_take (i := 11) (oi := ⟨some 82, _, _, _, _, _⟩) (v := undef) rfl (by kernel_rfl) (by kernel_rfl) (by kernel_rfl) (fun _ _ _ h => h) (Or.inr ⟨by rfl, rfl⟩) (by assumption) ?_
              (try simp only [Act.put, List.setIfInBounds_toArray, List.set_cons_zero, List.set_cons_succ])
              refine wpAnyH_take (i := 12) (oi := ⟨some 83, _, _, _, _, _⟩) (v := undef) rfl (by kernel_rfl) (by kernel_rfl) (by kernel_rfl) (fun _ _ _ h => h) (Or.inr ⟨by rfl, rfl⟩) (by assumption) ?_
              (try simp only [Act.put, List.setIfInBounds_toArray, List.set_cons_zero, List.set_cons_succ])
              refine wpAnyH_take (i := 13) (oi := ⟨some 84, _, _, _, _, _⟩) (v := undef) rfl (by kernel_rfl) (by kernel_rfl) (by kernel_rfl) (fun _ _ _ h => h) (Or.inr ⟨by rfl, rfl⟩) (by assumption) ?_
              (try simp only [Act.put, List.setIfInBounds_toArray, List.set_cons_zero, List.set_cons_succ])
              refine wpAnyH_take (i := 14) (oi := ⟨some 85, _, _, _, _, _⟩) (v := undef) rfl (by kernel_rfl) (by kernel_rfl) (by kernel_rfl) (fun _ _ _ h => h) (Or.inr ⟨by rfl, rfl⟩) (by assumption) ?_
              (try simp only [Act.put, List.setIfInBounds_toArray, List.set_cons_zero, List.set_cons_succ])
              refine wpAnyH_take (i := 15) (oi := ⟨some 86, _, _, _, _, _⟩) (v := undef) rfl (by kernel_rfl) (by kernel_rfl) (by kernel_rfl) (fun _ _ _ h => h) (Or.inr ⟨by rfl, rfl⟩) (by assumption) ?_
              (try simp only [Act.put, List.setIfInBounds_toArray, List.set_cons_zero, List.set_cons_succ])
              refine wpAnyH_take (i := 16) (oi := ⟨some 87, _, _, _, _, _⟩) (v := undef) rfl (by kernel_rfl) (by kernel_rfl) (by kernel_rfl) (fun _ _ _ h => h) (Or.inr ⟨by rfl, rfl⟩) (by assumption) ?_
              (try simp only [Act.put, List.setIfInBounds_toArray, List.set_cons_zero, List.set_cons_succ])
              refine wpAnyH_take (i := 17) (oi := ⟨some 88, _, _, _, _, _⟩) (v := undef) rfl (by kernel_rfl) (by kernel_rfl) (by kernel_rfl) (fun _ _ _ h => h) (Or.inr ⟨by rfl, rfl⟩) (by assumption) ?_
              (try simp only [Act.put, List.setIfInBounds_toArray, List.set_cons_zero, List.set_cons_succ])
              refine wpAnyH_take (i := 18) (oi := ⟨some 89, _, _, _, _, _⟩) (v := undef) rfl (by kernel_rfl) (by kernel_rfl) (by kernel_rfl) (fun _ _ _ h => h) (Or.inr ⟨by rfl, rfl⟩) (by assumption) ?_
              (try simp only [Act.put, List.setIfInBounds_toArray, List.set_cons_zero, List.set_cons_succ])
              refine wpAnyH_take (i := 19) (oi := ⟨some 90, _, _, _, _, _⟩) (v := undef) rfl (by kernel_rfl) (by kernel_rfl) (by kernel_rfl) (fun _ _ _ h => h) (Or.inr ⟨by rfl, rfl⟩) (by assumption) ?_
              (try simp only [Act.put, List.setIfInBounds_toArray, List.set_cons_zero, List.set_cons_succ])
              refine wpAnyH_take (i := 20) (oi := ⟨some 91, _, _, _, _, _⟩) (v := undef) rfl (by kernel_rfl) (by kernel_rfl) (by kernel_rfl) (fun _ _ _ h => h) (Or.inr ⟨by rfl, rfl⟩) (by assumption) ?_
              (try simp only [Act.put, List.setIfInBounds_toArray, List.set_cons_zero, List.set_cons_succ])
              refine wpAnyH_take (i := 21) (oi := ⟨some 92, _, _, _, _, _⟩) (v := undef) rfl (by kernel_rfl) (by kernel_rfl) (by kernel_rfl) (fun _ _ _ h => h) (Or.inr ⟨by rfl, rfl⟩) (by assumption) ?_
              (try simp only [Act.put, List.setIfInBounds_toArray, List.set_cons_zero, List.set_cons_succ])
              refine wpAnyH_take (i := 22) (oi := ⟨some 93, _, _, _, _, _⟩) (v := ?_) rfl (by kernel_rfl) (by kernel_rfl) (by kernel_rfl) (fun _ _ _ h => h) (Or.inl ⟨by rfl, ?_⟩) (by assumption) ?_
              rotate_left
              · (intro w hSw; (try dsimp only at hSw); go_simp; (try with_reducible rfl))
              (try simp only [Act.put, List.setIfInBounds_toArray, List.set_cons_zero, List.set_cons_succ])
              refine wpAnyH_take (i := 23) (oi := ⟨some 2, _, _, _, _, _⟩) (v := ?_) rfl (by kernel_rfl) (by kernel_rfl) (by kernel_rfl) (fun _ _ _ h => h) (Or.inl ⟨by rfl, ?_⟩) (by assumption) ?_
              rotate_left
              · (intro w hSw; (try dsimp only at hSw); go_simp; (try with_reducible rfl))
              (try simp only [Act.put, List.setIfInBounds_toArray, List.set_cons_zero, List.set_cons_succ])
              refine wpAnyH_done (by kernel_rfl) ?_ _
              clear hH0
              go_wp2_with fail
              go_ret
              exact ⟨ret_bool HB.out.symm, S9.out⟩
end Go.Proofs.Ytkhgemgmnchodaa
