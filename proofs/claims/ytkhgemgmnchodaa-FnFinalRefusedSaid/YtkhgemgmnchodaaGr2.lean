/- Entries in the program: indexOf, areEntries. -/
import Derived.Test.YtkhgemgmnchodaaGr1
namespace Go.Proofs.Ytkhgemgmnchodaa
open Go.RowKit Go.Sort
/-- The place of a message, or -1. -/
def idxI (es : List Ent) (m : Int) : Int := match es.findIdx? (fun e => e.1 == m) with
  | some k => (k : Int)
  | none => -1
theorem idx_no {es : List Ent} {m : Int} (h : m ∉ msgs es) : idxI es m = -1 ∧ findE es m = none := by
  refine ⟨?_, find_none.2 h⟩
  have : es.findIdx? (fun e => e.1 == m) = none := by
    rw [List.findIdx?_eq_none_iff]
    intro e he
    cases hq : (e.1 == m)
    · rfl
    · exfalso; apply h; simp at hq; rw [← hq]; exact List.mem_map_of_mem he
  unfold idxI
  rw [this]
theorem idx_hit {es : List Ent} {m : Int} {k : Nat} {e : Ent} (h : es[k]? = some e) (he : e.1 = m) (hn : m ∉ msgs (es.take k)) : idxI es m = (k : Int) ∧ findE es m = some e := by
  have hk := (List.getElem?_eq_some_iff.1 h).1
  have hs : es = es.take k ++ e :: es.drop (k + 1) := by
    have := (List.getElem?_eq_some_iff.1 h).2
    rw [← this, List.getElem_cons_drop, List.take_append_drop]
  have h1 : (es.take k).findIdx? (fun e => e.1 == m) = none := by
    rw [List.findIdx?_eq_none_iff]
    intro x hx
    cases hq : (x.1 == m)
    · rfl
    · exfalso; apply hn; simp at hq; rw [← hq]; exact List.mem_map_of_mem hx
  constructor
  · have h2 : es.findIdx? (fun e => e.1 == m) = some k := by
      rw [hs, List.findIdx?_append, h1]
      have : (e.1 == m) = true := by simpa using he
      rw [List.findIdx?_cons, this]
      simp
      omega
    unfold idxI
    rw [h2]
  · have h3 : (es.take k).find? (fun e => e.1 == m) = none := by
      rw [List.findIdx?_eq_none_iff] at h1
      rw [List.find?_eq_none]
      intro x hx
      have := h1 x hx
      simpa using this
    unfold findE
    rw [hs, List.find?_append, h3]
    have : (e.1 == m) = true := by simpa using he
    rw [List.find?_cons, this]
    rfl
theorem msgs_take {es : List Ent} {k : Nat} {e : Ent} {m : Int} (h : es[k]? = some e) (he : e.1 ≠ m) (hn : m ∉ msgs (es.take k)) : m ∉ msgs (es.take (k + 1)) := by
  rw [take_snoc h, msgs, List.map_append, List.mem_append, not_or]
  refine ⟨hn, ?_⟩
  simp
  exact fun h => he h.symm
/-- What a search can come to. -/
theorem idx_cases (es : List Ent) (m : Int) : (idxI es m = -1 ∧ findE es m = none ∧ m ∉ msgs es) ∨ ∃ k e, k < es.length ∧ es[k]? = some e ∧ e.1 = m ∧ idxI es m = (k : Int) ∧ findE es m = some e := by
  by_cases h : m ∈ msgs es
  · right
    have hsome : (es.findIdx? (fun e => e.1 == m)).isSome = true := by
      rw [List.findIdx?_isSome, List.any_eq_true]
      obtain ⟨e, he, hm⟩ := List.mem_map.1 h
      exact ⟨e, he, by simpa using hm⟩
    obtain ⟨k, hk⟩ := Option.isSome_iff_exists.1 hsome
    rw [List.findIdx?_eq_some_iff_getElem] at hk
    obtain ⟨hlt, h1, h2⟩ := hk
    have hke : es[k]? = some es[k] := List.getElem?_eq_getElem hlt
    have hm : es[k].1 = m := by simpa using h1
    have hno : m ∉ msgs (es.take k) := by
      intro hc
      obtain ⟨e, he, hem⟩ := List.mem_map.1 hc
      obtain ⟨j, hj⟩ := List.getElem?_of_mem he
      rw [List.getElem?_take] at hj
      split at hj
      · rename_i hjk
        obtain ⟨hj1, hj2⟩ := List.getElem?_eq_some_iff.1 hj
        have := h2 j hjk
        rw [hj2] at this
        simp [hem] at this
      · cases hj
    obtain ⟨h3, h4⟩ := idx_hit hke hm hno
    exact ⟨k, _, hlt, hke, hm, h3, h4⟩
  · obtain ⟨h1, h2⟩ := idx_no h
    exact .inl ⟨h1, h2, h⟩
set_option maxHeartbeats 1000000 in
theorem indexOf_any (A : Option Addr) (n c : Nat) (es : List Ent) (m : Int) (w : World) (h : SE w A n c es) :
    Calls Try.prog 40 #[.slice A n c, .int .i64 m] w fun e w' => e = .returned (.int .i64 (idxI es m)) ∧ St w w' := by
  have HL := hid h.len
  have hnc := h.nc
  have hcm := h.cm
  unfold maxLen at hcm
  go_enter Try.func40, Try.ntmps40
  go_wp2_with fail
  go_loopw [9] (fun i wr => ∃ k : Nat, k ≤ n ∧ i = .int .i64 k ∧ Hid (m ∉ msgs (es.take k)) ∧ Hid (St w wr)) (fun i _ => n - (intOf i).toNat)
  case atStart => exact ⟨0, Nat.zero_le _, rfl, hid (by simp [msgs]), St.refl _⟩
  case round =>
    obtain ⟨k, hk, rfl, hno, hd⟩ := hrel
    by_cases hlt : k < n
    · have h1 := h.st hd.out
      obtain ⟨ad, m1, t, g, f, rfl, hb1, hx, hc0, hc1, hc2, hc3⟩ := h1.at_ hlt
      have S2 := hid (hd.out.alloc (.cells #[.int .i64 m1, .int .i64 t, .int .i64 g, .bool f] 34))
      have hki : (0 : Int) ≤ (k : Int) := by omega
      have hki2 : (k : Int) < (n : Int) := by omega
      cases hm : (m1 == m)
      · have HN := hid (msgs_take hx.out (show m1 ≠ m by simpa using hm) hno.out)
        go_wp2_with fail
        go_roundw
        case rel => exact ⟨k + 1, by omega, by go_num, HN, S2⟩
        case measure => simp [intOf]; omega
      · have HI := hid (idx_hit hx.out (show m1 = m by simpa using hm) hno.out).1
        go_wp2_with fail
        go_ret
        exact ⟨ret_int HI.out.symm, S2.out⟩
    · obtain rfl : k = n := by omega
      have HN := hid (show m ∉ msgs es by have := hno.out; rwa [List.take_of_length_le (by rw [HL.out]; omega)] at this)
      go_wp2_with fail
      go_ret
      exact ⟨ret_int (idx_no HN.out).1.symm, hd.out⟩
theorem lok_take {I K : Int} {es : List Ent} {k : Nat} {e : Ent} (h : es[k]? = some e) (hk : listOk I K (es.take k) = true) : listOk I K (es.take (k + 1)) = true ↔ entOk I K e = true ∧ ∀ j p, k = j + 1 → es[j]? = some p → ltE p e = true := by
  simp only [listOk, Bool.and_eq_true, decide_eq_true_eq] at hk ⊢
  rw [asc_take h, take_snoc h, List.all_append, hk.1]
  simp only [List.all_cons, List.all_nil, Bool.and_true, Bool.true_and, hk.2, true_and]
theorem lok_bad {I K : Int} {es : List Ent} {k : Nat} (h : ¬ listOk I K (es.take k) = true) : listOk I K es = false := by
  cases hl : listOk I K es
  · rfl
  · exfalso
    apply h
    simp only [listOk, Bool.and_eq_true, decide_eq_true_eq, List.all_eq_true] at hl ⊢
    exact ⟨fun x hx => hl.1 x (List.mem_of_mem_take hx), hl.2.sublist (List.take_sublist _ _)⟩
theorem lok_ent {I K : Int} {es : List Ent} {k : Nat} {e : Ent} (h : es[k]? = some e) (he : entOk I K e = false) : listOk I K es = false := by
  refine lok_bad (k := k + 1) fun hl => ?_
  simp only [listOk, Bool.and_eq_true, List.all_eq_true] at hl
  have := hl.1 e (by rw [take_snoc h]; simp)
  rw [he] at this
  cases this
theorem lok_lt {I K : Int} {es : List Ent} {k : Nat} {p e : Ent} (h : es[k + 1]? = some e) (hp : es[k]? = some p) (hl : ltE p e = false) : listOk I K es = false := by
  cases hc : listOk I K es
  · rfl
  · simp only [listOk, Bool.and_eq_true, decide_eq_true_eq] at hc
    obtain ⟨h1, e1⟩ := List.getElem?_eq_some_iff.1 h
    obtain ⟨h2, e2⟩ := List.getElem?_eq_some_iff.1 hp
    have := List.pairwise_iff_getElem.1 hc.2 k (k + 1) h2 h1 (by omega)
    rw [e1, e2, hl] at this
    cases this
set_option maxRecDepth 100000 in
set_option maxHeartbeats 4000000 in
theorem areEntries_any (I K : Int) (A1 B1 A : Option Addr) (n1 c1 m1 d1 n c : Nat) (es : List Ent) (w : World) (h : SE w A n c es) :
    Calls Try.prog 54 #[grV I K A1 n1 c1 B1 m1 d1, .slice A n c] w fun e w' => e = .returned (.bool (listOk I K es)) ∧ St w w' := by
  have HL := hid h.len
  have hnc := h.nc
  have hcm := h.cm
  unfold maxLen at hcm
  have s0 := (St.refl w).alloc (.cells (grC I K A1 n1 c1 B1 m1 d1) 25)
  have S0 := hid s0
  have K0 := hid (Blk.new w 25 (grC I K A1 n1 c1 B1 m1 d1))
  clear s0
  go_enter Try.func54, Try.ntmps54
  go_wp2_with fail
  generalize w.alloc (.cells _ 25) = w1 at *
  go_loopw [9] (fun i wr => ∃ k : Nat, k ≤ n ∧ i = .int .i64 k ∧ Hid (listOk I K (es.take k) = true) ∧ Hid (St w1 wr)) (fun i _ => n - (intOf i).toNat)
  case atStart => exact ⟨0, Nat.zero_le _, rfl, hid rfl, St.refl _⟩
  case round =>
    obtain ⟨k, hk, rfl, hno, hd⟩ := hrel
    by_cases hlt : k < n
    · have HW := hid (h.st (S0.out.trans hd.out))
      obtain ⟨ad, m, t, g, f, rfl, hb1, hx, hc0, hc1, hc2, hc3⟩ := HW.out.at_ hlt
      have s2 := (St.refl wr).alloc (.cells #[.int .i64 m, .int .i64 t, .int .i64 g, .bool f] 34)
      have B2 := hid (Blk.new wr 34 #[.int .i64 m, .int .i64 t, .int .i64 g, .bool f])
      have K2 := hid ((K0.out.st hd.out).st s2)
      have S2 := hid (hd.out.trans s2)
      have T2 := hid s2
      clear s2
      have hki : (0 : Int) ≤ (k : Int) := by omega
      have hki2 : (k : Int) < (n : Int) := by omega
      have HE := hid (show entOk I K (m, (t, g), f) = (isMsg m && (stOk (t, g) && (decide (t ≤ K) && (f || g == I)))) from rfl)
      cases hm : isMsg m
      · have HB := hid (lok_ent hx.out (HE.out.trans (by rw [hm]; rfl)))
        go_wp2_with fail
        refine (isMessage_any _ _).mono ?_
        rintro e w3 ⟨rfl, rfl⟩
        rw [hm]
        go_wp2_with fail
        go_ret
        exact ⟨ret_bool HB.out.symm, S0.out.trans S2.out⟩
      cases hv : stOk (t, g)
      · have HB := hid (lok_ent hx.out (HE.out.trans (by rw [hm, hv]; rfl)))
        go_wp2_with fail
        refine (isMessage_any _ _).mono ?_
        rintro e w3 ⟨rfl, rfl⟩
        rw [hm]
        clear hm
        go_wp2_with fail
        refine (StampValid_any _ _ _).mono ?_
        rintro e w3 ⟨rfl, s3⟩
        rw [hv]
        go_wp2_with fail
        go_ret
        exact ⟨ret_bool HB.out.symm, (S0.out.trans S2.out).trans s3⟩
      by_cases ht : t ≤ K
      rotate_left
      · have HB := hid (lok_ent hx.out (HE.out.trans (by rw [hm, hv]; simp [ht])))
        have ht2 : K < t := by omega
        go_wp2_with fail
        refine (isMessage_any _ _).mono ?_
        rintro e w3 ⟨rfl, rfl⟩
        rw [hm]
        go_wp2_with fail
        refine (StampValid_any _ _ _).mono ?_
        rintro e w3 ⟨rfl, s3⟩
        rw [hv]
        have B3 := hid (B2.out.st s3)
        have K3 := hid (K2.out.st s3)
        have S3 := hid (S2.out.trans s3)
        have T3 := hid (T2.out.trans s3)
        have b0 := B3.out.cell_ (i := 0) (v := .int .i64 m) rfl
        have b1 := B3.out.cell_ (i := 1) (v := .int .i64 t) rfl
        have b2 := B3.out.cell_ (i := 2) (v := .int .i64 g) rfl
        have b3 := B3.out.cell_ (i := 3) (v := .bool f) rfl
        have k0 := K3.out.cell_ (i := 0) (v := .int .i64 I) rfl
        have k1 := K3.out.cell_ (i := 1) (v := .int .i64 K) rfl
        clear hm hv
        go_wp2_with fail
        go_ret
        exact ⟨ret_bool HB.out.symm, S0.out.trans S3.out⟩
      have ht2 : ¬ K < t := by omega
      have hdt : decide (t ≤ K) = true := decide_eq_true ht
      cases hf : (f || g == I)
      · have HB := hid (lok_ent hx.out (HE.out.trans (by rw [hm, hv, hdt, hf]; rfl)))
        obtain ⟨hf1, hf2⟩ : f = false ∧ (g == I) = false := by simpa using hf
        subst hf1
        have hf3 := neq_of hf2
        clear hf
        go_wp2_with fail
        refine (isMessage_any _ _).mono ?_
        rintro e w3 ⟨rfl, rfl⟩
        rw [hm]
        go_wp2_with fail
        refine (StampValid_any _ _ _).mono ?_
        rintro e w3 ⟨rfl, s3⟩
        rw [hv]
        have B3 := hid (B2.out.st s3)
        have K3 := hid (K2.out.st s3)
        have S3 := hid (S2.out.trans s3)
        have T3 := hid (T2.out.trans s3)
        have b0 := B3.out.cell_ (i := 0) (v := .int .i64 m) rfl
        have b1 := B3.out.cell_ (i := 1) (v := .int .i64 t) rfl
        have b2 := B3.out.cell_ (i := 2) (v := .int .i64 g) rfl
        have b3 := B3.out.cell_ (i := 3) (v := .bool false) rfl
        have k0 := K3.out.cell_ (i := 0) (v := .int .i64 I) rfl
        have k1 := K3.out.cell_ (i := 1) (v := .int .i64 K) rfl
        clear hm hv hdt ht
        go_wp2_with fail
        go_ret
        exact ⟨ret_bool HB.out.symm, S0.out.trans S3.out⟩
      have HEK := hid (HE.out.trans (by rw [hm, hv, hdt, hf]; rfl : _ = true))
      have hgd : f = true ∨ (f = false ∧ (g != I) = false) := by
        cases f
        · right; refine ⟨rfl, ?_⟩; rw [neq_of (x := g) (y := I) (b := true) (by simpa using hf)]; rfl
        · exact .inl rfl
      clear hf hdt ht
      rcases hgd with rfl | ⟨rfl, hgi⟩
      · skip
        go_wp2_with fail
        refine (isMessage_any _ _).mono ?_
        rintro e w3 ⟨rfl, rfl⟩
        rw [hm]
        go_wp2_with fail
        refine (StampValid_any _ _ _).mono ?_
        rintro e w3 ⟨rfl, s3⟩
        rw [hv]
        have B3 := hid (B2.out.st s3)
        have K3 := hid (K2.out.st s3)
        have S3 := hid (S2.out.trans s3)
        have T3 := hid (T2.out.trans s3)
        have b0 := B3.out.cell_ (i := 0) (v := .int .i64 m) rfl
        have b1 := B3.out.cell_ (i := 1) (v := .int .i64 t) rfl
        have b2 := B3.out.cell_ (i := 2) (v := .int .i64 g) rfl
        have b3 := B3.out.cell_ (i := 3) (v := .bool true) rfl
        have k0 := K3.out.cell_ (i := 0) (v := .int .i64 I) rfl
        have k1 := K3.out.cell_ (i := 1) (v := .int .i64 K) rfl
        clear hm hv
        rcases k with _ | j
        · have HN := hid ((lok_take hx.out hno.out).2 ⟨HEK.out, fun j p hj => by omega⟩)
          have hz : decide ((0 : Int) < ((0 : Nat) : Int)) = false := by simp
          go_wp2_with fail
          refine wp_region_held_drew (S := (fun _ => True)) (by kernel_rfl) ?_ (fun hH0 => ?_)
          · trivial
          refine wpAnyH_take (i := 0) (oi := ⟨some 45, _, _, _, _, _⟩) (v := ?_) rfl (by kernel_rfl) (by kernel_rfl) (by kernel_rfl) (fun _ _ _ h => h) (Or.inl ⟨by rfl, ?_⟩) (by assumption) ?_
          rotate_left
          · (intro w hSw; (try dsimp only at hSw); go_simp; (try with_reducible rfl))
          (try simp only [Act.put, List.setIfInBounds_toArray, List.set_cons_zero, List.set_cons_succ])
          refine wpAnyH_take (i := 1) (oi := ⟨some 46, _, _, _, _, _⟩) (v := ?_) rfl (by kernel_rfl) (by kernel_rfl) (by kernel_rfl) (fun _ _ _ h => h) (Or.inl ⟨by rfl, ?_⟩) (by assumption) ?_
          rotate_left
          · (intro w hSw; (try dsimp only at hSw); go_simp; (try with_reducible rfl))
          (try simp only [Act.put, List.setIfInBounds_toArray, List.set_cons_zero, List.set_cons_succ])
          refine wpAnyH_take (i := 2) (oi := ⟨some 47, _, _, _, _, _⟩) (v := ?_) rfl (by kernel_rfl) (by kernel_rfl) (by kernel_rfl) (fun _ _ _ h => h) (Or.inl ⟨by rfl, ?_⟩) (by assumption) ?_
          rotate_left
          · (intro w hSw; (try dsimp only at hSw); go_simp; (try with_reducible rfl))
          (try simp only [Act.put, List.setIfInBounds_toArray, List.set_cons_zero, List.set_cons_succ])
          refine wpAnyH_take (i := 3) (oi := ⟨some 48, _, _, _, _, _⟩) (v := undef) rfl (by kernel_rfl) (by kernel_rfl) (by kernel_rfl) (fun _ _ _ h => h) (Or.inr ⟨by rfl, rfl⟩) (by assumption) ?_
          (try simp only [Act.put, List.setIfInBounds_toArray, List.set_cons_zero, List.set_cons_succ])
          refine wpAnyH_take (i := 4) (oi := ⟨some 49, _, _, _, _, _⟩) (v := undef) rfl (by kernel_rfl) (by kernel_rfl) (by kernel_rfl) (fun _ _ _ h => h) (Or.inr ⟨by rfl, rfl⟩) (by assumption) ?_
          (try simp only [Act.put, List.setIfInBounds_toArray, List.set_cons_zero, List.set_cons_succ])
          refine wpAnyH_take (i := 5) (oi := ⟨some 50, _, _, _, _, _⟩) (v := undef) rfl (by kernel_rfl) (by kernel_rfl) (by kernel_rfl) (fun _ _ _ h => h) (Or.inr ⟨by rfl, rfl⟩) (by assumption) ?_
          (try simp only [Act.put, List.setIfInBounds_toArray, List.set_cons_zero, List.set_cons_succ])
          refine wpAnyH_take (i := 6) (oi := ⟨some 51, _, _, _, _, _⟩) (v := undef) rfl (by kernel_rfl) (by kernel_rfl) (by kernel_rfl) (fun _ _ _ h => h) (Or.inr ⟨by rfl, rfl⟩) (by assumption) ?_
          (try simp only [Act.put, List.setIfInBounds_toArray, List.set_cons_zero, List.set_cons_succ])
          refine wpAnyH_take (i := 7) (oi := ⟨some 52, _, _, _, _, _⟩) (v := undef) rfl (by kernel_rfl) (by kernel_rfl) (by kernel_rfl) (fun _ _ _ h => h) (Or.inr ⟨by rfl, rfl⟩) (by assumption) ?_
          (try simp only [Act.put, List.setIfInBounds_toArray, List.set_cons_zero, List.set_cons_succ])
          refine wpAnyH_take (i := 8) (oi := ⟨some 53, _, _, _, _, _⟩) (v := undef) rfl (by kernel_rfl) (by kernel_rfl) (by kernel_rfl) (fun _ _ _ h => h) (Or.inr ⟨by rfl, rfl⟩) (by assumption) ?_
          (try simp only [Act.put, List.setIfInBounds_toArray, List.set_cons_zero, List.set_cons_succ])
          refine wpAnyH_take (i := 9) (oi := ⟨some 54, _, _, _, _, _⟩) (v := undef) rfl (by kernel_rfl) (by kernel_rfl) (by kernel_rfl) (fun _ _ _ h => h) (Or.inr ⟨by rfl, rfl⟩) (by assumption) ?_
          (try simp only [Act.put, List.setIfInBounds_toArray, List.set_cons_zero, List.set_cons_succ])
          refine wpAnyH_take (i := 10) (oi := ⟨some 55, _, _, _, _, _⟩) (v := undef) rfl (by kernel_rfl) (by kernel_rfl) (by kernel_rfl) (fun _ _ _ h => h) (Or.inr ⟨by rfl, rfl⟩) (by assumption) ?_
          (try simp only [Act.put, List.setIfInBounds_toArray, List.set_cons_zero, List.set_cons_succ])
          refine wpAnyH_take (i := 11) (oi := ⟨some 56, _, _, _, _, _⟩) (v := undef) rfl (by kernel_rfl) (by kernel_rfl) (by kernel_rfl) (fun _ _ _ h => h) (Or.inr ⟨by rfl, rfl⟩) (by assumption) ?_
          (try simp only [Act.put, List.setIfInBounds_toArray, List.set_cons_zero, List.set_cons_succ])
          refine wpAnyH_take (i := 12) (oi := ⟨some 57, _, _, _, _, _⟩) (v := undef) rfl (by kernel_rfl) (by kernel_rfl) (by kernel_rfl) (fun _ _ _ h => h) (Or.inr ⟨by rfl, rfl⟩) (by assumption) ?_
          (try simp only [Act.put, List.setIfInBounds_toArray, List.set_cons_zero, List.set_cons_succ])
          refine wpAnyH_take (i := 13) (oi := ⟨some 58, _, _, _, _, _⟩) (v := ?_) rfl (by kernel_rfl) (by kernel_rfl) (by kernel_rfl) (fun _ _ _ h => h) (Or.inl ⟨by rfl, ?_⟩) (by assumption) ?_
          rotate_left
          · (intro w hSw; (try dsimp only at hSw); go_simp; (try with_reducible rfl))
          (try simp only [Act.put, List.setIfInBounds_toArray, List.set_cons_zero, List.set_cons_succ])
          refine wpAnyH_done (by kernel_rfl) ?_ _
          clear hH0
          have S4 := hid (S3.out.drewN 1)
          go_wp2_with fail
          go_roundw
          case rel => exact ⟨0 + 1, by omega, by go_num, HN, S4⟩
          case measure => simp [intOf]; omega
        · obtain ⟨ad', m', t', g', f', he, hb1', hx', hc0', hc1', hc2', hc3'⟩ := HW.out.at_ (k := j) (by omega)
          injection he with he
          subst he
          have p1 := T3.out.cell hc1'
          have p2 : w3.cell? ⟨(ad.add (j * 4)).block, (ad.add (j * 4)).off + 1 + 1, none⟩ = some (.int .i64 g') := T3.out.cell hc2'
          have q1 : IntKind.i64.wrap (j : Int) = (j : Int) := IntWalk.i64_in _ (by omega)
          have q2 : ((j : Int) + 1).toNat = j + 1 := by omega
          have q5 : (0 : Int) < (j : Int) + 1 := by omega
          have q6 : (j : Int) < (n : Int) := by omega
          have q8 : j < n := by omega
          have q7 : decide ((0 : Int) < (j : Int) + 1) = true := decide_eq_true q5
          have HLT := hid (show ltE (m', (t', g'), f') (m, (t, g), true) = ltS (t', g') (t, g) from rfl)
          clear hki hki2 hc0 hc1 hc2 hc3 hc0' hc1' hc2' hc3'
          cases hl : ltS (t', g') (t, g)
          · have HB := hid (lok_lt (I := I) (K := K) hx.out hx'.out (HLT.out.trans hl))
            go_wp2_with fail
            refine wp_region_held_drew (S := (fun w' => w'.cell? ⟨(ad.add (j * 4)).block, (ad.add (j * 4)).off + 1, none⟩ = some (.int .i64 t') ∧ w'.cell? ⟨(ad.add (j * 4)).block, (ad.add (j * 4)).off + 1 + 1, none⟩ = some (.int .i64 g') ∧ w'.cell? ⟨wr.heap.size, 1, none⟩ = some (.int .i64 t) ∧ w'.cell? ⟨wr.heap.size, 2, none⟩ = some (.int .i64 g))) (by kernel_rfl) ?_ (fun hH0 => ?_)
            · exact ⟨p1, p2, b1, b2⟩
            refine wpAnyH_take (i := 0) (oi := ⟨some 45, _, _, _, _, _⟩) (v := ?_) rfl (by kernel_rfl) (by kernel_rfl) (by kernel_rfl) (fun _ _ _ h => h) (Or.inl ⟨by rfl, ?_⟩) (by assumption) ?_
            rotate_left
            · (intro w hSw; (try dsimp only at hSw); go_simp; (try with_reducible rfl))
            (try simp only [Act.put, List.setIfInBounds_toArray, List.set_cons_zero, List.set_cons_succ])
            refine wpAnyH_take (i := 1) (oi := ⟨some 46, _, _, _, _, _⟩) (v := ?_) rfl (by kernel_rfl) (by kernel_rfl) (by kernel_rfl) (fun _ _ _ h => h) (Or.inl ⟨by rfl, ?_⟩) (by assumption) ?_
            rotate_left
            · (intro w hSw; (try dsimp only at hSw); go_simp; (try with_reducible rfl))
            (try simp only [Act.put, List.setIfInBounds_toArray, List.set_cons_zero, List.set_cons_succ])
            refine wpAnyH_take (i := 2) (oi := ⟨some 47, _, _, _, _, _⟩) (v := ?_) rfl (by kernel_rfl) (by kernel_rfl) (by kernel_rfl) (fun _ _ _ h => h) (Or.inl ⟨by rfl, ?_⟩) (by assumption) ?_
            rotate_left
            · (intro w hSw; (try dsimp only at hSw); go_simp; (try with_reducible rfl))
            (try simp only [Act.put, List.setIfInBounds_toArray, List.set_cons_zero, List.set_cons_succ])
            refine wpAnyH_take (i := 3) (oi := ⟨some 48, _, _, _, _, _⟩) (v := ?_) rfl (by kernel_rfl) (by kernel_rfl) (by kernel_rfl) (fun _ _ _ h => h) (Or.inl ⟨by rfl, ?_⟩) (by assumption) ?_
            rotate_left
            · (intro w hSw; (try dsimp only at hSw); go_simp; (try with_reducible rfl))
            (try simp only [Act.put, List.setIfInBounds_toArray, List.set_cons_zero, List.set_cons_succ])
            refine wpAnyH_take (i := 4) (oi := ⟨some 49, _, _, _, _, _⟩) (v := ?_) rfl (by kernel_rfl) (by kernel_rfl) (by kernel_rfl) (fun _ _ _ h => h) (Or.inl ⟨by rfl, ?_⟩) (by assumption) ?_
            rotate_left
            · (intro w hSw; (try dsimp only at hSw); go_simp; (try with_reducible rfl))
            (try simp only [Act.put, List.setIfInBounds_toArray, List.set_cons_zero, List.set_cons_succ])
            refine wpAnyH_take (i := 5) (oi := ⟨some 50, _, _, _, _, _⟩) (v := ?_) rfl (by kernel_rfl) (by kernel_rfl) (by kernel_rfl) (fun _ _ _ h => h) (Or.inl ⟨by rfl, ?_⟩) (by assumption) ?_
            rotate_left
            · (intro w hSw; (try dsimp only at hSw); go_simp; (try with_reducible rfl))
            (try simp only [Act.put, List.setIfInBounds_toArray, List.set_cons_zero, List.set_cons_succ])
            refine wpAnyH_take (i := 6) (oi := ⟨some 51, _, _, _, _, _⟩) (v := ?_) rfl (by kernel_rfl) (by kernel_rfl) (by kernel_rfl) (fun _ _ _ h => h) (Or.inl ⟨by rfl, ?_⟩) (by assumption) ?_
            rotate_left
            · (intro w hSw; (try dsimp only at hSw); go_simp; (try with_reducible rfl))
            (try simp only [Act.put, List.setIfInBounds_toArray, List.set_cons_zero, List.set_cons_succ])
            refine wpAnyH_take (i := 7) (oi := ⟨some 52, _, _, _, _, _⟩) (v := ?_) rfl (by kernel_rfl) (by kernel_rfl) (by kernel_rfl) (fun _ _ _ h => h) (Or.inl ⟨by rfl, ?_⟩) (by assumption) ?_
            rotate_left
            · (intro w hSw; (try dsimp only at hSw); go_simp; (try with_reducible rfl))
            (try simp only [Act.put, List.setIfInBounds_toArray, List.set_cons_zero, List.set_cons_succ])
            refine wpAnyH_take (i := 8) (oi := ⟨some 53, _, _, _, _, _⟩) (v := ?_) rfl (by kernel_rfl) (by kernel_rfl) (by kernel_rfl) (fun _ _ _ h => h) (Or.inl ⟨by rfl, ?_⟩) (by assumption) ?_
            rotate_left
            · (intro w hSw; (try dsimp only at hSw); go_simp; (try with_reducible rfl))
            (try simp only [Act.put, List.setIfInBounds_toArray, List.set_cons_zero, List.set_cons_succ])
            refine wpAnyH_take (i := 9) (oi := ⟨some 54, _, _, _, _, _⟩) (v := ?_) rfl (by kernel_rfl) (by kernel_rfl) (by kernel_rfl) (fun _ _ _ h => h) (Or.inl ⟨by rfl, ?_⟩) (by assumption) ?_
            rotate_left
            · (intro w hSw; (try dsimp only at hSw); go_simp; (try with_reducible rfl))
            (try simp only [Act.put, List.setIfInBounds_toArray, List.set_cons_zero, List.set_cons_succ])
            refine wpAnyH_take (i := 10) (oi := ⟨some 55, _, _, _, _, _⟩) (v := ?_) rfl (by kernel_rfl) (by kernel_rfl) (by kernel_rfl) (fun _ _ _ h => h) (Or.inl ⟨by rfl, ?_⟩) (by assumption) ?_
            rotate_left
            · (intro w hSw; (try dsimp only at hSw); go_simp; (try with_reducible rfl))
            (try simp only [Act.put, List.setIfInBounds_toArray, List.set_cons_zero, List.set_cons_succ])
            refine wpAnyH_ready (rs := [11]) (by kernel_rfl) (by simp) ?_
            refine AllReadyH.cons (o := ⟨some 56, _, _, _, _, _⟩) rfl (fun K hK => ?_) AllReadyH.nil
            go_simp
            (go_at_call 41; refine (less_any _ _ _ _ _).mono ?_; rintro e w4 ⟨rfl, s4⟩; rw [hl]; have U4 := (Dr.st ⟨1, rfl⟩ : St w3 (w3.drewN 1)).trans s4)
            (first | (refine hK.out _ _ ?_ (fun hH1 => ?_)) | (go_wp2_with fail; refine hK.out _ _ ?_ (fun hH1 => ?_)))
            · exact ⟨U4.cell p1, U4.cell p2, U4.cell b1, U4.cell b2⟩
            clear hK K hH0
            (try simp only [Act.put, List.setIfInBounds_toArray, List.set_cons_zero, List.set_cons_succ])
            refine wpAnyH_take (i := 12) (oi := ⟨some 57, _, _, _, _, _⟩) (v := ?_) rfl (by kernel_rfl) (by kernel_rfl) (by kernel_rfl) (fun _ _ _ h => h) (Or.inl ⟨by rfl, ?_⟩) (by assumption) ?_
            rotate_left
            · (intro w hSw; (try dsimp only at hSw); go_simp; (try with_reducible rfl))
            (try simp only [Act.put, List.setIfInBounds_toArray, List.set_cons_zero, List.set_cons_succ])
            refine wpAnyH_take (i := 13) (oi := ⟨some 58, _, _, _, _, _⟩) (v := ?_) rfl (by kernel_rfl) (by kernel_rfl) (by kernel_rfl) (fun _ _ _ h => h) (Or.inl ⟨by rfl, ?_⟩) (by assumption) ?_
            rotate_left
            · (intro w hSw; (try dsimp only at hSw); go_simp; (try with_reducible rfl))
            (try simp only [Act.put, List.setIfInBounds_toArray, List.set_cons_zero, List.set_cons_succ])
            refine wpAnyH_done (by kernel_rfl) ?_ _
            clear hH1
            have S4 := hid (S3.out.trans U4)
            clear q1 q2 q7
            go_wp2_with fail
            go_ret
            exact ⟨ret_bool HB.out.symm, S0.out.trans S4.out⟩
          · have hall : ∀ i p, j + 1 = i + 1 → es[i]? = some p → ltE p (m, (t, g), true) = true := by
              intro i p hi hp
              obtain rfl : i = j := by omega
              rw [hx'.out] at hp
              injection hp with hp
              subst hp
              exact HLT.out.trans hl
            have HN := hid ((lok_take hx.out hno.out).2 ⟨HEK.out, hall⟩)
            clear hall
            go_wp2_with fail
            refine wp_region_held_drew (S := (fun w' => w'.cell? ⟨(ad.add (j * 4)).block, (ad.add (j * 4)).off + 1, none⟩ = some (.int .i64 t') ∧ w'.cell? ⟨(ad.add (j * 4)).block, (ad.add (j * 4)).off + 1 + 1, none⟩ = some (.int .i64 g') ∧ w'.cell? ⟨wr.heap.size, 1, none⟩ = some (.int .i64 t) ∧ w'.cell? ⟨wr.heap.size, 2, none⟩ = some (.int .i64 g))) (by kernel_rfl) ?_ (fun hH0 => ?_)
            · exact ⟨p1, p2, b1, b2⟩
            refine wpAnyH_take (i := 0) (oi := ⟨some 45, _, _, _, _, _⟩) (v := ?_) rfl (by kernel_rfl) (by kernel_rfl) (by kernel_rfl) (fun _ _ _ h => h) (Or.inl ⟨by rfl, ?_⟩) (by assumption) ?_
            rotate_left
            · (intro w hSw; (try dsimp only at hSw); go_simp; (try with_reducible rfl))
            (try simp only [Act.put, List.setIfInBounds_toArray, List.set_cons_zero, List.set_cons_succ])
            refine wpAnyH_take (i := 1) (oi := ⟨some 46, _, _, _, _, _⟩) (v := ?_) rfl (by kernel_rfl) (by kernel_rfl) (by kernel_rfl) (fun _ _ _ h => h) (Or.inl ⟨by rfl, ?_⟩) (by assumption) ?_
            rotate_left
            · (intro w hSw; (try dsimp only at hSw); go_simp; (try with_reducible rfl))
            (try simp only [Act.put, List.setIfInBounds_toArray, List.set_cons_zero, List.set_cons_succ])
            refine wpAnyH_take (i := 2) (oi := ⟨some 47, _, _, _, _, _⟩) (v := ?_) rfl (by kernel_rfl) (by kernel_rfl) (by kernel_rfl) (fun _ _ _ h => h) (Or.inl ⟨by rfl, ?_⟩) (by assumption) ?_
            rotate_left
            · (intro w hSw; (try dsimp only at hSw); go_simp; (try with_reducible rfl))
            (try simp only [Act.put, List.setIfInBounds_toArray, List.set_cons_zero, List.set_cons_succ])
            refine wpAnyH_take (i := 3) (oi := ⟨some 48, _, _, _, _, _⟩) (v := ?_) rfl (by kernel_rfl) (by kernel_rfl) (by kernel_rfl) (fun _ _ _ h => h) (Or.inl ⟨by rfl, ?_⟩) (by assumption) ?_
            rotate_left
            · (intro w hSw; (try dsimp only at hSw); go_simp; (try with_reducible rfl))
            (try simp only [Act.put, List.setIfInBounds_toArray, List.set_cons_zero, List.set_cons_succ])
            refine wpAnyH_take (i := 4) (oi := ⟨some 49, _, _, _, _, _⟩) (v := ?_) rfl (by kernel_rfl) (by kernel_rfl) (by kernel_rfl) (fun _ _ _ h => h) (Or.inl ⟨by rfl, ?_⟩) (by assumption) ?_
            rotate_left
            · (intro w hSw; (try dsimp only at hSw); go_simp; (try with_reducible rfl))
            (try simp only [Act.put, List.setIfInBounds_toArray, List.set_cons_zero, List.set_cons_succ])
            refine wpAnyH_take (i := 5) (oi := ⟨some 50, _, _, _, _, _⟩) (v := ?_) rfl (by kernel_rfl) (by kernel_rfl) (by kernel_rfl) (fun _ _ _ h => h) (Or.inl ⟨by rfl, ?_⟩) (by assumption) ?_
            rotate_left
            · (intro w hSw; (try dsimp only at hSw); go_simp; (try with_reducible rfl))
            (try simp only [Act.put, List.setIfInBounds_toArray, List.set_cons_zero, List.set_cons_succ])
            refine wpAnyH_take (i := 6) (oi := ⟨some 51, _, _, _, _, _⟩) (v := ?_) rfl (by kernel_rfl) (by kernel_rfl) (by kernel_rfl) (fun _ _ _ h => h) (Or.inl ⟨by rfl, ?_⟩) (by assumption) ?_
            rotate_left
            · (intro w hSw; (try dsimp only at hSw); go_simp; (try with_reducible rfl))
            (try simp only [Act.put, List.setIfInBounds_toArray, List.set_cons_zero, List.set_cons_succ])
            refine wpAnyH_take (i := 7) (oi := ⟨some 52, _, _, _, _, _⟩) (v := ?_) rfl (by kernel_rfl) (by kernel_rfl) (by kernel_rfl) (fun _ _ _ h => h) (Or.inl ⟨by rfl, ?_⟩) (by assumption) ?_
            rotate_left
            · (intro w hSw; (try dsimp only at hSw); go_simp; (try with_reducible rfl))
            (try simp only [Act.put, List.setIfInBounds_toArray, List.set_cons_zero, List.set_cons_succ])
            refine wpAnyH_take (i := 8) (oi := ⟨some 53, _, _, _, _, _⟩) (v := ?_) rfl (by kernel_rfl) (by kernel_rfl) (by kernel_rfl) (fun _ _ _ h => h) (Or.inl ⟨by rfl, ?_⟩) (by assumption) ?_
            rotate_left
            · (intro w hSw; (try dsimp only at hSw); go_simp; (try with_reducible rfl))
            (try simp only [Act.put, List.setIfInBounds_toArray, List.set_cons_zero, List.set_cons_succ])
            refine wpAnyH_take (i := 9) (oi := ⟨some 54, _, _, _, _, _⟩) (v := ?_) rfl (by kernel_rfl) (by kernel_rfl) (by kernel_rfl) (fun _ _ _ h => h) (Or.inl ⟨by rfl, ?_⟩) (by assumption) ?_
            rotate_left
            · (intro w hSw; (try dsimp only at hSw); go_simp; (try with_reducible rfl))
            (try simp only [Act.put, List.setIfInBounds_toArray, List.set_cons_zero, List.set_cons_succ])
            refine wpAnyH_take (i := 10) (oi := ⟨some 55, _, _, _, _, _⟩) (v := ?_) rfl (by kernel_rfl) (by kernel_rfl) (by kernel_rfl) (fun _ _ _ h => h) (Or.inl ⟨by rfl, ?_⟩) (by assumption) ?_
            rotate_left
            · (intro w hSw; (try dsimp only at hSw); go_simp; (try with_reducible rfl))
            (try simp only [Act.put, List.setIfInBounds_toArray, List.set_cons_zero, List.set_cons_succ])
            refine wpAnyH_ready (rs := [11]) (by kernel_rfl) (by simp) ?_
            refine AllReadyH.cons (o := ⟨some 56, _, _, _, _, _⟩) rfl (fun K hK => ?_) AllReadyH.nil
            go_simp
            (go_at_call 41; refine (less_any _ _ _ _ _).mono ?_; rintro e w4 ⟨rfl, s4⟩; rw [hl]; have U4 := (Dr.st ⟨1, rfl⟩ : St w3 (w3.drewN 1)).trans s4)
            (first | (refine hK.out _ _ ?_ (fun hH1 => ?_)) | (go_wp2_with fail; refine hK.out _ _ ?_ (fun hH1 => ?_)))
            · exact ⟨U4.cell p1, U4.cell p2, U4.cell b1, U4.cell b2⟩
            clear hK K hH0
            (try simp only [Act.put, List.setIfInBounds_toArray, List.set_cons_zero, List.set_cons_succ])
            refine wpAnyH_take (i := 12) (oi := ⟨some 57, _, _, _, _, _⟩) (v := ?_) rfl (by kernel_rfl) (by kernel_rfl) (by kernel_rfl) (fun _ _ _ h => h) (Or.inl ⟨by rfl, ?_⟩) (by assumption) ?_
            rotate_left
            · (intro w hSw; (try dsimp only at hSw); go_simp; (try with_reducible rfl))
            (try simp only [Act.put, List.setIfInBounds_toArray, List.set_cons_zero, List.set_cons_succ])
            refine wpAnyH_take (i := 13) (oi := ⟨some 58, _, _, _, _, _⟩) (v := ?_) rfl (by kernel_rfl) (by kernel_rfl) (by kernel_rfl) (fun _ _ _ h => h) (Or.inl ⟨by rfl, ?_⟩) (by assumption) ?_
            rotate_left
            · (intro w hSw; (try dsimp only at hSw); go_simp; (try with_reducible rfl))
            (try simp only [Act.put, List.setIfInBounds_toArray, List.set_cons_zero, List.set_cons_succ])
            refine wpAnyH_done (by kernel_rfl) ?_ _
            clear hH1
            have S4 := hid (S3.out.trans U4)
            clear q1 q2 q7
            go_wp2_with fail
            go_roundw
            case rel => exact ⟨j + 1 + 1, by omega, by go_num, HN, S4⟩
            case measure => simp [intOf]; omega
      · skip
        go_wp2_with fail
        refine (isMessage_any _ _).mono ?_
        rintro e w3 ⟨rfl, rfl⟩
        rw [hm]
        go_wp2_with fail
        refine (StampValid_any _ _ _).mono ?_
        rintro e w3 ⟨rfl, s3⟩
        rw [hv]
        have B3 := hid (B2.out.st s3)
        have K3 := hid (K2.out.st s3)
        have S3 := hid (S2.out.trans s3)
        have T3 := hid (T2.out.trans s3)
        have b0 := B3.out.cell_ (i := 0) (v := .int .i64 m) rfl
        have b1 := B3.out.cell_ (i := 1) (v := .int .i64 t) rfl
        have b2 := B3.out.cell_ (i := 2) (v := .int .i64 g) rfl
        have b3 := B3.out.cell_ (i := 3) (v := .bool false) rfl
        have k0 := K3.out.cell_ (i := 0) (v := .int .i64 I) rfl
        have k1 := K3.out.cell_ (i := 1) (v := .int .i64 K) rfl
        clear hm hv
        rcases k with _ | j
        · have HN := hid ((lok_take hx.out hno.out).2 ⟨HEK.out, fun j p hj => by omega⟩)
          have hz : decide ((0 : Int) < ((0 : Nat) : Int)) = false := by simp
          go_wp2_with fail
          refine wp_region_held_drew (S := (fun _ => True)) (by kernel_rfl) ?_ (fun hH0 => ?_)
          · trivial
          refine wpAnyH_take (i := 0) (oi := ⟨some 45, _, _, _, _, _⟩) (v := ?_) rfl (by kernel_rfl) (by kernel_rfl) (by kernel_rfl) (fun _ _ _ h => h) (Or.inl ⟨by rfl, ?_⟩) (by assumption) ?_
          rotate_left
          · (intro w hSw; (try dsimp only at hSw); go_simp; (try with_reducible rfl))
          (try simp only [Act.put, List.setIfInBounds_toArray, List.set_cons_zero, List.set_cons_succ])
          refine wpAnyH_take (i := 1) (oi := ⟨some 46, _, _, _, _, _⟩) (v := ?_) rfl (by kernel_rfl) (by kernel_rfl) (by kernel_rfl) (fun _ _ _ h => h) (Or.inl ⟨by rfl, ?_⟩) (by assumption) ?_
          rotate_left
          · (intro w hSw; (try dsimp only at hSw); go_simp; (try with_reducible rfl))
          (try simp only [Act.put, List.setIfInBounds_toArray, List.set_cons_zero, List.set_cons_succ])
          refine wpAnyH_take (i := 2) (oi := ⟨some 47, _, _, _, _, _⟩) (v := ?_) rfl (by kernel_rfl) (by kernel_rfl) (by kernel_rfl) (fun _ _ _ h => h) (Or.inl ⟨by rfl, ?_⟩) (by assumption) ?_
          rotate_left
          · (intro w hSw; (try dsimp only at hSw); go_simp; (try with_reducible rfl))
          (try simp only [Act.put, List.setIfInBounds_toArray, List.set_cons_zero, List.set_cons_succ])
          refine wpAnyH_take (i := 3) (oi := ⟨some 48, _, _, _, _, _⟩) (v := undef) rfl (by kernel_rfl) (by kernel_rfl) (by kernel_rfl) (fun _ _ _ h => h) (Or.inr ⟨by rfl, rfl⟩) (by assumption) ?_
          (try simp only [Act.put, List.setIfInBounds_toArray, List.set_cons_zero, List.set_cons_succ])
          refine wpAnyH_take (i := 4) (oi := ⟨some 49, _, _, _, _, _⟩) (v := undef) rfl (by kernel_rfl) (by kernel_rfl) (by kernel_rfl) (fun _ _ _ h => h) (Or.inr ⟨by rfl, rfl⟩) (by assumption) ?_
          (try simp only [Act.put, List.setIfInBounds_toArray, List.set_cons_zero, List.set_cons_succ])
          refine wpAnyH_take (i := 5) (oi := ⟨some 50, _, _, _, _, _⟩) (v := undef) rfl (by kernel_rfl) (by kernel_rfl) (by kernel_rfl) (fun _ _ _ h => h) (Or.inr ⟨by rfl, rfl⟩) (by assumption) ?_
          (try simp only [Act.put, List.setIfInBounds_toArray, List.set_cons_zero, List.set_cons_succ])
          refine wpAnyH_take (i := 6) (oi := ⟨some 51, _, _, _, _, _⟩) (v := undef) rfl (by kernel_rfl) (by kernel_rfl) (by kernel_rfl) (fun _ _ _ h => h) (Or.inr ⟨by rfl, rfl⟩) (by assumption) ?_
          (try simp only [Act.put, List.setIfInBounds_toArray, List.set_cons_zero, List.set_cons_succ])
          refine wpAnyH_take (i := 7) (oi := ⟨some 52, _, _, _, _, _⟩) (v := undef) rfl (by kernel_rfl) (by kernel_rfl) (by kernel_rfl) (fun _ _ _ h => h) (Or.inr ⟨by rfl, rfl⟩) (by assumption) ?_
          (try simp only [Act.put, List.setIfInBounds_toArray, List.set_cons_zero, List.set_cons_succ])
          refine wpAnyH_take (i := 8) (oi := ⟨some 53, _, _, _, _, _⟩) (v := undef) rfl (by kernel_rfl) (by kernel_rfl) (by kernel_rfl) (fun _ _ _ h => h) (Or.inr ⟨by rfl, rfl⟩) (by assumption) ?_
          (try simp only [Act.put, List.setIfInBounds_toArray, List.set_cons_zero, List.set_cons_succ])
          refine wpAnyH_take (i := 9) (oi := ⟨some 54, _, _, _, _, _⟩) (v := undef) rfl (by kernel_rfl) (by kernel_rfl) (by kernel_rfl) (fun _ _ _ h => h) (Or.inr ⟨by rfl, rfl⟩) (by assumption) ?_
          (try simp only [Act.put, List.setIfInBounds_toArray, List.set_cons_zero, List.set_cons_succ])
          refine wpAnyH_take (i := 10) (oi := ⟨some 55, _, _, _, _, _⟩) (v := undef) rfl (by kernel_rfl) (by kernel_rfl) (by kernel_rfl) (fun _ _ _ h => h) (Or.inr ⟨by rfl, rfl⟩) (by assumption) ?_
          (try simp only [Act.put, List.setIfInBounds_toArray, List.set_cons_zero, List.set_cons_succ])
          refine wpAnyH_take (i := 11) (oi := ⟨some 56, _, _, _, _, _⟩) (v := undef) rfl (by kernel_rfl) (by kernel_rfl) (by kernel_rfl) (fun _ _ _ h => h) (Or.inr ⟨by rfl, rfl⟩) (by assumption) ?_
          (try simp only [Act.put, List.setIfInBounds_toArray, List.set_cons_zero, List.set_cons_succ])
          refine wpAnyH_take (i := 12) (oi := ⟨some 57, _, _, _, _, _⟩) (v := undef) rfl (by kernel_rfl) (by kernel_rfl) (by kernel_rfl) (fun _ _ _ h => h) (Or.inr ⟨by rfl, rfl⟩) (by assumption) ?_
          (try simp only [Act.put, List.setIfInBounds_toArray, List.set_cons_zero, List.set_cons_succ])
          refine wpAnyH_take (i := 13) (oi := ⟨some 58, _, _, _, _, _⟩) (v := ?_) rfl (by kernel_rfl) (by kernel_rfl) (by kernel_rfl) (fun _ _ _ h => h) (Or.inl ⟨by rfl, ?_⟩) (by assumption) ?_
          rotate_left
          · (intro w hSw; (try dsimp only at hSw); go_simp; (try with_reducible rfl))
          (try simp only [Act.put, List.setIfInBounds_toArray, List.set_cons_zero, List.set_cons_succ])
          refine wpAnyH_done (by kernel_rfl) ?_ _
          clear hH0
          have S4 := hid (S3.out.drewN 1)
          go_wp2_with fail
          go_roundw
          case rel => exact ⟨0 + 1, by omega, by go_num, HN, S4⟩
          case measure => simp [intOf]; omega
        · obtain ⟨ad', m', t', g', f', he, hb1', hx', hc0', hc1', hc2', hc3'⟩ := HW.out.at_ (k := j) (by omega)
          injection he with he
          subst he
          have p1 := T3.out.cell hc1'
          have p2 : w3.cell? ⟨(ad.add (j * 4)).block, (ad.add (j * 4)).off + 1 + 1, none⟩ = some (.int .i64 g') := T3.out.cell hc2'
          have q1 : IntKind.i64.wrap (j : Int) = (j : Int) := IntWalk.i64_in _ (by omega)
          have q2 : ((j : Int) + 1).toNat = j + 1 := by omega
          have q5 : (0 : Int) < (j : Int) + 1 := by omega
          have q6 : (j : Int) < (n : Int) := by omega
          have q8 : j < n := by omega
          have q7 : decide ((0 : Int) < (j : Int) + 1) = true := decide_eq_true q5
          have HLT := hid (show ltE (m', (t', g'), f') (m, (t, g), false) = ltS (t', g') (t, g) from rfl)
          clear hki hki2 hc0 hc1 hc2 hc3 hc0' hc1' hc2' hc3'
          cases hl : ltS (t', g') (t, g)
          · have HB := hid (lok_lt (I := I) (K := K) hx.out hx'.out (HLT.out.trans hl))
            go_wp2_with fail
            refine wp_region_held_drew (S := (fun w' => w'.cell? ⟨(ad.add (j * 4)).block, (ad.add (j * 4)).off + 1, none⟩ = some (.int .i64 t') ∧ w'.cell? ⟨(ad.add (j * 4)).block, (ad.add (j * 4)).off + 1 + 1, none⟩ = some (.int .i64 g') ∧ w'.cell? ⟨wr.heap.size, 1, none⟩ = some (.int .i64 t) ∧ w'.cell? ⟨wr.heap.size, 2, none⟩ = some (.int .i64 g))) (by kernel_rfl) ?_ (fun hH0 => ?_)
            · exact ⟨p1, p2, b1, b2⟩
            refine wpAnyH_take (i := 0) (oi := ⟨some 45, _, _, _, _, _⟩) (v := ?_) rfl (by kernel_rfl) (by kernel_rfl) (by kernel_rfl) (fun _ _ _ h => h) (Or.inl ⟨by rfl, ?_⟩) (by assumption) ?_
            rotate_left
            · (intro w hSw; (try dsimp only at hSw); go_simp; (try with_reducible rfl))
            (try simp only [Act.put, List.setIfInBounds_toArray, List.set_cons_zero, List.set_cons_succ])
            refine wpAnyH_take (i := 1) (oi := ⟨some 46, _, _, _, _, _⟩) (v := ?_) rfl (by kernel_rfl) (by kernel_rfl) (by kernel_rfl) (fun _ _ _ h => h) (Or.inl ⟨by rfl, ?_⟩) (by assumption) ?_
            rotate_left
            · (intro w hSw; (try dsimp only at hSw); go_simp; (try with_reducible rfl))
            (try simp only [Act.put, List.setIfInBounds_toArray, List.set_cons_zero, List.set_cons_succ])
            refine wpAnyH_take (i := 2) (oi := ⟨some 47, _, _, _, _, _⟩) (v := ?_) rfl (by kernel_rfl) (by kernel_rfl) (by kernel_rfl) (fun _ _ _ h => h) (Or.inl ⟨by rfl, ?_⟩) (by assumption) ?_
            rotate_left
            · (intro w hSw; (try dsimp only at hSw); go_simp; (try with_reducible rfl))
            (try simp only [Act.put, List.setIfInBounds_toArray, List.set_cons_zero, List.set_cons_succ])
            refine wpAnyH_take (i := 3) (oi := ⟨some 48, _, _, _, _, _⟩) (v := ?_) rfl (by kernel_rfl) (by kernel_rfl) (by kernel_rfl) (fun _ _ _ h => h) (Or.inl ⟨by rfl, ?_⟩) (by assumption) ?_
            rotate_left
            · (intro w hSw; (try dsimp only at hSw); go_simp; (try with_reducible rfl))
            (try simp only [Act.put, List.setIfInBounds_toArray, List.set_cons_zero, List.set_cons_succ])
            refine wpAnyH_take (i := 4) (oi := ⟨some 49, _, _, _, _, _⟩) (v := ?_) rfl (by kernel_rfl) (by kernel_rfl) (by kernel_rfl) (fun _ _ _ h => h) (Or.inl ⟨by rfl, ?_⟩) (by assumption) ?_
            rotate_left
            · (intro w hSw; (try dsimp only at hSw); go_simp; (try with_reducible rfl))
            (try simp only [Act.put, List.setIfInBounds_toArray, List.set_cons_zero, List.set_cons_succ])
            refine wpAnyH_take (i := 5) (oi := ⟨some 50, _, _, _, _, _⟩) (v := ?_) rfl (by kernel_rfl) (by kernel_rfl) (by kernel_rfl) (fun _ _ _ h => h) (Or.inl ⟨by rfl, ?_⟩) (by assumption) ?_
            rotate_left
            · (intro w hSw; (try dsimp only at hSw); go_simp; (try with_reducible rfl))
            (try simp only [Act.put, List.setIfInBounds_toArray, List.set_cons_zero, List.set_cons_succ])
            refine wpAnyH_take (i := 6) (oi := ⟨some 51, _, _, _, _, _⟩) (v := ?_) rfl (by kernel_rfl) (by kernel_rfl) (by kernel_rfl) (fun _ _ _ h => h) (Or.inl ⟨by rfl, ?_⟩) (by assumption) ?_
            rotate_left
            · (intro w hSw; (try dsimp only at hSw); go_simp; (try with_reducible rfl))
            (try simp only [Act.put, List.setIfInBounds_toArray, List.set_cons_zero, List.set_cons_succ])
            refine wpAnyH_take (i := 7) (oi := ⟨some 52, _, _, _, _, _⟩) (v := ?_) rfl (by kernel_rfl) (by kernel_rfl) (by kernel_rfl) (fun _ _ _ h => h) (Or.inl ⟨by rfl, ?_⟩) (by assumption) ?_
            rotate_left
            · (intro w hSw; (try dsimp only at hSw); go_simp; (try with_reducible rfl))
            (try simp only [Act.put, List.setIfInBounds_toArray, List.set_cons_zero, List.set_cons_succ])
            refine wpAnyH_take (i := 8) (oi := ⟨some 53, _, _, _, _, _⟩) (v := ?_) rfl (by kernel_rfl) (by kernel_rfl) (by kernel_rfl) (fun _ _ _ h => h) (Or.inl ⟨by rfl, ?_⟩) (by assumption) ?_
            rotate_left
            · (intro w hSw; (try dsimp only at hSw); go_simp; (try with_reducible rfl))
            (try simp only [Act.put, List.setIfInBounds_toArray, List.set_cons_zero, List.set_cons_succ])
            refine wpAnyH_take (i := 9) (oi := ⟨some 54, _, _, _, _, _⟩) (v := ?_) rfl (by kernel_rfl) (by kernel_rfl) (by kernel_rfl) (fun _ _ _ h => h) (Or.inl ⟨by rfl, ?_⟩) (by assumption) ?_
            rotate_left
            · (intro w hSw; (try dsimp only at hSw); go_simp; (try with_reducible rfl))
            (try simp only [Act.put, List.setIfInBounds_toArray, List.set_cons_zero, List.set_cons_succ])
            refine wpAnyH_take (i := 10) (oi := ⟨some 55, _, _, _, _, _⟩) (v := ?_) rfl (by kernel_rfl) (by kernel_rfl) (by kernel_rfl) (fun _ _ _ h => h) (Or.inl ⟨by rfl, ?_⟩) (by assumption) ?_
            rotate_left
            · (intro w hSw; (try dsimp only at hSw); go_simp; (try with_reducible rfl))
            (try simp only [Act.put, List.setIfInBounds_toArray, List.set_cons_zero, List.set_cons_succ])
            refine wpAnyH_ready (rs := [11]) (by kernel_rfl) (by simp) ?_
            refine AllReadyH.cons (o := ⟨some 56, _, _, _, _, _⟩) rfl (fun K hK => ?_) AllReadyH.nil
            go_simp
            (go_at_call 41; refine (less_any _ _ _ _ _).mono ?_; rintro e w4 ⟨rfl, s4⟩; rw [hl]; have U4 := (Dr.st ⟨1, rfl⟩ : St w3 (w3.drewN 1)).trans s4)
            (first | (refine hK.out _ _ ?_ (fun hH1 => ?_)) | (go_wp2_with fail; refine hK.out _ _ ?_ (fun hH1 => ?_)))
            · exact ⟨U4.cell p1, U4.cell p2, U4.cell b1, U4.cell b2⟩
            clear hK K hH0
            (try simp only [Act.put, List.setIfInBounds_toArray, List.set_cons_zero, List.set_cons_succ])
            refine wpAnyH_take (i := 12) (oi := ⟨some 57, _, _, _, _, _⟩) (v := ?_) rfl (by kernel_rfl) (by kernel_rfl) (by kernel_rfl) (fun _ _ _ h => h) (Or.inl ⟨by rfl, ?_⟩) (by assumption) ?_
            rotate_left
            · (intro w hSw; (try dsimp only at hSw); go_simp; (try with_reducible rfl))
            (try simp only [Act.put, List.setIfInBounds_toArray, List.set_cons_zero, List.set_cons_succ])
            refine wpAnyH_take (i := 13) (oi := ⟨some 58, _, _, _, _, _⟩) (v := ?_) rfl (by kernel_rfl) (by kernel_rfl) (by kernel_rfl) (fun _ _ _ h => h) (Or.inl ⟨by rfl, ?_⟩) (by assumption) ?_
            rotate_left
            · (intro w hSw; (try dsimp only at hSw); go_simp; (try with_reducible rfl))
            (try simp only [Act.put, List.setIfInBounds_toArray, List.set_cons_zero, List.set_cons_succ])
            refine wpAnyH_done (by kernel_rfl) ?_ _
            clear hH1
            have S4 := hid (S3.out.trans U4)
            clear q1 q2 q7
            go_wp2_with fail
            go_ret
            exact ⟨ret_bool HB.out.symm, S0.out.trans S4.out⟩
          · have hall : ∀ i p, j + 1 = i + 1 → es[i]? = some p → ltE p (m, (t, g), false) = true := by
              intro i p hi hp
              obtain rfl : i = j := by omega
              rw [hx'.out] at hp
              injection hp with hp
              subst hp
              exact HLT.out.trans hl
            have HN := hid ((lok_take hx.out hno.out).2 ⟨HEK.out, hall⟩)
            clear hall
            go_wp2_with fail
            refine wp_region_held_drew (S := (fun w' => w'.cell? ⟨(ad.add (j * 4)).block, (ad.add (j * 4)).off + 1, none⟩ = some (.int .i64 t') ∧ w'.cell? ⟨(ad.add (j * 4)).block, (ad.add (j * 4)).off + 1 + 1, none⟩ = some (.int .i64 g') ∧ w'.cell? ⟨wr.heap.size, 1, none⟩ = some (.int .i64 t) ∧ w'.cell? ⟨wr.heap.size, 2, none⟩ = some (.int .i64 g))) (by kernel_rfl) ?_ (fun hH0 => ?_)
            · exact ⟨p1, p2, b1, b2⟩
            refine wpAnyH_take (i := 0) (oi := ⟨some 45, _, _, _, _, _⟩) (v := ?_) rfl (by kernel_rfl) (by kernel_rfl) (by kernel_rfl) (fun _ _ _ h => h) (Or.inl ⟨by rfl, ?_⟩) (by assumption) ?_
            rotate_left
            · (intro w hSw; (try dsimp only at hSw); go_simp; (try with_reducible rfl))
            (try simp only [Act.put, List.setIfInBounds_toArray, List.set_cons_zero, List.set_cons_succ])
            refine wpAnyH_take (i := 1) (oi := ⟨some 46, _, _, _, _, _⟩) (v := ?_) rfl (by kernel_rfl) (by kernel_rfl) (by kernel_rfl) (fun _ _ _ h => h) (Or.inl ⟨by rfl, ?_⟩) (by assumption) ?_
            rotate_left
            · (intro w hSw; (try dsimp only at hSw); go_simp; (try with_reducible rfl))
            (try simp only [Act.put, List.setIfInBounds_toArray, List.set_cons_zero, List.set_cons_succ])
            refine wpAnyH_take (i := 2) (oi := ⟨some 47, _, _, _, _, _⟩) (v := ?_) rfl (by kernel_rfl) (by kernel_rfl) (by kernel_rfl) (fun _ _ _ h => h) (Or.inl ⟨by rfl, ?_⟩) (by assumption) ?_
            rotate_left
            · (intro w hSw; (try dsimp only at hSw); go_simp; (try with_reducible rfl))
            (try simp only [Act.put, List.setIfInBounds_toArray, List.set_cons_zero, List.set_cons_succ])
            refine wpAnyH_take (i := 3) (oi := ⟨some 48, _, _, _, _, _⟩) (v := ?_) rfl (by kernel_rfl) (by kernel_rfl) (by kernel_rfl) (fun _ _ _ h => h) (Or.inl ⟨by rfl, ?_⟩) (by assumption) ?_
            rotate_left
            · (intro w hSw; (try dsimp only at hSw); go_simp; (try with_reducible rfl))
            (try simp only [Act.put, List.setIfInBounds_toArray, List.set_cons_zero, List.set_cons_succ])
            refine wpAnyH_take (i := 4) (oi := ⟨some 49, _, _, _, _, _⟩) (v := ?_) rfl (by kernel_rfl) (by kernel_rfl) (by kernel_rfl) (fun _ _ _ h => h) (Or.inl ⟨by rfl, ?_⟩) (by assumption) ?_
            rotate_left
            · (intro w hSw; (try dsimp only at hSw); go_simp; (try with_reducible rfl))
            (try simp only [Act.put, List.setIfInBounds_toArray, List.set_cons_zero, List.set_cons_succ])
            refine wpAnyH_take (i := 5) (oi := ⟨some 50, _, _, _, _, _⟩) (v := ?_) rfl (by kernel_rfl) (by kernel_rfl) (by kernel_rfl) (fun _ _ _ h => h) (Or.inl ⟨by rfl, ?_⟩) (by assumption) ?_
            rotate_left
            · (intro w hSw; (try dsimp only at hSw); go_simp; (try with_reducible rfl))
            (try simp only [Act.put, List.setIfInBounds_toArray, List.set_cons_zero, List.set_cons_succ])
            refine wpAnyH_take (i := 6) (oi := ⟨some 51, _, _, _, _, _⟩) (v := ?_) rfl (by kernel_rfl) (by kernel_rfl) (by kernel_rfl) (fun _ _ _ h => h) (Or.inl ⟨by rfl, ?_⟩) (by assumption) ?_
            rotate_left
            · (intro w hSw; (try dsimp only at hSw); go_simp; (try with_reducible rfl))
            (try simp only [Act.put, List.setIfInBounds_toArray, List.set_cons_zero, List.set_cons_succ])
            refine wpAnyH_take (i := 7) (oi := ⟨some 52, _, _, _, _, _⟩) (v := ?_) rfl (by kernel_rfl) (by kernel_rfl) (by kernel_rfl) (fun _ _ _ h => h) (Or.inl ⟨by rfl, ?_⟩) (by assumption) ?_
            rotate_left
            · (intro w hSw; (try dsimp only at hSw); go_simp; (try with_reducible rfl))
            (try simp only [Act.put, List.setIfInBounds_toArray, List.set_cons_zero, List.set_cons_succ])
            refine wpAnyH_take (i := 8) (oi := ⟨some 53, _, _, _, _, _⟩) (v := ?_) rfl (by kernel_rfl) (by kernel_rfl) (by kernel_rfl) (fun _ _ _ h => h) (Or.inl ⟨by rfl, ?_⟩) (by assumption) ?_
            rotate_left
            · (intro w hSw; (try dsimp only at hSw); go_simp; (try with_reducible rfl))
            (try simp only [Act.put, List.setIfInBounds_toArray, List.set_cons_zero, List.set_cons_succ])
            refine wpAnyH_take (i := 9) (oi := ⟨some 54, _, _, _, _, _⟩) (v := ?_) rfl (by kernel_rfl) (by kernel_rfl) (by kernel_rfl) (fun _ _ _ h => h) (Or.inl ⟨by rfl, ?_⟩) (by assumption) ?_
            rotate_left
            · (intro w hSw; (try dsimp only at hSw); go_simp; (try with_reducible rfl))
            (try simp only [Act.put, List.setIfInBounds_toArray, List.set_cons_zero, List.set_cons_succ])
            refine wpAnyH_take (i := 10) (oi := ⟨some 55, _, _, _, _, _⟩) (v := ?_) rfl (by kernel_rfl) (by kernel_rfl) (by kernel_rfl) (fun _ _ _ h => h) (Or.inl ⟨by rfl, ?_⟩) (by assumption) ?_
            rotate_left
            · (intro w hSw; (try dsimp only at hSw); go_simp; (try with_reducible rfl))
            (try simp only [Act.put, List.setIfInBounds_toArray, List.set_cons_zero, List.set_cons_succ])
            refine wpAnyH_ready (rs := [11]) (by kernel_rfl) (by simp) ?_
            refine AllReadyH.cons (o := ⟨some 56, _, _, _, _, _⟩) rfl (fun K hK => ?_) AllReadyH.nil
            go_simp
            (go_at_call 41; refine (less_any _ _ _ _ _).mono ?_; rintro e w4 ⟨rfl, s4⟩; rw [hl]; have U4 := (Dr.st ⟨1, rfl⟩ : St w3 (w3.drewN 1)).trans s4)
            (first | (refine hK.out _ _ ?_ (fun hH1 => ?_)) | (go_wp2_with fail; refine hK.out _ _ ?_ (fun hH1 => ?_)))
            · exact ⟨U4.cell p1, U4.cell p2, U4.cell b1, U4.cell b2⟩
            clear hK K hH0
            (try simp only [Act.put, List.setIfInBounds_toArray, List.set_cons_zero, List.set_cons_succ])
            refine wpAnyH_take (i := 12) (oi := ⟨some 57, _, _, _, _, _⟩) (v := ?_) rfl (by kernel_rfl) (by kernel_rfl) (by kernel_rfl) (fun _ _ _ h => h) (Or.inl ⟨by rfl, ?_⟩) (by assumption) ?_
            rotate_left
            · (intro w hSw; (try dsimp only at hSw); go_simp; (try with_reducible rfl))
            (try simp only [Act.put, List.setIfInBounds_toArray, List.set_cons_zero, List.set_cons_succ])
            refine wpAnyH_take (i := 13) (oi := ⟨some 58, _, _, _, _, _⟩) (v := ?_) rfl (by kernel_rfl) (by kernel_rfl) (by kernel_rfl) (fun _ _ _ h => h) (Or.inl ⟨by rfl, ?_⟩) (by assumption) ?_
            rotate_left
            · (intro w hSw; (try dsimp only at hSw); go_simp; (try with_reducible rfl))
            (try simp only [Act.put, List.setIfInBounds_toArray, List.set_cons_zero, List.set_cons_succ])
            refine wpAnyH_done (by kernel_rfl) ?_ _
            clear hH1
            have S4 := hid (S3.out.trans U4)
            clear q1 q2 q7
            go_wp2_with fail
            go_roundw
            case rel => exact ⟨j + 1 + 1, by omega, by go_num, HN, S4⟩
            case measure => simp [intOf]; omega
    · obtain rfl : k = n := by omega
      have HF := hid (show listOk I K es = true by have := hno.out; rwa [List.take_of_length_le (by rw [HL.out]; omega)] at this)
      go_wp2_with fail
      go_ret
      exact ⟨ret_bool HF.out.symm, S0.out.trans hd.out⟩
end Go.Proofs.Ytkhgemgmnchodaa
