/- eqCredits; the marks of new credits. -/
import Derived.Test.YtggjfbakekfdhaaCr2
namespace Go.Proofs.Ytggjfbakekfdhaa
open Go.RowKit

set_option maxHeartbeats 400000 in
theorem eqCredits_any (A A' : Option Addr) (n c n' c' : Nat) (B B' : Option Addr) (m d m' d' : Nat) (xs ys : List Int) (hs hs' : List (List Int × Int)) (w : World) (h : SL w A n c xs) (k : SH w B m d hs) (h' : SL w A' n' c' ys) (k' : SH w B' m' d' hs')
    (hn : n ≤ 1048576) (hm : m ≤ 1048576) (hm2 : ∀ x ∈ hs, x.1.length ≤ 1048576) :
    Calls Try.prog 17 #[crV A n c B m d, crV A' n' c' B' m' d'] w fun e w' => e = .returned (.bool (eqI xs ys && eqHS hs hs')) ∧ St w w' := by
  have HM2 := hid hm2
  clear hm2
  have s1 := ((St.refl w).alloc (.cells #[.slice A n c, .slice B m d] 25)).alloc (.cells #[.slice A' n' c', .slice B' m' d'] 25)
  have h1 := h.st s1
  have h1' := h'.st s1
  have q1 := k.st s1
  have q1' := k'.st s1
  have K1 := hid (((Blk.new w 25 #[.slice A n c, .slice B m d]).alloc (.cells #[.slice A' n' c', .slice B' m' d'] 25)).cell_ (i := 1) (v := .slice B m d) rfl)
  have k2 : ((w.alloc (.cells #[.slice A n c, .slice B m d] 25)).alloc (.cells #[.slice A' n' c', .slice B' m' d'] 25)).cell? ⟨w.heap.size + 1, 1, none⟩ = some (.slice B' m' d') := by
    have hz : (w.alloc (.cells #[.slice A n c, .slice B m d] 25)).heap.size = w.heap.size + 1 := by simp
    have := (Blk.new (w.alloc (.cells #[.slice A n c, .slice B m d] 25)) 25 #[.slice A' n' c', .slice B' m' d']).cell_ (i := 1) (v := .slice B' m' d') rfl
    rw [hz] at this
    exact this
  have K2 := hid k2
  clear k2
  go_enter Try.func17, Try.ntmps17
  go_wp2_with fail
  refine (eqIntS_any _ _ _ _ _ _ _ _ _ _ h1.ri h1'.ri (by omega)).mono ?_
  rintro e w1 ⟨rfl, d1⟩
  have k1 := (d1.cell _).trans K1.out
  have k2 := (d1.cell _).trans K2.out
  have s2 := s1.dr d1
  have q2 := q1.dr d1
  have q2' := q1'.dr d1
  cases he : eqI xs ys
  · go_wp2_with fail
    go_ret
    exact ⟨ret_bool (by rw [he]; rfl), s2⟩
  · go_wp2_with fail
    refine (eqHoldS_any _ _ _ _ _ _ _ _ _ q2 q2' hm HM2.out).mono ?_
    rintro e w2 ⟨rfl, s3⟩
    cases hh : eqHS hs hs'
    · go_wp2_with fail
      go_ret
      exact ⟨ret_bool (by rw [he, hh]; rfl), s2.trans s3⟩
    · go_wp2_with fail
      go_ret
      exact ⟨ret_bool (by rw [he, hh]; rfl), s2.trans s3⟩
theorem markIntS_nil (k : Int) (w : World) : Calls Try.prog 19 #[.slice none 0 0, .int .i64 k] w fun e w' => e = .returned (.int .i64 k) ∧ w = w' := by
  go_enter Try.func19, Try.ntmps19
  go_wp2
  go_loop [1, 5] (fun s t => t = .int .i64 0 ∧ s = .int .i64 k) (fun _ _ => 0)
  case atStart => exact ⟨rfl, rfl⟩
  case round =>
    obtain ⟨rfl, rfl⟩ := hrel
    go_wp2
    go_ret
    exact ⟨rfl, rfl⟩
theorem heldIntS_nil (A : Option Addr) (c : Nat) (k : Int) (w : World) : Calls Try.prog 33 #[.slice A 0 c, .int .i64 k] w fun e w' => e = .returned (.int .i64 k) ∧ w = w' := by
  go_enter Try.func33, Try.ntmps33
  go_wp2
  go_loop [1, 5] (fun s t => t = .int .i64 0 ∧ s = .int .i64 k) (fun _ _ => 0)
  case atStart => exact ⟨rfl, rfl⟩
  case round =>
    obtain ⟨rfl, rfl⟩ := hrel
    go_wp2
    go_ret
    exact ⟨rfl, rfl⟩
theorem OH.at_ {w : World} {base n c k : Nat} {A : Option Addr} {ts : List Int} (h : OH w base A n c ts) (hk : k < n) : ∃ g t, A = some ⟨g, 0, none⟩ ∧ base ≤ g ∧ g < w.heap.size ∧ Hid (ts[k]? = some t) ∧ w.cell? ⟨g, k * 2, none⟩ = some (.slice none 0 0) ∧ w.cell? ⟨g, k * 2 + 1, none⟩ = some (.int .i64 t) ∧ w.frozen? ⟨g, k * 2 + 1, none⟩ = false ∧
    ∀ u, Hid (OH (w.setCell ⟨g, k * 2 + 1, none⟩ (.int .i64 u)) base A n c (ts.set k u)) ∧ w.grownBy (w.setCell ⟨g, k * 2 + 1, none⟩ (.int .i64 u)) (some g) := by
  obtain ⟨h1, h2⟩ := h
  obtain ⟨g, cap, hv, hb, hlt⟩ := World.ownsRow.form h2 (by omega)
  injection hv with hv1 _ hv2
  subst hv1 hv2
  have hk' : k < ts.length := by omega
  obtain ⟨h7, h8⟩ := holdCells_at (ts.map fun t => (.slice none 0 0, t)) k (.slice none 0 0) ts[k] (by simp [hk'])
  refine ⟨g, ts[k], rfl, hb, hlt, List.getElem?_eq_getElem hk', (World.ownsRow.cellAt h2 (k * 2) (by omega)).trans h7, (World.ownsRow.cellAt h2 (k * 2 + 1) (by omega)).trans h8, World.ownsRow.frozenAt h2 _, fun u => ?_⟩
  obtain ⟨h3, h4⟩ := World.ownsRow.stored h2 (k * 2 + 1) (.int .i64 u)
  refine ⟨⟨by simpa using h1, ?_⟩, h4⟩
  rw [holdCells_set] at h3
  exact h3
set_option maxHeartbeats 400000 in
theorem markHoldS_any (A : Option Addr) (n c base : Nat) (k : Int) (ts : List Int) (w : World) (h : OH w base A n c ts) (hn : n ≤ 1048576) (hk : 0 ≤ k) (hk' : k ≤ 4611686018427387904) :
    Calls Try.prog 48 #[.slice A n c, .int .i64 k] w fun e w' => e = .returned (.int .i64 (k + n)) ∧ OH w' base A n c (marks k n) ∧ w.grownBy w' (blockOf A) := by
  have HL := hid h.1
  go_enter Try.func48, Try.ntmps48
  go_wp2_with fail
  go_loopw [1, 5] (fun s t wr => ∃ i : Nat, i ≤ n ∧ t = .int .i64 i ∧ s = .int .i64 (k + i) ∧ Hid (OH wr base A n c (marks k i ++ ts.drop i)) ∧ w.grownBy wr (blockOf A)) (fun _ t _ => n - (intOf t).toNat)
  case atStart => exact ⟨0, Nat.zero_le _, rfl, by simp, h, World.grownBy.refl _ _⟩
  case round =>
    obtain ⟨i, hi, rfl, rfl, ho, hg⟩ := hrel
    by_cases hlt : i < n
    · obtain ⟨g, x, rfl, hb, hgl, hx, hc0, hc, hfz, hset⟩ := ho.out.at_ hlt
      obtain ⟨hs1, hs2⟩ := hset (k + i)
      clear hset
      go_wp2_with fail
      refine (markIntS_nil _ _).mono ?_
      rintro e w1 ⟨rfl, rfl⟩
      go_wp2_with fail
      go_roundw
      case rel =>
        refine ⟨i + 1, by omega, by go_num, ?_, ?_, grown_trans' hg hs2⟩
        · go_num
        · rw [marks_succ, ← set_front rfl (marks_len _ _) (by rw [HL.out]; exact hlt)]; exact hs1
      case measure => simp [intOf]; omega
    · obtain rfl : i = n := by omega
      go_wp2_with fail
      go_ret
      refine ⟨rfl, ?_, hg⟩
      have := ho.out
      rwa [List.drop_of_length_le (by rw [HL.out]; omega), List.append_nil] at this
theorem heldHoldS_any (A : Option Addr) (n c : Nat) (k : Int) (w : World) (h : SH w A n c ((marks k n).map fun t => ([], t))) (hn : n ≤ 1048576) (hk : 0 ≤ k) (hk' : k ≤ 4611686018427387904) :
    Calls Try.prog 49 #[.slice A n c, .int .i64 k] w fun e w' => e = .returned (.int .i64 (k + n)) ∧ w = w' := by
  go_enter Try.func49, Try.ntmps49
  go_wp2_with fail
  go_loop [1, 5] (fun s t => ∃ i : Nat, i ≤ n ∧ t = .int .i64 i ∧ s = .int .i64 (k + i)) (fun _ t => n - (intOf t).toNat)
  case atStart => exact ⟨0, Nat.zero_le _, rfl, by simp⟩
  case round =>
    obtain ⟨i, hi, rfl, rfl⟩ := hrel
    by_cases hlt : i < n
    · obtain ⟨ad, Ak, nk, ck, xs, x, rfl, hb, hc0, hc, hx, hsk⟩ := h.at_ hlt
      have hx := hx.out
      rw [List.getElem?_map, marks_at hlt] at hx
      simp at hx
      obtain ⟨rfl, rfl⟩ := hx
      obtain rfl : nk = 0 := by have := hsk.len; simpa using this.symm
      go_wp2_with fail
      refine (heldIntS_nil _ _ _ _).mono ?_
      rintro e w1 ⟨rfl, rfl⟩
      go_wp2_with fail
      go_round
      case rel => exact ⟨i + 1, by omega, by go_num, by go_num⟩
      case measure => simp [intOf]; omega
    · obtain rfl : i = n := by omega
      go_wp2_with fail
      go_ret
      exact ⟨rfl, rfl⟩
set_option maxHeartbeats 400000 in
theorem markCredits_any (A B : Option Addr) (n c m d base : Nat) (k : Int) (xs ts : List Int) (w : World) (h : OI w base 3 A n c xs) (h' : OH w base B m d ts) (hdis : ∀ g, blockOf B = some g → blockOf A ≠ some g) (hn : n ≤ 1048576) (hm : m ≤ 1048576) (hk : 0 ≤ k) (hk' : k ≤ 4611686018) :
    Calls Try.prog 20 #[crV A n c B m d, .int .i64 k] w fun e w' => e = .returned (.int .i64 (k + n + m)) ∧ OI w' base 3 A n c (marks k n) ∧ OH w' base B m d (marks (k + n) m) ∧ Turned (fun g => blockOf A = some g ∨ blockOf B = some g) w w' := by
  have h1 := hid (World.ownsRow.alloc h (.cells #[.slice A n c, .slice B m d] 25))
  have h1' := hid (World.ownsRow.alloc h'.2 (.cells #[.slice A n c, .slice B m d] 25))
  have hb := hid (Blk.new w 25 #[.slice A n c, .slice B m d])
  have hla : ∀ g, blockOf A = some g → base ≤ g ∧ g < w.heap.size := h.lt
  have HLA := hid hla
  have HD := hid hdis
  clear hla hdis
  go_enter Try.func20, Try.ntmps20
  go_wp2_with fail
  refine (markIntS_any _ _ _ _ _ _ _ h1.out hn hk (by omega)).mono ?_
  rintro e w1 ⟨rfl, o1, g1⟩
  have c1 := (hb.out.grown g1 (fun e => by have := (HLA.out _ e.symm).2; omega)).cell_ (i := 1) (v := .slice B m d) rfl
  have o1' : OH w1 base B m d ts := ⟨h'.1, World.ownsRow.kept h1'.out g1 (by rw [ownBlock_slice]; cases hB : blockOf B with | none => exact .inl rfl | some g => right; intro e; exact HD.out g hB e.symm)⟩
  have b1 : Turned (fun g => blockOf A = some g ∨ blockOf B = some g) w w1 := (Turned.of_st ((St.refl w).alloc _)).trans (Turned.of_grown g1 fun k hk => .inl hk)
  have o1 := hid o1
  clear g1
  go_wp2_with fail
  refine (markHoldS_any _ _ _ _ _ _ _ o1' hm (by omega) (by omega)).mono ?_
  rintro e w2 ⟨rfl, o2, g2⟩
  go_wp2_with fail
  go_ret
  refine ⟨rfl, OI.grown o1.out g2 (fun g hg => HD.out g hg), o2, b1.trans (Turned.of_grown g2 fun k hk => .inr hk)⟩
set_option maxHeartbeats 400000 in
theorem heldCredits_any (A B : Option Addr) (n c m d : Nat) (k : Int) (w : World) (h : SL w A n c (marks k n)) (h' : SH w B m d ((marks (k + n) m).map fun t => ([], t))) (hn : n ≤ 1048576) (hm : m ≤ 1048576) (hk : 0 ≤ k) (hk' : k ≤ 4611686018) :
    Calls Try.prog 21 #[crV A n c B m d, .int .i64 k] w fun e w' => e = .returned (.int .i64 (k + n + m)) ∧ St w w' := by
  have s1 := (St.refl w).alloc (.cells #[.slice A n c, .slice B m d] 25)
  have h1 := h.st s1
  have h1' := h'.st s1
  have hb := hid ((Blk.new w 25 #[.slice A n c, .slice B m d]).cell_ (i := 1) (v := .slice B m d) rfl)
  go_enter Try.func21, Try.ntmps21
  go_wp2_with fail
  refine (heldIntS_any _ _ _ _ _ _ h1.ri hn hk (by omega)).mono ?_
  rintro e w1 ⟨rfl, rfl⟩
  have hb1 := hb.out
  go_wp2_with fail
  refine (heldHoldS_any _ _ _ _ _ h1' hm (by omega) (by omega)).mono ?_
  rintro e w1 ⟨rfl, rfl⟩
  go_wp2_with fail
  go_ret
  exact ⟨rfl, s1⟩

/-- What CreditsNew gives: whether, the free credits, how many holds. -/
def newOk (free : List Int) (s : Int) : Bool := freeOk free && inB s 1 6
def newFr (free : List Int) (s : Int) : List Int := if newOk free s then free else []
def newN (free : List Int) (s : Int) : Nat := if newOk free s then s.toNat else 0
theorem newN_le (free : List Int) (s : Int) : newN free s ≤ 6 := by
  unfold newN newOk
  split
  · rename_i h
    simp only [Bool.and_eq_true, inB_iff] at h
    omega
  · omega
theorem newFr_le (free : List Int) (s : Int) : (newFr free s).length ≤ 5 := by
  unfold newFr newOk
  split
  · rename_i h
    simp [freeOk] at h
    omega
  · simp
/-- impl.CreditsNew, in one form for both ways. -/
theorem CreditsNew_one (A : Option Addr) (n c : Nat) (xs : List Int) (s : Int) (w : World) (h : RI w w.heap.size A n xs) (hn : n ≤ 1048576) :
    Calls Try.prog 16 #[.slice A n c, .int .i64 s] w fun e w' => ∃ A1 c1 B1 d1, e = .returned (.tuple #[crV A1 (newFr xs s).length c1 B1 (newN xs s) d1, .bool (newOk xs s)]) ∧
      OI w' w.heap.size 3 A1 (newFr xs s).length c1 (newFr xs s) ∧ OH w' w.heap.size B1 (newN xs s) d1 (List.replicate (newN xs s) (-1)) ∧ (∀ g, blockOf B1 = some g → blockOf A1 ≠ some g) ∧ St w w' := by
  refine (CreditsNew_any A n c xs s w h hn).mono ?_
  rintro e w' ⟨hs, ⟨hb, rfl⟩ | ⟨hg, A1, c1, B1, n1, d1, rfl, hn1, h1, h2⟩⟩
  · have e1 : newOk xs s = false := hb
    have e2 : newFr xs s = [] := by simp [newFr, e1]
    have e3 : newN xs s = 0 := by simp [newN, e1]
    rw [e1, e2, e3]
    exact ⟨none, 0, none, 0, rfl, World.ownsRow_nil _ _ _ _, ⟨rfl, World.ownsRow_nil _ _ _ _⟩, by simp [blockOf], hs⟩
  · have e1 : newOk xs s = true := hg
    have e2 : newFr xs s = xs := by simp [newFr, e1]
    have e3 : newN xs s = n1 := by simp [newN, e1]; omega
    rw [e1, e2, e3]
    have h5 := h1.len
    refine ⟨A1, c1, B1, d1, by rw [h5], by rw [h5]; exact h1, h2, fun g hB hA => ?_, hs⟩
    have hB' : (Value.slice B1 n1 d1).ownBlock = some g := by rw [ownBlock_slice]; exact hB
    rcases h1.2 with ⟨h6, _⟩ | ⟨g1, cap1, cur1, h6, _, h7, _⟩
    · injection h6 with h6; subst h6; simp [blockOf] at hA
    · rcases h2.2.2 with ⟨h8, _⟩ | ⟨g2, cap2, cur2, h8, _, h9, _⟩
      · injection h8 with h8; subst h8; simp [blockOf] at hB
      · injection h6 with h6; injection h8 with h8
        subst h6 h8
        simp [blockOf] at hA hB
        subst hA hB
        rw [h7] at h9
        simp at h9
theorem specCreditsNew_one (A : Option Addr) (n c : Nat) (xs : List Int) (s : Int) (w : World) (h : RI w w.heap.size A n xs) (hn : n ≤ 1048576) :
    Calls Try.prog 14 #[.slice A n c, .int .i64 s] w fun e w' => ∃ A1 c1 B1 d1, e = .returned (.tuple #[crV A1 (newFr xs s).length c1 B1 (newN xs s) d1, .bool (newOk xs s)]) ∧
      SL w' A1 (newFr xs s).length c1 (newFr xs s) ∧ SH w' B1 (newN xs s) d1 (List.replicate (newN xs s) ([], -1)) ∧ St w w' := by
  refine (specCreditsNew_any A n c xs s w h hn).mono ?_
  rintro e w' ⟨hs, ⟨hb, rfl⟩ | ⟨hg, A1, c1, B1, n1, d1, rfl, hn1, h1, h2⟩⟩
  · have e1 : newOk xs s = false := hb
    have e2 : newFr xs s = [] := by simp [newFr, e1]
    have e3 : newN xs s = 0 := by simp [newN, e1]
    rw [e1, e2, e3]
    exact ⟨none, 0, none, 0, rfl, SL.none_, SH.none_, hs⟩
  · have e1 : newOk xs s = true := hg
    have e2 : newFr xs s = xs := by simp [newFr, e1]
    have e3 : newN xs s = n1 := by simp [newN, e1]; omega
    rw [e1, e2, e3]
    have h5 := h1.len
    exact ⟨A1, c1, B1, d1, by rw [h5], by rw [h5]; exact h1, h2, hs⟩

theorem eqCredits_same (A A' : Option Addr) (n c n' c' : Nat) (B B' : Option Addr) (m d m' d' : Nat) (xs : List Int) (hs : List (List Int × Int)) (w : World) (h : SL w A n c xs) (k : SH w B m d hs) (h' : SL w A' n' c' xs) (k' : SH w B' m' d' hs)
    (hn : n ≤ 1048576) (hm : m ≤ 1048576) (hm2 : ∀ x ∈ hs, x.1.length ≤ 1048576) :
    Calls Try.prog 17 #[crV A n c B m d, crV A' n' c' B' m' d'] w fun e w' => e = .returned (.bool true) ∧ St w w' :=
  (eqCredits_any A A' n c n' c' B B' m d m' d' xs xs hs hs w h k h' k' hn hm hm2).mono fun _ _ ⟨a, b⟩ => ⟨by rw [a]; simp [eqI, eqHS], b⟩
theorem eqIntS_same (A A' : Option Addr) (n c n' c' B : Nat) (xs : List Int) (w : World) (h : RI w B A n xs) (h' : RI w B A' n' xs) (hn : n ≤ 140737488351232) :
    Calls Try.prog 18 #[.slice A n c, .slice A' n' c'] w fun e w' => e = .returned (.bool true) ∧ Dr w w' :=
  (eqIntS_any A A' n c n' c' B xs xs w h h' hn).mono fun _ _ ⟨a, b⟩ => ⟨by rw [a]; simp [eqI], b⟩
end Go.Proofs.Ytggjfbakekfdhaa
