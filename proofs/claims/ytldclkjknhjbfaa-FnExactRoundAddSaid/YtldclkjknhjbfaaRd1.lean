/- Rounds: comparison, marks, both RoundNew. -/
import Derived.Test.YtldclkjknhjbfaaStamps
namespace Go.Proofs.Ytldclkjknhjbfaa
open Go.RowKit

/-- A round by value. -/
abbrev rdV (m : Int) (A : Option Addr) (n c : Nat) (A' : Option Addr) (n' c' : Nat) : Value := .agg #[.int .i64 m, .slice A n c, .slice A' n' c']
set_option maxHeartbeats 400000 in
theorem eqRound_any (m m' : Int) (A A' : Option Addr) (n c n' c' : Nat) (B B' : Option Addr) (q d q' d' : Nat) (xs ys : List Int) (ss ss' : List (Int × Int)) (w : World) (h : SL w A n c xs) (k : SS w B q d ss) (h' : SL w A' n' c' ys) (k' : SS w B' q' d' ss')
    (hn : n ≤ 1048576) (hm : q ≤ 1048576) :
    Calls Try.prog 19 #[rdV m A n c B q d, rdV m' A' n' c' B' q' d'] w fun e w' => e = .returned (.bool ((m == m') && (eqI xs ys && eqSS ss ss'))) ∧ St w w' := by
  have s1 := ((St.refl w).alloc (.cells #[.int .i64 m, .slice A n c, .slice B q d] 25)).alloc (.cells #[.int .i64 m', .slice A' n' c', .slice B' q' d'] 25)
  have h1 := h.st s1
  have h1' := h'.st s1
  have q1 := k.st s1
  have q1' := k'.st s1
  have K1 := hid (((Blk.new w 25 #[.int .i64 m, .slice A n c, .slice B q d]).alloc (.cells #[.int .i64 m', .slice A' n' c', .slice B' q' d'] 25)).cell_ (i := 2) (v := .slice B q d) rfl)
  have k2 : ((w.alloc (.cells #[.int .i64 m, .slice A n c, .slice B q d] 25)).alloc (.cells #[.int .i64 m', .slice A' n' c', .slice B' q' d'] 25)).cell? ⟨w.heap.size + 1, 2, none⟩ = some (.slice B' q' d') := by
    have hz : (w.alloc (.cells #[.int .i64 m, .slice A n c, .slice B q d] 25)).heap.size = w.heap.size + 1 := by simp
    have := (Blk.new (w.alloc (.cells #[.int .i64 m, .slice A n c, .slice B q d] 25)) 25 #[.int .i64 m', .slice A' n' c', .slice B' q' d']).cell_ (i := 2) (v := .slice B' q' d') rfl
    rw [hz] at this
    exact this
  have K2 := hid k2
  clear k2
  have hne := neq_of (x := m) (y := m') rfl
  cases hmm : (m == m')
  · rw [hmm] at hne
    go_enter Try.func19, Try.ntmps19
    go_wp2_with fail
    go_ret
    exact ⟨ret_bool (by rw [Bool.false_and]), s1⟩
  rw [hmm] at hne
  go_enter Try.func19, Try.ntmps19
  go_wp2_with fail
  refine (eqIntS_any _ _ _ _ _ _ _ _ _ _ h1.ri h1'.ri (by omega)).mono ?_
  rintro e w1 ⟨rfl, d1⟩
  have k1 := (d1.cell _).trans K1.out
  have k2 := (d1.cell _).trans K2.out
  have s2 := s1.dr d1
  have q2 := q1.dr d1
  have q2' := q1'.dr d1
  cases he : eqI xs ys
  · go_wp2_with fail
    go_ret
    exact ⟨ret_bool (by rw [he]; rfl), s2⟩
  · go_wp2_with fail
    refine (eqStampS_any _ _ _ _ _ _ _ _ _ q2 q2' hm).mono ?_
    rintro e w2 ⟨rfl, s3⟩
    cases hh : eqSS ss ss'
    · go_wp2_with fail
      go_ret
      exact ⟨ret_bool (by rw [he, hh]; rfl), s2.trans s3⟩
    · go_wp2_with fail
      go_ret
      exact ⟨ret_bool (by rw [he, hh]; rfl), s2.trans s3⟩
theorem eqRound_same (m : Int) (A A' : Option Addr) (n c n' c' : Nat) (B B' : Option Addr) (q d q' d' : Nat) (xs : List Int) (ss : List (Int × Int)) (w : World) (h : SL w A n c xs) (k : SS w B q d ss) (h' : SL w A' n' c' xs) (k' : SS w B' q' d' ss)
    (hn : n ≤ 1048576) (hm : q ≤ 1048576) :
    Calls Try.prog 19 #[rdV m A n c B q d, rdV m A' n' c' B' q' d'] w fun e w' => e = .returned (.bool true) ∧ St w w' :=
  (eqRound_any m m A A' n c n' c' B B' q d q' d' xs xs ss ss w h k h' k' hn hm).mono fun _ _ ⟨a, b⟩ => ⟨by rw [a]; simp [eqI, eqSS], b⟩
theorem eqIntS_same (A A' : Option Addr) (n c n' c' B : Nat) (xs : List Int) (w : World) (h : RI w B A n xs) (h' : RI w B A' n' xs) (hn : n ≤ 140737488351232) :
    Calls Try.prog 20 #[.slice A n c, .slice A' n' c'] w fun e w' => e = .returned (.bool true) ∧ Dr w w' :=
  (eqIntS_any A A' n c n' c' B xs xs w h h' hn).mono fun _ _ ⟨a, b⟩ => ⟨by rw [a]; simp [eqI], b⟩
set_option maxHeartbeats 400000 in
theorem markRound_any (mm : Int) (A B : Option Addr) (n c m d base : Nat) (k : Int) (xs : List Int) (ss : List (Int × Int)) (w : World) (h : OI w base 3 A n c xs) (h' : OS w base B m d ss) (hdis : ∀ g, blockOf B = some g → blockOf A ≠ some g) (hn : n ≤ 1048576) (hm : m ≤ 1048576) (hk : 0 ≤ k) (hk' : k ≤ 4611686018) :
    Calls Try.prog 22 #[rdV mm A n c B m d, .int .i64 k] w fun e w' => e = .returned (.int .i64 (k + n + 2 * m)) ∧ OI w' base 3 A n c (marks k n) ∧ OS w' base B m d (smarks (k + n) m) ∧ Turned (fun g => blockOf A = some g ∨ blockOf B = some g) w w' := by
  have h1 := hid (World.ownsRow.alloc h (.cells #[.int .i64 mm, .slice A n c, .slice B m d] 25))
  have h1' := hid (World.ownsRow.alloc h'.2 (.cells #[.int .i64 mm, .slice A n c, .slice B m d] 25))
  have hb := hid (Blk.new w 25 #[.int .i64 mm, .slice A n c, .slice B m d])
  have hla : ∀ g, blockOf A = some g → base ≤ g ∧ g < w.heap.size := h.lt
  have HLA := hid hla
  have HD := hid hdis
  clear hla hdis
  go_enter Try.func22, Try.ntmps22
  go_wp2_with fail
  refine (markIntS_any _ _ _ _ _ _ _ h1.out hn hk (by omega)).mono ?_
  rintro e w1 ⟨rfl, o1, g1⟩
  have c1 := (hb.out.grown g1 (fun e => by have := (HLA.out _ e.symm).2; omega)).cell_ (i := 2) (v := .slice B m d) rfl
  have o1' : OS w1 base B m d ss := ⟨h'.1, World.ownsRow.kept h1'.out g1 (by rw [ownBlock_slice]; cases hB : blockOf B with | none => exact .inl rfl | some g => right; intro e; exact HD.out g hB e.symm)⟩
  have b1 : Turned (fun g => blockOf A = some g ∨ blockOf B = some g) w w1 := (Turned.of_st ((St.refl w).alloc _)).trans (Turned.of_grown g1 fun k hk => .inl hk)
  have o1 := hid o1
  clear g1
  go_wp2_with fail
  refine (markStampS_any _ _ _ _ _ _ _ o1' hm (by omega) (by omega)).mono ?_
  rintro e w2 ⟨rfl, o2, g2⟩
  go_wp2_with fail
  go_ret
  refine ⟨rfl, OI.grown o1.out g2 (fun g hg => HD.out g hg), o2, b1.trans (Turned.of_grown g2 fun k hk => .inr hk)⟩
set_option maxHeartbeats 400000 in
theorem heldRound_any (mm : Int) (A B : Option Addr) (n c m d : Nat) (k : Int) (w : World) (h : SL w A n c (marks k n)) (h' : SS w B m d (smarks (k + n) m)) (hn : n ≤ 1048576) (hm : m ≤ 1048576) (hk : 0 ≤ k) (hk' : k ≤ 4611686018) :
    Calls Try.prog 23 #[rdV mm A n c B m d, .int .i64 k] w fun e w' => e = .returned (.int .i64 (k + n + 2 * m)) ∧ St w w' := by
  have s1 := (St.refl w).alloc (.cells #[.int .i64 mm, .slice A n c, .slice B m d] 25)
  have h1 := h.st s1
  have h1' := h'.st s1
  have hb := hid ((Blk.new w 25 #[.int .i64 mm, .slice A n c, .slice B m d]).cell_ (i := 2) (v := .slice B m d) rfl)
  go_enter Try.func23, Try.ntmps23
  go_wp2_with fail
  refine (heldIntS_any _ _ _ _ _ _ h1.ri hn hk (by omega)).mono ?_
  rintro e w1 ⟨rfl, rfl⟩
  have hb1 := hb.out
  go_wp2_with fail
  refine (heldStampS_any _ _ _ _ _ h1' hm (by omega) (by omega)).mono ?_
  rintro e w1 ⟨rfl, rfl⟩
  go_wp2_with fail
  go_ret
  exact ⟨rfl, s1⟩
/-- What RoundNew gives: whether, the message, the groups. -/
def rnOk (m : Int) (gs : List Int) : Bool := isMsg m && gset gs
def rnM (m : Int) (gs : List Int) : Int := if rnOk m gs then m else 0
def rnG (m : Int) (gs : List Int) : List Int := if rnOk m gs then gs else []
theorem rnG_le (m : Int) (gs : List Int) : (rnG m gs).length ≤ gs.length := by unfold rnG; split <;> simp
set_option maxHeartbeats 400000 in
theorem RoundNew_any (m : Int) (A : Option Addr) (n c : Nat) (xs : List Int) (w : World) (h : RI w w.heap.size A n xs) (hn : n ≤ 1048576) :
    Calls Try.prog 18 #[.int .i64 m, .slice A n c] w fun e w' => ∃ A1 c1, e = .returned (.tuple #[rdV (rnM m xs) A1 (rnG m xs).length c1 none 0 0, .bool (rnOk m xs)]) ∧
      OI w' w.heap.size 3 A1 (rnG m xs).length c1 (rnG m xs) ∧ St w w' := by
  have b1 := (St.refl w).alloc (.cells #[.int .i64 0, .slice none 0 0, .slice none 0 0] 25)
  have h1 := (h.below b1).more b1.le
  have bad : rnOk m xs = false → ∀ w', St w w' → ∃ A1 c1, Ending.returned (.tuple #[rdV 0 none 0 0 none 0 0, .bool false]) = .returned (.tuple #[rdV (rnM m xs) A1 (rnG m xs).length c1 none 0 0, .bool (rnOk m xs)]) ∧ OI w' w.heap.size 3 A1 (rnG m xs).length c1 (rnG m xs) ∧ St w w' := by
    intro hb w' hs
    have e1 : rnM m xs = 0 := by simp [rnM, hb]
    have e2 : rnG m xs = [] := by simp [rnG, hb]
    rw [e1, e2, hb]
    exact ⟨none, 0, rfl, World.ownsRow_nil _ _ _ _, hs⟩
  have HBad := hid bad
  clear bad
  cases hm : isMsg m
  · have HF := hid (show rnOk m xs = false by unfold rnOk; rw [hm]; rfl)
    go_enter Try.func18, Try.ntmps18
    go_wp2_with fail
    refine (isMessage_any _ _).mono ?_
    rintro e w1 ⟨rfl, rfl⟩
    go_wp2_with fail
    refine bodyPost_ret (v := .tuple #[rdV 0 none 0 0 none 0 0, .bool false]) (by simp [results, Try.results18, go_sem]) rfl (HBad.out HF.out _ b1)
  cases hg : gset xs
  · have HF := hid (show rnOk m xs = false by unfold rnOk; rw [hm, hg]; rfl)
    have hr0 := hid ((Blk.new w 25 #[.int .i64 0, .slice none 0 0, .slice none 0 0]))
    go_enter Try.func18, Try.ntmps18
    go_wp2_with fail
    refine (isMessage_any _ _).mono ?_
    rintro e w1 ⟨rfl, rfl⟩
    go_wp2_with fail
    refine (GroupsValid_any _ _ _ _ _ _ h1 (by omega)).mono ?_
    rintro e w2 ⟨rfl, d2⟩
    have k2 := hr0.out.dr d2
    have c0 := k2.cell_ (i := 0) (v := .int .i64 0) rfl
    have c1 := k2.cell_ (i := 1) (v := .slice none 0 0) rfl
    have c2 := k2.cell_ (i := 2) (v := .slice none 0 0) rfl
    have f0 := k2.frozen 0
    have f1 := k2.frozen 1
    have f2 := k2.frozen 2
    have k3 := ((k2.set_ 0 (.int .i64 0)).set_ 1 (.slice none 0 0)).set_ 2 (.slice none 0 0)
    have r0 := k3.cell_ (i := 0) (v := .int .i64 0) rfl
    have r1 := k3.cell_ (i := 1) (v := .slice none 0 0) rfl
    have r2 := k3.cell_ (i := 2) (v := .slice none 0 0) rfl
    have S3 := hid ((((b1.dr d2).setCell (p := ⟨w.heap.size, 0, none⟩) (Nat.le_refl _) (.int .i64 0)).setCell (p := ⟨w.heap.size, 1, none⟩) (Nat.le_refl _) (.slice none 0 0)).setCell (p := ⟨w.heap.size, 2, none⟩) (Nat.le_refl _) (.slice none 0 0))
    go_wp2_with fail
    refine bodyPost_ret (v := .tuple #[rdV 0 none 0 0 none 0 0, .bool false]) (by simp [results, Try.results18, go_sem, r0, r1, r2]) rfl (HBad.out HF.out _ S3.out)
  · have HF := hid (show rnOk m xs = true by unfold rnOk; rw [hm, hg]; rfl)
    have hr0 := hid ((Blk.new w 25 #[.int .i64 0, .slice none 0 0, .slice none 0 0]))
    go_enter Try.func18, Try.ntmps18
    go_wp2_with fail
    refine (isMessage_any _ _).mono ?_
    rintro e w1 ⟨rfl, rfl⟩
    go_wp2_with fail
    refine (GroupsValid_any _ _ _ _ _ _ h1 (by omega)).mono ?_
    rintro e w2 ⟨rfl, d2⟩
    have k2 := hid (hr0.out.dr d2)
    have h2 := h1.dr d2
    have b2 := b1.dr d2
    have z2 := d2.size
    rw [← z2] at h2
    have Z2 := hid z2
    clear z2
    go_wp2_with fail
    refine (cloneInt_any _ _ _ _ _ h2 hn).mono ?_
    rintro e w3 ⟨A3, c3, rfl, o3, s3⟩
    have hz3 : w.heap.size < w2.heap.size := by rw [Z2.out]; simp
    have k3 := k2.out.below s3 (by have := k2.out.lt; exact this)
    have c0 := k3.cell_ (i := 0) (v := .int .i64 0) rfl
    have c1 := k3.cell_ (i := 1) (v := .slice none 0 0) rfl
    have c2 := k3.cell_ (i := 2) (v := .slice none 0 0) rfl
    have f0 := k3.frozen 0
    have f1 := k3.frozen 1
    have f2 := k3.frozen 2
    have k4 := ((k3.set_ 0 (.int .i64 m)).set_ 1 (.slice A3 xs.length c3)).set_ 2 (.slice none 0 0)
    have r0 := k4.cell_ (i := 0) (v := .int .i64 m) rfl
    have r1 := k4.cell_ (i := 1) (v := .slice A3 xs.length c3) rfl
    have r2 := k4.cell_ (i := 2) (v := .slice none 0 0) rfl
    have S4 := hid ((((b2.trans s3).setCell (p := ⟨w.heap.size, 0, none⟩) (Nat.le_refl _) (.int .i64 m)).setCell (p := ⟨w.heap.size, 1, none⟩) (Nat.le_refl _) (.slice A3 xs.length c3)).setCell (p := ⟨w.heap.size, 2, none⟩) (Nat.le_refl _) (.slice none 0 0))
    have o4 := ((OI.row (o3) (World.grownBy_set w3 w.heap.size 0 (.int .i64 m)) hz3).row (World.grownBy_set _ w.heap.size 1 (.slice A3 xs.length c3)) hz3).row (World.grownBy_set _ w.heap.size 2 (.slice none 0 0)) hz3
    have O4 := hid (o4.less (base' := w.heap.size) (by omega))
    clear k3 k4 o4 o3
    go_wp2_with fail
    refine bodyPost_ret (v := .tuple #[rdV m A3 xs.length c3 none 0 0, .bool true]) (by simp [results, Try.results18, go_sem, r0, r1, r2]) rfl ?_
    have e1 : rnM m xs = m := by simp [rnM, HF.out]
    have e2 : rnG m xs = xs := by simp [rnG, HF.out]
    rw [e1, e2, HF.out]
    exact ⟨_, _, rfl, O4.out, S4.out⟩
set_option maxHeartbeats 400000 in
theorem specRoundNew_any (m : Int) (A : Option Addr) (n c : Nat) (xs : List Int) (w : World) (h : RI w w.heap.size A n xs) (hn : n ≤ 1048576) :
    Calls Try.prog 16 #[.int .i64 m, .slice A n c] w fun e w' => ∃ A1 c1 B1 d1, e = .returned (.tuple #[rdV (rnM m xs) A1 (rnG m xs).length c1 B1 0 d1, .bool (rnOk m xs)]) ∧
      SL w' A1 (rnG m xs).length c1 (rnG m xs) ∧ SS w' B1 0 d1 [] ∧ St w w' := by
  have b1 := (St.refl w).alloc (.cells #[.int .i64 0, .slice none 0 0, .slice none 0 0] 25)
  have h1 := (h.below b1).more b1.le
  have bad : rnOk m xs = false → ∀ w', St w w' → ∃ A1 c1 B1 d1, Ending.returned (.tuple #[rdV 0 none 0 0 none 0 0, .bool false]) = .returned (.tuple #[rdV (rnM m xs) A1 (rnG m xs).length c1 B1 0 d1, .bool (rnOk m xs)]) ∧ SL w' A1 (rnG m xs).length c1 (rnG m xs) ∧ SS w' B1 0 d1 [] ∧ St w w' := by
    intro hb w' hs
    have e1 : rnM m xs = 0 := by simp [rnM, hb]
    have e2 : rnG m xs = [] := by simp [rnG, hb]
    rw [e1, e2, hb]
    exact ⟨none, 0, none, 0, rfl, SL.none_, SS.none_, hs⟩
  have HBad := hid bad
  clear bad
  cases hm : isMsg m
  · have HF := hid (show rnOk m xs = false by unfold rnOk; rw [hm]; rfl)
    go_enter Try.func16, Try.ntmps16
    go_wp2_with fail
    refine (l11Message_any _ _).mono ?_
    rintro e w1 ⟨rfl, rfl⟩
    go_wp2_with fail
    refine bodyPost_ret (v := .tuple #[rdV 0 none 0 0 none 0 0, .bool false]) (by simp [results, Try.results16, go_sem]) rfl (HBad.out HF.out _ b1)
  cases hg : gset xs
  · have HF := hid (show rnOk m xs = false by unfold rnOk; rw [hm, hg]; rfl)
    have hr0 := hid ((Blk.new w 25 #[.int .i64 0, .slice none 0 0, .slice none 0 0]))
    go_enter Try.func16, Try.ntmps16
    go_wp2_with fail
    refine (l11Message_any _ _).mono ?_
    rintro e w1 ⟨rfl, rfl⟩
    go_wp2_with fail
    refine (specGroupsValid_any _ _ _ _ _ _ h1 (by omega)).mono ?_
    rintro e w2 ⟨rfl, d2⟩
    have k2 := hr0.out.dr d2
    have c0 := k2.cell_ (i := 0) (v := .int .i64 0) rfl
    have c1 := k2.cell_ (i := 1) (v := .slice none 0 0) rfl
    have c2 := k2.cell_ (i := 2) (v := .slice none 0 0) rfl
    have f0 := k2.frozen 0
    have f1 := k2.frozen 1
    have f2 := k2.frozen 2
    have k3 := ((k2.set_ 0 (.int .i64 0)).set_ 1 (.slice none 0 0)).set_ 2 (.slice none 0 0)
    have r0 := k3.cell_ (i := 0) (v := .int .i64 0) rfl
    have r1 := k3.cell_ (i := 1) (v := .slice none 0 0) rfl
    have r2 := k3.cell_ (i := 2) (v := .slice none 0 0) rfl
    have S3 := hid ((((b1.dr d2).setCell (p := ⟨w.heap.size, 0, none⟩) (Nat.le_refl _) (.int .i64 0)).setCell (p := ⟨w.heap.size, 1, none⟩) (Nat.le_refl _) (.slice none 0 0)).setCell (p := ⟨w.heap.size, 2, none⟩) (Nat.le_refl _) (.slice none 0 0))
    go_wp2_with fail
    refine bodyPost_ret (v := .tuple #[rdV 0 none 0 0 none 0 0, .bool false]) (by simp [results, Try.results16, go_sem, r0, r1, r2]) rfl (HBad.out HF.out _ S3.out)
  · have HF := hid (show rnOk m xs = true by unfold rnOk; rw [hm, hg]; rfl)
    have hr0 := hid ((Blk.new w 25 #[.int .i64 0, .slice none 0 0, .slice none 0 0]))
    have HLx := hid h.len
    go_enter Try.func16, Try.ntmps16
    go_wp2_with fail
    refine (l11Message_any _ _).mono ?_
    rintro e w1 ⟨rfl, rfl⟩
    go_wp2_with fail
    refine (specGroupsValid_any _ _ _ _ _ _ h1 (by omega)).mono ?_
    rintro e w2 ⟨rfl, d2⟩
    have k2 := hid (hr0.out.dr d2)
    have hz2 : w.heap.size < w2.heap.size := by rw [d2.size]; simp
    have b2 := hid (b1.dr d2)
    have HO := hid (OI.lit (w := w2) (e := 3))
    have HA := hid ((h1.dr d2).alloc (Nat.le_of_eq d2.size.symm) (.cells #[] 3))
    clear d2
    go_wp2_with (at_builtin; refine wpList_append_src _ rfl _ _ 22 rfl w2.heap.size 3 Try.underlying22 intInfo (some ⟨w2.heap.size, 0, none⟩) 0 0 [] rfl HO.out _ A n c xs rfl HA.out (by omega) (by simp) ?_; intro A3 c3 w3 o3 hg3; have hg4 : (w2.alloc (.cells #[] 3)).grownBy w3 (some w2.heap.size) := hg3; have k3 := ((k2.out.alloc (.cells #[] 3)).grown hg4 (fun e => (by injection e with e; omega))).alloc (.cells #[] 45); have c0 := k3.cell_ (i := 0) (v := .int .i64 0) rfl; have c1 := k3.cell_ (i := 1) (v := .slice none 0 0) rfl; have c2 := k3.cell_ (i := 2) (v := .slice none 0 0) rfl; have f0 := k3.frozen 0; have f1 := k3.frozen 1; have f2 := k3.frozen 2; simp only [Nat.zero_add, List.nil_append] at o3 ⊢)
    have k4 := ((k3.set_ 0 (.int .i64 m)).set_ 1 (.slice A3 n c3)).set_ 2 (.slice (some ⟨w3.heap.size, 0, none⟩) 0 0)
    have r0 := k4.cell_ (i := 0) (v := .int .i64 m) rfl
    have r1 := k4.cell_ (i := 1) (v := .slice A3 n c3) rfl
    have r2 := k4.cell_ (i := 2) (v := .slice (some ⟨w3.heap.size, 0, none⟩) 0 0) rfl
    have s3 : St w w3 := St.grown (b2.out.alloc _) hg4 (fun g hg => by injection hg with hg; omega)
    have S4 := ((((s3.alloc (.cells #[] 45)).setCell (p := ⟨w.heap.size, 0, none⟩) (Nat.le_refl _) (.int .i64 m)).setCell (p := ⟨w.heap.size, 1, none⟩) (Nat.le_refl _) (.slice A3 n c3)).setCell (p := ⟨w.heap.size, 2, none⟩) (Nat.le_refl _) (.slice (some ⟨w3.heap.size, 0, none⟩) 0 0))
    have o4 := ((OI.row (World.ownsRow.alloc o3 (.cells #[] 45)) (World.grownBy_set _ w.heap.size 0 (.int .i64 m)) hz2).row (World.grownBy_set _ w.heap.size 1 (.slice A3 n c3)) hz2).row (World.grownBy_set _ w.heap.size 2 (.slice (some ⟨w3.heap.size, 0, none⟩) 0 0)) hz2
    refine bodyPost_ret (v := .tuple #[rdV m A3 n c3 (some ⟨w3.heap.size, 0, none⟩) 0 0, .bool true]) (by simp [results, Try.results16, go_sem, r0, r1, r2]) rfl ?_
    have e1 : rnM m xs = m := by simp [rnM, HF.out]
    have e2 : rnG m xs = xs := by simp [rnG, HF.out]
    rw [e1, e2, HF.out, HLx.out]
    exact ⟨_, _, _, _, rfl, o4.sl, SS.empty _ _ (Nat.zero_le _), S4⟩
theorem RoundNew_one (m : Int) (A : Option Addr) (n c : Nat) (xs : List Int) (w : World) (h : RI w w.heap.size A n xs) (hn : n ≤ 1048576) :
    Calls Try.prog 18 #[.int .i64 m, .slice A n c] w fun e w' => ∃ A1 c1 B1 d1, e = .returned (.tuple #[rdV (rnM m xs) A1 (rnG m xs).length c1 B1 0 d1, .bool (rnOk m xs)]) ∧
      OI w' w.heap.size 3 A1 (rnG m xs).length c1 (rnG m xs) ∧ OS w' w.heap.size B1 0 d1 [] ∧ (∀ g, blockOf B1 = some g → blockOf A1 ≠ some g) ∧ St w w' :=
  (RoundNew_any m A n c xs w h hn).mono fun _ _ ⟨A1, c1, he, ho, hs⟩ => ⟨A1, c1, none, 0, he, ho, OS.nil _ _, by simp [blockOf], hs⟩
end Go.Proofs.Ytldclkjknhjbfaa
