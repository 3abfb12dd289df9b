/- Groups in the program: the entry of a message, the delivered messages, the first pending one. -/
import Derived.Test.YtkhgemgmnchodaaGr3
namespace Go.Proofs.Ytkhgemgmnchodaa
open Go.RowKit Go.Sort
theorem alloc2_size (w : World) (o o' : Obj) : ((w.alloc o).alloc o').heap.size = w.heap.size + 1 + 1 := by simp
/-- The second of two new blocks. -/
theorem blk_second (w : World) (o : Obj) (t : TypeId) (cs : Array Value) : Blk ((w.alloc o).alloc (.cells cs t)) (w.heap.size + 1) t cs := by
  have := Blk.new (w.alloc o) t cs
  rw [World.heap_alloc_size'] at this
  exact this
abbrev ez : Array Value := #[.int .i64 0, .int .i64 0, .int .i64 0, .bool false]
/-- What the search for a message returns. -/
def stRes (o : Option Ent) : Value := .tuple #[.agg (entA (o.getD e0)), .bool o.isSome]
theorem stRes_none {o : Option Ent} (h : o = none) : Ending.returned (.tuple #[.agg ez, .bool false]) = .returned (stRes o) := by rw [h]; rfl
theorem stRes_some {o : Option Ent} {m t g : Int} {f : Bool} (h : o = some (m, (t, g), f)) : Ending.returned (.tuple #[enV m t g f, .bool true]) = .returned (stRes o) := by rw [h]; rfl
set_option maxRecDepth 100000 in
set_option maxHeartbeats 2000000 in
theorem GroupStamp_any (I K : Int) (A B : Option Addr) (n c m d : Nat) (ps ds : List Ent) (x : Int) (w : World) (h : SE w A n c ps) (h' : SE w B m d ds) (hn : n ≤ 1048576) (hm : m ≤ 1048576) :
    Calls Try.prog 22 #[grV I K A n c B m d, .int .i64 x] w fun e w' => e = .returned (stRes (stampG ⟨I, K, ps, ds⟩ x)) ∧ St w w' := by
  have s0 := ((St.refl w).alloc (.cells (grC I K A n c B m d) 25)).alloc (.cells ez 34)
  have K0 := hid ((Blk.new w 25 (grC I K A n c B m d)).alloc (.cells ez 34))
  have B0 := hid (blk_second w (.cells (grC I K A n c B m d) 25) 34 ez)
  have H0 := hid (h.st s0)
  have H0' := hid (h'.st s0)
  have S0 := hid s0
  clear s0 h h'
  go_enter Try.func22, Try.ntmps22
  go_wp2_with fail
  generalize (w.alloc (.cells _ 25)).alloc (.cells _ 34) = w0 at *
  have g0 := K0.out.cell_ (i := 0) (v := .int .i64 I) rfl
  have g1 := K0.out.cell_ (i := 1) (v := .int .i64 K) rfl
  have g2 := K0.out.cell_ (i := 2) (v := .slice A n c) rfl
  have g3 := K0.out.cell_ (i := 3) (v := .slice B m d) rfl
  refine (GroupValid_any _ _ _ _ _ _ _ _ _ _ _ H0.out H0'.out hn hm).mono ?_
  rintro e w1 ⟨rfl, s1⟩
  replace K0 := hid (K0.out.st s1)
  replace B0 := hid (B0.out.st s1)
  replace H0 := hid (H0.out.st s1)
  replace H0' := hid (H0'.out.st s1)
  replace g0 := s1.cell g0
  replace g1 := s1.cell g1
  replace g2 := s1.cell g2
  replace g3 := s1.cell g3
  have S1 := hid (S0.out.trans s1)
  clear s1 S0
  cases hv : grOk ⟨I, K, ps, ds⟩
  · have HB := hid (stampG_bad hv x)
    have frr0 := B0.out.frozen 0
    have frr1 := B0.out.frozen 1
    have frr2 := B0.out.frozen 2
    have frr3 := B0.out.frozen 3
    have qrr0 := B0.out.cell_ (i := 0) (v := .int .i64 0) rfl
    have qrr1 := B0.out.cell_ (i := 1) (v := .int .i64 0) rfl
    have qrr2 := B0.out.cell_ (i := 2) (v := .int .i64 0) rfl
    have qrr3 := B0.out.cell_ (i := 3) (v := .bool false) rfl
    have Fr := ((((B0.out.set_ 0 (.int .i64 0)).set_ 1 (.int .i64 0)).set_ 2 (.int .i64 0)).set_ 3 (.bool false))
    have r0 := Fr.cell_ (i := 0) (v := .int .i64 0) rfl
    have r1 := Fr.cell_ (i := 1) (v := .int .i64 0) rfl
    have r2 := Fr.cell_ (i := 2) (v := .int .i64 0) rfl
    have r3 := Fr.cell_ (i := 3) (v := .bool false) rfl
    have S2 := hid ((((S1.out.setCell (p := ⟨w.heap.size + 1, 0, none⟩) (by first | (simp; done) | omega | (simp; omega)) (.int .i64 0)).setCell (p := ⟨w.heap.size + 1, 1, none⟩) (by first | (simp; done) | omega | (simp; omega)) (.int .i64 0)).setCell (p := ⟨w.heap.size + 1, 2, none⟩) (by first | (simp; done) | omega | (simp; omega)) (.int .i64 0)).setCell (p := ⟨w.heap.size + 1, 3, none⟩) (by first | (simp; done) | omega | (simp; omega)) (.bool false))
    clear Fr
    go_wp2_with fail
    refine bodyPost_ret (v := .tuple #[.agg ez, .bool false]) (by simp [results, Try.results22, go_sem, r0, r1, r2, r3]) rfl ⟨stRes_none HB.out, S2.out⟩
  · have HV := hid (show stampG ⟨I, K, ps, ds⟩ x = (findE ps x).or (findE ds x) by unfold stampG; rw [hv]; rfl)
    clear hv
    have i0 : ∀ w : World, (Instr.index 71 (.agg #[.slice A n c, .slice B m d]) (.int .i64 0)).run Try.prog w = .ok (.slice A n c) w := fun _ => by kernel_rfl
    have i1 : ∀ w : World, (Instr.index 71 (.agg #[.slice A n c, .slice B m d]) (.int .i64 1)).run Try.prog w = .ok (.slice B m d) w := fun _ => by kernel_rfl
    go_wp2_with fail
    go_loopw [18] (fun i wr => ∃ k : Nat, k ≤ 2 ∧ i = .int .i64 (k : Int) ∧ Hid (1 ≤ k → findE ps x = none) ∧ Hid (2 ≤ k → findE ds x = none) ∧ Hid (St w1 wr)) (fun i _ => 2 - (intOf i).toNat)
    case atStart => exact ⟨0, by omega, rfl, hid (fun h => by omega), hid (fun h => by omega), St.refl _⟩
    case round =>
      obtain ⟨wa, rfl⟩ : ∃ wo : World, wo = wr := ⟨_, rfl⟩
      obtain ⟨k, hk, rfl, hp, hq, hd⟩ := hrel
      have H1 := hid (H0.out.st hd.out)
      have H1' := hid (H0'.out.st hd.out)
      match k, hk with
      | 0, _ =>
        go_wp2_with fail
        refine (indexOf_any _ _ _ _ _ _ H1.out).mono ?_
        rintro e w2 ⟨rfl, s2⟩
        have D2 := hid (hd.out.trans s2)
        clear s2
        rcases idx_cases ps x with ⟨h1, h2, _⟩ | ⟨j, e, hj, he, hem, h1, h2⟩
        · rw [h1]
          have HN := hid h2
          clear h1 h2
          go_wp2_with fail
          go_roundw
          case rel => exact ⟨0 + 1, by omega, by go_num, hid (fun _ => HN.out), hid (fun h => by omega), D2⟩
          case measure => simp [intOf]
        · rw [h1]
          have HJ := hid hj
          rw [H0.out.len] at hj
          obtain ⟨ad, m1, t1, g1', f1, rfl, hb1, hx, c0, c1, c2, c3⟩ := (H0.out.st D2.out).at_ hj
          have HF := hid (show stampG ⟨I, K, ps, ds⟩ x = some (m1, (t1, g1'), f1) by rw [HV.out, h2]; rw [← he, hx.out]; rfl)
          have hji : ¬ (j : Int) < 0 := by omega
          have hji1 : (0 : Int) ≤ (j : Int) := by omega
          have hji2 : (j : Int) < (n : Int) := by omega
          have B2 := hid (B0.out.st D2.out)
          have S2 := hid (S1.out.trans D2.out)
          have frr0 := B2.out.frozen 0
          have frr1 := B2.out.frozen 1
          have frr2 := B2.out.frozen 2
          have frr3 := B2.out.frozen 3
          have qrr0 := B2.out.cell_ (i := 0) (v := .int .i64 0) rfl
          have qrr1 := B2.out.cell_ (i := 1) (v := .int .i64 0) rfl
          have qrr2 := B2.out.cell_ (i := 2) (v := .int .i64 0) rfl
          have qrr3 := B2.out.cell_ (i := 3) (v := .bool false) rfl
          have Fr := ((((B2.out.set_ 0 (.int .i64 m1)).set_ 1 (.int .i64 t1)).set_ 2 (.int .i64 g1')).set_ 3 (.bool f1))
          have r0 := Fr.cell_ (i := 0) (v := .int .i64 m1) rfl
          have r1 := Fr.cell_ (i := 1) (v := .int .i64 t1) rfl
          have r2 := Fr.cell_ (i := 2) (v := .int .i64 g1') rfl
          have r3 := Fr.cell_ (i := 3) (v := .bool f1) rfl
          have S3 := hid ((((S2.out.setCell (p := ⟨w.heap.size + 1, 0, none⟩) (by first | (simp; done) | omega | (simp; omega)) (.int .i64 m1)).setCell (p := ⟨w.heap.size + 1, 1, none⟩) (by first | (simp; done) | omega | (simp; omega)) (.int .i64 t1)).setCell (p := ⟨w.heap.size + 1, 2, none⟩) (by first | (simp; done) | omega | (simp; omega)) (.int .i64 g1')).setCell (p := ⟨w.heap.size + 1, 3, none⟩) (by first | (simp; done) | omega | (simp; omega)) (.bool f1))
          clear Fr
          clear h1 h2 he hem
          go_wp2_with fail
          refine bodyPost_ret (v := .tuple #[enV m1 t1 g1' f1, .bool true]) (by simp [results, Try.results22, go_sem, r0, r1, r2, r3]) rfl ⟨stRes_some HF.out, S3.out⟩
      | 1, _ =>
        have hp := hid (hp.out (by omega))
        go_wp2_with fail
        refine (indexOf_any _ _ _ _ _ _ H1'.out).mono ?_
        rintro e w2 ⟨rfl, s2⟩
        have D2 := hid (hd.out.trans s2)
        clear s2
        rcases idx_cases ds x with ⟨h1, h2, _⟩ | ⟨j, e, hj, he, hem, h1, h2⟩
        · rw [h1]
          have HN := hid h2
          clear h1 h2
          go_wp2_with fail
          go_roundw
          case rel => exact ⟨1 + 1, by omega, by go_num, hid (fun _ => hp.out), hid (fun _ => HN.out), D2⟩
          case measure => simp [intOf]
        · rw [h1]
          rw [H0'.out.len] at hj
          obtain ⟨ad, m1, t1, g1', f1, rfl, hb1, hx, c0, c1, c2, c3⟩ := (H0'.out.st D2.out).at_ hj
          have HF := hid (show stampG ⟨I, K, ps, ds⟩ x = some (m1, (t1, g1'), f1) by rw [HV.out, hp.out, h2]; rw [← he, hx.out]; rfl)
          have hji : ¬ (j : Int) < 0 := by omega
          have hji1 : (0 : Int) ≤ (j : Int) := by omega
          have hji2 : (j : Int) < (m : Int) := by omega
          have B2 := hid (B0.out.st D2.out)
          have S2 := hid (S1.out.trans D2.out)
          have frr0 := B2.out.frozen 0
          have frr1 := B2.out.frozen 1
          have frr2 := B2.out.frozen 2
          have frr3 := B2.out.frozen 3
          have qrr0 := B2.out.cell_ (i := 0) (v := .int .i64 0) rfl
          have qrr1 := B2.out.cell_ (i := 1) (v := .int .i64 0) rfl
          have qrr2 := B2.out.cell_ (i := 2) (v := .int .i64 0) rfl
          have qrr3 := B2.out.cell_ (i := 3) (v := .bool false) rfl
          have Fr := ((((B2.out.set_ 0 (.int .i64 m1)).set_ 1 (.int .i64 t1)).set_ 2 (.int .i64 g1')).set_ 3 (.bool f1))
          have r0 := Fr.cell_ (i := 0) (v := .int .i64 m1) rfl
          have r1 := Fr.cell_ (i := 1) (v := .int .i64 t1) rfl
          have r2 := Fr.cell_ (i := 2) (v := .int .i64 g1') rfl
          have r3 := Fr.cell_ (i := 3) (v := .bool f1) rfl
          have S3 := hid ((((S2.out.setCell (p := ⟨w.heap.size + 1, 0, none⟩) (by first | (simp; done) | omega | (simp; omega)) (.int .i64 m1)).setCell (p := ⟨w.heap.size + 1, 1, none⟩) (by first | (simp; done) | omega | (simp; omega)) (.int .i64 t1)).setCell (p := ⟨w.heap.size + 1, 2, none⟩) (by first | (simp; done) | omega | (simp; omega)) (.int .i64 g1')).setCell (p := ⟨w.heap.size + 1, 3, none⟩) (by first | (simp; done) | omega | (simp; omega)) (.bool f1))
          clear Fr
          clear h1 h2 he hem
          go_wp2_with fail
          refine bodyPost_ret (v := .tuple #[enV m1 t1 g1' f1, .bool true]) (by simp [results, Try.results22, go_sem, r0, r1, r2, r3]) rfl ⟨stRes_some HF.out, S3.out⟩
      | 2, _ =>
        have HN := hid (show stampG ⟨I, K, ps, ds⟩ x = none by rw [HV.out, hp.out (by omega), hq.out (by omega)]; rfl)
        have B2 := hid (B0.out.st hd.out)
        have S2 := hid (S1.out.trans hd.out)
        have frr0 := B2.out.frozen 0
        have frr1 := B2.out.frozen 1
        have frr2 := B2.out.frozen 2
        have frr3 := B2.out.frozen 3
        have qrr0 := B2.out.cell_ (i := 0) (v := .int .i64 0) rfl
        have qrr1 := B2.out.cell_ (i := 1) (v := .int .i64 0) rfl
        have qrr2 := B2.out.cell_ (i := 2) (v := .int .i64 0) rfl
        have qrr3 := B2.out.cell_ (i := 3) (v := .bool false) rfl
        have Fr := ((((B2.out.set_ 0 (.int .i64 0)).set_ 1 (.int .i64 0)).set_ 2 (.int .i64 0)).set_ 3 (.bool false))
        have r0 := Fr.cell_ (i := 0) (v := .int .i64 0) rfl
        have r1 := Fr.cell_ (i := 1) (v := .int .i64 0) rfl
        have r2 := Fr.cell_ (i := 2) (v := .int .i64 0) rfl
        have r3 := Fr.cell_ (i := 3) (v := .bool false) rfl
        have S3 := hid ((((S2.out.setCell (p := ⟨w.heap.size + 1, 0, none⟩) (by first | (simp; done) | omega | (simp; omega)) (.int .i64 0)).setCell (p := ⟨w.heap.size + 1, 1, none⟩) (by first | (simp; done) | omega | (simp; omega)) (.int .i64 0)).setCell (p := ⟨w.heap.size + 1, 2, none⟩) (by first | (simp; done) | omega | (simp; omega)) (.int .i64 0)).setCell (p := ⟨w.heap.size + 1, 3, none⟩) (by first | (simp; done) | omega | (simp; omega)) (.bool false))
        clear Fr
        go_wp2_with fail
        refine bodyPost_ret (v := .tuple #[.agg ez, .bool false]) (by simp [results, Try.results22, go_sem, r0, r1, r2, r3]) rfl ⟨stRes_none HN.out, S3.out⟩
      | k + 3, hk => exact absurd hk (by omega)
/-- The delivered messages. -/
def traceG (g : Grp) : List Int := if grOk g then msgs g.done else []
set_option maxRecDepth 100000 in
set_option maxHeartbeats 2000000 in
theorem GroupTrace_any (I K : Int) (A B : Option Addr) (n c m d : Nat) (ps ds : List Ent) (w : World) (h : SE w A n c ps) (h' : SE w B m d ds) (hn : n ≤ 1048576) (hm : m ≤ 1048576) :
    Calls Try.prog 21 #[grV I K A n c B m d] w (MadeI w (traceG ⟨I, K, ps, ds⟩)) := by
  have s0 := (St.refl w).alloc (.cells (grC I K A n c B m d) 25)
  have K0 := hid (Blk.new w 25 (grC I K A n c B m d))
  have H0 := hid (h.st s0)
  have H0' := hid (h'.st s0)
  have S0 := hid s0
  have HL := hid h'.len
  clear s0 h h'
  go_enter Try.func21, Try.ntmps21
  go_wp2_with fail
  generalize w.alloc (.cells _ 25) = w0 at *
  have g0 := K0.out.cell_ (i := 0) (v := .int .i64 I) rfl
  have g1 := K0.out.cell_ (i := 1) (v := .int .i64 K) rfl
  have g2 := K0.out.cell_ (i := 2) (v := .slice A n c) rfl
  have g3 := K0.out.cell_ (i := 3) (v := .slice B m d) rfl
  refine (GroupValid_any _ _ _ _ _ _ _ _ _ _ _ H0.out H0'.out hn hm).mono ?_
  rintro e w1 ⟨rfl, s1⟩
  replace K0 := hid (K0.out.st s1)
  replace H0' := hid (H0'.out.st s1)
  replace g0 := s1.cell g0
  replace g1 := s1.cell g1
  replace g2 := s1.cell g2
  replace g3 := s1.cell g3
  have S1 := hid (S0.out.trans s1)
  clear s1 S0 H0
  cases hv : grOk ⟨I, K, ps, ds⟩
  · have HB := hid (show traceG ⟨I, K, ps, ds⟩ = [] by unfold traceG; rw [hv]; rfl)
    go_wp2_with fail
    go_ret
    refine ⟨none, 0, ?_, ?_, S1.out⟩
    · rw [HB.out]; rfl
    · rw [HB.out]; exact World.ownsRow_nil _ _ _ _
  · have HV := hid (show traceG ⟨I, K, ps, ds⟩ = msgs ds by unfold traceG; rw [hv]; rfl)
    clear hv
    have O1 := hid (OI.lit (w := w1) (e := 3))
    have z1 := S1.out.le
    have T1 := hid ((St.refl w1).alloc (.cells #[] 3))
    have g3 := T1.out.cell g3
    go_wp2_with fail
    generalize w1.alloc (.cells #[] 3) = w2 at *
    go_loopw [13, 3] (fun i v wr => ∃ (k a : Nat) (X : Option Addr), k ≤ m ∧ i = .int .i64 (k : Int) ∧ v = .slice X k a ∧ Hid (OI wr w1.heap.size 3 X k a ((msgs ds).take k)) ∧ Hid (St w1 wr)) (fun i _ _ => m - (intOf i).toNat)
    case atStart => exact ⟨0, 0, _, Nat.zero_le _, rfl, rfl, O1, T1⟩
    case round =>
      obtain ⟨wa, rfl⟩ : ∃ wo : World, wo = wr := ⟨_, rfl⟩
      obtain ⟨k, a, X, hk, rfl, rfl, ho, hd⟩ := hrel
      have R := hid (H0'.out.st hd.out)
      by_cases hlt : k < m
      · obtain ⟨ad, m1, t1, g1', f1, rfl, hb1, hx, c0, c1, c2, c3⟩ := R.out.at_ hlt
        have HM := hid (msgs_at hx.out)
        have sa := (St.refl wa).alloc (.cells #[.int .i64 m1, .int .i64 t1, .int .i64 g1', .bool f1] 34)
        have oa := ho.out.st sa
        have SA := hid (hd.out.trans sa)
        have hle := SA.out.le
        have hki : (0 : Int) ≤ (k : Int) := by omega
        have hki2 : (k : Int) < (m : Int) := by omega
        clear sa
        go_wp2_with (at_builtin; refine wpList_append_int _ rfl _ _ 28 rfl w1.heap.size 3 Try.underlying28 intInfo _ _ _ _ m1 rfl oa (by rw [World.heap_alloc_size']; rfl) (by omega) hle ?_; intro X2 a2 w3 ho3 hg3)
        have o3 : Hid (OI w3 w1.heap.size 3 X2 (k + 1) a2 ((msgs ds).take (k + 1))) := by rw [take_snoc HM.out]; exact ho3
        have S3 := hid (SA.out.grown hg3 (fun g hg => (oa.lt g hg).1))
        go_roundw
        case rel => exact ⟨k + 1, _, _, by omega, by go_num, rfl, o3, S3⟩
        case measure => simp [intOf]; omega
      · obtain rfl : k = m := by omega
        have HF := hid (show traceG ⟨I, K, ps, ds⟩ = (msgs ds).take k by rw [HV.out, List.take_of_length_le (by rw [msgs_len, HL.out]; omega)])
        go_wp2_with fail
        go_ret
        have e2 := ho.out.len
        refine ⟨X, a, ?_, ?_, S1.out.trans hd.out⟩
        · rw [HF.out, e2]; rfl
        · rw [HF.out, e2]; exact ho.out.less z1
/-- The first pending message. -/
def blockedG (g : Grp) : Int := if grOk g then (match g.pend with | [] => -1 | p :: _ => p.1) else -1
theorem blocked_at {I K : Int} {ps ds : List Ent} {e : Ent} (hv : grOk ⟨I, K, ps, ds⟩ = true) (h : ps[0]? = some e) : blockedG ⟨I, K, ps, ds⟩ = e.1 := by
  unfold blockedG
  rw [if_pos hv]
  cases ps with
  | nil => simp at h
  | cons p t => simp at h; subst h; rfl
set_option maxRecDepth 100000 in
set_option maxHeartbeats 2000000 in
theorem GroupBlocked_any (I K : Int) (A B : Option Addr) (n c m d : Nat) (ps ds : List Ent) (w : World) (h : SE w A n c ps) (h' : SE w B m d ds) (hn : n ≤ 1048576) (hm : m ≤ 1048576) :
    Calls Try.prog 12 #[grV I K A n c B m d] w fun e w' => e = .returned (.int .i64 (blockedG ⟨I, K, ps, ds⟩)) ∧ St w w' := by
  have s0 := (St.refl w).alloc (.cells (grC I K A n c B m d) 25)
  have K0 := hid (Blk.new w 25 (grC I K A n c B m d))
  have H0 := hid (h.st s0)
  have H0' := hid (h'.st s0)
  have S0 := hid s0
  have HL := hid h.len
  clear s0 h h'
  go_enter Try.func12, Try.ntmps12
  go_wp2_with fail
  generalize w.alloc (.cells _ 25) = w0 at *
  have g0 := K0.out.cell_ (i := 0) (v := .int .i64 I) rfl
  have g1 := K0.out.cell_ (i := 1) (v := .int .i64 K) rfl
  have g2 := K0.out.cell_ (i := 2) (v := .slice A n c) rfl
  have g3 := K0.out.cell_ (i := 3) (v := .slice B m d) rfl
  refine (GroupValid_any _ _ _ _ _ _ _ _ _ _ _ H0.out H0'.out hn hm).mono ?_
  rintro e w1 ⟨rfl, s1⟩
  replace K0 := hid (K0.out.st s1)
  replace H0 := hid (H0.out.st s1)
  replace g0 := s1.cell g0
  replace g1 := s1.cell g1
  replace g2 := s1.cell g2
  replace g3 := s1.cell g3
  have S1 := hid (S0.out.trans s1)
  clear s1 S0 H0'
  cases hv : grOk ⟨I, K, ps, ds⟩
  · have HB := hid (show blockedG ⟨I, K, ps, ds⟩ = -1 by unfold blockedG; rw [hv]; rfl)
    go_wp2_with fail
    go_ret
    exact ⟨ret_int HB.out.symm, S1.out⟩
  · by_cases hn0 : n = 0
    · subst hn0
      have HB := hid (show blockedG ⟨I, K, ps, ds⟩ = -1 by rw [List.eq_nil_of_length_eq_zero HL.out]; unfold blockedG; split <;> rfl)
      clear hv
      go_wp2_with fail
      go_ret
      exact ⟨ret_int HB.out.symm, S1.out⟩
    · obtain ⟨ad, m1, t1, g1', f1, rfl, hb1, hx, c0, c1, c2, c3⟩ := H0.out.at_ (k := 0) (by omega)
      have HB := hid (blocked_at hv hx.out)
      rw [Nat.zero_mul, add_zero] at c0
      have hn1 : (0 : Int) < (n : Int) := by omega
      have hn2 : ¬ ((n : Int) = 0) := by omega
      clear hv
      go_wp2_with fail
      go_ret
      exact ⟨ret_int HB.out.symm, S1.out⟩
end Go.Proofs.Ytkhgemgmnchodaa
