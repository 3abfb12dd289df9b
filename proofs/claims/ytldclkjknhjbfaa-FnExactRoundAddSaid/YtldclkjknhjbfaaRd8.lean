/- A stamp added to a round (the reference). -/
import Derived.Test.YtldclkjknhjbfaaRd7
import Derived.RowKit3
namespace Go.Proofs.Ytldclkjknhjbfaa
open Go.RowKit Go.Sort
theorem cut_stamps {w : World} {B n : Nat} {A : Option Addr} {xs : List Value} (h : Reads w B 2 A n xs) {c : Nat} (k : Nat) (hk : k ≤ n) (hc : n ≤ c) :
    ∃ X, (∀ W, (Instr.slice 23 (.slice A n c) (some (.int .i64 (k : Int))) none none).run Try.prog W = .ok (.slice X (n - k) (c - k)) W) ∧ Reads w B 2 X (n - k) (xs.drop (k * 2)) := by
  refine ⟨if c = k then A else A.map (·.add (k * 2)), fun W => ?_, h.cut hk hc⟩
  rw [run_slice_l W 23 A n c (by kernel_rfl) .i64 (k : Int) (by omega) (by omega)]
  have hs : (sizeOf (Try.prog.elem 23)).run Try.prog W = .ok 2 W := by kernel_rfl
  rw [hs]
  simp [Result.andThen, sliced]
theorem stampCells_take (ss : List (Int × Int)) (k : Nat) : (stampCells ss).take (k * 2) = stampCells (ss.take k) := by
  induction ss generalizing k with
  | nil => simp [stampCells]
  | cons s t ih =>
    have hc : ∀ (s : Int × Int) (r : List (Int × Int)), stampCells (s :: r) = .int .i64 s.1 :: .int .i64 s.2 :: stampCells r := fun _ _ => rfl
    cases k with
    | zero => simp [stampCells]
    | succ k => rw [hc, show (k + 1) * 2 = k * 2 + 2 by omega, List.take_succ_cons, List.take_succ_cons, ih, List.take_succ_cons, hc]
theorem stampCells_drop (ss : List (Int × Int)) (k : Nat) : (stampCells ss).drop (k * 2) = stampCells (ss.drop k) := by
  induction ss generalizing k with
  | nil => simp [stampCells]
  | cons s t ih =>
    have hc : ∀ (s : Int × Int) (r : List (Int × Int)), stampCells (s :: r) = .int .i64 s.1 :: .int .i64 s.2 :: stampCells r := fun _ _ => rfl
    cases k with
    | zero => simp [stampCells]
    | succ k => rw [hc, show (k + 1) * 2 = k * 2 + 2 by omega, List.drop_succ_cons, List.drop_succ_cons, ih, List.drop_succ_cons]
theorem stampCells_append (a b : List (Int × Int)) : stampCells (a ++ b) = stampCells a ++ stampCells b := by simp [stampCells]
theorem Blk.reads1 {w : World} {g : Nat} {e : TypeId} {cs : Array Value} (h : Blk w g e cs) (size : Nat) (hs : cs.size = size) : Reads w (g + 1) size (some ⟨g, 0, none⟩) 1 cs.toList := by
  refine ⟨by simp [hs], fun _ => ⟨_, rfl, by simp, fun j u hj => ?_⟩⟩
  have h2 : (⟨g, 0, none⟩ : Addr).add j = ⟨g, j, none⟩ := by
    unfold Addr.add
    split
    · rename_i h; subst h; rfl
    · simp
  rw [h2]
  exact h.cell_ (by simpa using hj)
/-- Where a group's stamp belongs. -/
def addK (ss : List (Int × Int)) (g : Int) : Nat := (ss.takeWhile fun s => decide (s.2 < g)).length
theorem addK_of {ss : List (Int × Int)} {g : Int} {k : Nat} (h : ∀ s ∈ ss.take k, s.2 < g) (hk : k ≤ ss.length) (he : ∀ s, ss[k]? = some s → ¬ s.2 < g) : addK ss g = k := by
  induction ss generalizing k with
  | nil => simp at hk; subst hk; rfl
  | cons x t ih =>
    unfold addK
    cases k with
    | zero =>
      have := he x (by simp)
      rw [List.takeWhile_cons_of_neg (by simpa using this)]; rfl
    | succ k =>
      have hx := h x (by simp)
      rw [List.takeWhile_cons_of_pos (by simpa using hx), List.length_cons]
      have := ih (k := k) (fun s hs => h s (by simp [hs])) (by simpa using hk) (fun s hs => he s (by simpa using hs))
      unfold addK at this
      rw [this]
/-- May a stamp be added? -/
def addOk (xs : List Int) (ss : List (Int × Int)) (g : Int) : Bool := has xs g && !((ss[addK ss g]?).any fun s => s.2 == g)
def addGot (xs : List Int) (ss : List (Int × Int)) (s : Int × Int) : List (Int × Int) := if addOk xs ss s.2 then ss.take (addK ss s.2) ++ [s] ++ ss.drop (addK ss s.2) else ss
theorem addGot_le (xs : List Int) (ss : List (Int × Int)) (s : Int × Int) : (addGot xs ss s).length ≤ ss.length + 1 := by
  unfold addGot
  split
  · simp; omega
  · omega
/-- What an added round comes to. -/
def AddEnd (M : Int) (xs : List Int) (ss : List (Int × Int)) (s : Int × Int) (w : World) (e : Ending) (w' : World) : Prop :=
  ∃ A c B d, e = .returned (.tuple #[rdV M A xs.length c B (addGot xs ss s).length d, .bool (addOk xs ss s.2)]) ∧ OI w' w.heap.size 3 A xs.length c xs ∧ OS w' w.heap.size B (addGot xs ss s).length d (addGot xs ss s) ∧ St w w'
set_option maxRecDepth 100000 in
set_option maxHeartbeats 4000000 in
theorem l12Add_any (M : Int) (A B : Option Addr) (n c q d : Nat) (xs : List Int) (ss : List (Int × Int)) (t g : Int) (w : World) (h : SL w A n c xs) (h' : SS w B q d ss) (hn : n ≤ 1048576) (hq : q ≤ 1048576) :
    Calls Try.prog 73 #[rdV M A n c B q d, .agg #[.int .i64 t, .int .i64 g]] w (AddEnd M xs ss (t, g) w) := by
  have hqd := h'.nc
  have hdm := h'.cm
  unfold maxLen at hdm
  have HL := hid h.len
  have HL' := hid h'.len
  have hz : (((w.alloc (.cells #[.int .i64 M, .slice A n c, .slice B q d] 25)).alloc (.cells #[.int .i64 t, .int .i64 g] 45)).alloc (.cells #[.int .i64 0, .slice none 0 0, .slice none 0 0] 25)).heap.size = w.heap.size + 3 := by simp
  have S0 := hid ((((St.refl w).alloc (.cells #[.int .i64 M, .slice A n c, .slice B q d] 25)).alloc (.cells #[.int .i64 t, .int .i64 g] 45)).alloc (.cells #[.int .i64 0, .slice none 0 0, .slice none 0 0] 25))
  have KR := hid (((Blk.new w 25 #[.int .i64 M, .slice A n c, .slice B q d]).alloc (.cells #[.int .i64 t, .int .i64 g] 45)).alloc (.cells #[.int .i64 0, .slice none 0 0, .slice none 0 0] 25))
  have KS := hid ((blk_second w (.cells #[.int .i64 M, .slice A n c, .slice B q d] 25) 45 #[.int .i64 t, .int .i64 g]).alloc (.cells #[.int .i64 0, .slice none 0 0, .slice none 0 0] 25))
  have KZ : Hid (Blk (((w.alloc (.cells #[.int .i64 M, .slice A n c, .slice B q d] 25)).alloc (.cells #[.int .i64 t, .int .i64 g] 45)).alloc (.cells #[.int .i64 0, .slice none 0 0, .slice none 0 0] 25)) (w.heap.size + 1 + 1) 25 #[.int .i64 0, .slice none 0 0, .slice none 0 0]) := by
    have := Blk.new ((w.alloc (.cells #[.int .i64 M, .slice A n c, .slice B q d] 25)).alloc (.cells #[.int .i64 t, .int .i64 g] 45)) 25 #[.int .i64 0, .slice none 0 0, .slice none 0 0]
    rw [alloc2_size] at this; exact this
  have q0 := KR.out.cell_ (i := 0) (v := .int .i64 M) rfl
  have q1 := KR.out.cell_ (i := 1) (v := .slice A n c) rfl
  have q2 := KR.out.cell_ (i := 2) (v := .slice B q d) rfl
  have h1 := h.st S0.out
  have h1' := h'.st S0.out
  have HZ := hid hz
  clear hz
  go_enter Try.func73, Try.ntmps73
  go_wp2_with fail
  generalize ((w.alloc (.cells #[.int .i64 M, .slice A n c, .slice B q d] 25)).alloc (.cells #[.int .i64 t, .int .i64 g] 45)).alloc (.cells #[.int .i64 0, .slice none 0 0, .slice none 0 0] 25) = W0 at S0 KR KS KZ q0 q1 q2 h1 h1' HZ ⊢
  refine (l12Copy_any _ _ _ _ _ _ _ _ _ _ h1 h1' hn hq).mono ?_
  rintro e w1 ⟨A1, c1, B1, d1, rfl, o1, p1, s1⟩
  have S2 := hid ((S0.out.trans s1).alloc (.cells #[.int .i64 M, .slice A1 n c1, .slice B1 q d1] 25))
  have LR := hid ((KR.out.below s1 KR.out.lt).alloc (.cells #[.int .i64 M, .slice A1 n c1, .slice B1 q d1] 25))
  have LS := hid ((KS.out.below s1 KS.out.lt).alloc (.cells #[.int .i64 M, .slice A1 n c1, .slice B1 q d1] 25))
  have LZ := hid ((KZ.out.below s1 KZ.out.lt).alloc (.cells #[.int .i64 M, .slice A1 n c1, .slice B1 q d1] 25))
  have LO := hid (Blk.new w1 25 #[.int .i64 M, .slice A1 n c1, .slice B1 q d1])
  have O2 := hid (World.ownsRow.alloc o1 (.cells #[.int .i64 M, .slice A1 n c1, .slice B1 q d1] 25))
  have P2 := hid (World.ownsRow.alloc p1.2 (.cells #[.int .i64 M, .slice A1 n c1, .slice B1 q d1] 25))
  have BA := hid (show ∀ k, blockOf A1 = some k → W0.heap.size ≤ k ∧ k < w1.heap.size from o1.lt)
  have BB := hid (show ∀ k, blockOf B1 = some k → W0.heap.size ≤ k ∧ k < w1.heap.size from p1.lt)
  have zle : W0.heap.size ≤ w1.heap.size := s1.le
  have zl3 : w.heap.size + 3 ≤ w1.heap.size := by have := HZ.out; omega
  clear S0 KR KS KZ q0 q1 q2 h1 h1' o1 p1 s1
  go_wp2_with fail
  have ZN := hid (show (w1.alloc (.cells #[.int .i64 M, .slice A1 n c1, .slice B1 q d1] 25)).heap.size = w1.heap.size + 1 by simp)
  generalize w1.alloc (.cells #[.int .i64 M, .slice A1 n c1, .slice B1 q d1] 25) = w2 at S2 LR LS LZ LO O2 P2 ZN ⊢
  go_loopw [7] (fun i wr => ∃ k : Nat, k ≤ q ∧ i = .int .i64 k ∧ Hid (∀ s ∈ ss.take k, s.2 < g) ∧ Hid (Dr w2 wr)) (fun i _ => q - (intOf i).toNat)
  case atStart => exact ⟨0, Nat.zero_le _, rfl, hid (by simp), Dr.refl _⟩
  case round =>
    obtain ⟨k, hk, rfl, hall, hd⟩ := hrel
    have MR := hid (LR.out.dr hd.out)
    have MS := hid (LS.out.dr hd.out)
    have r2 := MR.out.cell_ (i := 2) (v := .slice B q d) rfl
    have s0 := MS.out.cell_ (i := 0) (v := .int .i64 t) rfl
    have s1 := MS.out.cell_ (i := 1) (v := .int .i64 g) rfl
    have hki : (0 : Int) ≤ (k : Int) := by omega
    by_cases hlt : k < q
    · obtain ⟨ad, t', g', rfl, hb1, hc1, hc2, hx⟩ := ((h'.st S2.out).dr hd.out).at_ hlt
      have hki2 : (k : Int) < (q : Int) := by omega
      have hdk : decide ((k : Int) < (q : Int)) = true := decide_eq_true hki2
      by_cases hgg : g' < g
      · have hall2 : Hid (∀ s ∈ ss.take (k + 1), s.2 < g) := by
          intro s hs
          rw [take_snoc hx.out, List.mem_append, List.mem_singleton] at hs
          rcases hs with hs | rfl
          · exact hall.out s hs
          · exact hgg
        go_wp2_with fail
        go_quiet (fail)
        go_wp2_with fail
        go_roundw
        case rel => exact ⟨k + 1, by omega, by go_num, hall2, hd.out.more _⟩
        case measure => simp [intOf]; omega
      · have HK := hid (addK_of hall.out (by rw [HL'.out]; exact hk) (fun s hs => by rw [hx.out] at hs; injection hs with hs; subst hs; exact hgg))
        have hdg : decide (g' < g) = false := decide_eq_false hgg
        have HX := hid (show ((ss[addK ss g]?).any fun s => s.2 == g) = (g' == g) by rw [HK.out, hx.out]; rfl)
        clear hgg
        go_wp2_with fail
        go_quiet (fail)
        go_wp2_with fail
        have D4 := hid (hd.out.more nq)
        generalize wr.drewN nq = wx at D4 ⊢
        have NR := hid (LR.out.dr D4.out)
        have NS := hid (LS.out.dr D4.out)
        clear r2 s0 s1
        have r1 := NR.out.cell_ (i := 1) (v := .slice A n c) rfl
        have r2 := NR.out.cell_ (i := 2) (v := .slice (some ad) q d) rfl
        have s0 := NS.out.cell_ (i := 0) (v := .int .i64 t) rfl
        have s1 := NS.out.cell_ (i := 1) (v := .int .i64 g) rfl
        have hrx := ((h.st S2.out).dr D4.out).ri
        have hc2 := (D4.out.cell _).trans (((hd.out.cell _).symm).trans hc2)
        have HC := hid (fun (m : Nat) => quiet_left (l1Has_any A n c _ xs g (wx.drewN m) (hrx.dr ⟨_, rfl⟩) (by omega)))
        cases hh : has xs g
        · have HF : Hid (addOk xs ss g = false ∧ addGot xs ss (t, g) = ss) := by
            have h1 : addOk xs ss g = false := by unfold addOk; rw [hh]; simp
            exact ⟨h1, by unfold addGot; rw [show addOk xs ss (t, g).2 = false from h1]; rfl⟩
          rw [hh] at HC
          go_quiet ((go_at_call 57; exact HC.out _))
          have D5 := hid (D4.out.more nq)
          have z0 := (LO.out.dr D5.out).cell_ (i := 0) (v := .int .i64 M) rfl
          have z1 := (LO.out.dr D5.out).cell_ (i := 1) (v := .slice A1 n c1) rfl
          have z2 := (LO.out.dr D5.out).cell_ (i := 2) (v := .slice B1 q d1) rfl
          have KZ5 := LZ.out.dr D5.out
          have y0 := KZ5.cell_ (i := 0) (v := .int .i64 0) rfl
          have y1 := KZ5.cell_ (i := 1) (v := .slice none 0 0) rfl
          have y2 := KZ5.cell_ (i := 2) (v := .slice none 0 0) rfl
          have x0 := KZ5.frozen 0
          have x1 := KZ5.frozen 1
          have x2 := KZ5.frozen 2
          have HZ5 := hid (((KZ5.set_ 0 (.int .i64 M)).set_ 1 (.slice A1 n c1)).set_ 2 (.slice B1 q d1))
          have r0 := HZ5.out.cell_ (i := 0) (v := .int .i64 M) rfl
          have r1' := HZ5.out.cell_ (i := 1) (v := .slice A1 n c1) rfl
          have r2' := HZ5.out.cell_ (i := 2) (v := .slice B1 q d1) rfl
          have SZ5 := hid ((((S2.out.dr D5.out).setCell (p := ⟨w.heap.size + 1 + 1, 0, none⟩) (by simp; omega) (.int .i64 M)).setCell (p := ⟨w.heap.size + 1 + 1, 1, none⟩) (by simp; omega) (.slice A1 n c1)).setCell (p := ⟨w.heap.size + 1 + 1, 2, none⟩) (by simp; omega) (.slice B1 q d1))
          have OZ5 := hid ((((OI.dr O2.out D5.out).grown (World.grownBy_set _ (w.heap.size + 1 + 1) 0 (.int .i64 M)) (fun k hk hA => by injection hk with hk; have := (BA.out k hA).1; have := HZ.out; omega)).grown (World.grownBy_set _ (w.heap.size + 1 + 1) 1 (.slice A1 n c1)) (fun k hk hA => by injection hk with hk; have := (BA.out k hA).1; have := HZ.out; omega)).grown (World.grownBy_set _ (w.heap.size + 1 + 1) 2 (.slice B1 q d1)) (fun k hk hA => by injection hk with hk; have := (BA.out k hA).1; have := HZ.out; omega))
          have p5 : OS _ W0.heap.size B1 q d1 ss := ⟨HL'.out, World.ownsRow.dr P2.out D5.out⟩
          have PZ5 := hid (((p5.grown (World.grownBy_set _ (w.heap.size + 1 + 1) 0 (.int .i64 M)) (fun k hk hA => by injection hk with hk; have := (BB.out k hA).1; have := HZ.out; omega)).grown (World.grownBy_set _ (w.heap.size + 1 + 1) 1 (.slice A1 n c1)) (fun k hk hA => by injection hk with hk; have := (BB.out k hA).1; have := HZ.out; omega)).grown (World.grownBy_set _ (w.heap.size + 1 + 1) 2 (.slice B1 q d1)) (fun k hk hA => by injection hk with hk; have := (BB.out k hA).1; have := HZ.out; omega))
          clear p5 KZ5
          go_wp2_with fail
          refine bodyPost_ret (v := .tuple #[rdV M A1 n c1 B1 q d1, .bool false]) (by simp [results, Try.results73, go_sem, r0, r1', r2']) rfl ?_
          have hz3 := HZ.out
          refine ⟨A1, c1, B1, d1, ?_, ?_, ?_, SZ5.out⟩
          · rw [HF.out.2, HL.out, HL'.out]; rw [show addOk xs ss (t, g).2 = false from HF.out.1]
          · rw [HL.out]; exact OZ5.out.less (by omega)
          · rw [HF.out.2, HL'.out]; exact PZ5.out.less (by omega)
        cases hgg : (g' == g)
        · have HF : Hid (addOk xs ss g = true ∧ addGot xs ss (t, g) = ss.take k ++ [(t, g)] ++ ss.drop k) := by
            have h1 : addOk xs ss g = true := by unfold addOk; rw [hh, HX.out, hgg]; rfl
            exact ⟨h1, by unfold addGot; rw [show addOk xs ss (t, g).2 = true from h1, if_pos rfl, HK.out]⟩
          rw [hh] at HC
          go_quiet ((go_at_call 57; exact HC.out _))
          have D5 := hid (D4.out.more nq)
          generalize wx.drewN nq = wy at D5 ⊢
          clear hh HC r1 r2 s0 s1
          have r2 := (LR.out.dr D5.out).cell_ (i := 2) (v := .slice (some ad) q d) rfl
          have s0 := (LS.out.dr D5.out).cell_ (i := 0) (v := .int .i64 t) rfl
          have s1 := (LS.out.dr D5.out).cell_ (i := 1) (v := .int .i64 g) rfl
          have KO5 := hid (LO.out.dr D5.out)
          have u2 := KO5.out.cell_ (i := 2) (v := .slice B1 q d1) rfl
          have uf := KO5.out.frozen 2
          have hzy := D5.out.size
          have hzn := ZN.out
          have hzz := HZ.out
          have hrd := ((h'.st S2.out).dr D5.out).reads
          have hru := hrd.upto (k := k) (by omega)
          rw [stampCells_take] at hru
          obtain ⟨X, hrun, hcut⟩ := cut_stamps hrd (c := d) k (by omega) hqd
          rw [stampCells_drop] at hcut
          have RU := hid (show Reads wy wy.heap.size 2 (some ad) k (stampCells (ss.take k)) from hru)
          have RX := hid (show Reads wy wy.heap.size 2 X (q - k) (stampCells (ss.drop k)) from hcut)
          have E1 := hid (World.ownsRow.dr (row_lit wy 45 2) (w' := (wy.alloc (.cells #[] 45)).drew) ⟨1, rfl⟩)
          have E2 := hid (World.ownsRow.dr (World.ownsRow.alloc (row_lit wy 45 2) (.cells #[.int .i64 t, .int .i64 g] 45)) (w' := ((wy.alloc (.cells #[] 45)).alloc (.cells #[.int .i64 t, .int .i64 g] 45)).drew) ⟨1, rfl⟩)
          have E3 : Hid ((((wy.alloc (.cells #[.int .i64 t, .int .i64 g] 45)).alloc (.cells #[] 45)).drew).ownsRow wy.heap.size 45 2 (.slice (some ⟨wy.heap.size + 1, 0, none⟩) 0 0) 0 []) := by
            have := row_lit (wy.alloc (.cells #[.int .i64 t, .int .i64 g] 45)) 45 2
            rw [show (wy.alloc (.cells #[.int .i64 t, .int .i64 g] 45)).heap.size = wy.heap.size + 1 by simp] at this
            exact World.ownsRow.dr (OI_less_row this (by omega)) ⟨1, rfl⟩
          have RU1 := hid (show Reads ((wy.alloc (.cells #[] 45)).drew) wy.heap.size 2 (some ad) k (stampCells (ss.take k)) from Reads.alloc RU.out (Nat.le_refl _) _)
          have RU2 := hid (show Reads (((wy.alloc (.cells #[] 45)).alloc (.cells #[.int .i64 t, .int .i64 g] 45)).drew) wy.heap.size 2 (some ad) k (stampCells (ss.take k)) from Reads.alloc (Reads.alloc RU.out (Nat.le_refl _) (.cells #[] 45)) (show wy.heap.size ≤ (wy.alloc (.cells #[] 45)).heap.size by simp) _)
          have RU3 := hid (show Reads (((wy.alloc (.cells #[.int .i64 t, .int .i64 g] 45)).alloc (.cells #[] 45)).drew) wy.heap.size 2 (some ad) k (stampCells (ss.take k)) from Reads.alloc (Reads.alloc RU.out (Nat.le_refl _) (.cells #[.int .i64 t, .int .i64 g] 45)) (show wy.heap.size ≤ (wy.alloc (.cells #[.int .i64 t, .int .i64 g] 45)).heap.size by simp) _)
          have PS1 := hid (show St wy ((wy.alloc (.cells #[] 45)).drew) from ((St.refl wy).alloc _).drew)
          have PS2 := hid (show St wy (((wy.alloc (.cells #[] 45)).alloc (.cells #[.int .i64 t, .int .i64 g] 45)).drew) from (((St.refl wy).alloc _).alloc _).drew)
          have PS3 := hid (show St wy (((wy.alloc (.cells #[.int .i64 t, .int .i64 g] 45)).alloc (.cells #[] 45)).drew) from (((St.refl wy).alloc _).alloc _).drew)
          have N2 := hid (show Blk (((wy.alloc (.cells #[] 45)).alloc (.cells #[.int .i64 t, .int .i64 g] 45)).drew) (wy.heap.size + 1) 45 #[.int .i64 t, .int .i64 g] from (blk_second wy (.cells #[] 45) 45 #[.int .i64 t, .int .i64 g]).dr ⟨1, rfl⟩)
          have N3 := hid (show Blk (((wy.alloc (.cells #[.int .i64 t, .int .i64 g] 45)).alloc (.cells #[] 45)).drew) wy.heap.size 45 #[.int .i64 t, .int .i64 g] from ((Blk.new wy 45 #[.int .i64 t, .int .i64 g]).alloc (.cells #[] 45)).dr ⟨1, rfl⟩)
          have L1 := hid (show wy.heap.size ≤ ((wy.alloc (.cells #[] 45)).drew).heap.size by simp)
          have L2 := hid (show wy.heap.size ≤ (((wy.alloc (.cells #[] 45)).alloc (.cells #[.int .i64 t, .int .i64 g] 45)).drew).heap.size by simp; omega)
          have L3 := hid (show wy.heap.size ≤ (((wy.alloc (.cells #[.int .i64 t, .int .i64 g] 45)).alloc (.cells #[] 45)).drew).heap.size by simp; omega)
          have HS2 := hid (show (Value.agg #[.int .i64 0, .int .i64 0]).cells.size = 2 from rfl)
          have HS4 := hid (show (#[Value.int .i64 t, .int .i64 g] : Array Value).size = 2 from rfl)
          have HS3 := hid (show 0 < 2 by omega)
          have HQ := hid hq
          have G1 := hid (show 0 + k ≤ 1099511627776 by omega)
          have G2 := hid (show (0 + k) * 16 ≤ 140737488355328 by omega)
          have G3 := hid (show k + 1 ≤ 1099511627776 by omega)
          have G4 := hid (show (k + 1) * 16 ≤ 140737488355328 by omega)
          have G5 := hid (show k + 1 + (q - k) ≤ 1099511627776 by omega)
          have G6 := hid (show (k + 1 + (q - k)) * 16 ≤ 140737488355328 by omega)
          have GB1 := hid (show ∀ j, blockOf (some ⟨wy.heap.size, 0, none⟩) = some j → wy.heap.size ≤ j from fun j hj => by simp [blockOf] at hj; omega)
          have GB3 := hid (show ∀ j, blockOf (some ⟨wy.heap.size + 1, 0, none⟩) = some j → wy.heap.size ≤ j from fun j hj => by simp [blockOf] at hj; omega)
          have GN2 := hid (show some (wy.heap.size + 1) ≠ blockOf (some ⟨wy.heap.size, 0, none⟩) by simp [blockOf])
          have GN3 := hid (show some wy.heap.size ≠ blockOf (some ⟨wy.heap.size + 1, 0, none⟩) by simp [blockOf])
          have hkq : k ≤ q := by omega
          have hkd : (k : Int) ≤ (d : Int) := by omega
          have hzl := hid (show w1.heap.size < wy.heap.size ∧ w.heap.size + 3 ≤ wy.heap.size by omega)
          have hne0 : w1.heap.size ≠ w.heap.size := by have := hzl.out; omega
          have hne1 : w1.heap.size ≠ w.heap.size + 1 := by omega
          have hkqi : (k : Int) ≤ (q : Int) := by omega
          clear hrd hru hcut hq hzy hzn hzz
          go_wp2_with fail
          go_region_held3 (fun w' => w'.cell? ⟨w.heap.size, 2, none⟩ = some (.slice (some ad) q d) ∧ w'.cell? ⟨w.heap.size + 1, 0, none⟩ = some (.int .i64 t) ∧ w'.cell? ⟨w.heap.size + 1, 1, none⟩ = some (.int .i64 g) ∧ (w'.cell? ⟨w1.heap.size, 2, none⟩).isSome = true ∧ w'.frozen? ⟨w1.heap.size, 2, none⟩ = false) (first | (simp [*, World.cell?_alloc_some, frozen?_alloc_cells, World.cell?_setCell_far]; done) | exact ⟨(World.cell?_setCell_far _ _ _ _ hne0).trans (s6.cell r2), (World.cell?_setCell_far _ _ _ _ hne1).trans (s6.cell s0), (World.cell?_setCell_far _ _ _ _ hne1).trans (s6.cell s1), by rw [World.cell?_setCell_same _ _ _ u6]; rfl, (World.frozen?_setCell _ _ _ _).trans f6⟩ | exact ⟨s4.cell r2, s4.cell s0, s4.cell s1, by rw [s4.cell u2]; rfl, f4⟩ | exact ⟨s5.cell r2, s5.cell s0, s5.cell s1, by rw [s5.cell u2]; rfl, f5⟩ | exact ⟨s6.cell r2, s6.cell s0, s6.cell s1, by rw [s6.cell u2]; rfl, f6⟩)
            (first
              | (refine step_append_rows ((wy.alloc (.cells #[] 45)).drew) (by rfl) (.tmp 53) (.tmp 57) 23 (by rfl) wy.heap.size 45 2 16 (.agg #[.int .i64 0, .int .i64 0]) Try.underlying23 stampInfo HS2.out HS3.out (some ⟨wy.heap.size, 0, none⟩) 0 0 [] (by rfl) E1.out _ (some ad) k d (stampCells (ss.take k)) (by rfl) RU1.out (stampCells_one _) G1.out G2.out L1.out ?_; intro X1 a1 w4 ho4 hg4; simp only [Nat.zero_add, List.nil_append] at ho4 ⊢; have s4 : St wy w4 := St.grown PS1.out hg4 GB1.out; have x4 := hid ((show Reads wy wy.heap.size 2 X (q - k) (stampCells (ss.drop k)) from RX.out).below s4); have one4 := trivial; have f4 : w4.frozen? ⟨w1.heap.size, 2, none⟩ = false := (by have kk := KO5.out.below s4 KO5.out.lt; exact kk.frozen 2))
              | (refine step_append_rows (((wy.alloc (.cells #[] 45)).alloc (.cells #[.int .i64 t, .int .i64 g] 45)).drew) (by rfl) (.tmp 53) (.tmp 57) 23 (by rfl) wy.heap.size 45 2 16 (.agg #[.int .i64 0, .int .i64 0]) Try.underlying23 stampInfo HS2.out HS3.out (some ⟨wy.heap.size, 0, none⟩) 0 0 [] (by rfl) E2.out _ (some ad) k d (stampCells (ss.take k)) (by rfl) RU2.out (stampCells_one _) G1.out G2.out L2.out ?_; intro X1 a1 w4 ho4 hg4; simp only [Nat.zero_add, List.nil_append] at ho4 ⊢; have s4 : St wy w4 := St.grown PS2.out hg4 GB1.out; have x4 := hid ((show Reads wy wy.heap.size 2 X (q - k) (stampCells (ss.drop k)) from RX.out).below s4); have one4 := hid (N2.out.grown hg4 GN2.out); have f4 : w4.frozen? ⟨w1.heap.size, 2, none⟩ = false := (by have kk := KO5.out.below s4 KO5.out.lt; exact kk.frozen 2))
              | (refine step_append_rows (((wy.alloc (.cells #[.int .i64 t, .int .i64 g] 45)).alloc (.cells #[] 45)).drew) (by rfl) (.tmp 53) (.tmp 57) 23 (by rfl) wy.heap.size 45 2 16 (.agg #[.int .i64 0, .int .i64 0]) Try.underlying23 stampInfo HS2.out HS3.out (some ⟨wy.heap.size + 1, 0, none⟩) 0 0 [] (by rfl) E3.out _ (some ad) k d (stampCells (ss.take k)) (by rfl) RU3.out (stampCells_one _) G1.out G2.out L3.out ?_; intro X1 a1 w4 ho4 hg4; simp only [Nat.zero_add, List.nil_append] at ho4 ⊢; have s4 : St wy w4 := St.grown PS3.out hg4 GB3.out; have x4 := hid ((show Reads wy wy.heap.size 2 X (q - k) (stampCells (ss.drop k)) from RX.out).below s4); have one4 := hid (N3.out.grown hg4 GN3.out); have f4 : w4.frozen? ⟨w1.heap.size, 2, none⟩ = false := (by have kk := KO5.out.below s4 KO5.out.lt; exact kk.frozen 2))
              | (refine step_append_rows _ (by rfl) (.tmp 58) (.tmp 60) 23 (by rfl) wy.heap.size 45 2 16 (.agg #[.int .i64 0, .int .i64 0]) Try.underlying23 stampInfo HS2.out HS3.out X1 k a1 (stampCells (ss.take k)) (by rfl) (World.ownsRow.alloc ho4 (.cells #[.int .i64 t, .int .i64 g] 45)) _ (some ⟨w4.heap.size, 0, none⟩) 1 1 (stampCells [(t, g)]) (by rfl) (Reads.one w4 45 #[.int .i64 t, .int .i64 g] 2 HS4.out) (stampCells_one _) G3.out G4.out (Nat.le_trans s4.le (Nat.le_of_lt (Nat.lt_of_lt_of_eq (Nat.lt_succ_self _) (World.heap_alloc_size' _ _).symm))) ?_; intro X2 a2 w5 ho5 hg5; rw [← stampCells_append] at ho5; have s5 : St wy w5 := St.grown (s4.alloc (.cells #[.int .i64 t, .int .i64 g] 45)) hg5 (fun k hk => (World.ownsRow.lt ho4 k (by rw [ownBlock_slice]; exact hk)).1); have x5 := hid ((show Reads wy wy.heap.size 2 X (q - k) (stampCells (ss.drop k)) from RX.out).below s5); have f5 : w5.frozen? ⟨w1.heap.size, 2, none⟩ = false := (by have kk := KO5.out.below s5 KO5.out.lt; exact kk.frozen 2))
              | (refine step_append_rows _ (by rfl) (.tmp 58) (.tmp 60) 23 (by rfl) wy.heap.size 45 2 16 (.agg #[.int .i64 0, .int .i64 0]) Try.underlying23 stampInfo HS2.out HS3.out X1 k a1 (stampCells (ss.take k)) (by rfl) ho4 _ (some ⟨wy.heap.size + 1, 0, none⟩) 1 1 (stampCells [(t, g)]) (by rfl) (Blk.reads1 one4.out 2 HS4.out) (stampCells_one _) G3.out G4.out s4.le ?_; intro X2 a2 w5 ho5 hg5; rw [← stampCells_append] at ho5; have s5 : St wy w5 := St.grown s4 hg5 (fun k hk => (World.ownsRow.lt ho4 k (by rw [ownBlock_slice]; exact hk)).1); have x5 := hid ((show Reads wy wy.heap.size 2 X (q - k) (stampCells (ss.drop k)) from RX.out).below s5); have f5 : w5.frozen? ⟨w1.heap.size, 2, none⟩ = false := (by have kk := KO5.out.below s5 KO5.out.lt; exact kk.frozen 2))
              | (refine step_append_rows _ (by rfl) (.tmp 58) (.tmp 60) 23 (by rfl) wy.heap.size 45 2 16 (.agg #[.int .i64 0, .int .i64 0]) Try.underlying23 stampInfo HS2.out HS3.out X1 k a1 (stampCells (ss.take k)) (by rfl) ho4 _ (some ⟨wy.heap.size, 0, none⟩) 1 1 (stampCells [(t, g)]) (by rfl) (Blk.reads1 one4.out 2 HS4.out) (stampCells_one _) G3.out G4.out s4.le ?_; intro X2 a2 w5 ho5 hg5; rw [← stampCells_append] at ho5; have s5 : St wy w5 := St.grown s4 hg5 (fun k hk => (World.ownsRow.lt ho4 k (by rw [ownBlock_slice]; exact hk)).1); have x5 := hid ((show Reads wy wy.heap.size 2 X (q - k) (stampCells (ss.drop k)) from RX.out).below s5); have f5 : w5.frozen? ⟨w1.heap.size, 2, none⟩ = false := (by have kk := KO5.out.below s5 KO5.out.lt; exact kk.frozen 2))
              | (refine step_append_rows _ (by rfl) (.tmp 61) (.tmp 65) 23 (by rfl) wy.heap.size 45 2 16 (.agg #[.int .i64 0, .int .i64 0]) Try.underlying23 stampInfo HS2.out HS3.out X2 (k + 1) a2 (stampCells (ss.take k ++ [(t, g)])) (by rfl) ho5 _ X (q - k) (d - k) (stampCells (ss.drop k)) (by rfl) x5.out (stampCells_one _) G5.out G6.out s5.le ?_; intro X3 a3 w6 ho6 hg6; rw [← stampCells_append] at ho6; have s6 : St wy w6 := St.grown s5 hg6 (fun k hk => (World.ownsRow.lt ho5 k (by rw [ownBlock_slice]; exact hk)).1); have u6 := s6.cell u2; have f6 : w6.frozen? ⟨w1.heap.size, 2, none⟩ = false := (by have kk := KO5.out.below s6 KO5.out.lt; exact kk.frozen 2)))
          all_goals
            have kq6 := KO5.out.below s6 KO5.out.lt
            have zq6 := (LZ.out.dr D5.out).below s6 (by have := (LZ.out.dr D5.out).lt; exact this)
            have KOut := hid (kq6.set_ 2 (.slice X3 (k + 1 + (q - k)) a3))
            have z0 := KOut.out.cell_ (i := 0) (v := .int .i64 M) rfl
            have z1 := KOut.out.cell_ (i := 1) (v := .slice A1 n c1) rfl
            have z2 := KOut.out.cell_ (i := 2) (v := (.slice X3 (k + 1 + (q - k)) a3)) rfl
            have KZ6 := hid (zq6.far (p := ⟨w1.heap.size, 2, none⟩) (by have := hzl.out; simp; omega) (.slice X3 (k + 1 + (q - k)) a3))
            have y0 := KZ6.out.cell_ (i := 0) (v := .int .i64 0) rfl
            have y1 := KZ6.out.cell_ (i := 1) (v := .slice none 0 0) rfl
            have y2 := KZ6.out.cell_ (i := 2) (v := .slice none 0 0) rfl
            have x0 := KZ6.out.frozen 0
            have x1 := KZ6.out.frozen 1
            have x2 := KZ6.out.frozen 2
            have HZ6 := hid (((KZ6.out.set_ 0 (.int .i64 M)).set_ 1 (.slice A1 n c1)).set_ 2 (.slice X3 (k + 1 + (q - k)) a3))
            have r0 := HZ6.out.cell_ (i := 0) (v := .int .i64 M) rfl
            have r1' := HZ6.out.cell_ (i := 1) (v := .slice A1 n c1) rfl
            have r2' := HZ6.out.cell_ (i := 2) (v := (.slice X3 (k + 1 + (q - k)) a3)) rfl
            have S7 := hid ((((((S2.out.dr D5.out).trans s6).setCell (p := ⟨w1.heap.size, 2, none⟩) (by simp; omega) (.slice X3 (k + 1 + (q - k)) a3)).setCell (p := ⟨w.heap.size + 1 + 1, 0, none⟩) (by simp; omega) (.int .i64 M)).setCell (p := ⟨w.heap.size + 1 + 1, 1, none⟩) (by simp; omega) (.slice A1 n c1)).setCell (p := ⟨w.heap.size + 1 + 1, 2, none⟩) (by simp; omega) (.slice X3 (k + 1 + (q - k)) a3))
            have oa := own_below (OI.dr O2.out D5.out) s6
            have O7 := hid (((((OI.grown oa (World.grownBy_set w6 w1.heap.size 2 (.slice X3 (k + 1 + (q - k)) a3)) (fun k hk hA => by injection hk with hk; have := (BA.out k hA).2; omega)).grown (World.grownBy_set _ (w.heap.size + 1 + 1) 0 (.int .i64 M)) (fun k hk hA => by injection hk with hk; have := (BA.out k hA).1; have := HZ.out; omega)).grown (World.grownBy_set _ (w.heap.size + 1 + 1) 1 (.slice A1 n c1)) (fun k hk hA => by injection hk with hk; have := (BA.out k hA).1; have := HZ.out; omega)).grown (World.grownBy_set _ (w.heap.size + 1 + 1) 2 (.slice X3 (k + 1 + (q - k)) a3)) (fun k hk hA => by injection hk with hk; have := (BA.out k hA).1; have := HZ.out; omega)))
            have hlen : (ss.take k ++ [(t, g)] ++ ss.drop k).length = (k + 1 + (q - k)) := by rw [List.length_append, List.length_append, List.length_take, List.length_drop, HL'.out]; simp <;> omega
            have pa : OS w6 wy.heap.size X3 (k + 1 + (q - k)) a3 (ss.take k ++ [(t, g)] ++ ss.drop k) := ⟨hlen, ho6⟩
            have P7 := hid (((((OS.grown pa (World.grownBy_set w6 w1.heap.size 2 (.slice X3 (k + 1 + (q - k)) a3)) (fun k hk hA => by injection hk with hk; have := (pa.lt k hA).1; have := hzl.out; omega)).grown (World.grownBy_set _ (w.heap.size + 1 + 1) 0 (.int .i64 M)) (fun k hk hA => by injection hk with hk; have := (pa.lt k hA).1; have := hzl.out; omega)).grown (World.grownBy_set _ (w.heap.size + 1 + 1) 1 (.slice A1 n c1)) (fun k hk hA => by injection hk with hk; have := (pa.lt k hA).1; have := hzl.out; omega)).grown (World.grownBy_set _ (w.heap.size + 1 + 1) 2 (.slice X3 (k + 1 + (q - k)) a3)) (fun k hk hA => by injection hk with hk; have := (pa.lt k hA).1; have := hzl.out; omega)))
            have HN := hid hlen
            clear kq6 zq6 oa pa hlen ho6 ho5 ho4 hg4 hg5 hg6 s4 s5 s6 x4 x5 u6 r2 s0 s1 u2 uf f4 f5 f6 one4
            go_wp2_with fail
            refine bodyPost_ret (v := .tuple #[rdV M A1 n c1 X3 (k + 1 + (q - k)) a3, .bool true]) (by simp [results, Try.results73, go_sem, r0, r1', r2']) rfl ?_
            have hz3 := HZ.out
            have hz4 := hzl.out
            refine ⟨A1, c1, X3, a3, ?_, ?_, ?_, S7.out⟩
            · rw [HF.out.2, HL.out, HN.out, show addOk xs ss (t, g).2 = true from HF.out.1]
            · rw [HL.out]; exact O7.out.less (by omega)
            · rw [HF.out.2, HN.out]; exact P7.out.less (by omega)
        · have HF : Hid (addOk xs ss g = false ∧ addGot xs ss (t, g) = ss) := by
            have h1 : addOk xs ss g = false := by unfold addOk; rw [hh, HX.out, hgg]; simp
            exact ⟨h1, by unfold addGot; rw [show addOk xs ss (t, g).2 = false from h1]; rfl⟩
          rw [hh] at HC
          go_quiet ((go_at_call 57; exact HC.out _))
          have D5 := hid (D4.out.more nq)
          have z0 := (LO.out.dr D5.out).cell_ (i := 0) (v := .int .i64 M) rfl
          have z1 := (LO.out.dr D5.out).cell_ (i := 1) (v := .slice A1 n c1) rfl
          have z2 := (LO.out.dr D5.out).cell_ (i := 2) (v := .slice B1 q d1) rfl
          have KZ5 := LZ.out.dr D5.out
          have y0 := KZ5.cell_ (i := 0) (v := .int .i64 0) rfl
          have y1 := KZ5.cell_ (i := 1) (v := .slice none 0 0) rfl
          have y2 := KZ5.cell_ (i := 2) (v := .slice none 0 0) rfl
          have x0 := KZ5.frozen 0
          have x1 := KZ5.frozen 1
          have x2 := KZ5.frozen 2
          have HZ5 := hid (((KZ5.set_ 0 (.int .i64 M)).set_ 1 (.slice A1 n c1)).set_ 2 (.slice B1 q d1))
          have r0 := HZ5.out.cell_ (i := 0) (v := .int .i64 M) rfl
          have r1' := HZ5.out.cell_ (i := 1) (v := .slice A1 n c1) rfl
          have r2' := HZ5.out.cell_ (i := 2) (v := .slice B1 q d1) rfl
          have SZ5 := hid ((((S2.out.dr D5.out).setCell (p := ⟨w.heap.size + 1 + 1, 0, none⟩) (by simp; omega) (.int .i64 M)).setCell (p := ⟨w.heap.size + 1 + 1, 1, none⟩) (by simp; omega) (.slice A1 n c1)).setCell (p := ⟨w.heap.size + 1 + 1, 2, none⟩) (by simp; omega) (.slice B1 q d1))
          have OZ5 := hid ((((OI.dr O2.out D5.out).grown (World.grownBy_set _ (w.heap.size + 1 + 1) 0 (.int .i64 M)) (fun k hk hA => by injection hk with hk; have := (BA.out k hA).1; have := HZ.out; omega)).grown (World.grownBy_set _ (w.heap.size + 1 + 1) 1 (.slice A1 n c1)) (fun k hk hA => by injection hk with hk; have := (BA.out k hA).1; have := HZ.out; omega)).grown (World.grownBy_set _ (w.heap.size + 1 + 1) 2 (.slice B1 q d1)) (fun k hk hA => by injection hk with hk; have := (BA.out k hA).1; have := HZ.out; omega))
          have p5 : OS _ W0.heap.size B1 q d1 ss := ⟨HL'.out, World.ownsRow.dr P2.out D5.out⟩
          have PZ5 := hid (((p5.grown (World.grownBy_set _ (w.heap.size + 1 + 1) 0 (.int .i64 M)) (fun k hk hA => by injection hk with hk; have := (BB.out k hA).1; have := HZ.out; omega)).grown (World.grownBy_set _ (w.heap.size + 1 + 1) 1 (.slice A1 n c1)) (fun k hk hA => by injection hk with hk; have := (BB.out k hA).1; have := HZ.out; omega)).grown (World.grownBy_set _ (w.heap.size + 1 + 1) 2 (.slice B1 q d1)) (fun k hk hA => by injection hk with hk; have := (BB.out k hA).1; have := HZ.out; omega))
          clear p5 KZ5
          go_wp2_with fail
          refine bodyPost_ret (v := .tuple #[rdV M A1 n c1 B1 q d1, .bool false]) (by simp [results, Try.results73, go_sem, r0, r1', r2']) rfl ?_
          have hz3 := HZ.out
          refine ⟨A1, c1, B1, d1, ?_, ?_, ?_, SZ5.out⟩
          · rw [HF.out.2, HL.out, HL'.out]; rw [show addOk xs ss (t, g).2 = false from HF.out.1]
          · rw [HL.out]; exact OZ5.out.less (by omega)
          · rw [HF.out.2, HL'.out]; exact PZ5.out.less (by omega)
    · obtain rfl : k = q := by omega
      have HK := hid (addK_of hall.out (by rw [HL'.out]; exact hk) (fun s hs => by rw [List.getElem?_eq_none (by rw [HL'.out]; omega)] at hs; cases hs))
      have HX := hid (show ((ss[addK ss g]?).any fun s => s.2 == g) = false by rw [HK.out, List.getElem?_eq_none (by rw [HL'.out]; omega)]; rfl)
      have hki2 : ¬ (k : Int) < (k : Int) := by omega
      have hdk : decide ((k : Int) < (k : Int)) = false := decide_eq_false hki2
      go_wp2_with fail
      go_quiet (fail)
      go_wp2_with fail
      have D4 := hid (hd.out.more nq)
      generalize wr.drewN nq = wx at D4 ⊢
      have NR := hid (LR.out.dr D4.out)
      have NS := hid (LS.out.dr D4.out)
      clear r2 s0 s1
      have r1 := NR.out.cell_ (i := 1) (v := .slice A n c) rfl
      have r2 := NR.out.cell_ (i := 2) (v := .slice B k d) rfl
      have s0 := NS.out.cell_ (i := 0) (v := .int .i64 t) rfl
      have s1 := NS.out.cell_ (i := 1) (v := .int .i64 g) rfl
      have hrx := ((h.st S2.out).dr D4.out).ri
      have HC := hid (fun (m : Nat) => quiet_left (l1Has_any A n c _ xs g (wx.drewN m) (hrx.dr ⟨_, rfl⟩) (by omega)))
      cases hh : has xs g
      · have HF : Hid (addOk xs ss g = false ∧ addGot xs ss (t, g) = ss) := by
          have h1 : addOk xs ss g = false := by unfold addOk; rw [hh]; simp
          exact ⟨h1, by unfold addGot; rw [show addOk xs ss (t, g).2 = false from h1]; rfl⟩
        rw [hh] at HC
        go_quiet ((go_at_call 57; exact HC.out _))
        have D5 := hid (D4.out.more nq)
        have z0 := (LO.out.dr D5.out).cell_ (i := 0) (v := .int .i64 M) rfl
        have z1 := (LO.out.dr D5.out).cell_ (i := 1) (v := .slice A1 n c1) rfl
        have z2 := (LO.out.dr D5.out).cell_ (i := 2) (v := .slice B1 k d1) rfl
        have KZ5 := LZ.out.dr D5.out
        have y0 := KZ5.cell_ (i := 0) (v := .int .i64 0) rfl
        have y1 := KZ5.cell_ (i := 1) (v := .slice none 0 0) rfl
        have y2 := KZ5.cell_ (i := 2) (v := .slice none 0 0) rfl
        have x0 := KZ5.frozen 0
        have x1 := KZ5.frozen 1
        have x2 := KZ5.frozen 2
        have HZ5 := hid (((KZ5.set_ 0 (.int .i64 M)).set_ 1 (.slice A1 n c1)).set_ 2 (.slice B1 k d1))
        have r0 := HZ5.out.cell_ (i := 0) (v := .int .i64 M) rfl
        have r1' := HZ5.out.cell_ (i := 1) (v := .slice A1 n c1) rfl
        have r2' := HZ5.out.cell_ (i := 2) (v := .slice B1 k d1) rfl
        have SZ5 := hid ((((S2.out.dr D5.out).setCell (p := ⟨w.heap.size + 1 + 1, 0, none⟩) (by simp; omega) (.int .i64 M)).setCell (p := ⟨w.heap.size + 1 + 1, 1, none⟩) (by simp; omega) (.slice A1 n c1)).setCell (p := ⟨w.heap.size + 1 + 1, 2, none⟩) (by simp; omega) (.slice B1 k d1))
        have OZ5 := hid ((((OI.dr O2.out D5.out).grown (World.grownBy_set _ (w.heap.size + 1 + 1) 0 (.int .i64 M)) (fun k hk hA => by injection hk with hk; have := (BA.out k hA).1; have := HZ.out; omega)).grown (World.grownBy_set _ (w.heap.size + 1 + 1) 1 (.slice A1 n c1)) (fun k hk hA => by injection hk with hk; have := (BA.out k hA).1; have := HZ.out; omega)).grown (World.grownBy_set _ (w.heap.size + 1 + 1) 2 (.slice B1 k d1)) (fun k hk hA => by injection hk with hk; have := (BA.out k hA).1; have := HZ.out; omega))
        have p5 : OS _ W0.heap.size B1 k d1 ss := ⟨HL'.out, World.ownsRow.dr P2.out D5.out⟩
        have PZ5 := hid (((p5.grown (World.grownBy_set _ (w.heap.size + 1 + 1) 0 (.int .i64 M)) (fun k hk hA => by injection hk with hk; have := (BB.out k hA).1; have := HZ.out; omega)).grown (World.grownBy_set _ (w.heap.size + 1 + 1) 1 (.slice A1 n c1)) (fun k hk hA => by injection hk with hk; have := (BB.out k hA).1; have := HZ.out; omega)).grown (World.grownBy_set _ (w.heap.size + 1 + 1) 2 (.slice B1 k d1)) (fun k hk hA => by injection hk with hk; have := (BB.out k hA).1; have := HZ.out; omega))
        clear p5 KZ5
        go_wp2_with fail
        refine bodyPost_ret (v := .tuple #[rdV M A1 n c1 B1 k d1, .bool false]) (by simp [results, Try.results73, go_sem, r0, r1', r2']) rfl ?_
        have hz3 := HZ.out
        refine ⟨A1, c1, B1, d1, ?_, ?_, ?_, SZ5.out⟩
        · rw [HF.out.2, HL.out, HL'.out]; rw [show addOk xs ss (t, g).2 = false from HF.out.1]
        · rw [HL.out]; exact OZ5.out.less (by omega)
        · rw [HF.out.2, HL'.out]; exact PZ5.out.less (by omega)
      · have HF : Hid (addOk xs ss g = true ∧ addGot xs ss (t, g) = ss.take k ++ [(t, g)] ++ ss.drop k) := by
          have h1 : addOk xs ss g = true := by unfold addOk; rw [hh, HX.out]; rfl
          exact ⟨h1, by unfold addGot; rw [show addOk xs ss (t, g).2 = true from h1, if_pos rfl, HK.out]⟩
        rw [hh] at HC
        go_quiet ((go_at_call 57; exact HC.out _))
        have D5 := hid (D4.out.more nq)
        generalize wx.drewN nq = wy at D5 ⊢
        clear hh HC r1 r2 s0 s1
        have r2 := (LR.out.dr D5.out).cell_ (i := 2) (v := .slice B k d) rfl
        have s0 := (LS.out.dr D5.out).cell_ (i := 0) (v := .int .i64 t) rfl
        have s1 := (LS.out.dr D5.out).cell_ (i := 1) (v := .int .i64 g) rfl
        have KO5 := hid (LO.out.dr D5.out)
        have u2 := KO5.out.cell_ (i := 2) (v := .slice B1 k d1) rfl
        have uf := KO5.out.frozen 2
        have hzy := D5.out.size
        have hzn := ZN.out
        have hzz := HZ.out
        have hrd := ((h'.st S2.out).dr D5.out).reads
        have hru := hrd.upto (k := k) (by omega)
        rw [stampCells_take] at hru
        obtain ⟨X, hrun, hcut⟩ := cut_stamps hrd (c := d) k (by omega) hqd
        rw [Nat.sub_self] at hcut
        simp only [Nat.sub_self] at hrun
        rw [stampCells_drop] at hcut
        have RU := hid (show Reads wy wy.heap.size 2 B k (stampCells (ss.take k)) from hru)
        have RX := hid (show Reads wy wy.heap.size 2 X 0 (stampCells (ss.drop k)) from hcut)
        have E1 := hid (World.ownsRow.dr (row_lit wy 45 2) (w' := (wy.alloc (.cells #[] 45)).drew) ⟨1, rfl⟩)
        have E2 := hid (World.ownsRow.dr (World.ownsRow.alloc (row_lit wy 45 2) (.cells #[.int .i64 t, .int .i64 g] 45)) (w' := ((wy.alloc (.cells #[] 45)).alloc (.cells #[.int .i64 t, .int .i64 g] 45)).drew) ⟨1, rfl⟩)
        have E3 : Hid ((((wy.alloc (.cells #[.int .i64 t, .int .i64 g] 45)).alloc (.cells #[] 45)).drew).ownsRow wy.heap.size 45 2 (.slice (some ⟨wy.heap.size + 1, 0, none⟩) 0 0) 0 []) := by
          have := row_lit (wy.alloc (.cells #[.int .i64 t, .int .i64 g] 45)) 45 2
          rw [show (wy.alloc (.cells #[.int .i64 t, .int .i64 g] 45)).heap.size = wy.heap.size + 1 by simp] at this
          exact World.ownsRow.dr (OI_less_row this (by omega)) ⟨1, rfl⟩
        have RU1 := hid (show Reads ((wy.alloc (.cells #[] 45)).drew) wy.heap.size 2 B k (stampCells (ss.take k)) from Reads.alloc RU.out (Nat.le_refl _) _)
        have RU2 := hid (show Reads (((wy.alloc (.cells #[] 45)).alloc (.cells #[.int .i64 t, .int .i64 g] 45)).drew) wy.heap.size 2 B k (stampCells (ss.take k)) from Reads.alloc (Reads.alloc RU.out (Nat.le_refl _) (.cells #[] 45)) (show wy.heap.size ≤ (wy.alloc (.cells #[] 45)).heap.size by simp) _)
        have RU3 := hid (show Reads (((wy.alloc (.cells #[.int .i64 t, .int .i64 g] 45)).alloc (.cells #[] 45)).drew) wy.heap.size 2 B k (stampCells (ss.take k)) from Reads.alloc (Reads.alloc RU.out (Nat.le_refl _) (.cells #[.int .i64 t, .int .i64 g] 45)) (show wy.heap.size ≤ (wy.alloc (.cells #[.int .i64 t, .int .i64 g] 45)).heap.size by simp) _)
        have PS1 := hid (show St wy ((wy.alloc (.cells #[] 45)).drew) from ((St.refl wy).alloc _).drew)
        have PS2 := hid (show St wy (((wy.alloc (.cells #[] 45)).alloc (.cells #[.int .i64 t, .int .i64 g] 45)).drew) from (((St.refl wy).alloc _).alloc _).drew)
        have PS3 := hid (show St wy (((wy.alloc (.cells #[.int .i64 t, .int .i64 g] 45)).alloc (.cells #[] 45)).drew) from (((St.refl wy).alloc _).alloc _).drew)
        have N2 := hid (show Blk (((wy.alloc (.cells #[] 45)).alloc (.cells #[.int .i64 t, .int .i64 g] 45)).drew) (wy.heap.size + 1) 45 #[.int .i64 t, .int .i64 g] from (blk_second wy (.cells #[] 45) 45 #[.int .i64 t, .int .i64 g]).dr ⟨1, rfl⟩)
        have N3 := hid (show Blk (((wy.alloc (.cells #[.int .i64 t, .int .i64 g] 45)).alloc (.cells #[] 45)).drew) wy.heap.size 45 #[.int .i64 t, .int .i64 g] from ((Blk.new wy 45 #[.int .i64 t, .int .i64 g]).alloc (.cells #[] 45)).dr ⟨1, rfl⟩)
        have L1 := hid (show wy.heap.size ≤ ((wy.alloc (.cells #[] 45)).drew).heap.size by simp)
        have L2 := hid (show wy.heap.size ≤ (((wy.alloc (.cells #[] 45)).alloc (.cells #[.int .i64 t, .int .i64 g] 45)).drew).heap.size by simp; omega)
        have L3 := hid (show wy.heap.size ≤ (((wy.alloc (.cells #[.int .i64 t, .int .i64 g] 45)).alloc (.cells #[] 45)).drew).heap.size by simp; omega)
        have HS2 := hid (show (Value.agg #[.int .i64 0, .int .i64 0]).cells.size = 2 from rfl)
        have HS4 := hid (show (#[Value.int .i64 t, .int .i64 g] : Array Value).size = 2 from rfl)
        have HS3 := hid (show 0 < 2 by omega)
        have HQ := hid hq
        have G1 := hid (show 0 + k ≤ 1099511627776 by omega)
        have G2 := hid (show (0 + k) * 16 ≤ 140737488355328 by omega)
        have G3 := hid (show k + 1 ≤ 1099511627776 by omega)
        have G4 := hid (show (k + 1) * 16 ≤ 140737488355328 by omega)
        have G5 := hid (show k + 1 + 0 ≤ 1099511627776 by omega)
        have G6 := hid (show (k + 1 + 0) * 16 ≤ 140737488355328 by omega)
        have GB1 := hid (show ∀ j, blockOf (some ⟨wy.heap.size, 0, none⟩) = some j → wy.heap.size ≤ j from fun j hj => by simp [blockOf] at hj; omega)
        have GB3 := hid (show ∀ j, blockOf (some ⟨wy.heap.size + 1, 0, none⟩) = some j → wy.heap.size ≤ j from fun j hj => by simp [blockOf] at hj; omega)
        have GN2 := hid (show some (wy.heap.size + 1) ≠ blockOf (some ⟨wy.heap.size, 0, none⟩) by simp [blockOf])
        have GN3 := hid (show some wy.heap.size ≠ blockOf (some ⟨wy.heap.size + 1, 0, none⟩) by simp [blockOf])
        have hkq : k ≤ k := by omega
        have hkd : (k : Int) ≤ (d : Int) := by omega
        have hzl := hid (show w1.heap.size < wy.heap.size ∧ w.heap.size + 3 ≤ wy.heap.size by omega)
        have hne0 : w1.heap.size ≠ w.heap.size := by have := hzl.out; omega
        have hne1 : w1.heap.size ≠ w.heap.size + 1 := by omega
        have hkqi : (k : Int) ≤ (k : Int) := by omega
        clear hrd hru hcut hq hzy hzn hzz
        go_wp2_with fail
        go_region_held3 (fun w' => w'.cell? ⟨w.heap.size, 2, none⟩ = some (.slice B k d) ∧ w'.cell? ⟨w.heap.size + 1, 0, none⟩ = some (.int .i64 t) ∧ w'.cell? ⟨w.heap.size + 1, 1, none⟩ = some (.int .i64 g) ∧ (w'.cell? ⟨w1.heap.size, 2, none⟩).isSome = true ∧ w'.frozen? ⟨w1.heap.size, 2, none⟩ = false) (first | (simp [*, World.cell?_alloc_some, frozen?_alloc_cells, World.cell?_setCell_far]; done) | exact ⟨(World.cell?_setCell_far _ _ _ _ hne0).trans (s6.cell r2), (World.cell?_setCell_far _ _ _ _ hne1).trans (s6.cell s0), (World.cell?_setCell_far _ _ _ _ hne1).trans (s6.cell s1), by rw [World.cell?_setCell_same _ _ _ u6]; rfl, (World.frozen?_setCell _ _ _ _).trans f6⟩ | exact ⟨s4.cell r2, s4.cell s0, s4.cell s1, by rw [s4.cell u2]; rfl, f4⟩ | exact ⟨s5.cell r2, s5.cell s0, s5.cell s1, by rw [s5.cell u2]; rfl, f5⟩ | exact ⟨s6.cell r2, s6.cell s0, s6.cell s1, by rw [s6.cell u2]; rfl, f6⟩)
          (first
            | (refine step_append_rows ((wy.alloc (.cells #[] 45)).drew) (by rfl) (.tmp 53) (.tmp 57) 23 (by rfl) wy.heap.size 45 2 16 (.agg #[.int .i64 0, .int .i64 0]) Try.underlying23 stampInfo HS2.out HS3.out (some ⟨wy.heap.size, 0, none⟩) 0 0 [] (by rfl) E1.out _ B k d (stampCells (ss.take k)) (by rfl) RU1.out (stampCells_one _) G1.out G2.out L1.out ?_; intro X1 a1 w4 ho4 hg4; simp only [Nat.zero_add, List.nil_append] at ho4 ⊢; have s4 : St wy w4 := St.grown PS1.out hg4 GB1.out; have x4 := hid ((show Reads wy wy.heap.size 2 X 0 (stampCells (ss.drop k)) from RX.out).below s4); have one4 := trivial; have f4 : w4.frozen? ⟨w1.heap.size, 2, none⟩ = false := (by have kk := KO5.out.below s4 KO5.out.lt; exact kk.frozen 2))
            | (refine step_append_rows (((wy.alloc (.cells #[] 45)).alloc (.cells #[.int .i64 t, .int .i64 g] 45)).drew) (by rfl) (.tmp 53) (.tmp 57) 23 (by rfl) wy.heap.size 45 2 16 (.agg #[.int .i64 0, .int .i64 0]) Try.underlying23 stampInfo HS2.out HS3.out (some ⟨wy.heap.size, 0, none⟩) 0 0 [] (by rfl) E2.out _ B k d (stampCells (ss.take k)) (by rfl) RU2.out (stampCells_one _) G1.out G2.out L2.out ?_; intro X1 a1 w4 ho4 hg4; simp only [Nat.zero_add, List.nil_append] at ho4 ⊢; have s4 : St wy w4 := St.grown PS2.out hg4 GB1.out; have x4 := hid ((show Reads wy wy.heap.size 2 X 0 (stampCells (ss.drop k)) from RX.out).below s4); have one4 := hid (N2.out.grown hg4 GN2.out); have f4 : w4.frozen? ⟨w1.heap.size, 2, none⟩ = false := (by have kk := KO5.out.below s4 KO5.out.lt; exact kk.frozen 2))
            | (refine step_append_rows (((wy.alloc (.cells #[.int .i64 t, .int .i64 g] 45)).alloc (.cells #[] 45)).drew) (by rfl) (.tmp 53) (.tmp 57) 23 (by rfl) wy.heap.size 45 2 16 (.agg #[.int .i64 0, .int .i64 0]) Try.underlying23 stampInfo HS2.out HS3.out (some ⟨wy.heap.size + 1, 0, none⟩) 0 0 [] (by rfl) E3.out _ B k d (stampCells (ss.take k)) (by rfl) RU3.out (stampCells_one _) G1.out G2.out L3.out ?_; intro X1 a1 w4 ho4 hg4; simp only [Nat.zero_add, List.nil_append] at ho4 ⊢; have s4 : St wy w4 := St.grown PS3.out hg4 GB3.out; have x4 := hid ((show Reads wy wy.heap.size 2 X 0 (stampCells (ss.drop k)) from RX.out).below s4); have one4 := hid (N3.out.grown hg4 GN3.out); have f4 : w4.frozen? ⟨w1.heap.size, 2, none⟩ = false := (by have kk := KO5.out.below s4 KO5.out.lt; exact kk.frozen 2))
            | (refine step_append_rows _ (by rfl) (.tmp 58) (.tmp 60) 23 (by rfl) wy.heap.size 45 2 16 (.agg #[.int .i64 0, .int .i64 0]) Try.underlying23 stampInfo HS2.out HS3.out X1 k a1 (stampCells (ss.take k)) (by rfl) (World.ownsRow.alloc ho4 (.cells #[.int .i64 t, .int .i64 g] 45)) _ (some ⟨w4.heap.size, 0, none⟩) 1 1 (stampCells [(t, g)]) (by rfl) (Reads.one w4 45 #[.int .i64 t, .int .i64 g] 2 HS4.out) (stampCells_one _) G3.out G4.out (Nat.le_trans s4.le (Nat.le_of_lt (Nat.lt_of_lt_of_eq (Nat.lt_succ_self _) (World.heap_alloc_size' _ _).symm))) ?_; intro X2 a2 w5 ho5 hg5; rw [← stampCells_append] at ho5; have s5 : St wy w5 := St.grown (s4.alloc (.cells #[.int .i64 t, .int .i64 g] 45)) hg5 (fun k hk => (World.ownsRow.lt ho4 k (by rw [ownBlock_slice]; exact hk)).1); have x5 := hid ((show Reads wy wy.heap.size 2 X 0 (stampCells (ss.drop k)) from RX.out).below s5); have f5 : w5.frozen? ⟨w1.heap.size, 2, none⟩ = false := (by have kk := KO5.out.below s5 KO5.out.lt; exact kk.frozen 2))
            | (refine step_append_rows _ (by rfl) (.tmp 58) (.tmp 60) 23 (by rfl) wy.heap.size 45 2 16 (.agg #[.int .i64 0, .int .i64 0]) Try.underlying23 stampInfo HS2.out HS3.out X1 k a1 (stampCells (ss.take k)) (by rfl) ho4 _ (some ⟨wy.heap.size + 1, 0, none⟩) 1 1 (stampCells [(t, g)]) (by rfl) (Blk.reads1 one4.out 2 HS4.out) (stampCells_one _) G3.out G4.out s4.le ?_; intro X2 a2 w5 ho5 hg5; rw [← stampCells_append] at ho5; have s5 : St wy w5 := St.grown s4 hg5 (fun k hk => (World.ownsRow.lt ho4 k (by rw [ownBlock_slice]; exact hk)).1); have x5 := hid ((show Reads wy wy.heap.size 2 X 0 (stampCells (ss.drop k)) from RX.out).below s5); have f5 : w5.frozen? ⟨w1.heap.size, 2, none⟩ = false := (by have kk := KO5.out.below s5 KO5.out.lt; exact kk.frozen 2))
            | (refine step_append_rows _ (by rfl) (.tmp 58) (.tmp 60) 23 (by rfl) wy.heap.size 45 2 16 (.agg #[.int .i64 0, .int .i64 0]) Try.underlying23 stampInfo HS2.out HS3.out X1 k a1 (stampCells (ss.take k)) (by rfl) ho4 _ (some ⟨wy.heap.size, 0, none⟩) 1 1 (stampCells [(t, g)]) (by rfl) (Blk.reads1 one4.out 2 HS4.out) (stampCells_one _) G3.out G4.out s4.le ?_; intro X2 a2 w5 ho5 hg5; rw [← stampCells_append] at ho5; have s5 : St wy w5 := St.grown s4 hg5 (fun k hk => (World.ownsRow.lt ho4 k (by rw [ownBlock_slice]; exact hk)).1); have x5 := hid ((show Reads wy wy.heap.size 2 X 0 (stampCells (ss.drop k)) from RX.out).below s5); have f5 : w5.frozen? ⟨w1.heap.size, 2, none⟩ = false := (by have kk := KO5.out.below s5 KO5.out.lt; exact kk.frozen 2))
            | (refine step_append_rows _ (by rfl) (.tmp 61) (.tmp 65) 23 (by rfl) wy.heap.size 45 2 16 (.agg #[.int .i64 0, .int .i64 0]) Try.underlying23 stampInfo HS2.out HS3.out X2 (k + 1) a2 (stampCells (ss.take k ++ [(t, g)])) (by rfl) ho5 _ X 0 (d - k) (stampCells (ss.drop k)) (by rfl) x5.out (stampCells_one _) G5.out G6.out s5.le ?_; intro X3 a3 w6 ho6 hg6; rw [← stampCells_append] at ho6; have s6 : St wy w6 := St.grown s5 hg6 (fun k hk => (World.ownsRow.lt ho5 k (by rw [ownBlock_slice]; exact hk)).1); have u6 := s6.cell u2; have f6 : w6.frozen? ⟨w1.heap.size, 2, none⟩ = false := (by have kk := KO5.out.below s6 KO5.out.lt; exact kk.frozen 2)))
        all_goals
          have kq6 := KO5.out.below s6 KO5.out.lt
          have zq6 := (LZ.out.dr D5.out).below s6 (by have := (LZ.out.dr D5.out).lt; exact this)
          have KOut := hid (kq6.set_ 2 (.slice X3 (k + 1) a3))
          have z0 := KOut.out.cell_ (i := 0) (v := .int .i64 M) rfl
          have z1 := KOut.out.cell_ (i := 1) (v := .slice A1 n c1) rfl
          have z2 := KOut.out.cell_ (i := 2) (v := (.slice X3 (k + 1) a3)) rfl
          have KZ6 := hid (zq6.far (p := ⟨w1.heap.size, 2, none⟩) (by have := hzl.out; simp; omega) (.slice X3 (k + 1) a3))
          have y0 := KZ6.out.cell_ (i := 0) (v := .int .i64 0) rfl
          have y1 := KZ6.out.cell_ (i := 1) (v := .slice none 0 0) rfl
          have y2 := KZ6.out.cell_ (i := 2) (v := .slice none 0 0) rfl
          have x0 := KZ6.out.frozen 0
          have x1 := KZ6.out.frozen 1
          have x2 := KZ6.out.frozen 2
          have HZ6 := hid (((KZ6.out.set_ 0 (.int .i64 M)).set_ 1 (.slice A1 n c1)).set_ 2 (.slice X3 (k + 1) a3))
          have r0 := HZ6.out.cell_ (i := 0) (v := .int .i64 M) rfl
          have r1' := HZ6.out.cell_ (i := 1) (v := .slice A1 n c1) rfl
          have r2' := HZ6.out.cell_ (i := 2) (v := (.slice X3 (k + 1) a3)) rfl
          have S7 := hid ((((((S2.out.dr D5.out).trans s6).setCell (p := ⟨w1.heap.size, 2, none⟩) (by simp; omega) (.slice X3 (k + 1) a3)).setCell (p := ⟨w.heap.size + 1 + 1, 0, none⟩) (by simp; omega) (.int .i64 M)).setCell (p := ⟨w.heap.size + 1 + 1, 1, none⟩) (by simp; omega) (.slice A1 n c1)).setCell (p := ⟨w.heap.size + 1 + 1, 2, none⟩) (by simp; omega) (.slice X3 (k + 1) a3))
          have oa := own_below (OI.dr O2.out D5.out) s6
          have O7 := hid (((((OI.grown oa (World.grownBy_set w6 w1.heap.size 2 (.slice X3 (k + 1) a3)) (fun k hk hA => by injection hk with hk; have := (BA.out k hA).2; omega)).grown (World.grownBy_set _ (w.heap.size + 1 + 1) 0 (.int .i64 M)) (fun k hk hA => by injection hk with hk; have := (BA.out k hA).1; have := HZ.out; omega)).grown (World.grownBy_set _ (w.heap.size + 1 + 1) 1 (.slice A1 n c1)) (fun k hk hA => by injection hk with hk; have := (BA.out k hA).1; have := HZ.out; omega)).grown (World.grownBy_set _ (w.heap.size + 1 + 1) 2 (.slice X3 (k + 1) a3)) (fun k hk hA => by injection hk with hk; have := (BA.out k hA).1; have := HZ.out; omega)))
          have hlen : (ss.take k ++ [(t, g)] ++ ss.drop k).length = (k + 1) := by rw [List.length_append, List.length_append, List.length_take, List.length_drop, HL'.out]; simp <;> omega
          have pa : OS w6 wy.heap.size X3 (k + 1) a3 (ss.take k ++ [(t, g)] ++ ss.drop k) := ⟨hlen, ho6⟩
          have P7 := hid (((((OS.grown pa (World.grownBy_set w6 w1.heap.size 2 (.slice X3 (k + 1) a3)) (fun k hk hA => by injection hk with hk; have := (pa.lt k hA).1; have := hzl.out; omega)).grown (World.grownBy_set _ (w.heap.size + 1 + 1) 0 (.int .i64 M)) (fun k hk hA => by injection hk with hk; have := (pa.lt k hA).1; have := hzl.out; omega)).grown (World.grownBy_set _ (w.heap.size + 1 + 1) 1 (.slice A1 n c1)) (fun k hk hA => by injection hk with hk; have := (pa.lt k hA).1; have := hzl.out; omega)).grown (World.grownBy_set _ (w.heap.size + 1 + 1) 2 (.slice X3 (k + 1) a3)) (fun k hk hA => by injection hk with hk; have := (pa.lt k hA).1; have := hzl.out; omega)))
          have HN := hid hlen
          clear kq6 zq6 oa pa hlen ho6 ho5 ho4 hg4 hg5 hg6 s4 s5 s6 x4 x5 u6 r2 s0 s1 u2 uf f4 f5 f6 one4
          go_wp2_with fail
          refine bodyPost_ret (v := .tuple #[rdV M A1 n c1 X3 (k + 1) a3, .bool true]) (by simp [results, Try.results73, go_sem, r0, r1', r2']) rfl ?_
          have hz3 := HZ.out
          have hz4 := hzl.out
          refine ⟨A1, c1, X3, a3, ?_, ?_, ?_, S7.out⟩
          · rw [HF.out.2, HL.out, HN.out, show addOk xs ss (t, g).2 = true from HF.out.1]
          · rw [HL.out]; exact O7.out.less (by omega)
          · rw [HF.out.2, HN.out]; exact P7.out.less (by omega)
end Go.Proofs.Ytldclkjknhjbfaa
