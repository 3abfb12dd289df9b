/- RoundFinal, both: the walks. -/
import Derived.Test.YtldclkjknhjbfaaRd5
namespace Go.Proofs.Ytldclkjknhjbfaa
open Go.RowKit Go.Sort
theorem alloc2_size (w : World) (o o' : Obj) : ((w.alloc o).alloc o').heap.size = w.heap.size + 1 + 1 := by simp
/-- Two blocks that were laid one after the other. -/
theorem blk_second (w : World) (o : Obj) (t : TypeId) (cs : Array Value) : Blk ((w.alloc o).alloc (.cells cs t)) (w.heap.size + 1) t cs := by
  have := Blk.new (w.alloc o) t cs
  rw [World.heap_alloc_size'] at this; exact this
set_option maxHeartbeats 1000000 in
theorem l12Final_any (M : Int) (A B : Option Addr) (n c q d : Nat) (ss : List (Int × Int)) (w : World) (h' : SS w B q d ss) (hn : 0 < n) (hnm : n ≤ 1048576) :
    Calls Try.prog 74 #[rdV M A n c B q d] w fun e w' => e = .returned (.tuple #[stV (if n ≤ q then maxS ss else (0, 0)), .bool (decide (n ≤ q))]) ∧ St w w' := by
  have hqd := h'.nc
  have hdm := h'.cm
  unfold maxLen at hdm
  have S0 := hid (((St.refl w).alloc (.cells #[.int .i64 M, .slice A n c, .slice B q d] 25)).alloc (.cells #[.int .i64 0, .int .i64 0] 45))
  have K1 := hid (blk_second w (.cells #[.int .i64 M, .slice A n c, .slice B q d] 25) 45 #[.int .i64 0, .int .i64 0])
  by_cases hlt : q < n
  · have HF := hid (show (if n ≤ q then maxS ss else (0, 0)) = (0, 0) from if_neg (by omega))
    have HG := hid (show decide (n ≤ q) = false from decide_eq_false (by omega))
    go_enter Try.func74, Try.ntmps74
    go_wp2_with fail
    refine bodyPost_ret (v := .tuple #[.agg #[.int .i64 0, .int .i64 0], .bool false]) (by simp [results, Try.results74, go_sem]) rfl ⟨by first | rfl | rw [HF.out, HG.out], S0.out⟩
  · have HF := hid (show (if n ≤ q then maxS ss else (0, 0)) = maxS ss from if_pos (by omega))
    have HG := hid (show decide (n ≤ q) = true from decide_eq_true (by omega))
    have h1 := h'.st S0.out
    go_enter Try.func74, Try.ntmps74
    go_wp2_with fail
    generalize (w.alloc (.cells #[.int .i64 M, .slice A n c, .slice B q d] 25)).alloc (.cells #[.int .i64 0, .int .i64 0] 45) = w2 at S0 K1 h1 ⊢
    refine (l2Max_any _ _ _ _ _ h1 (by omega)).mono ?_
    rintro e w3 ⟨rfl, s3⟩
    have K3 := K1.out.below s3 K1.out.lt
    have z0 := K3.cell_ (i := 0) (v := .int .i64 0) rfl
    have z1 := K3.cell_ (i := 1) (v := .int .i64 0) rfl
    have f0 := K3.frozen 0
    have f1 := K3.frozen 1
    have C2 := (K3.set_ 0 (.int .i64 (maxS ss).1)).set_ 1 (.int .i64 (maxS ss).2)
    have r0 := C2.cell_ (i := 0) (v := .int .i64 (maxS ss).1) rfl
    have r1 := C2.cell_ (i := 1) (v := .int .i64 (maxS ss).2) rfl
    have S4 := hid (((S0.out.trans s3).setCell (p := ⟨w.heap.size + 1, 0, none⟩) (by simp) (.int .i64 (maxS ss).1)).setCell (p := ⟨w.heap.size + 1, 1, none⟩) (by simp) (.int .i64 (maxS ss).2))
    clear C2 K3 h1 s3
    go_wp2_with fail
    refine bodyPost_ret (v := .tuple #[stV (maxS ss), .bool true]) (by simp [results, Try.results74, go_sem, r0, r1]) rfl ⟨by first | rfl | rw [HF.out, HG.out], S4.out⟩
set_option maxHeartbeats 1000000 in
theorem specRoundFinal_any (M : Int) (A B : Option Addr) (n c q d : Nat) (xs : List Int) (ss : List (Int × Int)) (w : World) (h : SL w A n c xs) (h' : SS w B q d ss) (hn : n ≤ 1048576) :
    Calls Try.prog 40 #[rdV M A n c B q d] w fun e w' => e = .returned (.tuple #[stV (rfV M xs ss), .bool (rfOk M xs ss)]) ∧ St w w' := by
  have S0 := hid (((St.refl w).alloc (.cells #[.int .i64 M, .slice A n c, .slice B q d] 25)).alloc (.cells #[.int .i64 0, .int .i64 0] 45))
  have K0 := hid ((Blk.new w 25 #[.int .i64 M, .slice A n c, .slice B q d]).alloc (.cells #[.int .i64 0, .int .i64 0] 45))
  have K1 := hid (blk_second w (.cells #[.int .i64 M, .slice A n c, .slice B q d] 25) 45 #[.int .i64 0, .int .i64 0])
  have HL := hid h.len
  have HL' := hid h'.len
  have h1 := h.st S0.out
  have h1' := h'.st S0.out
  have q0 := K0.out.cell_ (i := 0) (v := .int .i64 M) rfl
  have q1 := K0.out.cell_ (i := 1) (v := .slice A n c) rfl
  have q2 := K0.out.cell_ (i := 2) (v := .slice B q d) rfl
  go_enter Try.func40, Try.ntmps40
  go_wp2_with fail
  generalize (w.alloc (.cells #[.int .i64 M, .slice A n c, .slice B q d] 25)).alloc (.cells #[.int .i64 0, .int .i64 0] 45) = w2 at S0 K0 K1 h1 h1' q0 q1 q2 ⊢
  refine (specRoundValid_any _ _ _ _ _ _ _ _ _ _ h1 h1' hn).mono ?_
  rintro e w3 ⟨rfl, s3⟩
  have S3 := hid (S0.out.trans s3)
  have L0 := hid (K0.out.below s3 K0.out.lt)
  have L1 := hid (K1.out.below s3 K1.out.lt)
  clear S0 K0 K1 q0 q1 q2 h1 h1' s3
  cases hv : rdValid M xs ss
  · have HF := hid (rf_bad hv)
    have z0 := L1.out.cell_ (i := 0) (v := .int .i64 0) rfl
    have z1 := L1.out.cell_ (i := 1) (v := .int .i64 0) rfl
    have f0 := L1.out.frozen 0
    have f1 := L1.out.frozen 1
    have C2 := (L1.out.set_ 0 (.int .i64 0)).set_ 1 (.int .i64 0)
    have r0 := C2.cell_ (i := 0) (v := .int .i64 0) rfl
    have r1 := C2.cell_ (i := 1) (v := .int .i64 0) rfl
    have S4 := hid ((S3.out.setCell (p := ⟨w.heap.size + 1, 0, none⟩) (by simp) (.int .i64 0)).setCell (p := ⟨w.heap.size + 1, 1, none⟩) (by simp) (.int .i64 0))
    clear C2 hv
    go_wp2_with fail
    refine bodyPost_ret (v := .tuple #[.agg #[.int .i64 0, .int .i64 0], .bool false]) (by simp [results, Try.results40, go_sem, r0, r1]) rfl ⟨by rw [HF.out.1, HF.out.2], S4.out⟩
  · have hln := rdValid_len hv
    rw [HL.out] at hln
    have HF : Hid (rfOk M xs ss = decide (n ≤ q) ∧ rfV M xs ss = if n ≤ q then maxS ss else (0, 0)) := by
      have h1 : rfOk M xs ss = decide (n ≤ q) := by unfold rfOk; rw [hv, Bool.true_and, HL.out, HL'.out]
      refine ⟨h1, ?_⟩
      unfold rfV
      rw [h1]
      by_cases h2 : n ≤ q
      · rw [decide_eq_true h2, if_pos rfl, if_pos h2]
      · rw [decide_eq_false h2, if_neg (by simp), if_neg h2]
    have q0 := L0.out.cell_ (i := 0) (v := .int .i64 M) rfl
    have q1 := L0.out.cell_ (i := 1) (v := .slice A n c) rfl
    have q2 := L0.out.cell_ (i := 2) (v := .slice B q d) rfl
    clear hv
    go_wp2_with fail
    refine (l12Final_any _ _ _ _ _ _ _ _ _ (h'.st S3.out) (by omega) hn).mono ?_
    rintro e w4 ⟨rfl, s4⟩
    have K4 := L1.out.below s4 L1.out.lt
    have S4 := S3.out.trans s4
    generalize (if n ≤ q then maxS ss else (0, 0)) = V at HF ⊢
    have z0 := K4.cell_ (i := 0) (v := .int .i64 0) rfl
    have z1 := K4.cell_ (i := 1) (v := .int .i64 0) rfl
    have f0 := K4.frozen 0
    have f1 := K4.frozen 1
    have C2 := (K4.set_ 0 (.int .i64 V.1)).set_ 1 (.int .i64 V.2)
    have r0 := C2.cell_ (i := 0) (v := .int .i64 V.1) rfl
    have r1 := C2.cell_ (i := 1) (v := .int .i64 V.2) rfl
    have S5 := hid ((S4.setCell (p := ⟨w.heap.size + 1, 0, none⟩) (by simp) (.int .i64 V.1)).setCell (p := ⟨w.heap.size + 1, 1, none⟩) (by simp) (.int .i64 V.2))
    have HD := hid (show ∀ b, decide (n ≤ q) = b → rfOk M xs ss = b from fun b hb => HF.out.1.trans hb)
    generalize decide (n ≤ q) = bb at HD ⊢
    clear C2 K4 S4 s4 q0 q1 q2
    go_wp2_with fail
    refine bodyPost_ret (v := .tuple #[stV V, .bool bb]) (by simp [results, Try.results40, go_sem, r0, r1]) rfl ⟨by rw [HF.out.2, HD.out _ rfl], S5.out⟩
set_option maxHeartbeats 1000000 in
theorem RoundFinal_any (M : Int) (A B : Option Addr) (n c q d : Nat) (xs : List Int) (ss : List (Int × Int)) (w : World) (h : SL w A n c xs) (h' : SS w B q d ss) (hn : n ≤ 1048576) :
    Calls Try.prog 30 #[rdV M A n c B q d] w fun e w' => e = .returned (.tuple #[stV (rfV M xs ss), .bool (rfOk M xs ss)]) ∧ St w w' := by
  have S0 := hid (((St.refl w).alloc (.cells #[.int .i64 M, .slice A n c, .slice B q d] 25)).alloc (.cells #[.int .i64 0, .int .i64 0] 45))
  have K0 := hid ((Blk.new w 25 #[.int .i64 M, .slice A n c, .slice B q d]).alloc (.cells #[.int .i64 0, .int .i64 0] 45))
  have K1 := hid (blk_second w (.cells #[.int .i64 M, .slice A n c, .slice B q d] 25) 45 #[.int .i64 0, .int .i64 0])
  have h1 := h.st S0.out
  have h1' := h'.st S0.out
  have q0 := K0.out.cell_ (i := 0) (v := .int .i64 M) rfl
  have q1 := K0.out.cell_ (i := 1) (v := .slice A n c) rfl
  have q2 := K0.out.cell_ (i := 2) (v := .slice B q d) rfl
  go_enter Try.func30, Try.ntmps30
  go_wp2_with fail
  generalize (w.alloc (.cells #[.int .i64 M, .slice A n c, .slice B q d] 25)).alloc (.cells #[.int .i64 0, .int .i64 0] 45) = w2 at S0 K0 K1 h1 h1' q0 q1 q2 ⊢
  refine (RoundValid_any _ _ _ _ _ _ _ _ _ _ h1 h1' hn).mono ?_
  rintro e w3 ⟨rfl, s3⟩
  have S3 := hid (S0.out.trans s3)
  have L0 := hid (K0.out.below s3 K0.out.lt)
  have L1 := hid (K1.out.below s3 K1.out.lt)
  clear S0 K0 K1 q0 q1 q2 h1 h1' s3
  cases hv : rdValid M xs ss
  · have HF := hid (rf_bad hv)
    have z0 := L1.out.cell_ (i := 0) (v := .int .i64 0) rfl
    have z1 := L1.out.cell_ (i := 1) (v := .int .i64 0) rfl
    have f0 := L1.out.frozen 0
    have f1 := L1.out.frozen 1
    have C2 := (L1.out.set_ 0 (.int .i64 0)).set_ 1 (.int .i64 0)
    have r0 := C2.cell_ (i := 0) (v := .int .i64 0) rfl
    have r1 := C2.cell_ (i := 1) (v := .int .i64 0) rfl
    have S4 := hid ((S3.out.setCell (p := ⟨w.heap.size + 1, 0, none⟩) (by simp) (.int .i64 0)).setCell (p := ⟨w.heap.size + 1, 1, none⟩) (by simp) (.int .i64 0))
    clear C2 hv
    go_wp2_with fail
    refine bodyPost_ret (v := .tuple #[.agg #[.int .i64 0, .int .i64 0], .bool false]) (by simp [results, Try.results30, go_sem, r0, r1]) rfl ⟨by rw [HF.out.1, HF.out.2], S4.out⟩
  · have q0 := L0.out.cell_ (i := 0) (v := .int .i64 M) rfl
    have q1 := L0.out.cell_ (i := 1) (v := .slice A n c) rfl
    have q2 := L0.out.cell_ (i := 2) (v := .slice B q d) rfl
    have hct := rdMiss_count hv
    go_wp2_with fail
    refine (RoundMissing_any _ _ _ _ _ _ _ _ _ _ (h.st S3.out) (h'.st S3.out) hn).mono ?_
    rintro e w4 ⟨X, a, rfl, o4, s4⟩
    have S4 := hid (S3.out.trans s4)
    have N0 := hid (L0.out.below s4 L0.out.lt)
    have N1 := hid (L1.out.below s4 L1.out.lt)
    have hle := rdMiss_le M xs ss
    clear S3 L0 L1 q0 q1 q2 o4 s4
    by_cases hm : 0 < (rdMiss M xs ss).length
    · have hmi : (0 : Int) < ((rdMiss M xs ss).length : Int) := by omega
      have HF : Hid (rfOk M xs ss = false ∧ rfV M xs ss = (0, 0)) := by
        have : rfOk M xs ss = false := by unfold rfOk; rw [hv, Bool.true_and]; exact decide_eq_false (by omega)
        exact ⟨this, by unfold rfV; rw [this]; rfl⟩
      have z0 := N1.out.cell_ (i := 0) (v := .int .i64 0) rfl
      have z1 := N1.out.cell_ (i := 1) (v := .int .i64 0) rfl
      have f0 := N1.out.frozen 0
      have f1 := N1.out.frozen 1
      have C2 := (N1.out.set_ 0 (.int .i64 0)).set_ 1 (.int .i64 0)
      have r0 := C2.cell_ (i := 0) (v := .int .i64 0) rfl
      have r1 := C2.cell_ (i := 1) (v := .int .i64 0) rfl
      have S5 := hid ((S4.out.setCell (p := ⟨w.heap.size + 1, 0, none⟩) (by simp) (.int .i64 0)).setCell (p := ⟨w.heap.size + 1, 1, none⟩) (by simp) (.int .i64 0))
      clear C2 hv hct
      go_wp2_with fail
      refine bodyPost_ret (v := .tuple #[.agg #[.int .i64 0, .int .i64 0], .bool false]) (by simp [results, Try.results30, go_sem, r0, r1]) rfl ⟨by rw [HF.out.1, HF.out.2], S5.out⟩
    · have hm0 : ¬ (0 : Int) < ((rdMiss M xs ss).length : Int) := by omega
      have hok : rfOk M xs ss = true := by unfold rfOk; rw [hv, Bool.true_and]; exact decide_eq_true (by omega)
      have HF : Hid (smOk ss = rfOk M xs ss ∧ smV ss = rfV M xs ss) := by
        obtain ⟨h1, h2⟩ := rf_sm hok
        exact ⟨by rw [h1, hok], by rw [h2]; unfold rfV; rw [if_pos hok]⟩
      have q2 := N0.out.cell_ (i := 2) (v := .slice B q d) rfl
      clear hv hct hok
      go_wp2_with fail
      refine (StampMax_any _ _ _ _ _ (h'.st S4.out)).mono ?_
      rintro e w5 ⟨rfl, s5⟩
      rw [HF.out.1, HF.out.2]
      have K5 := N1.out.below s5 N1.out.lt
      have S5 := S4.out.trans s5
      have z0 := K5.cell_ (i := 0) (v := .int .i64 0) rfl
      have z1 := K5.cell_ (i := 1) (v := .int .i64 0) rfl
      have f0 := K5.frozen 0
      have f1 := K5.frozen 1
      have C2 := (K5.set_ 0 (.int .i64 (rfV M xs ss).1)).set_ 1 (.int .i64 (rfV M xs ss).2)
      have r0 := C2.cell_ (i := 0) (v := .int .i64 (rfV M xs ss).1) rfl
      have r1 := C2.cell_ (i := 1) (v := .int .i64 (rfV M xs ss).2) rfl
      have S6 := hid ((S5.setCell (p := ⟨w.heap.size + 1, 0, none⟩) (by simp) (.int .i64 (rfV M xs ss).1)).setCell (p := ⟨w.heap.size + 1, 1, none⟩) (by simp) (.int .i64 (rfV M xs ss).2))
      clear C2 K5 S5 s5 q2 hm hm0
      go_wp2_with fail
      refine bodyPost_ret (v := .tuple #[stV (rfV M xs ss), .bool (rfOk M xs ss)]) (by simp [results, Try.results30, go_sem, r0, r1]) rfl ⟨rfl, S6.out⟩
section
variable {w w' : World} {M : Int} {A B : Option Addr} {n c m d : Nat} {xs : List Int} {ss : List (Int × Int)}
theorem st_self (t g : Int) (w : World) : Calls Try.prog 41 #[.agg #[.int .i64 t, .int .i64 g], .agg #[.int .i64 t, .int .i64 g]] w fun e w' => e = .returned (.bool true) ∧ St w w' :=
  (eqStamp_any t g t g w).mono fun _ _ ⟨a, b⟩ => ⟨by rw [a, eqS_iff.2 rfl], b⟩
theorem RoundFinal_r (h : RdRd w M A n c B m d xs ss) (f : FitRd xs ss) : Calls Try.prog 30 #[rdV M A n c B m d] w fun e w' => e = .returned (.tuple #[.agg #[.int .i64 (rfV M xs ss).1, .int .i64 (rfV M xs ss).2], .bool (rfOk M xs ss)]) ∧ St w w' :=
  RoundFinal_any _ _ _ _ _ _ _ _ _ _ h.sl h.sh (h.n_ f)
theorem specRoundFinal_r (h : RdRd w M A n c B m d xs ss) (f : FitRd xs ss) : Calls Try.prog 40 #[rdV M A n c B m d] w fun e w' => e = .returned (.tuple #[.agg #[.int .i64 (rfV M xs ss).1, .int .i64 (rfV M xs ss).2], .bool (rfOk M xs ss)]) ∧ St w w' :=
  specRoundFinal_any _ _ _ _ _ _ _ _ _ _ h.sl h.sh (h.n_ f)
end
end Go.Proofs.Ytldclkjknhjbfaa
