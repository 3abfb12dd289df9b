/- FnRoundFinal returns true. -/
import Derived.Test.YtldclkjknhjbfaaDrawRd3
import Derived.Test.YtldclkjknhjbfaaRd6
namespace Go.Proofs.Ytldclkjknhjbfaa
open Go.RowKit Go.Sort
/-- A drawn round in a block of the law's. -/
structure LX (w W : World) (bx : Nat) (M : Int) (A : Option Addr) (n c : Nat) (B : Option Addr) (q d : Nat) (xs : List Int) (ss : List (Int × Int)) : Prop where
  k : Blk W bx 25 #[.int .i64 M, .slice A n c, .slice B q d]
  i : RdRd W M A n c B q d xs ss
  s : St w W
theorem LX.st {w W W' : World} {bx : Nat} {M : Int} {A : Option Addr} {n c : Nat} {B : Option Addr} {q d : Nat} {xs : List Int} {ss : List (Int × Int)} (h : LX w W bx M A n c B q d xs ss) (s : St W W') : LX w W' bx M A n c B q d xs ss :=
  ⟨h.k.below s h.k.lt, h.i.st s, h.s.trans s⟩
theorem LX.new {w W : World} {M : Int} {A : Option Addr} {n c : Nat} {B : Option Addr} {q d : Nat} {xs : List Int} {ss : List (Int × Int)} (h : RdRd W M A n c B q d xs ss) (s : St w W) :
    LX w (W.alloc (.cells #[.int .i64 M, .slice A n c, .slice B q d] 25)) W.heap.size M A n c B q d xs ss :=
  have a := (St.refl W).alloc (.cells #[.int .i64 M, .slice A n c, .slice B q d] 25)
  ⟨Blk.new _ _ _, h.st a, s.trans a⟩
set_option maxRecDepth 100000 in
set_option maxHeartbeats 2000000 in
theorem walkRoundFinal (A : Option Addr) (n c : Nat) (bs : List Nat) {w : World} (h : RB w w.heap.size A n bs) (hnc : n ≤ c ∧ c ≤ maxLen) :
    Calls Try.prog 10 #[.slice A n c] w fun e w' => e = .returned (.bool true) ∧ Below w.heap.size w w' := by
  obtain ⟨hnc, hcm⟩ := hnc
  have HCM := hid hcm
  clear hcm
  by_cases hn : 1048576 < n
  · have hn : (1048576 : Int) < (n : Int) := by omega
    go_enter Try.func10, Try.ntmps10
    go_wp2_with fail
    go_ret
    exact ⟨rfl, Below.refl _ _⟩
  have hni : ¬ (1048576 : Int) < (n : Int) := by omega
  go_enter Try.func10, Try.ntmps10
  go_wp2_with fail
  refine (DrawRoundFinal_any _ _ _ _ _ h (by omega) hnc HCM.out).mono ?_
  rintro e w1 ⟨M, A1, n1, c1, B1, q1, d1, xs, ss, rfl, i1, f1, hn1, hq1, s1⟩
  have X2 := hid (LX.new i1 s1)
  have F := hid f1
  clear i1 s1 f1
  obtain ⟨⟨vt, vg⟩, hv⟩ : ∃ v, rfV M xs ss = v := ⟨_, rfl⟩
  obtain ⟨ok, hok⟩ : ∃ b, rfOk M xs ss = b := ⟨_, rfl⟩
  obtain ⟨va, hva⟩ : ∃ b, rdValid M xs ss = b := ⟨_, rfl⟩
  have q0 := X2.out.k.cell_ (i := 0) (v := .int .i64 M) rfl
  have q1' := X2.out.k.cell_ (i := 1) (v := .slice A1 n1 c1) rfl
  have q2 := X2.out.k.cell_ (i := 2) (v := .slice B1 q1 d1) rfl
  go_wp2_with fail
  generalize w1.alloc (.cells #[.int .i64 M, .slice A1 n1 c1, .slice B1 q1 d1] 25) = w2 at X2 q0 q1' q2 ⊢
  refine (RoundFinal_any M A1 B1 n1 c1 q1 d1 xs ss _ X2.out.i.sl X2.out.i.sh (by omega)).mono ?_
  rintro e w3 ⟨rfl, s3⟩
  rw [hv, hok]
  have a3 := s3.alloc (.cells #[.int .i64 vt, .int .i64 vg] 45)
  have X4 := hid (X2.out.st a3)
  have P4 := hid (Blk.new w3 45 #[.int .i64 vt, .int .i64 vg])
  clear X2 q0 q1' q2 s3 a3
  have q0 := X4.out.k.cell_ (i := 0) (v := .int .i64 M) rfl
  have q1' := X4.out.k.cell_ (i := 1) (v := .slice A1 n1 c1) rfl
  have q2 := X4.out.k.cell_ (i := 2) (v := .slice B1 q1 d1) rfl
  go_wp2_with fail
  generalize w3.alloc (.cells #[.int .i64 vt, .int .i64 vg] 45) = w4 at X4 P4 q0 q1' q2 ⊢
  refine (specRoundFinal_any M A1 B1 n1 c1 q1 d1 xs ss _ X4.out.i.sl X4.out.i.sh (by omega)).mono ?_
  rintro e w5 ⟨rfl, s5⟩
  rw [hv, hok]
  have a5 := s5.alloc (.cells #[.int .i64 vt, .int .i64 vg] 45)
  have X6 := hid (X4.out.st a5)
  have P6 := hid (P4.out.below a5 P4.out.lt)
  have Q6 := hid (Blk.new w5 45 #[.int .i64 vt, .int .i64 vg])
  clear X4 P4 q0 q1' q2 s5 a5
  have q0 := X6.out.k.cell_ (i := 0) (v := .int .i64 M) rfl
  have q1' := X6.out.k.cell_ (i := 1) (v := .slice A1 n1 c1) rfl
  have q2 := X6.out.k.cell_ (i := 2) (v := .slice B1 q1 d1) rfl
  have p0 := P6.out.cell_ (i := 0) (v := .int .i64 vt) rfl
  have p1 := P6.out.cell_ (i := 1) (v := .int .i64 vg) rfl
  have r0 := Q6.out.cell_ (i := 0) (v := .int .i64 vt) rfl
  have r1 := Q6.out.cell_ (i := 1) (v := .int .i64 vg) rfl
  have hoo : (ok == ok) = true := by simp
  have hon : (ok != ok) = false := by simp
  go_wp2_with fail
  generalize w5.alloc (.cells #[.int .i64 vt, .int .i64 vg] 45) = w6 at X6 P6 Q6 q0 q1' q2 p0 p1 r0 r1 ⊢
  refine (specRoundValid_any M A1 B1 n1 c1 q1 d1 xs ss _ X6.out.i.sl X6.out.i.sh (by omega)).mono ?_
  rintro e w7 ⟨rfl, s7⟩
  rw [hva]
  have X7 := hid (X6.out.st s7)
  have P7 := hid (P6.out.below s7 P6.out.lt)
  have Q7 := hid (Q6.out.below s7 Q6.out.lt)
  clear X6 P6 Q6 q0 q1' q2 p0 p1 r0 r1 s7
  have q0 := X7.out.k.cell_ (i := 0) (v := .int .i64 M) rfl
  have q1' := X7.out.k.cell_ (i := 1) (v := .slice A1 n1 c1) rfl
  have q2 := X7.out.k.cell_ (i := 2) (v := .slice B1 q1 d1) rfl
  have p0 := P7.out.cell_ (i := 0) (v := .int .i64 vt) rfl
  have p1 := P7.out.cell_ (i := 1) (v := .int .i64 vg) rfl
  cases va
  · have r0 := Q7.out.cell_ (i := 0) (v := .int .i64 vt) rfl
    have r1 := Q7.out.cell_ (i := 1) (v := .int .i64 vg) rfl
    cases ok
    · go_wp2_with fail
      go_ret
      exact ⟨rfl, X7.out.s⟩
    · go_wp2_with fail
      go_ret
      exact ⟨rfl, X7.out.s⟩
  · obtain ⟨⟨yt, yg⟩, hsv⟩ : ∃ v, smV ss = v := ⟨_, rfl⟩
    obtain ⟨fi, hso⟩ : ∃ b, smOk ss = b := ⟨_, rfl⟩
    obtain ⟨L, hL⟩ : ∃ L, (rdMiss M xs ss).length = L := ⟨_, rfl⟩
    have hLn : (rdMiss M xs ss).length + ss.length = xs.length := rdMiss_count hva
    have hLx : L + ss.length = xs.length := by rw [← hL]; exact hLn
    have hsame : ok = true → fi = true ∧ yt = vt ∧ yg = vg := by
      intro h
      rw [h] at hok
      have := rf_sm hok
      rw [hso, hsv] at this
      have hv' : rfV M xs ss = maxS ss := by unfold rfV; rw [if_pos hok]
      rw [hv', ← this.2] at hv
      injection hv with e1 e2
      exact ⟨this.1, e1, e2⟩
    have hcnt : ok = decide (L = 0) := by
      rw [← hok]
      unfold rfOk
      rw [hva, Bool.true_and]
      have : (xs.length ≤ ss.length) ↔ L = 0 := by omega
      simp [this]
    have HS := hid hsame
    have HC := hid hcnt
    clear hsame hcnt hLn hLx
    go_wp2_with fail
    refine (StampMax_any B1 q1 d1 ss _ X7.out.i.sh).mono ?_
    rintro e w8 ⟨rfl, s8⟩
    rw [hsv, hso]
    have a8 := s8.alloc (.cells #[.int .i64 yt, .int .i64 yg] 45)
    have X9 := hid (X7.out.st a8)
    have P9 := hid (P7.out.below a8 P7.out.lt)
    have R9 := hid (Blk.new w8 45 #[.int .i64 yt, .int .i64 yg])
    clear X7 P7 Q7 q0 q1' q2 p0 p1 s8 a8
    have q0 := X9.out.k.cell_ (i := 0) (v := .int .i64 M) rfl
    have q1' := X9.out.k.cell_ (i := 1) (v := .slice A1 n1 c1) rfl
    have q2 := X9.out.k.cell_ (i := 2) (v := .slice B1 q1 d1) rfl
    go_wp2_with fail
    generalize w8.alloc (.cells #[.int .i64 yt, .int .i64 yg] 45) = w9 at X9 P9 R9 q0 q1' q2 ⊢
    refine (RoundMissing_any M A1 B1 n1 c1 q1 d1 xs ss _ X9.out.i.sl X9.out.i.sh (by omega)).mono ?_
    rintro e w10 ⟨A10, c10, rfl, o10, s10⟩
    rw [hL]
    have X10 := hid (X9.out.st s10)
    have P10 := hid (P9.out.below s10 P9.out.lt)
    have R10 := hid (R9.out.below s10 R9.out.lt)
    have p0 := P10.out.cell_ (i := 0) (v := .int .i64 vt) rfl
    have p1 := P10.out.cell_ (i := 1) (v := .int .i64 vg) rfl
    have r0 := R10.out.cell_ (i := 0) (v := .int .i64 yt) rfl
    have r1 := R10.out.cell_ (i := 1) (v := .int .i64 yg) rfl
    clear X9 P9 R9 q0 q1' q2 s10 o10
    cases ok
    · have hL0 : ((L : Int) == 0) = false := by have := HC.out; simp at this; simp; omega
      have hL1 : (L : Int) ≠ 0 := by have := HC.out; simp at this; omega
      clear hv hok hva hsv hso hL
      go_wp2_with fail
      go_ret
      exact ⟨rfl, X10.out.s⟩
    · obtain ⟨rfl, rfl, rfl⟩ := HS.out rfl
      obtain rfl : L = 0 := by have := HC.out; simpa using this
      clear hv hok hva hsv hso hL
      go_wp2_with fail
      go_ret
      exact ⟨rfl, X10.out.s⟩
end Go.Proofs.Ytldclkjknhjbfaa
