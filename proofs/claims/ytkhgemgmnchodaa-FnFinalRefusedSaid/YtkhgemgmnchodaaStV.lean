/- Stamps: validity and order. -/
import Derived.Test.YtkhgemgmnchodaaStamps
import Derived.Lib.QuietBelow
namespace Go.Proofs.Ytkhgemgmnchodaa
open Go.RowKit Go.Sort
/-- Is a stamp in range? -/
def stOk (s : Int × Int) : Bool := inB s.1 1 999 && inB s.2 0 4
theorem StampValid_any (t g : Int) (w : World) : Calls Try.prog 37 #[.agg #[.int .i64 t, .int .i64 g]] w fun e w' => e = .returned (.bool (stOk (t, g))) ∧ St w w' := by
  have hdef := hid (show stOk (t, g) = (inB t 1 999 && inB g 0 4) from rfl)
  have s1 := hid ((St.refl w).alloc (.cells #[.int .i64 t, .int .i64 g] 32))
  by_cases h1 : 1 ≤ t
  · by_cases h2 : t ≤ 999
    · have hi := hid (hdef.out.trans (by rw [show inB t 1 999 = true from inB_iff.2 ⟨h1, h2⟩, Bool.true_and] : _ = inB g 0 4))
      go_enter Try.func37, Try.ntmps37
      go_wp2_with fail
      refine (isGroup_any _ _).mono ?_
      rintro e w1 ⟨rfl, rfl⟩
      go_wp2_with fail
      go_ret
      exact ⟨ret_bool hi.out.symm, s1.out⟩
    · have hi := hid (hdef.out.trans (by rw [show inB t 1 999 = false by simp [inB]; omega, Bool.false_and] : _ = false))
      go_enter Try.func37, Try.ntmps37
      go_wp2_with fail
      go_ret
      exact ⟨ret_bool hi.out.symm, s1.out⟩
  · have hi := hid (hdef.out.trans (by rw [show inB t 1 999 = false by simp [inB]; omega, Bool.false_and] : _ = false))
    go_enter Try.func37, Try.ntmps37
    go_wp2_with fail
    go_ret
    exact ⟨ret_bool hi.out.symm, s1.out⟩
theorem specStampValid_any (t g : Int) (w : World) : Calls Try.prog 20 #[.agg #[.int .i64 t, .int .i64 g]] w fun e w' => e = .returned (.bool (stOk (t, g))) ∧ St w w' := by
  have hdef := hid (show stOk (t, g) = (inB t 1 999 && inB g 0 4) from rfl)
  have s1 := hid ((St.refl w).alloc (.cells #[.int .i64 t, .int .i64 g] 32))
  cases h1 : inB t 1 999
  · rw [h1, Bool.false_and] at hdef
    go_enter Try.func20, Try.ntmps20
    go_wp2_with fail
    refine (l6In_any _ _ _ _).mono ?_
    rintro e w1 ⟨rfl, rfl⟩
    rw [h1]
    go_wp2_with fail
    go_ret
    exact ⟨ret_bool hdef.out.symm, s1.out⟩
  · rw [h1, Bool.true_and] at hdef
    go_enter Try.func20, Try.ntmps20
    go_wp2_with fail
    refine (l6In_any _ _ _ _).mono ?_
    rintro e w1 ⟨rfl, rfl⟩
    rw [h1]
    go_wp2_with fail
    refine (l1Group_any _ _).mono ?_
    rintro e w1 ⟨rfl, rfl⟩
    go_wp2_with fail
    go_ret
    exact ⟨ret_bool hdef.out.symm, s1.out⟩
/-- The order of stamps. -/
def ltS (s p : Int × Int) : Bool := decide (s.1 < p.1) || ((s.1 == p.1) && decide (s.2 < p.2))
theorem ltS_iff {s p : Int × Int} : ltS s p = true ↔ s.1 < p.1 ∨ (s.1 = p.1 ∧ s.2 < p.2) := by simp [ltS]
theorem ltS_false {s p : Int × Int} : ltS s p = false ↔ ¬ (s.1 < p.1 ∨ (s.1 = p.1 ∧ s.2 < p.2)) := by rw [← ltS_iff]; simp
theorem less_any (t g t' g' : Int) (w : World) : Calls Try.prog 41 #[.agg #[.int .i64 t, .int .i64 g], .agg #[.int .i64 t', .int .i64 g']] w fun e w' => e = .returned (.bool (ltS (t, g) (t', g'))) ∧ St w w' := by
  have s1 := hid (((St.refl w).alloc (.cells #[.int .i64 t, .int .i64 g] 32)).alloc (.cells #[.int .i64 t', .int .i64 g'] 32))
  by_cases h1 : t < t'
  · have hm := hid (show ltS (t, g) (t', g') = true by simp [ltS, h1])
    go_enter Try.func41, Try.ntmps41
    go_wp2_with fail
    go_ret
    exact ⟨ret_bool hm.out.symm, s1.out⟩
  · cases h2 : (t == t')
    · have hm := hid (show ltS (t, g) (t', g') = false by simp [ltS, h1, h2])
      go_enter Try.func41, Try.ntmps41
      go_wp2_with fail
      go_ret
      exact ⟨ret_bool hm.out.symm, s1.out⟩
    · have hm := hid (show ltS (t, g) (t', g') = decide (g < g') by simp [ltS, h1, h2])
      go_enter Try.func41, Try.ntmps41
      go_wp2_with fail
      go_ret
      exact ⟨ret_bool hm.out.symm, s1.out⟩
theorem l2Less_any (t g t' g' : Int) (w : World) : Calls Try.prog 57 #[.agg #[.int .i64 t, .int .i64 g], .agg #[.int .i64 t', .int .i64 g']] w fun e w' => e = .returned (.bool (ltS (t, g) (t', g'))) ∧ St w w' := by
  have s1 := hid (((St.refl w).alloc (.cells #[.int .i64 t, .int .i64 g] 32)).alloc (.cells #[.int .i64 t', .int .i64 g'] 32))
  by_cases h1 : t < t'
  · have hm := hid (show ltS (t, g) (t', g') = true by simp [ltS, h1])
    go_enter Try.func57, Try.ntmps57
    go_wp2_with fail
    go_ret
    exact ⟨ret_bool hm.out.symm, s1.out⟩
  · cases h2 : (t == t')
    · have hm := hid (show ltS (t, g) (t', g') = false by simp [ltS, h1, h2])
      go_enter Try.func57, Try.ntmps57
      go_wp2_with fail
      go_ret
      exact ⟨ret_bool hm.out.symm, s1.out⟩
    · have hm := hid (show ltS (t, g) (t', g') = decide (g < g') by simp [ltS, h1, h2])
      go_enter Try.func57, Try.ntmps57
      go_wp2_with fail
      go_ret
      exact ⟨ret_bool hm.out.symm, s1.out⟩
abbrev stV (s : Int × Int) : Value := .agg #[.int .i64 s.1, .int .i64 s.2]
end Go.Proofs.Ytkhgemgmnchodaa
