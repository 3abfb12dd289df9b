/- Credits as the argument of an exact law. -/
import Derived.Test.YtggjfbakekfdhaaKeptCr
import Derived.Test.YtggjfbakekfdhaaRes
import Derived.Test.YtggjfbakekfdhaaStuck2
namespace Go.Proofs.Ytggjfbakekfdhaa
open Go.RowKit
structure RdCr (w : World) (A : Option Addr) (n c : Nat) (B : Option Addr) (m d : Nat) (fs : List Int) (hs : List (List Int × Int)) : Prop where
  sl : SL w A n c fs
  sh : SH w B m d hs
structure FitCr (fs : List Int) (hs : List (List Int × Int)) : Prop where
  n : fs.length ≤ 1048576
  m : hs.length ≤ 1048576
  h2 : ∀ x ∈ hs, x.1.length ≤ 1048576
structure OwCr (w : World) (base : Nat) (A : Option Addr) (n c : Nat) (B : Option Addr) (m d : Nat) (fs : List Int) (hs : List (List Int × Int)) : Prop where
  oi : OI w base 3 A n c fs
  oh : OHL w base B m d hs
structure WrCr (P : Nat → Prop) (w : World) (A : Option Addr) (n : Nat) (B : Option Addr) (m : Nat) : Prop where
  wi : WI P w A n
  wh : WH P w B m
  n : n ≤ 1048576
  m : m ≤ 1048576
section
variable {w w' : World} {A B A' B' : Option Addr} {n c m d n' c' m' d' base : Nat} {fs : List Int} {hs : List (List Int × Int)} {P : Nat → Prop}
theorem RdCr.st (h : RdCr w A n c B m d fs hs) (s : St w w') : RdCr w' A n c B m d fs hs := ⟨h.sl.st s, h.sh.st s⟩
theorem OwCr.rd (h : OwCr w base A n c B m d fs hs) : RdCr w A n c B m d fs hs := ⟨h.oi.sl, h.oh.sh⟩
theorem WrCr.kept (h : WrCr P w A n B m) (k : Kept P w w') : WrCr P w' A n B m := ⟨h.wi.kept k, h.wh.kept k, h.n, h.m⟩
theorem cr_wr (h : OwCr w base A n c B m d fs hs) (f : FitCr fs hs) (hP : ∀ g, base ≤ g → g < w.heap.size → P g) : WrCr P w A n B m :=
  ⟨h.oi.wi hP, h.oh.wh f.h2 hP, by have := h.oi.len; have := f.n; omega, by have := h.oh.1; have := f.m; omega⟩
theorem cr_sz (h : RdCr w A n c B m d fs hs) : Calls Try.prog 27 #[crV A n c B m d, .int .i64 1048576] w fun e w' => (∃ r : Int, e = .returned (.int .i64 r) ∧ (r < 0 ∨ FitCr fs hs)) ∧ St w w' :=
  (szCredits_any _ _ _ _ _ _ _ _ _ _ h.sl h.sh (by omega) (by omega)).mono fun _ _ ⟨a, b⟩ => ⟨⟨_, a, by
    by_cases hz : szC 1048576 fs hs < 0
    · exact .inl hz
    · right
      obtain ⟨b1, b2, b3⟩ := szC_bound (show 0 ≤ szC 1048576 fs hs by omega)
      exact ⟨by omega, by omega, fun x hx => by have := b3 x hx; omega⟩⟩, b⟩
theorem cr_to (h : RdCr w A n c B m d fs hs) (f : FitCr fs hs) : Calls Try.prog 29 #[crV A n c B m d] w fun e w' => ∃ A' n' c' B' m' d', e = .returned (crV A' n' c' B' m' d') ∧ OwCr w' w.heap.size A' n' c' B' m' d' fs hs ∧ St w w' :=
  (toCredits_any _ _ _ _ _ _ _ _ _ h.sl h.sh (by have := h.sl.len; have := f.n; omega) (by have := h.sh.len; have := f.m; omega) f.h2).mono fun _ _ ⟨A', c', B', d', a, b, e, s⟩ => ⟨A', n, c', B', m, d', a, ⟨b, e⟩, s⟩
theorem cr_same (h : RdCr w A n c B m d fs hs) (h' : RdCr w A' n' c' B' m' d' fs hs) (f : FitCr fs hs) : Calls Try.prog 17 #[crV A n c B m d, crV A' n' c' B' m' d'] w fun e w' => e = .returned (.bool true) ∧ St w w' := by
  obtain rfl : n = n' := by have := h.sl.len; have := h'.sl.len; omega
  obtain rfl : m = m' := by have := h.sh.len; have := h'.sh.len; omega
  exact eqCredits_same _ _ _ _ _ _ _ _ _ _ _ _ _ _ _ h.sl h.sh h'.sl h'.sh (by have := h.sl.len; have := f.n; omega) (by have := h.sh.len; have := f.m; omega) f.h2
theorem cr_mark (h : WrCr P w A n B m) (_ : FitCr fs hs) : Calls Try.prog 20 #[crV A n c B m d, .int .i64 1] w fun e w' => (∃ r : Int, e = .returned (.int .i64 r) ∧ 0 ≤ r) ∧ Kept P w w' :=
  markCredits_w P A B n c m d 1 w h.wi h.wh h.n h.m (by omega) (by omega)
theorem CreditsStuck_r (h : RdCr w A n c B m d fs hs) (f : FitCr fs hs) : Calls Try.prog 26 #[crV A n c B m d] w fun e w' => ∃ A' n' c', e = .returned (.slice A' n' c') ∧ OI w' w.heap.size 3 A' n' c' (crStuck fs hs) ∧ St w w' :=
  (CreditsStuck_any _ _ _ _ _ _ _ _ _ h.sl h.sh (by have := h.sl.len; have := f.n; omega) f.h2).mono fun _ _ ⟨A', c', a, b, s⟩ => ⟨A', _, c', a, b, s⟩
theorem specCreditsStuck_r (h : RdCr w A n c B m d fs hs) (f : FitCr fs hs) : Calls Try.prog 32 #[crV A n c B m d] w fun e w' => ∃ A' n' c', e = .returned (.slice A' n' c') ∧ SL w' A' n' c' (crStuck fs hs) ∧ St w w' :=
  (specCreditsStuck_any _ _ _ _ _ _ _ _ _ h.sl h.sh (by have := h.sl.len; have := f.n; omega) f.h2).mono fun _ _ ⟨A', c', a, b, s⟩ => ⟨A', _, c', a, b.sl, s⟩
theorem CreditsStuck_r_le (f : FitCr fs hs) : (crStuck fs hs).length ≤ 1048576 := by
  unfold crStuck stuckOf
  split
  · rw [List.length_map]
    exact Nat.le_trans (List.length_filter_le _ _) (by rw [List.length_range]; exact f.m)
  · simp
end
end Go.Proofs.Ytggjfbakekfdhaa
