/- TraceCycle as the exact law meets it. -/
import Derived.Test.YtfdgbbapbpflcaaTrC4
import Derived.Test.YtfdgbbapbpflcaaKindIss
namespace Go.Proofs.Ytfdgbbapbpflcaa
open Go.RowKit
section
variable {w : World} {A : Option Addr} {n c : Nat} {xss : List (List Int)}
theorem TraceCycle_r (h : RdIss w A n c xss) (f : FitIss xss) : Calls Try.prog 40 #[.slice A n c] w fun e w' => ∃ A' n' c', e = .returned (.slice A' n' c') ∧ OI w' w.heap.size 3 A' n' c' (tcV xss) ∧ St w w' :=
  (TraceCycle_any _ _ _ _ _ h (h.n_ f) f.m).mono fun _ _ h => h
theorem specTraceCycle_r (h : RdIss w A n c xss) (f : FitIss xss) : Calls Try.prog 41 #[.slice A n c] w fun e w' => ∃ A' n' c', e = .returned (.slice A' n' c') ∧ SL w' A' n' c' (tcV xss) ∧ St w w' :=
  (specTraceCycle_any _ _ _ _ _ h (h.n_ f) f.m).mono fun _ _ h => h
theorem TraceCycle_r_le (_ : FitIss xss) : (tcV xss).length ≤ 1048576 := Nat.le_trans (tcV_len xss) (by omega)
end
end Go.Proofs.Ytfdgbbapbpflcaa
