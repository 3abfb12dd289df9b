/- Groups as the argument of an exact law: the contracts in the uniform shapes. -/
import Derived.Test.YtkhgemgmnchodaaGr7
namespace Go.Proofs.Ytkhgemgmnchodaa
open Go.RowKit
section
variable {w w' : World} {I K : Int} {A B A' B' : Option Addr} {n c m d n' c' m' d' base : Nat} {ps ds : List Ent}
def stE (I K : Int) (ps ds : List Ent) (x : Int) : Ent := (stampG ⟨I, K, ps, ds⟩ x).getD e0
def stB (I K : Int) (ps ds : List Ent) (x : Int) : Bool := (stampG ⟨I, K, ps, ds⟩ x).isSome
theorem GroupStamp_r (x : Int) (h : RdGr w I K A n c B m d ps ds) (f : FitGr ps ds) : Calls Try.prog 22 #[grV I K A n c B m d, .int .i64 x] w fun e w' => e = .returned (.tuple #[.agg #[.int .i64 (stE I K ps ds x).1, .int .i64 (stE I K ps ds x).2.1.1, .int .i64 (stE I K ps ds x).2.1.2, .bool (stE I K ps ds x).2.2], .bool (stB I K ps ds x)]) ∧ St w w' :=
  GroupStamp_any _ _ _ _ _ _ _ _ _ _ _ _ h.sl h.sh (h.n_ f) (h.m_ f)
theorem en_self (m t g : Int) (f : Bool) (w : World) : Calls Try.prog 69 #[enV m t g f, enV m t g f] w fun e w' => e = .returned (.bool true) ∧ St w w' := eqEntry_same m t g f w
theorem GroupTrace_r (h : RdGr w I K A n c B m d ps ds) (f : FitGr ps ds) : Calls Try.prog 21 #[grV I K A n c B m d] w fun e w' => ∃ A' n' c', e = .returned (.slice A' n' c') ∧ OI w' w.heap.size 3 A' n' c' (traceG ⟨I, K, ps, ds⟩) ∧ St w w' :=
  (GroupTrace_any _ _ _ _ _ _ _ _ _ _ _ h.sl h.sh (h.n_ f) (h.m_ f)).mono fun _ _ ⟨X, a, h1, h2, h3⟩ => ⟨X, _, a, h1, h2, h3⟩
theorem GroupTrace_r_le (f : FitGr ps ds) : (traceG ⟨I, K, ps, ds⟩).length ≤ 1048576 := by
  unfold traceG
  split
  · rw [msgs_len]; exact f.m
  · simp
end
end Go.Proofs.Ytkhgemgmnchodaa
