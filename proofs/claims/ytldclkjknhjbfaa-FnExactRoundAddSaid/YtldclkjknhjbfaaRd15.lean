/- RoundAdd of both sides over rounds that can be read. -/
import Derived.Test.YtldclkjknhjbfaaRd13
import Derived.Test.YtldclkjknhjbfaaRd14
import Derived.Test.YtldclkjknhjbfaaKindRd
namespace Go.Proofs.Ytldclkjknhjbfaa
open Go.RowKit Go.Sort
/-- RoundAdd's end. -/
def RAr (M : Int) (xs : List Int) (ss : List (Int × Int)) (s : Int × Int) (w : World) (e : Ending) (w' : World) : Prop :=
  ∃ A n c B q d, e = .returned (.tuple #[rdV (raM M xs ss s) A n c B q d, .bool (raOk M xs ss s)]) ∧ OwRd w' w.heap.size (raM M xs ss s) A n c B q d (raXs M xs ss s) (raSs M xs ss s) ∧ St w w'
section
variable {w : World} {M : Int} {A B : Option Addr} {n c q d : Nat} {xs : List Int} {ss : List (Int × Int)}
theorem RoundAdd_r (t g : Int) (h : RdRd w M A n c B q d xs ss) (f : FitRd xs ss) : Calls Try.prog 37 #[rdV M A n c B q d, .agg #[.int .i64 t, .int .i64 g]] w (RAr M xs ss (t, g) w) :=
  (RoundAdd_any M A B n c q d xs ss t g w h.sl h.sh (h.n_ f) (h.m_ f)).mono fun _ _ ⟨A', c', B', d', he, ho, hp, hs⟩ => ⟨A', _, c', B', _, d', he, ⟨ho, hp⟩, hs⟩
theorem specRoundAdd_r (t g : Int) (h : RdRd w M A n c B q d xs ss) (f : FitRd xs ss) : Calls Try.prog 38 #[rdV M A n c B q d, .agg #[.int .i64 t, .int .i64 g]] w (RAr M xs ss (t, g) w) :=
  (specRoundAdd_any M A B n c q d xs ss t g w h.sl h.sh (h.n_ f) (h.m_ f)).mono fun _ _ ⟨A', c', B', d', he, ho, hp, hs⟩ => ⟨A', _, c', B', _, d', he, ⟨ho, hp⟩, hs⟩
theorem ra_fit (s : Int × Int) (f : xs.length ≤ 1048000 ∧ ss.length ≤ 1048000) : FitRd (raXs M xs ss s) (raSs M xs ss s) := by
  refine ⟨?_, ?_⟩
  · unfold raXs; split
    · omega
    · simp
  · unfold raSs; split
    · have := addGot_le xs ss s; omega
    · simp
end
end Go.Proofs.Ytldclkjknhjbfaa
