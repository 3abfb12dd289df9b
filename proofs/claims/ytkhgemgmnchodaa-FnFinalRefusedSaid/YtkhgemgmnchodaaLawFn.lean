/- What the laws on final stamps hold. -/
import Derived.Test.YtkhgemgmnchodaaSameGr
import Derived.Test.YtkhgemgmnchodaaFinL
import Derived.Test.YtkhgemgmnchodaaGr15
import Derived.Test.YtkhgemgmnchodaaGr16
import Derived.Test.YtkhgemgmnchodaaDrawGr6
import Derived.Test.YtkhgemgmnchodaaGr7
namespace Go.Proofs.Ytkhgemgmnchodaa
open Go.RowKit Go.Sort
theorem ins_len (e : Ent) (rest : List Ent) : (insE e rest).length = rest.length + 1 := (ins_perm e rest).length_eq
theorem fin_len (g : Grp) (m : Int) (s : Int × Int) : (finM g m s).1.pend.length ≤ g.pend.length + 1 ∧ (finM g m s).1.done.length ≤ g.done.length + (g.pend.length + 1) ∧ (finM g m s).2.1.length ≤ g.pend.length + 1 := by
  unfold finM
  split
  · unfold finS
    split
    · have h1 : (setG g m s).pend.length ≤ g.pend.length + 1 := by
        show (insE _ _).length ≤ _
        rw [ins_len]
        have := List.length_filter_le (fun x : Ent => x.1 != m) g.pend
        unfold restE
        omega
      have h2 := (List.dropWhile_sublist (fun x : Ent => x.2.2) (l := (setG g m s).pend)).length_le
      have h3 := (List.takeWhile_sublist (fun x : Ent => x.2.2) (l := (setG g m s).pend)).length_le
      refine ⟨?_, ?_, ?_⟩
      · show ((setG g m s).pend.dropWhile _).length ≤ _; omega
      · show (g.done ++ (setG g m s).pend.takeWhile _).length ≤ _
        rw [List.length_append]; omega
      · show (msgs ((setG g m s).pend.takeWhile _)).length ≤ _
        rw [msgs, List.length_map]; omega
    · simp
  · simp [g0]
end Go.Proofs.Ytkhgemgmnchodaa
