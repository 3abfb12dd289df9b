/-
  No cell of these rows narrows 'for every input' (looked for: loops, veiled, ifaces, maps, wideKeys, modest, calm, conditions, laid).
  DERIVED. THE GIVEN ROWS OF THIS SEAT. 12 by the template 'for every input the law returns true; each argument reads behind the call as it read before'; 0 by the template 'total and deterministic' (their statements: YtfepegellpegdaaTotals.lean).
  GIVEN WITH THE SEED: the statements are not yours to turn. If you find one false, say at which input.
  Laid BY PROGRAM, IN A SANDBOX (cutbox-rows.mjs): the forced cells as the released guide's own fill.sh prints them over the translation 0474771b6f2297b9… (all of the seat's roots in one cut). By AI agents, Wed Nov 11 2026. No macro, syntax, notation, axiom, sorry.
-/
import Derived.Test.YtfepegellpegdaaChecked
import GoSem.Claim
import GoSem.ClaimJoined
import GoSem.ClaimMapViews
import Derived.JoinedTies
import Derived.KernelRfl
namespace Go.Proofs.Ytfepegellpegdaa
/- THE CELL 'sum', in the pinned program and in every row, IS THE sha256 OF THE DUMP (.gsa) THAT YtfepegellpegdaaProg.lean LOADS. Nothing in Lean hashes anything: it is a label: what it is worth is what the hold of that sum in a sandbox is worth. -/
noncomputable def Try.pinned : Pinned := { name := "ytfepegellpegdaa", sum := "0474771b6f2297b9006ee1d958b7ca176ee7853fa8b773401e6256e66dbeaabb", checked := Try.checked }
namespace Rows
def none {H : Type} : Left H := { results := [], args := [] }

/-- 'laws.FnFinalEager': WHATEVER THE INPUT: true; the input reads as it did. -/
def fnFinalEagerSpec : ChangeSpec := { name := "fnFinalEager", fn := fun _ => fun
  | [d] => { results := [.lit (.bool true)], args := [d] }
  | _ => none }
def fnFinalEagerRow : OpenClaim := { program := "ytfepegellpegdaa", sum := "0474771b6f2297b9006ee1d958b7ca176ee7853fa8b773401e6256e66dbeaabb", func := "loop.example/groupmulticast/laws.FnFinalEager", spec := "fnFinalEager", apart := false }
def FnFinalEagerSaid : Prop := fnFinalEagerRow.holds Try.pinned (OpenSpec.ofChange fnFinalEagerSpec)

/-- ITS FALSE NEIGHBOUR: 'it returns false'. Refute it at one input. -/
def fnFinalEagerWrong : ChangeSpec := { name := "fnFinalEager", fn := fun _ => fun
  | [d] => { results := [.lit (.bool false)], args := [d] }
  | _ => none }
def FnFinalEagerWrongFalsely : Prop := fnFinalEagerRow.holds Try.pinned (OpenSpec.ofChange fnFinalEagerWrong)

/-- 'laws.FnGroupTrace': WHATEVER THE INPUT: true; the input reads as it did. -/
def fnGroupTraceSpec : ChangeSpec := { name := "fnGroupTrace", fn := fun _ => fun
  | [d] => { results := [.lit (.bool true)], args := [d] }
  | _ => none }
def fnGroupTraceRow : OpenClaim := { program := "ytfepegellpegdaa", sum := "0474771b6f2297b9006ee1d958b7ca176ee7853fa8b773401e6256e66dbeaabb", func := "loop.example/groupmulticast/laws.FnGroupTrace", spec := "fnGroupTrace", apart := false }
def FnGroupTraceSaid : Prop := fnGroupTraceRow.holds Try.pinned (OpenSpec.ofChange fnGroupTraceSpec)

/-- ITS FALSE NEIGHBOUR: 'it returns false'. Refute it at one input. -/
def fnGroupTraceWrong : ChangeSpec := { name := "fnGroupTrace", fn := fun _ => fun
  | [d] => { results := [.lit (.bool false)], args := [d] }
  | _ => none }
def FnGroupTraceWrongFalsely : Prop := fnGroupTraceRow.holds Try.pinned (OpenSpec.ofChange fnGroupTraceWrong)

/-- 'laws.FnExactGroupTrace': WHATEVER THE INPUT: true; the input reads as it did. -/
def fnExactGroupTraceSpec : ChangeSpec := { name := "fnExactGroupTrace", fn := fun _ => fun
  | [d] => { results := [.lit (.bool true)], args := [d] }
  | _ => none }
def fnExactGroupTraceRow : OpenClaim := { program := "ytfepegellpegdaa", sum := "0474771b6f2297b9006ee1d958b7ca176ee7853fa8b773401e6256e66dbeaabb", func := "loop.example/groupmulticast/laws.FnExactGroupTrace", spec := "fnExactGroupTrace", apart := false }
def FnExactGroupTraceSaid : Prop := fnExactGroupTraceRow.holds Try.pinned (OpenSpec.ofChange fnExactGroupTraceSpec)

/-- ITS FALSE NEIGHBOUR: 'it returns false'. Refute it at one input. -/
def fnExactGroupTraceWrong : ChangeSpec := { name := "fnExactGroupTrace", fn := fun _ => fun
  | [d] => { results := [.lit (.bool false)], args := [d] }
  | _ => none }
def FnExactGroupTraceWrongFalsely : Prop := fnExactGroupTraceRow.holds Try.pinned (OpenSpec.ofChange fnExactGroupTraceWrong)

/-- 'laws.FnGroupStamp': WHATEVER THE INPUT: true; the input reads as it did. -/
def fnGroupStampSpec : ChangeSpec := { name := "fnGroupStamp", fn := fun _ => fun
  | [d] => { results := [.lit (.bool true)], args := [d] }
  | _ => none }
def fnGroupStampRow : OpenClaim := { program := "ytfepegellpegdaa", sum := "0474771b6f2297b9006ee1d958b7ca176ee7853fa8b773401e6256e66dbeaabb", func := "loop.example/groupmulticast/laws.FnGroupStamp", spec := "fnGroupStamp", apart := false }
def FnGroupStampSaid : Prop := fnGroupStampRow.holds Try.pinned (OpenSpec.ofChange fnGroupStampSpec)

/-- ITS FALSE NEIGHBOUR: 'it returns false'. Refute it at one input. -/
def fnGroupStampWrong : ChangeSpec := { name := "fnGroupStamp", fn := fun _ => fun
  | [d] => { results := [.lit (.bool false)], args := [d] }
  | _ => none }
def FnGroupStampWrongFalsely : Prop := fnGroupStampRow.holds Try.pinned (OpenSpec.ofChange fnGroupStampWrong)

/-- 'laws.FnExactGroupStamp': WHATEVER THE INPUT: true; the input reads as it did. -/
def fnExactGroupStampSpec : ChangeSpec := { name := "fnExactGroupStamp", fn := fun _ => fun
  | [d1, d2] => { results := [.lit (.bool true)], args := [d1, d2] }
  | _ => none }
def fnExactGroupStampRow : OpenClaim := { program := "ytfepegellpegdaa", sum := "0474771b6f2297b9006ee1d958b7ca176ee7853fa8b773401e6256e66dbeaabb", func := "loop.example/groupmulticast/laws.FnExactGroupStamp", spec := "fnExactGroupStamp", apart := false }
def FnExactGroupStampSaid : Prop := fnExactGroupStampRow.holds Try.pinned (OpenSpec.ofChange fnExactGroupStampSpec)

/-- ITS FALSE NEIGHBOUR: 'it returns false'. Refute it at one input. -/
def fnExactGroupStampWrong : ChangeSpec := { name := "fnExactGroupStamp", fn := fun _ => fun
  | [d1, d2] => { results := [.lit (.bool false)], args := [d1, d2] }
  | _ => none }
def FnExactGroupStampWrongFalsely : Prop := fnExactGroupStampRow.holds Try.pinned (OpenSpec.ofChange fnExactGroupStampWrong)

/-- 'laws.FnProposeClock': WHATEVER THE INPUT: true; the input reads as it did. -/
def fnProposeClockSpec : ChangeSpec := { name := "fnProposeClock", fn := fun _ => fun
  | [d] => { results := [.lit (.bool true)], args := [d] }
  | _ => none }
def fnProposeClockRow : OpenClaim := { program := "ytfepegellpegdaa", sum := "0474771b6f2297b9006ee1d958b7ca176ee7853fa8b773401e6256e66dbeaabb", func := "loop.example/groupmulticast/laws.FnProposeClock", spec := "fnProposeClock", unfollowed := true, recurses := true, apart := false }
def FnProposeClockSaid : Prop := fnProposeClockRow.holds Try.pinned (OpenSpec.ofChange fnProposeClockSpec)

/-- ITS FALSE NEIGHBOUR: 'it returns false'. Refute it at one input. -/
def fnProposeClockWrong : ChangeSpec := { name := "fnProposeClock", fn := fun _ => fun
  | [d] => { results := [.lit (.bool false)], args := [d] }
  | _ => none }
def FnProposeClockWrongFalsely : Prop := fnProposeClockRow.holds Try.pinned (OpenSpec.ofChange fnProposeClockWrong)

/-- 'laws.FnProposeFail': WHATEVER THE INPUT: true; the input reads as it did. -/
def fnProposeFailSpec : ChangeSpec := { name := "fnProposeFail", fn := fun _ => fun
  | [d] => { results := [.lit (.bool true)], args := [d] }
  | _ => none }
def fnProposeFailRow : OpenClaim := { program := "ytfepegellpegdaa", sum := "0474771b6f2297b9006ee1d958b7ca176ee7853fa8b773401e6256e66dbeaabb", func := "loop.example/groupmulticast/laws.FnProposeFail", spec := "fnProposeFail", unfollowed := true, recurses := true, apart := false }
def FnProposeFailSaid : Prop := fnProposeFailRow.holds Try.pinned (OpenSpec.ofChange fnProposeFailSpec)

/-- ITS FALSE NEIGHBOUR: 'it returns false'. Refute it at one input. -/
def fnProposeFailWrong : ChangeSpec := { name := "fnProposeFail", fn := fun _ => fun
  | [d] => { results := [.lit (.bool false)], args := [d] }
  | _ => none }
def FnProposeFailWrongFalsely : Prop := fnProposeFailRow.holds Try.pinned (OpenSpec.ofChange fnProposeFailWrong)

/-- 'laws.FnProposeTrace': WHATEVER THE INPUT: true; the input reads as it did. -/
def fnProposeTraceSpec : ChangeSpec := { name := "fnProposeTrace", fn := fun _ => fun
  | [d] => { results := [.lit (.bool true)], args := [d] }
  | _ => none }
def fnProposeTraceRow : OpenClaim := { program := "ytfepegellpegdaa", sum := "0474771b6f2297b9006ee1d958b7ca176ee7853fa8b773401e6256e66dbeaabb", func := "loop.example/groupmulticast/laws.FnProposeTrace", spec := "fnProposeTrace", unfollowed := true, recurses := true, apart := false }
def FnProposeTraceSaid : Prop := fnProposeTraceRow.holds Try.pinned (OpenSpec.ofChange fnProposeTraceSpec)

/-- ITS FALSE NEIGHBOUR: 'it returns false'. Refute it at one input. -/
def fnProposeTraceWrong : ChangeSpec := { name := "fnProposeTrace", fn := fun _ => fun
  | [d] => { results := [.lit (.bool false)], args := [d] }
  | _ => none }
def FnProposeTraceWrongFalsely : Prop := fnProposeTraceRow.holds Try.pinned (OpenSpec.ofChange fnProposeTraceWrong)

/-- 'laws.FnProposeTwice': WHATEVER THE INPUT: true; the input reads as it did. -/
def fnProposeTwiceSpec : ChangeSpec := { name := "fnProposeTwice", fn := fun _ => fun
  | [d] => { results := [.lit (.bool true)], args := [d] }
  | _ => none }
def fnProposeTwiceRow : OpenClaim := { program := "ytfepegellpegdaa", sum := "0474771b6f2297b9006ee1d958b7ca176ee7853fa8b773401e6256e66dbeaabb", func := "loop.example/groupmulticast/laws.FnProposeTwice", spec := "fnProposeTwice", unfollowed := true, recurses := true, apart := false }
def FnProposeTwiceSaid : Prop := fnProposeTwiceRow.holds Try.pinned (OpenSpec.ofChange fnProposeTwiceSpec)

/-- ITS FALSE NEIGHBOUR: 'it returns false'. Refute it at one input. -/
def fnProposeTwiceWrong : ChangeSpec := { name := "fnProposeTwice", fn := fun _ => fun
  | [d] => { results := [.lit (.bool false)], args := [d] }
  | _ => none }
def FnProposeTwiceWrongFalsely : Prop := fnProposeTwiceRow.holds Try.pinned (OpenSpec.ofChange fnProposeTwiceWrong)

/-- 'laws.FnPropose': WHATEVER THE INPUT: true; the input reads as it did. -/
def fnProposeSpec : ChangeSpec := { name := "fnPropose", fn := fun _ => fun
  | [d] => { results := [.lit (.bool true)], args := [d] }
  | _ => none }
def fnProposeRow : OpenClaim := { program := "ytfepegellpegdaa", sum := "0474771b6f2297b9006ee1d958b7ca176ee7853fa8b773401e6256e66dbeaabb", func := "loop.example/groupmulticast/laws.FnPropose", spec := "fnPropose", unfollowed := true, recurses := true, apart := false }
def FnProposeSaid : Prop := fnProposeRow.holds Try.pinned (OpenSpec.ofChange fnProposeSpec)

/-- ITS FALSE NEIGHBOUR: 'it returns false'. Refute it at one input. -/
def fnProposeWrong : ChangeSpec := { name := "fnPropose", fn := fun _ => fun
  | [d] => { results := [.lit (.bool false)], args := [d] }
  | _ => none }
def FnProposeWrongFalsely : Prop := fnProposeRow.holds Try.pinned (OpenSpec.ofChange fnProposeWrong)

/-- 'laws.FnProposeLater': WHATEVER THE INPUT: true; the input reads as it did. -/
def fnProposeLaterSpec : ChangeSpec := { name := "fnProposeLater", fn := fun _ => fun
  | [d] => { results := [.lit (.bool true)], args := [d] }
  | _ => none }
def fnProposeLaterRow : OpenClaim := { program := "ytfepegellpegdaa", sum := "0474771b6f2297b9006ee1d958b7ca176ee7853fa8b773401e6256e66dbeaabb", func := "loop.example/groupmulticast/laws.FnProposeLater", spec := "fnProposeLater", unfollowed := true, recurses := true, apart := false }
def FnProposeLaterSaid : Prop := fnProposeLaterRow.holds Try.pinned (OpenSpec.ofChange fnProposeLaterSpec)

/-- ITS FALSE NEIGHBOUR: 'it returns false'. Refute it at one input. -/
def fnProposeLaterWrong : ChangeSpec := { name := "fnProposeLater", fn := fun _ => fun
  | [d] => { results := [.lit (.bool false)], args := [d] }
  | _ => none }
def FnProposeLaterWrongFalsely : Prop := fnProposeLaterRow.holds Try.pinned (OpenSpec.ofChange fnProposeLaterWrong)

/-- 'laws.FnExactGroupPropose': WHATEVER THE INPUT: true; the input reads as it did. -/
def fnExactGroupProposeSpec : ChangeSpec := { name := "fnExactGroupPropose", fn := fun _ => fun
  | [d1, d2] => { results := [.lit (.bool true)], args := [d1, d2] }
  | _ => none }
def fnExactGroupProposeRow : OpenClaim := { program := "ytfepegellpegdaa", sum := "0474771b6f2297b9006ee1d958b7ca176ee7853fa8b773401e6256e66dbeaabb", func := "loop.example/groupmulticast/laws.FnExactGroupPropose", spec := "fnExactGroupPropose", unfollowed := true, recurses := true, apart := false }
def FnExactGroupProposeSaid : Prop := fnExactGroupProposeRow.holds Try.pinned (OpenSpec.ofChange fnExactGroupProposeSpec)

/-- ITS FALSE NEIGHBOUR: 'it returns false'. Refute it at one input. -/
def fnExactGroupProposeWrong : ChangeSpec := { name := "fnExactGroupPropose", fn := fun _ => fun
  | [d1, d2] => { results := [.lit (.bool false)], args := [d1, d2] }
  | _ => none }
def FnExactGroupProposeWrongFalsely : Prop := fnExactGroupProposeRow.holds Try.pinned (OpenSpec.ofChange fnExactGroupProposeWrong)

/- THE SECOND FORM. 'bulk': how many values and letters a reading holds, each counted each time it is reached (what is shared counts as often as it is met; a slice's spare places count too). A statement '..UptoSaid' is the law's where the arguments, and the package variables that the reading takes, are together of bulk at most 1048576: NARROWER than '..Said'. Prove '..Said' where nothing that the law and all that it calls make is longer than what came in: it says more and counts as full. Else prove '..UptoSaid'. A law counts once. -/
mutual
def uptoBulk {H : Type} : DataW H → Nat
  | .lit (.string bytes) => bytes.length + 1
  | .lit _ => 1
  | .nil => 1
  | .ptr d => uptoBulk d + 1
  | .slice elems spare => uptoBulkAll elems + uptoBulkAll spare + 1
  | .agg parts => uptoBulkAll parts + 1
  | .iface _ d => uptoBulk d + 1
  | .map entries => uptoBulkEntries entries + 1
  | .held _ => 1
def uptoBulkAll {H : Type} : List (DataW H) → Nat
  | [] => 0
  | d :: r => uptoBulk d + uptoBulkAll r
def uptoBulkEntries {H : Type} : List (Lit × DataW H) → Nat
  | [] => 0
  | x :: r => uptoBulkEntry x + uptoBulkEntries r
def uptoBulkEntry {H : Type} : Lit × DataW H → Nat
  | (.string bytes, d) => bytes.length + uptoBulk d + 1
  | (_, d) => uptoBulk d + 1
 end
def uptoSmall : (H : Type) → List (DataW H) → Bool := fun _ ds => decide (uptoBulkAll ds ≤ 1048576)
def OpenSpec.upto (s : _root_.Go.ChangeSpec) : _root_.Go.OpenSpec := { _root_.Go.OpenSpec.ofChange s with cond := some uptoSmall }

/-- 'laws.FnFinalEager', WHERE WHAT IT READS IS OF BULK AT MOST 1048576: true; the input reads as it did. -/
def fnFinalEagerUptoRow : OpenClaim := { program := "ytfepegellpegdaa", sum := "0474771b6f2297b9006ee1d958b7ca176ee7853fa8b773401e6256e66dbeaabb", func := "loop.example/groupmulticast/laws.FnFinalEager", spec := "fnFinalEager", apart := false, narrowed := true }
def FnFinalEagerUptoSaid : Prop := fnFinalEagerUptoRow.holds Try.pinned (OpenSpec.upto fnFinalEagerSpec)

/-- 'laws.FnGroupTrace', WHERE WHAT IT READS IS OF BULK AT MOST 1048576: true; the input reads as it did. -/
def fnGroupTraceUptoRow : OpenClaim := { program := "ytfepegellpegdaa", sum := "0474771b6f2297b9006ee1d958b7ca176ee7853fa8b773401e6256e66dbeaabb", func := "loop.example/groupmulticast/laws.FnGroupTrace", spec := "fnGroupTrace", apart := false, narrowed := true }
def FnGroupTraceUptoSaid : Prop := fnGroupTraceUptoRow.holds Try.pinned (OpenSpec.upto fnGroupTraceSpec)

/-- 'laws.FnExactGroupTrace', WHERE WHAT IT READS IS OF BULK AT MOST 1048576: true; the input reads as it did. -/
def fnExactGroupTraceUptoRow : OpenClaim := { program := "ytfepegellpegdaa", sum := "0474771b6f2297b9006ee1d958b7ca176ee7853fa8b773401e6256e66dbeaabb", func := "loop.example/groupmulticast/laws.FnExactGroupTrace", spec := "fnExactGroupTrace", apart := false, narrowed := true }
def FnExactGroupTraceUptoSaid : Prop := fnExactGroupTraceUptoRow.holds Try.pinned (OpenSpec.upto fnExactGroupTraceSpec)

/-- 'laws.FnGroupStamp', WHERE WHAT IT READS IS OF BULK AT MOST 1048576: true; the input reads as it did. -/
def fnGroupStampUptoRow : OpenClaim := { program := "ytfepegellpegdaa", sum := "0474771b6f2297b9006ee1d958b7ca176ee7853fa8b773401e6256e66dbeaabb", func := "loop.example/groupmulticast/laws.FnGroupStamp", spec := "fnGroupStamp", apart := false, narrowed := true }
def FnGroupStampUptoSaid : Prop := fnGroupStampUptoRow.holds Try.pinned (OpenSpec.upto fnGroupStampSpec)

/-- 'laws.FnExactGroupStamp', WHERE WHAT IT READS IS OF BULK AT MOST 1048576: true; the input reads as it did. -/
def fnExactGroupStampUptoRow : OpenClaim := { program := "ytfepegellpegdaa", sum := "0474771b6f2297b9006ee1d958b7ca176ee7853fa8b773401e6256e66dbeaabb", func := "loop.example/groupmulticast/laws.FnExactGroupStamp", spec := "fnExactGroupStamp", apart := false, narrowed := true }
def FnExactGroupStampUptoSaid : Prop := fnExactGroupStampUptoRow.holds Try.pinned (OpenSpec.upto fnExactGroupStampSpec)

/-- 'laws.FnProposeClock', WHERE WHAT IT READS IS OF BULK AT MOST 1048576: true; the input reads as it did. -/
def fnProposeClockUptoRow : OpenClaim := { program := "ytfepegellpegdaa", sum := "0474771b6f2297b9006ee1d958b7ca176ee7853fa8b773401e6256e66dbeaabb", func := "loop.example/groupmulticast/laws.FnProposeClock", spec := "fnProposeClock", unfollowed := true, recurses := true, apart := false, narrowed := true }
def FnProposeClockUptoSaid : Prop := fnProposeClockUptoRow.holds Try.pinned (OpenSpec.upto fnProposeClockSpec)

/-- 'laws.FnProposeFail', WHERE WHAT IT READS IS OF BULK AT MOST 1048576: true; the input reads as it did. -/
def fnProposeFailUptoRow : OpenClaim := { program := "ytfepegellpegdaa", sum := "0474771b6f2297b9006ee1d958b7ca176ee7853fa8b773401e6256e66dbeaabb", func := "loop.example/groupmulticast/laws.FnProposeFail", spec := "fnProposeFail", unfollowed := true, recurses := true, apart := false, narrowed := true }
def FnProposeFailUptoSaid : Prop := fnProposeFailUptoRow.holds Try.pinned (OpenSpec.upto fnProposeFailSpec)

/-- 'laws.FnProposeTrace', WHERE WHAT IT READS IS OF BULK AT MOST 1048576: true; the input reads as it did. -/
def fnProposeTraceUptoRow : OpenClaim := { program := "ytfepegellpegdaa", sum := "0474771b6f2297b9006ee1d958b7ca176ee7853fa8b773401e6256e66dbeaabb", func := "loop.example/groupmulticast/laws.FnProposeTrace", spec := "fnProposeTrace", unfollowed := true, recurses := true, apart := false, narrowed := true }
def FnProposeTraceUptoSaid : Prop := fnProposeTraceUptoRow.holds Try.pinned (OpenSpec.upto fnProposeTraceSpec)

/-- 'laws.FnProposeTwice', WHERE WHAT IT READS IS OF BULK AT MOST 1048576: true; the input reads as it did. -/
def fnProposeTwiceUptoRow : OpenClaim := { program := "ytfepegellpegdaa", sum := "0474771b6f2297b9006ee1d958b7ca176ee7853fa8b773401e6256e66dbeaabb", func := "loop.example/groupmulticast/laws.FnProposeTwice", spec := "fnProposeTwice", unfollowed := true, recurses := true, apart := false, narrowed := true }
def FnProposeTwiceUptoSaid : Prop := fnProposeTwiceUptoRow.holds Try.pinned (OpenSpec.upto fnProposeTwiceSpec)

/-- 'laws.FnPropose', WHERE WHAT IT READS IS OF BULK AT MOST 1048576: true; the input reads as it did. -/
def fnProposeUptoRow : OpenClaim := { program := "ytfepegellpegdaa", sum := "0474771b6f2297b9006ee1d958b7ca176ee7853fa8b773401e6256e66dbeaabb", func := "loop.example/groupmulticast/laws.FnPropose", spec := "fnPropose", unfollowed := true, recurses := true, apart := false, narrowed := true }
def FnProposeUptoSaid : Prop := fnProposeUptoRow.holds Try.pinned (OpenSpec.upto fnProposeSpec)

/-- 'laws.FnProposeLater', WHERE WHAT IT READS IS OF BULK AT MOST 1048576: true; the input reads as it did. -/
def fnProposeLaterUptoRow : OpenClaim := { program := "ytfepegellpegdaa", sum := "0474771b6f2297b9006ee1d958b7ca176ee7853fa8b773401e6256e66dbeaabb", func := "loop.example/groupmulticast/laws.FnProposeLater", spec := "fnProposeLater", unfollowed := true, recurses := true, apart := false, narrowed := true }
def FnProposeLaterUptoSaid : Prop := fnProposeLaterUptoRow.holds Try.pinned (OpenSpec.upto fnProposeLaterSpec)

/-- 'laws.FnExactGroupPropose', WHERE WHAT IT READS IS OF BULK AT MOST 1048576: true; the input reads as it did. -/
def fnExactGroupProposeUptoRow : OpenClaim := { program := "ytfepegellpegdaa", sum := "0474771b6f2297b9006ee1d958b7ca176ee7853fa8b773401e6256e66dbeaabb", func := "loop.example/groupmulticast/laws.FnExactGroupPropose", spec := "fnExactGroupPropose", unfollowed := true, recurses := true, apart := false, narrowed := true }
def FnExactGroupProposeUptoSaid : Prop := fnExactGroupProposeUptoRow.holds Try.pinned (OpenSpec.upto fnExactGroupProposeSpec)

end Rows
end Go.Proofs.Ytfepegellpegdaa
