/-
  No cell of these rows narrows 'for every input' (looked for: loops, veiled, ifaces, maps, wideKeys, modest, calm, conditions, laid).
  DERIVED. THE GIVEN ROWS OF THIS SEAT. 8 by the template 'for every input the law returns true; each argument reads behind the call as it read before'; 0 by the template 'total and deterministic' (their statements: YtkhgemgmnchodaaTotals.lean).
  GIVEN WITH THE SEED: the statements are not yours to turn. If you find one false, say at which input.
  Laid BY PROGRAM, IN A SANDBOX (cutbox-rows.mjs): the forced cells as the released guide's own fill.sh prints them over the translation 0b399e861badb5d1… (all of the seat's roots in one cut). By AI agents, Wed Nov 11 2026. No macro, syntax, notation, axiom, sorry.
-/
import Derived.Test.YtkhgemgmnchodaaChecked
import GoSem.Claim
import GoSem.ClaimJoined
import GoSem.ClaimMapViews
import Derived.JoinedTies
import Derived.KernelRfl
namespace Go.Proofs.Ytkhgemgmnchodaa
/- THE CELL 'sum', in the pinned program and in every row, IS THE sha256 OF THE DUMP (.gsa) THAT YtkhgemgmnchodaaProg.lean LOADS. Nothing in Lean hashes anything: it is a label: what it is worth is what the hold of that sum in a sandbox is worth. -/
noncomputable def Try.pinned : Pinned := { name := "ytkhgemgmnchodaa", sum := "0b399e861badb5d10a03a89b6f4fe893ecb54aca7458c944c226b1831958ed4d", checked := Try.checked }
namespace Rows
def none {H : Type} : Left H := { results := [], args := [] }

/-- 'laws.FnFinalOwn': WHATEVER THE INPUT: true; the input reads as it did. -/
def fnFinalOwnSpec : ChangeSpec := { name := "fnFinalOwn", fn := fun _ => fun
  | [d] => { results := [.lit (.bool true)], args := [d] }
  | _ => none }
def fnFinalOwnRow : OpenClaim := { program := "ytkhgemgmnchodaa", sum := "0b399e861badb5d10a03a89b6f4fe893ecb54aca7458c944c226b1831958ed4d", func := "loop.example/groupmulticast/laws.FnFinalOwn", spec := "fnFinalOwn", unfollowed := true, recurses := true, apart := false }
def FnFinalOwnSaid : Prop := fnFinalOwnRow.holds Try.pinned (OpenSpec.ofChange fnFinalOwnSpec)

/-- ITS FALSE NEIGHBOUR: 'it returns false'. Refute it at one input. -/
def fnFinalOwnWrong : ChangeSpec := { name := "fnFinalOwn", fn := fun _ => fun
  | [d] => { results := [.lit (.bool false)], args := [d] }
  | _ => none }
def FnFinalOwnWrongFalsely : Prop := fnFinalOwnRow.holds Try.pinned (OpenSpec.ofChange fnFinalOwnWrong)

/-- 'laws.FnBlocks': WHATEVER THE INPUT: true; the input reads as it did. -/
def fnBlocksSpec : ChangeSpec := { name := "fnBlocks", fn := fun _ => fun
  | [d] => { results := [.lit (.bool true)], args := [d] }
  | _ => none }
def fnBlocksRow : OpenClaim := { program := "ytkhgemgmnchodaa", sum := "0b399e861badb5d10a03a89b6f4fe893ecb54aca7458c944c226b1831958ed4d", func := "loop.example/groupmulticast/laws.FnBlocks", spec := "fnBlocks", unfollowed := true, recurses := true, apart := false }
def FnBlocksSaid : Prop := fnBlocksRow.holds Try.pinned (OpenSpec.ofChange fnBlocksSpec)

/-- ITS FALSE NEIGHBOUR: 'it returns false'. Refute it at one input. -/
def fnBlocksWrong : ChangeSpec := { name := "fnBlocks", fn := fun _ => fun
  | [d] => { results := [.lit (.bool false)], args := [d] }
  | _ => none }
def FnBlocksWrongFalsely : Prop := fnBlocksRow.holds Try.pinned (OpenSpec.ofChange fnBlocksWrong)

/-- 'laws.FnFinalCommute': WHATEVER THE INPUT: true; the input reads as it did. -/
def fnFinalCommuteSpec : ChangeSpec := { name := "fnFinalCommute", fn := fun _ => fun
  | [d1, d2] => { results := [.lit (.bool true)], args := [d1, d2] }
  | _ => none }
def fnFinalCommuteRow : OpenClaim := { program := "ytkhgemgmnchodaa", sum := "0b399e861badb5d10a03a89b6f4fe893ecb54aca7458c944c226b1831958ed4d", func := "loop.example/groupmulticast/laws.FnFinalCommute", spec := "fnFinalCommute", unfollowed := true, recurses := true, apart := false }
def FnFinalCommuteSaid : Prop := fnFinalCommuteRow.holds Try.pinned (OpenSpec.ofChange fnFinalCommuteSpec)

/-- ITS FALSE NEIGHBOUR: 'it returns false'. Refute it at one input. -/
def fnFinalCommuteWrong : ChangeSpec := { name := "fnFinalCommute", fn := fun _ => fun
  | [d1, d2] => { results := [.lit (.bool false)], args := [d1, d2] }
  | _ => none }
def FnFinalCommuteWrongFalsely : Prop := fnFinalCommuteRow.holds Try.pinned (OpenSpec.ofChange fnFinalCommuteWrong)

/-- 'laws.FnFinalTwice': WHATEVER THE INPUT: true; the input reads as it did. -/
def fnFinalTwiceSpec : ChangeSpec := { name := "fnFinalTwice", fn := fun _ => fun
  | [d1, d2] => { results := [.lit (.bool true)], args := [d1, d2] }
  | _ => none }
def fnFinalTwiceRow : OpenClaim := { program := "ytkhgemgmnchodaa", sum := "0b399e861badb5d10a03a89b6f4fe893ecb54aca7458c944c226b1831958ed4d", func := "loop.example/groupmulticast/laws.FnFinalTwice", spec := "fnFinalTwice", unfollowed := true, recurses := true, apart := false }
def FnFinalTwiceSaid : Prop := fnFinalTwiceRow.holds Try.pinned (OpenSpec.ofChange fnFinalTwiceSpec)

/-- ITS FALSE NEIGHBOUR: 'it returns false'. Refute it at one input. -/
def fnFinalTwiceWrong : ChangeSpec := { name := "fnFinalTwice", fn := fun _ => fun
  | [d1, d2] => { results := [.lit (.bool false)], args := [d1, d2] }
  | _ => none }
def FnFinalTwiceWrongFalsely : Prop := fnFinalTwiceRow.holds Try.pinned (OpenSpec.ofChange fnFinalTwiceWrong)

/-- 'laws.FnFinalTold': WHATEVER THE INPUT: true; the input reads as it did. -/
def fnFinalToldSpec : ChangeSpec := { name := "fnFinalTold", fn := fun _ => fun
  | [d] => { results := [.lit (.bool true)], args := [d] }
  | _ => none }
def fnFinalToldRow : OpenClaim := { program := "ytkhgemgmnchodaa", sum := "0b399e861badb5d10a03a89b6f4fe893ecb54aca7458c944c226b1831958ed4d", func := "loop.example/groupmulticast/laws.FnFinalTold", spec := "fnFinalTold", unfollowed := true, recurses := true, apart := false }
def FnFinalToldSaid : Prop := fnFinalToldRow.holds Try.pinned (OpenSpec.ofChange fnFinalToldSpec)

/-- ITS FALSE NEIGHBOUR: 'it returns false'. Refute it at one input. -/
def fnFinalToldWrong : ChangeSpec := { name := "fnFinalTold", fn := fun _ => fun
  | [d] => { results := [.lit (.bool false)], args := [d] }
  | _ => none }
def FnFinalToldWrongFalsely : Prop := fnFinalToldRow.holds Try.pinned (OpenSpec.ofChange fnFinalToldWrong)

/-- 'laws.FnFinal': WHATEVER THE INPUT: true; the input reads as it did. -/
def fnFinalSpec : ChangeSpec := { name := "fnFinal", fn := fun _ => fun
  | [d] => { results := [.lit (.bool true)], args := [d] }
  | _ => none }
def fnFinalRow : OpenClaim := { program := "ytkhgemgmnchodaa", sum := "0b399e861badb5d10a03a89b6f4fe893ecb54aca7458c944c226b1831958ed4d", func := "loop.example/groupmulticast/laws.FnFinal", spec := "fnFinal", unfollowed := true, recurses := true, apart := false }
def FnFinalSaid : Prop := fnFinalRow.holds Try.pinned (OpenSpec.ofChange fnFinalSpec)

/-- ITS FALSE NEIGHBOUR: 'it returns false'. Refute it at one input. -/
def fnFinalWrong : ChangeSpec := { name := "fnFinal", fn := fun _ => fun
  | [d] => { results := [.lit (.bool false)], args := [d] }
  | _ => none }
def FnFinalWrongFalsely : Prop := fnFinalRow.holds Try.pinned (OpenSpec.ofChange fnFinalWrong)

/-- 'laws.FnFinalRefused': WHATEVER THE INPUT: true; the input reads as it did. -/
def fnFinalRefusedSpec : ChangeSpec := { name := "fnFinalRefused", fn := fun _ => fun
  | [d] => { results := [.lit (.bool true)], args := [d] }
  | _ => none }
def fnFinalRefusedRow : OpenClaim := { program := "ytkhgemgmnchodaa", sum := "0b399e861badb5d10a03a89b6f4fe893ecb54aca7458c944c226b1831958ed4d", func := "loop.example/groupmulticast/laws.FnFinalRefused", spec := "fnFinalRefused", unfollowed := true, recurses := true, apart := false }
def FnFinalRefusedSaid : Prop := fnFinalRefusedRow.holds Try.pinned (OpenSpec.ofChange fnFinalRefusedSpec)

/-- ITS FALSE NEIGHBOUR: 'it returns false'. Refute it at one input. -/
def fnFinalRefusedWrong : ChangeSpec := { name := "fnFinalRefused", fn := fun _ => fun
  | [d] => { results := [.lit (.bool false)], args := [d] }
  | _ => none }
def FnFinalRefusedWrongFalsely : Prop := fnFinalRefusedRow.holds Try.pinned (OpenSpec.ofChange fnFinalRefusedWrong)

/-- 'laws.FnExactGroupFinal': WHATEVER THE INPUT: true; the input reads as it did. -/
def fnExactGroupFinalSpec : ChangeSpec := { name := "fnExactGroupFinal", fn := fun _ => fun
  | [d1, d2, d3] => { results := [.lit (.bool true)], args := [d1, d2, d3] }
  | _ => none }
def fnExactGroupFinalRow : OpenClaim := { program := "ytkhgemgmnchodaa", sum := "0b399e861badb5d10a03a89b6f4fe893ecb54aca7458c944c226b1831958ed4d", func := "loop.example/groupmulticast/laws.FnExactGroupFinal", spec := "fnExactGroupFinal", unfollowed := true, recurses := true, apart := false }
def FnExactGroupFinalSaid : Prop := fnExactGroupFinalRow.holds Try.pinned (OpenSpec.ofChange fnExactGroupFinalSpec)

/-- ITS FALSE NEIGHBOUR: 'it returns false'. Refute it at one input. -/
def fnExactGroupFinalWrong : ChangeSpec := { name := "fnExactGroupFinal", fn := fun _ => fun
  | [d1, d2, d3] => { results := [.lit (.bool false)], args := [d1, d2, d3] }
  | _ => none }
def FnExactGroupFinalWrongFalsely : Prop := fnExactGroupFinalRow.holds Try.pinned (OpenSpec.ofChange fnExactGroupFinalWrong)

/- THE SECOND FORM. 'bulk': how many values and letters a reading holds, each counted each time it is reached (what is shared counts as often as it is met; a slice's spare places count too). A statement '..UptoSaid' is the law's where the arguments, and the package variables that the reading takes, are together of bulk at most 1048576: NARROWER than '..Said'. Prove '..Said' where nothing that the law and all that it calls make is longer than what came in: it says more and counts as full. Else prove '..UptoSaid'. A law counts once. -/
mutual
def uptoBulk {H : Type} : DataW H → Nat
  | .lit (.string bytes) => bytes.length + 1
  | .lit _ => 1
  | .nil => 1
  | .ptr d => uptoBulk d + 1
  | .slice elems spare => uptoBulkAll elems + uptoBulkAll spare + 1
  | .agg parts => uptoBulkAll parts + 1
  | .iface _ d => uptoBulk d + 1
  | .map entries => uptoBulkEntries entries + 1
  | .held _ => 1
def uptoBulkAll {H : Type} : List (DataW H) → Nat
  | [] => 0
  | d :: r => uptoBulk d + uptoBulkAll r
def uptoBulkEntries {H : Type} : List (Lit × DataW H) → Nat
  | [] => 0
  | x :: r => uptoBulkEntry x + uptoBulkEntries r
def uptoBulkEntry {H : Type} : Lit × DataW H → Nat
  | (.string bytes, d) => bytes.length + uptoBulk d + 1
  | (_, d) => uptoBulk d + 1
 end
def uptoSmall : (H : Type) → List (DataW H) → Bool := fun _ ds => decide (uptoBulkAll ds ≤ 1048576)
def OpenSpec.upto (s : _root_.Go.ChangeSpec) : _root_.Go.OpenSpec := { _root_.Go.OpenSpec.ofChange s with cond := some uptoSmall }

/-- 'laws.FnFinalOwn', WHERE WHAT IT READS IS OF BULK AT MOST 1048576: true; the input reads as it did. -/
def fnFinalOwnUptoRow : OpenClaim := { program := "ytkhgemgmnchodaa", sum := "0b399e861badb5d10a03a89b6f4fe893ecb54aca7458c944c226b1831958ed4d", func := "loop.example/groupmulticast/laws.FnFinalOwn", spec := "fnFinalOwn", unfollowed := true, recurses := true, apart := false, narrowed := true }
def FnFinalOwnUptoSaid : Prop := fnFinalOwnUptoRow.holds Try.pinned (OpenSpec.upto fnFinalOwnSpec)

/-- 'laws.FnBlocks', WHERE WHAT IT READS IS OF BULK AT MOST 1048576: true; the input reads as it did. -/
def fnBlocksUptoRow : OpenClaim := { program := "ytkhgemgmnchodaa", sum := "0b399e861badb5d10a03a89b6f4fe893ecb54aca7458c944c226b1831958ed4d", func := "loop.example/groupmulticast/laws.FnBlocks", spec := "fnBlocks", unfollowed := true, recurses := true, apart := false, narrowed := true }
def FnBlocksUptoSaid : Prop := fnBlocksUptoRow.holds Try.pinned (OpenSpec.upto fnBlocksSpec)

/-- 'laws.FnFinalCommute', WHERE WHAT IT READS IS OF BULK AT MOST 1048576: true; the input reads as it did. -/
def fnFinalCommuteUptoRow : OpenClaim := { program := "ytkhgemgmnchodaa", sum := "0b399e861badb5d10a03a89b6f4fe893ecb54aca7458c944c226b1831958ed4d", func := "loop.example/groupmulticast/laws.FnFinalCommute", spec := "fnFinalCommute", unfollowed := true, recurses := true, apart := false, narrowed := true }
def FnFinalCommuteUptoSaid : Prop := fnFinalCommuteUptoRow.holds Try.pinned (OpenSpec.upto fnFinalCommuteSpec)

/-- 'laws.FnFinalTwice', WHERE WHAT IT READS IS OF BULK AT MOST 1048576: true; the input reads as it did. -/
def fnFinalTwiceUptoRow : OpenClaim := { program := "ytkhgemgmnchodaa", sum := "0b399e861badb5d10a03a89b6f4fe893ecb54aca7458c944c226b1831958ed4d", func := "loop.example/groupmulticast/laws.FnFinalTwice", spec := "fnFinalTwice", unfollowed := true, recurses := true, apart := false, narrowed := true }
def FnFinalTwiceUptoSaid : Prop := fnFinalTwiceUptoRow.holds Try.pinned (OpenSpec.upto fnFinalTwiceSpec)

/-- 'laws.FnFinalTold', WHERE WHAT IT READS IS OF BULK AT MOST 1048576: true; the input reads as it did. -/
def fnFinalToldUptoRow : OpenClaim := { program := "ytkhgemgmnchodaa", sum := "0b399e861badb5d10a03a89b6f4fe893ecb54aca7458c944c226b1831958ed4d", func := "loop.example/groupmulticast/laws.FnFinalTold", spec := "fnFinalTold", unfollowed := true, recurses := true, apart := false, narrowed := true }
def FnFinalToldUptoSaid : Prop := fnFinalToldUptoRow.holds Try.pinned (OpenSpec.upto fnFinalToldSpec)

/-- 'laws.FnFinal', WHERE WHAT IT READS IS OF BULK AT MOST 1048576: true; the input reads as it did. -/
def fnFinalUptoRow : OpenClaim := { program := "ytkhgemgmnchodaa", sum := "0b399e861badb5d10a03a89b6f4fe893ecb54aca7458c944c226b1831958ed4d", func := "loop.example/groupmulticast/laws.FnFinal", spec := "fnFinal", unfollowed := true, recurses := true, apart := false, narrowed := true }
def FnFinalUptoSaid : Prop := fnFinalUptoRow.holds Try.pinned (OpenSpec.upto fnFinalSpec)

/-- 'laws.FnFinalRefused', WHERE WHAT IT READS IS OF BULK AT MOST 1048576: true; the input reads as it did. -/
def fnFinalRefusedUptoRow : OpenClaim := { program := "ytkhgemgmnchodaa", sum := "0b399e861badb5d10a03a89b6f4fe893ecb54aca7458c944c226b1831958ed4d", func := "loop.example/groupmulticast/laws.FnFinalRefused", spec := "fnFinalRefused", unfollowed := true, recurses := true, apart := false, narrowed := true }
def FnFinalRefusedUptoSaid : Prop := fnFinalRefusedUptoRow.holds Try.pinned (OpenSpec.upto fnFinalRefusedSpec)

/-- 'laws.FnExactGroupFinal', WHERE WHAT IT READS IS OF BULK AT MOST 1048576: true; the input reads as it did. -/
def fnExactGroupFinalUptoRow : OpenClaim := { program := "ytkhgemgmnchodaa", sum := "0b399e861badb5d10a03a89b6f4fe893ecb54aca7458c944c226b1831958ed4d", func := "loop.example/groupmulticast/laws.FnExactGroupFinal", spec := "fnExactGroupFinal", unfollowed := true, recurses := true, apart := false, narrowed := true }
def FnExactGroupFinalUptoSaid : Prop := fnExactGroupFinalUptoRow.holds Try.pinned (OpenSpec.upto fnExactGroupFinalSpec)

end Rows
end Go.Proofs.Ytkhgemgmnchodaa
