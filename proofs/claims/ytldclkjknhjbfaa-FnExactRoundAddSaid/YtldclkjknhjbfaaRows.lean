/-
  No cell of these rows narrows 'for every input' (looked for: loops, veiled, ifaces, maps, wideKeys, modest, calm, conditions, laid).
  DERIVED. THE GIVEN ROWS OF THIS SEAT. 13 by the template 'for every input the law returns true; each argument reads behind the call as it read before'; 0 by the template 'total and deterministic' (their statements: YtldclkjknhjbfaaTotals.lean).
  GIVEN WITH THE SEED: the statements are not yours to turn. If you find one false, say at which input.
  Laid BY PROGRAM, IN A SANDBOX (cutbox-rows.mjs): the forced cells as the released guide's own fill.sh prints them over the translation 8c25a90de25d9c5a… (all of the seat's roots in one cut). By AI agents, Wed Nov 11 2026. No macro, syntax, notation, axiom, sorry.
-/
import Derived.Test.YtldclkjknhjbfaaChecked
import GoSem.Claim
import GoSem.ClaimJoined
import GoSem.ClaimMapViews
import Derived.JoinedTies
import Derived.KernelRfl
namespace Go.Proofs.Ytldclkjknhjbfaa
/- THE CELL 'sum', in the pinned program and in every row, IS THE sha256 OF THE DUMP (.gsa) THAT YtldclkjknhjbfaaProg.lean LOADS. Nothing in Lean hashes anything: it is a label: what it is worth is what the hold of that sum in a sandbox is worth. -/
noncomputable def Try.pinned : Pinned := { name := "ytldclkjknhjbfaa", sum := "8c25a90de25d9c5ac9093c41030405ab7a25c320ffe1ea86042382ec9ffd628a", checked := Try.checked }
namespace Rows
def none {H : Type} : Left H := { results := [], args := [] }

/-- 'laws.FnExactRoundNew': WHATEVER THE INPUT: true; the input reads as it did. -/
def fnExactRoundNewSpec : ChangeSpec := { name := "fnExactRoundNew", fn := fun _ => fun
  | [d1, d2] => { results := [.lit (.bool true)], args := [d1, d2] }
  | _ => none }
def fnExactRoundNewRow : OpenClaim := { program := "ytldclkjknhjbfaa", sum := "8c25a90de25d9c5ac9093c41030405ab7a25c320ffe1ea86042382ec9ffd628a", func := "loop.example/groupmulticast/laws.FnExactRoundNew", spec := "fnExactRoundNew", apart := false }
def FnExactRoundNewSaid : Prop := fnExactRoundNewRow.holds Try.pinned (OpenSpec.ofChange fnExactRoundNewSpec)

/-- ITS FALSE NEIGHBOUR: 'it returns false'. Refute it at one input. -/
def fnExactRoundNewWrong : ChangeSpec := { name := "fnExactRoundNew", fn := fun _ => fun
  | [d1, d2] => { results := [.lit (.bool false)], args := [d1, d2] }
  | _ => none }
def FnExactRoundNewWrongFalsely : Prop := fnExactRoundNewRow.holds Try.pinned (OpenSpec.ofChange fnExactRoundNewWrong)

/-- 'laws.FnExactRoundValid': WHATEVER THE INPUT: true; the input reads as it did. -/
def fnExactRoundValidSpec : ChangeSpec := { name := "fnExactRoundValid", fn := fun _ => fun
  | [d] => { results := [.lit (.bool true)], args := [d] }
  | _ => none }
def fnExactRoundValidRow : OpenClaim := { program := "ytldclkjknhjbfaa", sum := "8c25a90de25d9c5ac9093c41030405ab7a25c320ffe1ea86042382ec9ffd628a", func := "loop.example/groupmulticast/laws.FnExactRoundValid", spec := "fnExactRoundValid", apart := false }
def FnExactRoundValidSaid : Prop := fnExactRoundValidRow.holds Try.pinned (OpenSpec.ofChange fnExactRoundValidSpec)

/-- ITS FALSE NEIGHBOUR: 'it returns false'. Refute it at one input. -/
def fnExactRoundValidWrong : ChangeSpec := { name := "fnExactRoundValid", fn := fun _ => fun
  | [d] => { results := [.lit (.bool false)], args := [d] }
  | _ => none }
def FnExactRoundValidWrongFalsely : Prop := fnExactRoundValidRow.holds Try.pinned (OpenSpec.ofChange fnExactRoundValidWrong)

/-- 'laws.FnRoundNew': WHATEVER THE INPUT: true; the input reads as it did. -/
def fnRoundNewSpec : ChangeSpec := { name := "fnRoundNew", fn := fun _ => fun
  | [d] => { results := [.lit (.bool true)], args := [d] }
  | _ => none }
def fnRoundNewRow : OpenClaim := { program := "ytldclkjknhjbfaa", sum := "8c25a90de25d9c5ac9093c41030405ab7a25c320ffe1ea86042382ec9ffd628a", func := "loop.example/groupmulticast/laws.FnRoundNew", spec := "fnRoundNew", unfollowed := true, recurses := true, apart := false }
def FnRoundNewSaid : Prop := fnRoundNewRow.holds Try.pinned (OpenSpec.ofChange fnRoundNewSpec)

/-- ITS FALSE NEIGHBOUR: 'it returns false'. Refute it at one input. -/
def fnRoundNewWrong : ChangeSpec := { name := "fnRoundNew", fn := fun _ => fun
  | [d] => { results := [.lit (.bool false)], args := [d] }
  | _ => none }
def FnRoundNewWrongFalsely : Prop := fnRoundNewRow.holds Try.pinned (OpenSpec.ofChange fnRoundNewWrong)

/-- 'laws.FnRoundMissing': WHATEVER THE INPUT: true; the input reads as it did. -/
def fnRoundMissingSpec : ChangeSpec := { name := "fnRoundMissing", fn := fun _ => fun
  | [d] => { results := [.lit (.bool true)], args := [d] }
  | _ => none }
def fnRoundMissingRow : OpenClaim := { program := "ytldclkjknhjbfaa", sum := "8c25a90de25d9c5ac9093c41030405ab7a25c320ffe1ea86042382ec9ffd628a", func := "loop.example/groupmulticast/laws.FnRoundMissing", spec := "fnRoundMissing", unfollowed := true, recurses := true, apart := false }
def FnRoundMissingSaid : Prop := fnRoundMissingRow.holds Try.pinned (OpenSpec.ofChange fnRoundMissingSpec)

/-- ITS FALSE NEIGHBOUR: 'it returns false'. Refute it at one input. -/
def fnRoundMissingWrong : ChangeSpec := { name := "fnRoundMissing", fn := fun _ => fun
  | [d] => { results := [.lit (.bool false)], args := [d] }
  | _ => none }
def FnRoundMissingWrongFalsely : Prop := fnRoundMissingRow.holds Try.pinned (OpenSpec.ofChange fnRoundMissingWrong)

/-- 'laws.FnRoundAddOrder': WHATEVER THE INPUT: true; the input reads as it did. -/
def fnRoundAddOrderSpec : ChangeSpec := { name := "fnRoundAddOrder", fn := fun _ => fun
  | [d1, d2] => { results := [.lit (.bool true)], args := [d1, d2] }
  | _ => none }
def fnRoundAddOrderRow : OpenClaim := { program := "ytldclkjknhjbfaa", sum := "8c25a90de25d9c5ac9093c41030405ab7a25c320ffe1ea86042382ec9ffd628a", func := "loop.example/groupmulticast/laws.FnRoundAddOrder", spec := "fnRoundAddOrder", apart := false }
def FnRoundAddOrderSaid : Prop := fnRoundAddOrderRow.holds Try.pinned (OpenSpec.ofChange fnRoundAddOrderSpec)

/-- ITS FALSE NEIGHBOUR: 'it returns false'. Refute it at one input. -/
def fnRoundAddOrderWrong : ChangeSpec := { name := "fnRoundAddOrder", fn := fun _ => fun
  | [d1, d2] => { results := [.lit (.bool false)], args := [d1, d2] }
  | _ => none }
def FnRoundAddOrderWrongFalsely : Prop := fnRoundAddOrderRow.holds Try.pinned (OpenSpec.ofChange fnRoundAddOrderWrong)

/-- 'laws.FnExactRoundMissing': WHATEVER THE INPUT: true; the input reads as it did. -/
def fnExactRoundMissingSpec : ChangeSpec := { name := "fnExactRoundMissing", fn := fun _ => fun
  | [d] => { results := [.lit (.bool true)], args := [d] }
  | _ => none }
def fnExactRoundMissingRow : OpenClaim := { program := "ytldclkjknhjbfaa", sum := "8c25a90de25d9c5ac9093c41030405ab7a25c320ffe1ea86042382ec9ffd628a", func := "loop.example/groupmulticast/laws.FnExactRoundMissing", spec := "fnExactRoundMissing", unfollowed := true, recurses := true, apart := false }
def FnExactRoundMissingSaid : Prop := fnExactRoundMissingRow.holds Try.pinned (OpenSpec.ofChange fnExactRoundMissingSpec)

/-- ITS FALSE NEIGHBOUR: 'it returns false'. Refute it at one input. -/
def fnExactRoundMissingWrong : ChangeSpec := { name := "fnExactRoundMissing", fn := fun _ => fun
  | [d] => { results := [.lit (.bool false)], args := [d] }
  | _ => none }
def FnExactRoundMissingWrongFalsely : Prop := fnExactRoundMissingRow.holds Try.pinned (OpenSpec.ofChange fnExactRoundMissingWrong)

/-- 'laws.FnExactRoundFinal': WHATEVER THE INPUT: true; the input reads as it did. -/
def fnExactRoundFinalSpec : ChangeSpec := { name := "fnExactRoundFinal", fn := fun _ => fun
  | [d] => { results := [.lit (.bool true)], args := [d] }
  | _ => none }
def fnExactRoundFinalRow : OpenClaim := { program := "ytldclkjknhjbfaa", sum := "8c25a90de25d9c5ac9093c41030405ab7a25c320ffe1ea86042382ec9ffd628a", func := "loop.example/groupmulticast/laws.FnExactRoundFinal", spec := "fnExactRoundFinal", unfollowed := true, recurses := true, apart := false }
def FnExactRoundFinalSaid : Prop := fnExactRoundFinalRow.holds Try.pinned (OpenSpec.ofChange fnExactRoundFinalSpec)

/-- ITS FALSE NEIGHBOUR: 'it returns false'. Refute it at one input. -/
def fnExactRoundFinalWrong : ChangeSpec := { name := "fnExactRoundFinal", fn := fun _ => fun
  | [d] => { results := [.lit (.bool false)], args := [d] }
  | _ => none }
def FnExactRoundFinalWrongFalsely : Prop := fnExactRoundFinalRow.holds Try.pinned (OpenSpec.ofChange fnExactRoundFinalWrong)

/-- 'laws.FnRoundFinal': WHATEVER THE INPUT: true; the input reads as it did. -/
def fnRoundFinalSpec : ChangeSpec := { name := "fnRoundFinal", fn := fun _ => fun
  | [d] => { results := [.lit (.bool true)], args := [d] }
  | _ => none }
def fnRoundFinalRow : OpenClaim := { program := "ytldclkjknhjbfaa", sum := "8c25a90de25d9c5ac9093c41030405ab7a25c320ffe1ea86042382ec9ffd628a", func := "loop.example/groupmulticast/laws.FnRoundFinal", spec := "fnRoundFinal", unfollowed := true, recurses := true, apart := false }
def FnRoundFinalSaid : Prop := fnRoundFinalRow.holds Try.pinned (OpenSpec.ofChange fnRoundFinalSpec)

/-- ITS FALSE NEIGHBOUR: 'it returns false'. Refute it at one input. -/
def fnRoundFinalWrong : ChangeSpec := { name := "fnRoundFinal", fn := fun _ => fun
  | [d] => { results := [.lit (.bool false)], args := [d] }
  | _ => none }
def FnRoundFinalWrongFalsely : Prop := fnRoundFinalRow.holds Try.pinned (OpenSpec.ofChange fnRoundFinalWrong)

/-- 'laws.FnRoundFinalNotLess': WHATEVER THE INPUT: true; the input reads as it did. -/
def fnRoundFinalNotLessSpec : ChangeSpec := { name := "fnRoundFinalNotLess", fn := fun _ => fun
  | [d] => { results := [.lit (.bool true)], args := [d] }
  | _ => none }
def fnRoundFinalNotLessRow : OpenClaim := { program := "ytldclkjknhjbfaa", sum := "8c25a90de25d9c5ac9093c41030405ab7a25c320ffe1ea86042382ec9ffd628a", func := "loop.example/groupmulticast/laws.FnRoundFinalNotLess", spec := "fnRoundFinalNotLess", unfollowed := true, recurses := true, apart := false }
def FnRoundFinalNotLessSaid : Prop := fnRoundFinalNotLessRow.holds Try.pinned (OpenSpec.ofChange fnRoundFinalNotLessSpec)

/-- ITS FALSE NEIGHBOUR: 'it returns false'. Refute it at one input. -/
def fnRoundFinalNotLessWrong : ChangeSpec := { name := "fnRoundFinalNotLess", fn := fun _ => fun
  | [d] => { results := [.lit (.bool false)], args := [d] }
  | _ => none }
def FnRoundFinalNotLessWrongFalsely : Prop := fnRoundFinalNotLessRow.holds Try.pinned (OpenSpec.ofChange fnRoundFinalNotLessWrong)

/-- 'laws.FnRoundAdd': WHATEVER THE INPUT: true; the input reads as it did. -/
def fnRoundAddSpec : ChangeSpec := { name := "fnRoundAdd", fn := fun _ => fun
  | [d1, d2] => { results := [.lit (.bool true)], args := [d1, d2] }
  | _ => none }
def fnRoundAddRow : OpenClaim := { program := "ytldclkjknhjbfaa", sum := "8c25a90de25d9c5ac9093c41030405ab7a25c320ffe1ea86042382ec9ffd628a", func := "loop.example/groupmulticast/laws.FnRoundAdd", spec := "fnRoundAdd", unfollowed := true, recurses := true, apart := false }
def FnRoundAddSaid : Prop := fnRoundAddRow.holds Try.pinned (OpenSpec.ofChange fnRoundAddSpec)

/-- ITS FALSE NEIGHBOUR: 'it returns false'. Refute it at one input. -/
def fnRoundAddWrong : ChangeSpec := { name := "fnRoundAdd", fn := fun _ => fun
  | [d1, d2] => { results := [.lit (.bool false)], args := [d1, d2] }
  | _ => none }
def FnRoundAddWrongFalsely : Prop := fnRoundAddRow.holds Try.pinned (OpenSpec.ofChange fnRoundAddWrong)

/-- 'laws.FnRoundAddRefused': WHATEVER THE INPUT: true; the input reads as it did. -/
def fnRoundAddRefusedSpec : ChangeSpec := { name := "fnRoundAddRefused", fn := fun _ => fun
  | [d] => { results := [.lit (.bool true)], args := [d] }
  | _ => none }
def fnRoundAddRefusedRow : OpenClaim := { program := "ytldclkjknhjbfaa", sum := "8c25a90de25d9c5ac9093c41030405ab7a25c320ffe1ea86042382ec9ffd628a", func := "loop.example/groupmulticast/laws.FnRoundAddRefused", spec := "fnRoundAddRefused", unfollowed := true, recurses := true, apart := false }
def FnRoundAddRefusedSaid : Prop := fnRoundAddRefusedRow.holds Try.pinned (OpenSpec.ofChange fnRoundAddRefusedSpec)

/-- ITS FALSE NEIGHBOUR: 'it returns false'. Refute it at one input. -/
def fnRoundAddRefusedWrong : ChangeSpec := { name := "fnRoundAddRefused", fn := fun _ => fun
  | [d] => { results := [.lit (.bool false)], args := [d] }
  | _ => none }
def FnRoundAddRefusedWrongFalsely : Prop := fnRoundAddRefusedRow.holds Try.pinned (OpenSpec.ofChange fnRoundAddRefusedWrong)

/-- 'laws.FnExactRoundAdd': WHATEVER THE INPUT: true; the input reads as it did. -/
def fnExactRoundAddSpec : ChangeSpec := { name := "fnExactRoundAdd", fn := fun _ => fun
  | [d1, d2] => { results := [.lit (.bool true)], args := [d1, d2] }
  | _ => none }
def fnExactRoundAddRow : OpenClaim := { program := "ytldclkjknhjbfaa", sum := "8c25a90de25d9c5ac9093c41030405ab7a25c320ffe1ea86042382ec9ffd628a", func := "loop.example/groupmulticast/laws.FnExactRoundAdd", spec := "fnExactRoundAdd", apart := false }
def FnExactRoundAddSaid : Prop := fnExactRoundAddRow.holds Try.pinned (OpenSpec.ofChange fnExactRoundAddSpec)

/-- ITS FALSE NEIGHBOUR: 'it returns false'. Refute it at one input. -/
def fnExactRoundAddWrong : ChangeSpec := { name := "fnExactRoundAdd", fn := fun _ => fun
  | [d1, d2] => { results := [.lit (.bool false)], args := [d1, d2] }
  | _ => none }
def FnExactRoundAddWrongFalsely : Prop := fnExactRoundAddRow.holds Try.pinned (OpenSpec.ofChange fnExactRoundAddWrong)

/-- 'laws.FnRoundComplete': WHATEVER THE INPUT: true; the input reads as it did. -/
def fnRoundCompleteSpec : ChangeSpec := { name := "fnRoundComplete", fn := fun _ => fun
  | [d1, d2] => { results := [.lit (.bool true)], args := [d1, d2] }
  | _ => none }
def fnRoundCompleteRow : OpenClaim := { program := "ytldclkjknhjbfaa", sum := "8c25a90de25d9c5ac9093c41030405ab7a25c320ffe1ea86042382ec9ffd628a", func := "loop.example/groupmulticast/laws.FnRoundComplete", spec := "fnRoundComplete", unfollowed := true, recurses := true, apart := false }
def FnRoundCompleteSaid : Prop := fnRoundCompleteRow.holds Try.pinned (OpenSpec.ofChange fnRoundCompleteSpec)

/-- ITS FALSE NEIGHBOUR: 'it returns false'. Refute it at one input. -/
def fnRoundCompleteWrong : ChangeSpec := { name := "fnRoundComplete", fn := fun _ => fun
  | [d1, d2] => { results := [.lit (.bool false)], args := [d1, d2] }
  | _ => none }
def FnRoundCompleteWrongFalsely : Prop := fnRoundCompleteRow.holds Try.pinned (OpenSpec.ofChange fnRoundCompleteWrong)

/- THE SECOND FORM. 'bulk': how many values and letters a reading holds, each counted each time it is reached (what is shared counts as often as it is met; a slice's spare places count too). A statement '..UptoSaid' is the law's where the arguments, and the package variables that the reading takes, are together of bulk at most 1048576: NARROWER than '..Said'. Prove '..Said' where nothing that the law and all that it calls make is longer than what came in: it says more and counts as full. Else prove '..UptoSaid'. A law counts once. -/
mutual
def uptoBulk {H : Type} : DataW H → Nat
  | .lit (.string bytes) => bytes.length + 1
  | .lit _ => 1
  | .nil => 1
  | .ptr d => uptoBulk d + 1
  | .slice elems spare => uptoBulkAll elems + uptoBulkAll spare + 1
  | .agg parts => uptoBulkAll parts + 1
  | .iface _ d => uptoBulk d + 1
  | .map entries => uptoBulkEntries entries + 1
  | .held _ => 1
def uptoBulkAll {H : Type} : List (DataW H) → Nat
  | [] => 0
  | d :: r => uptoBulk d + uptoBulkAll r
def uptoBulkEntries {H : Type} : List (Lit × DataW H) → Nat
  | [] => 0
  | x :: r => uptoBulkEntry x + uptoBulkEntries r
def uptoBulkEntry {H : Type} : Lit × DataW H → Nat
  | (.string bytes, d) => bytes.length + uptoBulk d + 1
  | (_, d) => uptoBulk d + 1
 end
def uptoSmall : (H : Type) → List (DataW H) → Bool := fun _ ds => decide (uptoBulkAll ds ≤ 1048576)
def OpenSpec.upto (s : _root_.Go.ChangeSpec) : _root_.Go.OpenSpec := { _root_.Go.OpenSpec.ofChange s with cond := some uptoSmall }

/-- 'laws.FnExactRoundNew', WHERE WHAT IT READS IS OF BULK AT MOST 1048576: true; the input reads as it did. -/
def fnExactRoundNewUptoRow : OpenClaim := { program := "ytldclkjknhjbfaa", sum := "8c25a90de25d9c5ac9093c41030405ab7a25c320ffe1ea86042382ec9ffd628a", func := "loop.example/groupmulticast/laws.FnExactRoundNew", spec := "fnExactRoundNew", apart := false, narrowed := true }
def FnExactRoundNewUptoSaid : Prop := fnExactRoundNewUptoRow.holds Try.pinned (OpenSpec.upto fnExactRoundNewSpec)

/-- 'laws.FnExactRoundValid', WHERE WHAT IT READS IS OF BULK AT MOST 1048576: true; the input reads as it did. -/
def fnExactRoundValidUptoRow : OpenClaim := { program := "ytldclkjknhjbfaa", sum := "8c25a90de25d9c5ac9093c41030405ab7a25c320ffe1ea86042382ec9ffd628a", func := "loop.example/groupmulticast/laws.FnExactRoundValid", spec := "fnExactRoundValid", apart := false, narrowed := true }
def FnExactRoundValidUptoSaid : Prop := fnExactRoundValidUptoRow.holds Try.pinned (OpenSpec.upto fnExactRoundValidSpec)

/-- 'laws.FnRoundNew', WHERE WHAT IT READS IS OF BULK AT MOST 1048576: true; the input reads as it did. -/
def fnRoundNewUptoRow : OpenClaim := { program := "ytldclkjknhjbfaa", sum := "8c25a90de25d9c5ac9093c41030405ab7a25c320ffe1ea86042382ec9ffd628a", func := "loop.example/groupmulticast/laws.FnRoundNew", spec := "fnRoundNew", unfollowed := true, recurses := true, apart := false, narrowed := true }
def FnRoundNewUptoSaid : Prop := fnRoundNewUptoRow.holds Try.pinned (OpenSpec.upto fnRoundNewSpec)

/-- 'laws.FnRoundMissing', WHERE WHAT IT READS IS OF BULK AT MOST 1048576: true; the input reads as it did. -/
def fnRoundMissingUptoRow : OpenClaim := { program := "ytldclkjknhjbfaa", sum := "8c25a90de25d9c5ac9093c41030405ab7a25c320ffe1ea86042382ec9ffd628a", func := "loop.example/groupmulticast/laws.FnRoundMissing", spec := "fnRoundMissing", unfollowed := true, recurses := true, apart := false, narrowed := true }
def FnRoundMissingUptoSaid : Prop := fnRoundMissingUptoRow.holds Try.pinned (OpenSpec.upto fnRoundMissingSpec)

/-- 'laws.FnRoundAddOrder', WHERE WHAT IT READS IS OF BULK AT MOST 1048576: true; the input reads as it did. -/
def fnRoundAddOrderUptoRow : OpenClaim := { program := "ytldclkjknhjbfaa", sum := "8c25a90de25d9c5ac9093c41030405ab7a25c320ffe1ea86042382ec9ffd628a", func := "loop.example/groupmulticast/laws.FnRoundAddOrder", spec := "fnRoundAddOrder", apart := false, narrowed := true }
def FnRoundAddOrderUptoSaid : Prop := fnRoundAddOrderUptoRow.holds Try.pinned (OpenSpec.upto fnRoundAddOrderSpec)

/-- 'laws.FnExactRoundMissing', WHERE WHAT IT READS IS OF BULK AT MOST 1048576: true; the input reads as it did. -/
def fnExactRoundMissingUptoRow : OpenClaim := { program := "ytldclkjknhjbfaa", sum := "8c25a90de25d9c5ac9093c41030405ab7a25c320ffe1ea86042382ec9ffd628a", func := "loop.example/groupmulticast/laws.FnExactRoundMissing", spec := "fnExactRoundMissing", unfollowed := true, recurses := true, apart := false, narrowed := true }
def FnExactRoundMissingUptoSaid : Prop := fnExactRoundMissingUptoRow.holds Try.pinned (OpenSpec.upto fnExactRoundMissingSpec)

/-- 'laws.FnExactRoundFinal', WHERE WHAT IT READS IS OF BULK AT MOST 1048576: true; the input reads as it did. -/
def fnExactRoundFinalUptoRow : OpenClaim := { program := "ytldclkjknhjbfaa", sum := "8c25a90de25d9c5ac9093c41030405ab7a25c320ffe1ea86042382ec9ffd628a", func := "loop.example/groupmulticast/laws.FnExactRoundFinal", spec := "fnExactRoundFinal", unfollowed := true, recurses := true, apart := false, narrowed := true }
def FnExactRoundFinalUptoSaid : Prop := fnExactRoundFinalUptoRow.holds Try.pinned (OpenSpec.upto fnExactRoundFinalSpec)

/-- 'laws.FnRoundFinal', WHERE WHAT IT READS IS OF BULK AT MOST 1048576: true; the input reads as it did. -/
def fnRoundFinalUptoRow : OpenClaim := { program := "ytldclkjknhjbfaa", sum := "8c25a90de25d9c5ac9093c41030405ab7a25c320ffe1ea86042382ec9ffd628a", func := "loop.example/groupmulticast/laws.FnRoundFinal", spec := "fnRoundFinal", unfollowed := true, recurses := true, apart := false, narrowed := true }
def FnRoundFinalUptoSaid : Prop := fnRoundFinalUptoRow.holds Try.pinned (OpenSpec.upto fnRoundFinalSpec)

/-- 'laws.FnRoundFinalNotLess', WHERE WHAT IT READS IS OF BULK AT MOST 1048576: true; the input reads as it did. -/
def fnRoundFinalNotLessUptoRow : OpenClaim := { program := "ytldclkjknhjbfaa", sum := "8c25a90de25d9c5ac9093c41030405ab7a25c320ffe1ea86042382ec9ffd628a", func := "loop.example/groupmulticast/laws.FnRoundFinalNotLess", spec := "fnRoundFinalNotLess", unfollowed := true, recurses := true, apart := false, narrowed := true }
def FnRoundFinalNotLessUptoSaid : Prop := fnRoundFinalNotLessUptoRow.holds Try.pinned (OpenSpec.upto fnRoundFinalNotLessSpec)

/-- 'laws.FnRoundAdd', WHERE WHAT IT READS IS OF BULK AT MOST 1048576: true; the input reads as it did. -/
def fnRoundAddUptoRow : OpenClaim := { program := "ytldclkjknhjbfaa", sum := "8c25a90de25d9c5ac9093c41030405ab7a25c320ffe1ea86042382ec9ffd628a", func := "loop.example/groupmulticast/laws.FnRoundAdd", spec := "fnRoundAdd", unfollowed := true, recurses := true, apart := false, narrowed := true }
def FnRoundAddUptoSaid : Prop := fnRoundAddUptoRow.holds Try.pinned (OpenSpec.upto fnRoundAddSpec)

/-- 'laws.FnRoundAddRefused', WHERE WHAT IT READS IS OF BULK AT MOST 1048576: true; the input reads as it did. -/
def fnRoundAddRefusedUptoRow : OpenClaim := { program := "ytldclkjknhjbfaa", sum := "8c25a90de25d9c5ac9093c41030405ab7a25c320ffe1ea86042382ec9ffd628a", func := "loop.example/groupmulticast/laws.FnRoundAddRefused", spec := "fnRoundAddRefused", unfollowed := true, recurses := true, apart := false, narrowed := true }
def FnRoundAddRefusedUptoSaid : Prop := fnRoundAddRefusedUptoRow.holds Try.pinned (OpenSpec.upto fnRoundAddRefusedSpec)

/-- 'laws.FnExactRoundAdd', WHERE WHAT IT READS IS OF BULK AT MOST 1048576: true; the input reads as it did. -/
def fnExactRoundAddUptoRow : OpenClaim := { program := "ytldclkjknhjbfaa", sum := "8c25a90de25d9c5ac9093c41030405ab7a25c320ffe1ea86042382ec9ffd628a", func := "loop.example/groupmulticast/laws.FnExactRoundAdd", spec := "fnExactRoundAdd", apart := false, narrowed := true }
def FnExactRoundAddUptoSaid : Prop := fnExactRoundAddUptoRow.holds Try.pinned (OpenSpec.upto fnExactRoundAddSpec)

/-- 'laws.FnRoundComplete', WHERE WHAT IT READS IS OF BULK AT MOST 1048576: true; the input reads as it did. -/
def fnRoundCompleteUptoRow : OpenClaim := { program := "ytldclkjknhjbfaa", sum := "8c25a90de25d9c5ac9093c41030405ab7a25c320ffe1ea86042382ec9ffd628a", func := "loop.example/groupmulticast/laws.FnRoundComplete", spec := "fnRoundComplete", unfollowed := true, recurses := true, apart := false, narrowed := true }
def FnRoundCompleteUptoSaid : Prop := fnRoundCompleteUptoRow.holds Try.pinned (OpenSpec.upto fnRoundCompleteSpec)

end Rows
end Go.Proofs.Ytldclkjknhjbfaa
