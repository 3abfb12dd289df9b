/-
  No cell of these rows narrows 'for every input' (looked for: loops, veiled, ifaces, maps, wideKeys, modest, calm, conditions, laid).
  DERIVED. THE GIVEN ROWS OF THIS SEAT. 11 by the template 'for every input the law returns true; each argument reads behind the call as it read before'; 0 by the template 'total and deterministic' (their statements: YtggjfbakekfdhaaTotals.lean).
  GIVEN WITH THE SEED: the statements are not yours to turn. If you find one false, say at which input.
  Laid BY PROGRAM, IN A SANDBOX (cutbox-rows.mjs): the forced cells as the released guide's own fill.sh prints them over the translation 9681bd7f15e57c10… (all of the seat's roots in one cut). By AI agents, Wed Nov 11 2026. No macro, syntax, notation, axiom, sorry.
-/
import Derived.Test.YtggjfbakekfdhaaChecked
import GoSem.Claim
import GoSem.ClaimJoined
import GoSem.ClaimMapViews
import Derived.JoinedTies
import Derived.KernelRfl
namespace Go.Proofs.Ytggjfbakekfdhaa
/- THE CELL 'sum', in the pinned program and in every row, IS THE sha256 OF THE DUMP (.gsa) THAT YtggjfbakekfdhaaProg.lean LOADS. Nothing in Lean hashes anything: it is a label: what it is worth is what the hold of that sum in a sandbox is worth. -/
noncomputable def Try.pinned : Pinned := { name := "ytggjfbakekfdhaa", sum := "9681bd7f15e57c1063ef856766a0a87d160a69d0485d2afc27a8c83f9d485af5", checked := Try.checked }
namespace Rows
def none {H : Type} : Left H := { results := [], args := [] }

/-- 'laws.FnExactCreditsNew': WHATEVER THE INPUT: true; the input reads as it did. -/
def fnExactCreditsNewSpec : ChangeSpec := { name := "fnExactCreditsNew", fn := fun _ => fun
  | [d1, d2] => { results := [.lit (.bool true)], args := [d1, d2] }
  | _ => none }
def fnExactCreditsNewRow : OpenClaim := { program := "ytggjfbakekfdhaa", sum := "9681bd7f15e57c1063ef856766a0a87d160a69d0485d2afc27a8c83f9d485af5", func := "loop.example/groupmulticast/laws.FnExactCreditsNew", spec := "fnExactCreditsNew", apart := false }
def FnExactCreditsNewSaid : Prop := fnExactCreditsNewRow.holds Try.pinned (OpenSpec.ofChange fnExactCreditsNewSpec)

/-- ITS FALSE NEIGHBOUR: 'it returns false'. Refute it at one input. -/
def fnExactCreditsNewWrong : ChangeSpec := { name := "fnExactCreditsNew", fn := fun _ => fun
  | [d1, d2] => { results := [.lit (.bool false)], args := [d1, d2] }
  | _ => none }
def FnExactCreditsNewWrongFalsely : Prop := fnExactCreditsNewRow.holds Try.pinned (OpenSpec.ofChange fnExactCreditsNewWrong)

/-- 'laws.FnCreditsNew': WHATEVER THE INPUT: true; the input reads as it did. -/
def fnCreditsNewSpec : ChangeSpec := { name := "fnCreditsNew", fn := fun _ => fun
  | [d] => { results := [.lit (.bool true)], args := [d] }
  | _ => none }
def fnCreditsNewRow : OpenClaim := { program := "ytggjfbakekfdhaa", sum := "9681bd7f15e57c1063ef856766a0a87d160a69d0485d2afc27a8c83f9d485af5", func := "loop.example/groupmulticast/laws.FnCreditsNew", spec := "fnCreditsNew", apart := false }
def FnCreditsNewSaid : Prop := fnCreditsNewRow.holds Try.pinned (OpenSpec.ofChange fnCreditsNewSpec)

/-- ITS FALSE NEIGHBOUR: 'it returns false'. Refute it at one input. -/
def fnCreditsNewWrong : ChangeSpec := { name := "fnCreditsNew", fn := fun _ => fun
  | [d] => { results := [.lit (.bool false)], args := [d] }
  | _ => none }
def FnCreditsNewWrongFalsely : Prop := fnCreditsNewRow.holds Try.pinned (OpenSpec.ofChange fnCreditsNewWrong)

/-- 'laws.FnExactCreditsValid': WHATEVER THE INPUT: true; the input reads as it did. -/
def fnExactCreditsValidSpec : ChangeSpec := { name := "fnExactCreditsValid", fn := fun _ => fun
  | [d] => { results := [.lit (.bool true)], args := [d] }
  | _ => none }
def fnExactCreditsValidRow : OpenClaim := { program := "ytggjfbakekfdhaa", sum := "9681bd7f15e57c1063ef856766a0a87d160a69d0485d2afc27a8c83f9d485af5", func := "loop.example/groupmulticast/laws.FnExactCreditsValid", spec := "fnExactCreditsValid", apart := false }
def FnExactCreditsValidSaid : Prop := fnExactCreditsValidRow.holds Try.pinned (OpenSpec.ofChange fnExactCreditsValidSpec)

/-- ITS FALSE NEIGHBOUR: 'it returns false'. Refute it at one input. -/
def fnExactCreditsValidWrong : ChangeSpec := { name := "fnExactCreditsValid", fn := fun _ => fun
  | [d] => { results := [.lit (.bool false)], args := [d] }
  | _ => none }
def FnExactCreditsValidWrongFalsely : Prop := fnExactCreditsValidRow.holds Try.pinned (OpenSpec.ofChange fnExactCreditsValidWrong)

/-- 'laws.FnExactCreditsOrdered': WHATEVER THE INPUT: true; the input reads as it did. -/
def fnExactCreditsOrderedSpec : ChangeSpec := { name := "fnExactCreditsOrdered", fn := fun _ => fun
  | [d] => { results := [.lit (.bool true)], args := [d] }
  | _ => none }
def fnExactCreditsOrderedRow : OpenClaim := { program := "ytggjfbakekfdhaa", sum := "9681bd7f15e57c1063ef856766a0a87d160a69d0485d2afc27a8c83f9d485af5", func := "loop.example/groupmulticast/laws.FnExactCreditsOrdered", spec := "fnExactCreditsOrdered", apart := false }
def FnExactCreditsOrderedSaid : Prop := fnExactCreditsOrderedRow.holds Try.pinned (OpenSpec.ofChange fnExactCreditsOrderedSpec)

/-- ITS FALSE NEIGHBOUR: 'it returns false'. Refute it at one input. -/
def fnExactCreditsOrderedWrong : ChangeSpec := { name := "fnExactCreditsOrdered", fn := fun _ => fun
  | [d] => { results := [.lit (.bool false)], args := [d] }
  | _ => none }
def FnExactCreditsOrderedWrongFalsely : Prop := fnExactCreditsOrderedRow.holds Try.pinned (OpenSpec.ofChange fnExactCreditsOrderedWrong)

/-- 'laws.FnOrdered': WHATEVER THE INPUT: true; the input reads as it did. -/
def fnOrderedSpec : ChangeSpec := { name := "fnOrdered", fn := fun _ => fun
  | [d] => { results := [.lit (.bool true)], args := [d] }
  | _ => none }
def fnOrderedRow : OpenClaim := { program := "ytggjfbakekfdhaa", sum := "9681bd7f15e57c1063ef856766a0a87d160a69d0485d2afc27a8c83f9d485af5", func := "loop.example/groupmulticast/laws.FnOrdered", spec := "fnOrdered", apart := false }
def FnOrderedSaid : Prop := fnOrderedRow.holds Try.pinned (OpenSpec.ofChange fnOrderedSpec)

/-- ITS FALSE NEIGHBOUR: 'it returns false'. Refute it at one input. -/
def fnOrderedWrong : ChangeSpec := { name := "fnOrdered", fn := fun _ => fun
  | [d] => { results := [.lit (.bool false)], args := [d] }
  | _ => none }
def FnOrderedWrongFalsely : Prop := fnOrderedRow.holds Try.pinned (OpenSpec.ofChange fnOrderedWrong)

/-- 'laws.FnExactCreditsStuck': WHATEVER THE INPUT: true; the input reads as it did. -/
def fnExactCreditsStuckSpec : ChangeSpec := { name := "fnExactCreditsStuck", fn := fun _ => fun
  | [d] => { results := [.lit (.bool true)], args := [d] }
  | _ => none }
def fnExactCreditsStuckRow : OpenClaim := { program := "ytggjfbakekfdhaa", sum := "9681bd7f15e57c1063ef856766a0a87d160a69d0485d2afc27a8c83f9d485af5", func := "loop.example/groupmulticast/laws.FnExactCreditsStuck", spec := "fnExactCreditsStuck", apart := false }
def FnExactCreditsStuckSaid : Prop := fnExactCreditsStuckRow.holds Try.pinned (OpenSpec.ofChange fnExactCreditsStuckSpec)

/-- ITS FALSE NEIGHBOUR: 'it returns false'. Refute it at one input. -/
def fnExactCreditsStuckWrong : ChangeSpec := { name := "fnExactCreditsStuck", fn := fun _ => fun
  | [d] => { results := [.lit (.bool false)], args := [d] }
  | _ => none }
def FnExactCreditsStuckWrongFalsely : Prop := fnExactCreditsStuckRow.holds Try.pinned (OpenSpec.ofChange fnExactCreditsStuckWrong)

/-- 'laws.FnStuckNever': WHATEVER THE INPUT: true; the input reads as it did. -/
def fnStuckNeverSpec : ChangeSpec := { name := "fnStuckNever", fn := fun _ => fun
  | [d] => { results := [.lit (.bool true)], args := [d] }
  | _ => none }
def fnStuckNeverRow : OpenClaim := { program := "ytggjfbakekfdhaa", sum := "9681bd7f15e57c1063ef856766a0a87d160a69d0485d2afc27a8c83f9d485af5", func := "loop.example/groupmulticast/laws.FnStuckNever", spec := "fnStuckNever", apart := false }
def FnStuckNeverSaid : Prop := fnStuckNeverRow.holds Try.pinned (OpenSpec.ofChange fnStuckNeverSpec)

/-- ITS FALSE NEIGHBOUR: 'it returns false'. Refute it at one input. -/
def fnStuckNeverWrong : ChangeSpec := { name := "fnStuckNever", fn := fun _ => fun
  | [d] => { results := [.lit (.bool false)], args := [d] }
  | _ => none }
def FnStuckNeverWrongFalsely : Prop := fnStuckNeverRow.holds Try.pinned (OpenSpec.ofChange fnStuckNeverWrong)

/-- 'laws.FnStuck': WHATEVER THE INPUT: true; the input reads as it did. -/
def fnStuckSpec : ChangeSpec := { name := "fnStuck", fn := fun _ => fun
  | [d] => { results := [.lit (.bool true)], args := [d] }
  | _ => none }
def fnStuckRow : OpenClaim := { program := "ytggjfbakekfdhaa", sum := "9681bd7f15e57c1063ef856766a0a87d160a69d0485d2afc27a8c83f9d485af5", func := "loop.example/groupmulticast/laws.FnStuck", spec := "fnStuck", apart := false }
def FnStuckSaid : Prop := fnStuckRow.holds Try.pinned (OpenSpec.ofChange fnStuckSpec)

/-- ITS FALSE NEIGHBOUR: 'it returns false'. Refute it at one input. -/
def fnStuckWrong : ChangeSpec := { name := "fnStuck", fn := fun _ => fun
  | [d] => { results := [.lit (.bool false)], args := [d] }
  | _ => none }
def FnStuckWrongFalsely : Prop := fnStuckRow.holds Try.pinned (OpenSpec.ofChange fnStuckWrong)

/-- 'laws.FnCreditsAsk': WHATEVER THE INPUT: true; the input reads as it did. -/
def fnCreditsAskSpec : ChangeSpec := { name := "fnCreditsAsk", fn := fun _ => fun
  | [d] => { results := [.lit (.bool true)], args := [d] }
  | _ => none }
def fnCreditsAskRow : OpenClaim := { program := "ytggjfbakekfdhaa", sum := "9681bd7f15e57c1063ef856766a0a87d160a69d0485d2afc27a8c83f9d485af5", func := "loop.example/groupmulticast/laws.FnCreditsAsk", spec := "fnCreditsAsk", unfollowed := true, recurses := true, apart := false }
def FnCreditsAskSaid : Prop := fnCreditsAskRow.holds Try.pinned (OpenSpec.ofChange fnCreditsAskSpec)

/-- ITS FALSE NEIGHBOUR: 'it returns false'. Refute it at one input. -/
def fnCreditsAskWrong : ChangeSpec := { name := "fnCreditsAsk", fn := fun _ => fun
  | [d] => { results := [.lit (.bool false)], args := [d] }
  | _ => none }
def FnCreditsAskWrongFalsely : Prop := fnCreditsAskRow.holds Try.pinned (OpenSpec.ofChange fnCreditsAskWrong)

/-- 'laws.FnCreditsAskRefused': WHATEVER THE INPUT: true; the input reads as it did. -/
def fnCreditsAskRefusedSpec : ChangeSpec := { name := "fnCreditsAskRefused", fn := fun _ => fun
  | [d] => { results := [.lit (.bool true)], args := [d] }
  | _ => none }
def fnCreditsAskRefusedRow : OpenClaim := { program := "ytggjfbakekfdhaa", sum := "9681bd7f15e57c1063ef856766a0a87d160a69d0485d2afc27a8c83f9d485af5", func := "loop.example/groupmulticast/laws.FnCreditsAskRefused", spec := "fnCreditsAskRefused", unfollowed := true, recurses := true, apart := false }
def FnCreditsAskRefusedSaid : Prop := fnCreditsAskRefusedRow.holds Try.pinned (OpenSpec.ofChange fnCreditsAskRefusedSpec)

/-- ITS FALSE NEIGHBOUR: 'it returns false'. Refute it at one input. -/
def fnCreditsAskRefusedWrong : ChangeSpec := { name := "fnCreditsAskRefused", fn := fun _ => fun
  | [d] => { results := [.lit (.bool false)], args := [d] }
  | _ => none }
def FnCreditsAskRefusedWrongFalsely : Prop := fnCreditsAskRefusedRow.holds Try.pinned (OpenSpec.ofChange fnCreditsAskRefusedWrong)

/-- 'laws.FnCreditsGiveRefused': WHATEVER THE INPUT: true; the input reads as it did. -/
def fnCreditsGiveRefusedSpec : ChangeSpec := { name := "fnCreditsGiveRefused", fn := fun _ => fun
  | [d] => { results := [.lit (.bool true)], args := [d] }
  | _ => none }
def fnCreditsGiveRefusedRow : OpenClaim := { program := "ytggjfbakekfdhaa", sum := "9681bd7f15e57c1063ef856766a0a87d160a69d0485d2afc27a8c83f9d485af5", func := "loop.example/groupmulticast/laws.FnCreditsGiveRefused", spec := "fnCreditsGiveRefused", unfollowed := true, recurses := true, apart := false }
def FnCreditsGiveRefusedSaid : Prop := fnCreditsGiveRefusedRow.holds Try.pinned (OpenSpec.ofChange fnCreditsGiveRefusedSpec)

/-- ITS FALSE NEIGHBOUR: 'it returns false'. Refute it at one input. -/
def fnCreditsGiveRefusedWrong : ChangeSpec := { name := "fnCreditsGiveRefused", fn := fun _ => fun
  | [d] => { results := [.lit (.bool false)], args := [d] }
  | _ => none }
def FnCreditsGiveRefusedWrongFalsely : Prop := fnCreditsGiveRefusedRow.holds Try.pinned (OpenSpec.ofChange fnCreditsGiveRefusedWrong)

/- THE SECOND FORM. 'bulk': how many values and letters a reading holds, each counted each time it is reached (what is shared counts as often as it is met; a slice's spare places count too). A statement '..UptoSaid' is the law's where the arguments, and the package variables that the reading takes, are together of bulk at most 1048576: NARROWER than '..Said'. Prove '..Said' where nothing that the law and all that it calls make is longer than what came in: it says more and counts as full. Else prove '..UptoSaid'. A law counts once. -/
mutual
def uptoBulk {H : Type} : DataW H → Nat
  | .lit (.string bytes) => bytes.length + 1
  | .lit _ => 1
  | .nil => 1
  | .ptr d => uptoBulk d + 1
  | .slice elems spare => uptoBulkAll elems + uptoBulkAll spare + 1
  | .agg parts => uptoBulkAll parts + 1
  | .iface _ d => uptoBulk d + 1
  | .map entries => uptoBulkEntries entries + 1
  | .held _ => 1
def uptoBulkAll {H : Type} : List (DataW H) → Nat
  | [] => 0
  | d :: r => uptoBulk d + uptoBulkAll r
def uptoBulkEntries {H : Type} : List (Lit × DataW H) → Nat
  | [] => 0
  | x :: r => uptoBulkEntry x + uptoBulkEntries r
def uptoBulkEntry {H : Type} : Lit × DataW H → Nat
  | (.string bytes, d) => bytes.length + uptoBulk d + 1
  | (_, d) => uptoBulk d + 1
 end
def uptoSmall : (H : Type) → List (DataW H) → Bool := fun _ ds => decide (uptoBulkAll ds ≤ 1048576)
def OpenSpec.upto (s : _root_.Go.ChangeSpec) : _root_.Go.OpenSpec := { _root_.Go.OpenSpec.ofChange s with cond := some uptoSmall }

/-- 'laws.FnExactCreditsNew', WHERE WHAT IT READS IS OF BULK AT MOST 1048576: true; the input reads as it did. -/
def fnExactCreditsNewUptoRow : OpenClaim := { program := "ytggjfbakekfdhaa", sum := "9681bd7f15e57c1063ef856766a0a87d160a69d0485d2afc27a8c83f9d485af5", func := "loop.example/groupmulticast/laws.FnExactCreditsNew", spec := "fnExactCreditsNew", apart := false, narrowed := true }
def FnExactCreditsNewUptoSaid : Prop := fnExactCreditsNewUptoRow.holds Try.pinned (OpenSpec.upto fnExactCreditsNewSpec)

/-- 'laws.FnCreditsNew', WHERE WHAT IT READS IS OF BULK AT MOST 1048576: true; the input reads as it did. -/
def fnCreditsNewUptoRow : OpenClaim := { program := "ytggjfbakekfdhaa", sum := "9681bd7f15e57c1063ef856766a0a87d160a69d0485d2afc27a8c83f9d485af5", func := "loop.example/groupmulticast/laws.FnCreditsNew", spec := "fnCreditsNew", apart := false, narrowed := true }
def FnCreditsNewUptoSaid : Prop := fnCreditsNewUptoRow.holds Try.pinned (OpenSpec.upto fnCreditsNewSpec)

/-- 'laws.FnExactCreditsValid', WHERE WHAT IT READS IS OF BULK AT MOST 1048576: true; the input reads as it did. -/
def fnExactCreditsValidUptoRow : OpenClaim := { program := "ytggjfbakekfdhaa", sum := "9681bd7f15e57c1063ef856766a0a87d160a69d0485d2afc27a8c83f9d485af5", func := "loop.example/groupmulticast/laws.FnExactCreditsValid", spec := "fnExactCreditsValid", apart := false, narrowed := true }
def FnExactCreditsValidUptoSaid : Prop := fnExactCreditsValidUptoRow.holds Try.pinned (OpenSpec.upto fnExactCreditsValidSpec)

/-- 'laws.FnExactCreditsOrdered', WHERE WHAT IT READS IS OF BULK AT MOST 1048576: true; the input reads as it did. -/
def fnExactCreditsOrderedUptoRow : OpenClaim := { program := "ytggjfbakekfdhaa", sum := "9681bd7f15e57c1063ef856766a0a87d160a69d0485d2afc27a8c83f9d485af5", func := "loop.example/groupmulticast/laws.FnExactCreditsOrdered", spec := "fnExactCreditsOrdered", apart := false, narrowed := true }
def FnExactCreditsOrderedUptoSaid : Prop := fnExactCreditsOrderedUptoRow.holds Try.pinned (OpenSpec.upto fnExactCreditsOrderedSpec)

/-- 'laws.FnOrdered', WHERE WHAT IT READS IS OF BULK AT MOST 1048576: true; the input reads as it did. -/
def fnOrderedUptoRow : OpenClaim := { program := "ytggjfbakekfdhaa", sum := "9681bd7f15e57c1063ef856766a0a87d160a69d0485d2afc27a8c83f9d485af5", func := "loop.example/groupmulticast/laws.FnOrdered", spec := "fnOrdered", apart := false, narrowed := true }
def FnOrderedUptoSaid : Prop := fnOrderedUptoRow.holds Try.pinned (OpenSpec.upto fnOrderedSpec)

/-- 'laws.FnExactCreditsStuck', WHERE WHAT IT READS IS OF BULK AT MOST 1048576: true; the input reads as it did. -/
def fnExactCreditsStuckUptoRow : OpenClaim := { program := "ytggjfbakekfdhaa", sum := "9681bd7f15e57c1063ef856766a0a87d160a69d0485d2afc27a8c83f9d485af5", func := "loop.example/groupmulticast/laws.FnExactCreditsStuck", spec := "fnExactCreditsStuck", apart := false, narrowed := true }
def FnExactCreditsStuckUptoSaid : Prop := fnExactCreditsStuckUptoRow.holds Try.pinned (OpenSpec.upto fnExactCreditsStuckSpec)

/-- 'laws.FnStuckNever', WHERE WHAT IT READS IS OF BULK AT MOST 1048576: true; the input reads as it did. -/
def fnStuckNeverUptoRow : OpenClaim := { program := "ytggjfbakekfdhaa", sum := "9681bd7f15e57c1063ef856766a0a87d160a69d0485d2afc27a8c83f9d485af5", func := "loop.example/groupmulticast/laws.FnStuckNever", spec := "fnStuckNever", apart := false, narrowed := true }
def FnStuckNeverUptoSaid : Prop := fnStuckNeverUptoRow.holds Try.pinned (OpenSpec.upto fnStuckNeverSpec)

/-- 'laws.FnStuck', WHERE WHAT IT READS IS OF BULK AT MOST 1048576: true; the input reads as it did. -/
def fnStuckUptoRow : OpenClaim := { program := "ytggjfbakekfdhaa", sum := "9681bd7f15e57c1063ef856766a0a87d160a69d0485d2afc27a8c83f9d485af5", func := "loop.example/groupmulticast/laws.FnStuck", spec := "fnStuck", apart := false, narrowed := true }
def FnStuckUptoSaid : Prop := fnStuckUptoRow.holds Try.pinned (OpenSpec.upto fnStuckSpec)

/-- 'laws.FnCreditsAsk', WHERE WHAT IT READS IS OF BULK AT MOST 1048576: true; the input reads as it did. -/
def fnCreditsAskUptoRow : OpenClaim := { program := "ytggjfbakekfdhaa", sum := "9681bd7f15e57c1063ef856766a0a87d160a69d0485d2afc27a8c83f9d485af5", func := "loop.example/groupmulticast/laws.FnCreditsAsk", spec := "fnCreditsAsk", unfollowed := true, recurses := true, apart := false, narrowed := true }
def FnCreditsAskUptoSaid : Prop := fnCreditsAskUptoRow.holds Try.pinned (OpenSpec.upto fnCreditsAskSpec)

/-- 'laws.FnCreditsAskRefused', WHERE WHAT IT READS IS OF BULK AT MOST 1048576: true; the input reads as it did. -/
def fnCreditsAskRefusedUptoRow : OpenClaim := { program := "ytggjfbakekfdhaa", sum := "9681bd7f15e57c1063ef856766a0a87d160a69d0485d2afc27a8c83f9d485af5", func := "loop.example/groupmulticast/laws.FnCreditsAskRefused", spec := "fnCreditsAskRefused", unfollowed := true, recurses := true, apart := false, narrowed := true }
def FnCreditsAskRefusedUptoSaid : Prop := fnCreditsAskRefusedUptoRow.holds Try.pinned (OpenSpec.upto fnCreditsAskRefusedSpec)

/-- 'laws.FnCreditsGiveRefused', WHERE WHAT IT READS IS OF BULK AT MOST 1048576: true; the input reads as it did. -/
def fnCreditsGiveRefusedUptoRow : OpenClaim := { program := "ytggjfbakekfdhaa", sum := "9681bd7f15e57c1063ef856766a0a87d160a69d0485d2afc27a8c83f9d485af5", func := "loop.example/groupmulticast/laws.FnCreditsGiveRefused", spec := "fnCreditsGiveRefused", unfollowed := true, recurses := true, apart := false, narrowed := true }
def FnCreditsGiveRefusedUptoSaid : Prop := fnCreditsGiveRefusedUptoRow.holds Try.pinned (OpenSpec.upto fnCreditsGiveRefusedSpec)

end Rows
end Go.Proofs.Ytggjfbakekfdhaa
