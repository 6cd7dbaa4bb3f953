/-
  No cell of these rows narrows 'for every input' (looked for: loops, veiled, ifaces, maps, wideKeys, modest, calm, conditions, laid).
  DERIVED. THE GIVEN ROWS OF THIS SEAT. 9 by the template 'for every input the law returns true; each argument reads behind the call as it read before'; 0 by the template 'total and deterministic' (their statements: YtijmhelacmjggaaTotals.lean).
  GIVEN WITH THE SEED: the statements are not yours to turn. If you find one false, say at which input.
  Laid BY PROGRAM, IN A SANDBOX (cutbox-rows.mjs): the forced cells as the released guide's own fill.sh prints them over the translation b2990acbd215ffc3… (all of the seat's roots in one cut). By AI agents, Wed Nov 11 2026. No macro, syntax, notation, axiom, sorry.
-/
import Derived.Test.YtijmhelacmjggaaChecked
import GoSem.Claim
import GoSem.ClaimJoined
import GoSem.ClaimMapViews
import Derived.JoinedTies
import Derived.KernelRfl
namespace Go.Proofs.Ytijmhelacmjggaa
/- THE CELL 'sum', in the pinned program and in every row, IS THE sha256 OF THE DUMP (.gsa) THAT YtijmhelacmjggaaProg.lean LOADS. Nothing in Lean hashes anything: it is a label: what it is worth is what the hold of that sum in a sandbox is worth. -/
noncomputable def Try.pinned : Pinned := { name := "ytijmhelacmjggaa", sum := "b2990acbd215ffc3b9de8738747b8fe7f40769e065230ff3bfc8359416c45cac", checked := Try.checked }
namespace Rows
def none {H : Type} : Left H := { results := [], args := [] }

/-- 'laws.FnExactShortest': WHATEVER THE INPUT: true; the input reads as it did. -/
def fnExactShortestSpec : ChangeSpec := { name := "fnExactShortest", fn := fun _ => fun
  | [d] => { results := [.lit (.bool true)], args := [d] }
  | _ => none }
def fnExactShortestRow : OpenClaim := { program := "ytijmhelacmjggaa", sum := "b2990acbd215ffc3b9de8738747b8fe7f40769e065230ff3bfc8359416c45cac", func := "loop.example/g00132/laws.FnExactShortest", spec := "fnExactShortest", unfollowed := true, recurses := true, apart := false }
def FnExactShortestSaid : Prop := fnExactShortestRow.holds Try.pinned (OpenSpec.ofChange fnExactShortestSpec)

/-- ITS FALSE NEIGHBOUR: 'it returns false'. Refute it at one input. -/
def fnExactShortestWrong : ChangeSpec := { name := "fnExactShortest", fn := fun _ => fun
  | [d] => { results := [.lit (.bool false)], args := [d] }
  | _ => none }
def FnExactShortestWrongFalsely : Prop := fnExactShortestRow.holds Try.pinned (OpenSpec.ofChange fnExactShortestWrong)

/-- 'laws.FnExactNullable': WHATEVER THE INPUT: true; the input reads as it did. -/
def fnExactNullableSpec : ChangeSpec := { name := "fnExactNullable", fn := fun _ => fun
  | [d] => { results := [.lit (.bool true)], args := [d] }
  | _ => none }
def fnExactNullableRow : OpenClaim := { program := "ytijmhelacmjggaa", sum := "b2990acbd215ffc3b9de8738747b8fe7f40769e065230ff3bfc8359416c45cac", func := "loop.example/g00132/laws.FnExactNullable", spec := "fnExactNullable", unfollowed := true, recurses := true, apart := false }
def FnExactNullableSaid : Prop := fnExactNullableRow.holds Try.pinned (OpenSpec.ofChange fnExactNullableSpec)

/-- ITS FALSE NEIGHBOUR: 'it returns false'. Refute it at one input. -/
def fnExactNullableWrong : ChangeSpec := { name := "fnExactNullable", fn := fun _ => fun
  | [d] => { results := [.lit (.bool false)], args := [d] }
  | _ => none }
def FnExactNullableWrongFalsely : Prop := fnExactNullableRow.holds Try.pinned (OpenSpec.ofChange fnExactNullableWrong)

/-- 'laws.FnExactFirstOf': WHATEVER THE INPUT: true; the input reads as it did. -/
def fnExactFirstOfSpec : ChangeSpec := { name := "fnExactFirstOf", fn := fun _ => fun
  | [d] => { results := [.lit (.bool true)], args := [d] }
  | _ => none }
def fnExactFirstOfRow : OpenClaim := { program := "ytijmhelacmjggaa", sum := "b2990acbd215ffc3b9de8738747b8fe7f40769e065230ff3bfc8359416c45cac", func := "loop.example/g00132/laws.FnExactFirstOf", spec := "fnExactFirstOf", unfollowed := true, recurses := true, apart := false }
def FnExactFirstOfSaid : Prop := fnExactFirstOfRow.holds Try.pinned (OpenSpec.ofChange fnExactFirstOfSpec)

/-- ITS FALSE NEIGHBOUR: 'it returns false'. Refute it at one input. -/
def fnExactFirstOfWrong : ChangeSpec := { name := "fnExactFirstOf", fn := fun _ => fun
  | [d] => { results := [.lit (.bool false)], args := [d] }
  | _ => none }
def FnExactFirstOfWrongFalsely : Prop := fnExactFirstOfRow.holds Try.pinned (OpenSpec.ofChange fnExactFirstOfWrong)

/-- 'laws.FnExactGrammarOk': WHATEVER THE INPUT: true; the input reads as it did. -/
def fnExactGrammarOkSpec : ChangeSpec := { name := "fnExactGrammarOk", fn := fun _ => fun
  | [d] => { results := [.lit (.bool true)], args := [d] }
  | _ => none }
def fnExactGrammarOkRow : OpenClaim := { program := "ytijmhelacmjggaa", sum := "b2990acbd215ffc3b9de8738747b8fe7f40769e065230ff3bfc8359416c45cac", func := "loop.example/g00132/laws.FnExactGrammarOk", spec := "fnExactGrammarOk", unfollowed := true, recurses := true, apart := false }
def FnExactGrammarOkSaid : Prop := fnExactGrammarOkRow.holds Try.pinned (OpenSpec.ofChange fnExactGrammarOkSpec)

/-- ITS FALSE NEIGHBOUR: 'it returns false'. Refute it at one input. -/
def fnExactGrammarOkWrong : ChangeSpec := { name := "fnExactGrammarOk", fn := fun _ => fun
  | [d] => { results := [.lit (.bool false)], args := [d] }
  | _ => none }
def FnExactGrammarOkWrongFalsely : Prop := fnExactGrammarOkRow.holds Try.pinned (OpenSpec.ofChange fnExactGrammarOkWrong)

/-- 'laws.FnExactNameOf': WHATEVER THE INPUT: true; the input reads as it did. -/
def fnExactNameOfSpec : ChangeSpec := { name := "fnExactNameOf", fn := fun _ => fun
  | [d1, d2] => { results := [.lit (.bool true)], args := [d1, d2] }
  | _ => none }
def fnExactNameOfRow : OpenClaim := { program := "ytijmhelacmjggaa", sum := "b2990acbd215ffc3b9de8738747b8fe7f40769e065230ff3bfc8359416c45cac", func := "loop.example/g00132/laws.FnExactNameOf", spec := "fnExactNameOf", unfollowed := true, recurses := true, apart := false }
def FnExactNameOfSaid : Prop := fnExactNameOfRow.holds Try.pinned (OpenSpec.ofChange fnExactNameOfSpec)

/-- ITS FALSE NEIGHBOUR: 'it returns false'. Refute it at one input. -/
def fnExactNameOfWrong : ChangeSpec := { name := "fnExactNameOf", fn := fun _ => fun
  | [d1, d2] => { results := [.lit (.bool false)], args := [d1, d2] }
  | _ => none }
def FnExactNameOfWrongFalsely : Prop := fnExactNameOfRow.holds Try.pinned (OpenSpec.ofChange fnExactNameOfWrong)

/-- 'laws.FnExactStreamOk': WHATEVER THE INPUT: true; the input reads as it did. -/
def fnExactStreamOkSpec : ChangeSpec := { name := "fnExactStreamOk", fn := fun _ => fun
  | [d1, d2] => { results := [.lit (.bool true)], args := [d1, d2] }
  | _ => none }
def fnExactStreamOkRow : OpenClaim := { program := "ytijmhelacmjggaa", sum := "b2990acbd215ffc3b9de8738747b8fe7f40769e065230ff3bfc8359416c45cac", func := "loop.example/g00132/laws.FnExactStreamOk", spec := "fnExactStreamOk", unfollowed := true, recurses := true, apart := false }
def FnExactStreamOkSaid : Prop := fnExactStreamOkRow.holds Try.pinned (OpenSpec.ofChange fnExactStreamOkSpec)

/-- ITS FALSE NEIGHBOUR: 'it returns false'. Refute it at one input. -/
def fnExactStreamOkWrong : ChangeSpec := { name := "fnExactStreamOk", fn := fun _ => fun
  | [d1, d2] => { results := [.lit (.bool false)], args := [d1, d2] }
  | _ => none }
def FnExactStreamOkWrongFalsely : Prop := fnExactStreamOkRow.holds Try.pinned (OpenSpec.ofChange fnExactStreamOkWrong)

/-- 'laws.FnExactReachedModes': WHATEVER THE INPUT: true; the input reads as it did. -/
def fnExactReachedModesSpec : ChangeSpec := { name := "fnExactReachedModes", fn := fun _ => fun
  | [d] => { results := [.lit (.bool true)], args := [d] }
  | _ => none }
def fnExactReachedModesRow : OpenClaim := { program := "ytijmhelacmjggaa", sum := "b2990acbd215ffc3b9de8738747b8fe7f40769e065230ff3bfc8359416c45cac", func := "loop.example/g00132/laws.FnExactReachedModes", spec := "fnExactReachedModes", unfollowed := true, recurses := true, apart := false }
def FnExactReachedModesSaid : Prop := fnExactReachedModesRow.holds Try.pinned (OpenSpec.ofChange fnExactReachedModesSpec)

/-- ITS FALSE NEIGHBOUR: 'it returns false'. Refute it at one input. -/
def fnExactReachedModesWrong : ChangeSpec := { name := "fnExactReachedModes", fn := fun _ => fun
  | [d] => { results := [.lit (.bool false)], args := [d] }
  | _ => none }
def FnExactReachedModesWrongFalsely : Prop := fnExactReachedModesRow.holds Try.pinned (OpenSpec.ofChange fnExactReachedModesWrong)

/-- 'laws.FnExactKinds': WHATEVER THE INPUT: true; the input reads as it did. -/
def fnExactKindsSpec : ChangeSpec := { name := "fnExactKinds", fn := fun _ => fun
  | [d] => { results := [.lit (.bool true)], args := [d] }
  | _ => none }
def fnExactKindsRow : OpenClaim := { program := "ytijmhelacmjggaa", sum := "b2990acbd215ffc3b9de8738747b8fe7f40769e065230ff3bfc8359416c45cac", func := "loop.example/g00132/laws.FnExactKinds", spec := "fnExactKinds", unfollowed := true, recurses := true, apart := false }
def FnExactKindsSaid : Prop := fnExactKindsRow.holds Try.pinned (OpenSpec.ofChange fnExactKindsSpec)

/-- ITS FALSE NEIGHBOUR: 'it returns false'. Refute it at one input. -/
def fnExactKindsWrong : ChangeSpec := { name := "fnExactKinds", fn := fun _ => fun
  | [d] => { results := [.lit (.bool false)], args := [d] }
  | _ => none }
def FnExactKindsWrongFalsely : Prop := fnExactKindsRow.holds Try.pinned (OpenSpec.ofChange fnExactKindsWrong)

/-- 'laws.FnExactBuildNfa': WHATEVER THE INPUT: true; the input reads as it did. -/
def fnExactBuildNfaSpec : ChangeSpec := { name := "fnExactBuildNfa", fn := fun _ => fun
  | [d] => { results := [.lit (.bool true)], args := [d] }
  | _ => none }
def fnExactBuildNfaRow : OpenClaim := { program := "ytijmhelacmjggaa", sum := "b2990acbd215ffc3b9de8738747b8fe7f40769e065230ff3bfc8359416c45cac", func := "loop.example/g00132/laws.FnExactBuildNfa", spec := "fnExactBuildNfa", unfollowed := true, recurses := true, apart := false }
def FnExactBuildNfaSaid : Prop := fnExactBuildNfaRow.holds Try.pinned (OpenSpec.ofChange fnExactBuildNfaSpec)

/-- ITS FALSE NEIGHBOUR: 'it returns false'. Refute it at one input. -/
def fnExactBuildNfaWrong : ChangeSpec := { name := "fnExactBuildNfa", fn := fun _ => fun
  | [d] => { results := [.lit (.bool false)], args := [d] }
  | _ => none }
def FnExactBuildNfaWrongFalsely : Prop := fnExactBuildNfaRow.holds Try.pinned (OpenSpec.ofChange fnExactBuildNfaWrong)

/- THE SECOND FORM. 'bulk': how many values and letters a reading holds, each counted each time it is reached (what is shared counts as often as it is met; a slice's spare places count too). A statement '..UptoSaid' is the law's where the arguments, and the package variables that the reading takes, are together of bulk at most 1048576: NARROWER than '..Said'. Prove '..Said' where nothing that the law and all that it calls make is longer than what came in: it says more and counts as full. Else prove '..UptoSaid'. A law counts once. -/
mutual
def uptoBulk {H : Type} : DataW H → Nat
  | .lit (.string bytes) => bytes.length + 1
  | .lit _ => 1
  | .nil => 1
  | .ptr d => uptoBulk d + 1
  | .slice elems spare => uptoBulkAll elems + uptoBulkAll spare + 1
  | .agg parts => uptoBulkAll parts + 1
  | .iface _ d => uptoBulk d + 1
  | .map entries => uptoBulkEntries entries + 1
  | .held _ => 1
def uptoBulkAll {H : Type} : List (DataW H) → Nat
  | [] => 0
  | d :: r => uptoBulk d + uptoBulkAll r
def uptoBulkEntries {H : Type} : List (Lit × DataW H) → Nat
  | [] => 0
  | x :: r => uptoBulkEntry x + uptoBulkEntries r
def uptoBulkEntry {H : Type} : Lit × DataW H → Nat
  | (.string bytes, d) => bytes.length + uptoBulk d + 1
  | (_, d) => uptoBulk d + 1
 end
def uptoSmall : (H : Type) → List (DataW H) → Bool := fun _ ds => decide (uptoBulkAll ds ≤ 1048576)
def OpenSpec.upto (s : _root_.Go.ChangeSpec) : _root_.Go.OpenSpec := { _root_.Go.OpenSpec.ofChange s with cond := some uptoSmall }

/-- 'laws.FnExactShortest', WHERE WHAT IT READS IS OF BULK AT MOST 1048576: true; the input reads as it did. -/
def fnExactShortestUptoRow : OpenClaim := { program := "ytijmhelacmjggaa", sum := "b2990acbd215ffc3b9de8738747b8fe7f40769e065230ff3bfc8359416c45cac", func := "loop.example/g00132/laws.FnExactShortest", spec := "fnExactShortest", unfollowed := true, recurses := true, apart := false, narrowed := true }
def FnExactShortestUptoSaid : Prop := fnExactShortestUptoRow.holds Try.pinned (OpenSpec.upto fnExactShortestSpec)

/-- 'laws.FnExactNullable', WHERE WHAT IT READS IS OF BULK AT MOST 1048576: true; the input reads as it did. -/
def fnExactNullableUptoRow : OpenClaim := { program := "ytijmhelacmjggaa", sum := "b2990acbd215ffc3b9de8738747b8fe7f40769e065230ff3bfc8359416c45cac", func := "loop.example/g00132/laws.FnExactNullable", spec := "fnExactNullable", unfollowed := true, recurses := true, apart := false, narrowed := true }
def FnExactNullableUptoSaid : Prop := fnExactNullableUptoRow.holds Try.pinned (OpenSpec.upto fnExactNullableSpec)

/-- 'laws.FnExactFirstOf', WHERE WHAT IT READS IS OF BULK AT MOST 1048576: true; the input reads as it did. -/
def fnExactFirstOfUptoRow : OpenClaim := { program := "ytijmhelacmjggaa", sum := "b2990acbd215ffc3b9de8738747b8fe7f40769e065230ff3bfc8359416c45cac", func := "loop.example/g00132/laws.FnExactFirstOf", spec := "fnExactFirstOf", unfollowed := true, recurses := true, apart := false, narrowed := true }
def FnExactFirstOfUptoSaid : Prop := fnExactFirstOfUptoRow.holds Try.pinned (OpenSpec.upto fnExactFirstOfSpec)

/-- 'laws.FnExactGrammarOk', WHERE WHAT IT READS IS OF BULK AT MOST 1048576: true; the input reads as it did. -/
def fnExactGrammarOkUptoRow : OpenClaim := { program := "ytijmhelacmjggaa", sum := "b2990acbd215ffc3b9de8738747b8fe7f40769e065230ff3bfc8359416c45cac", func := "loop.example/g00132/laws.FnExactGrammarOk", spec := "fnExactGrammarOk", unfollowed := true, recurses := true, apart := false, narrowed := true }
def FnExactGrammarOkUptoSaid : Prop := fnExactGrammarOkUptoRow.holds Try.pinned (OpenSpec.upto fnExactGrammarOkSpec)

/-- 'laws.FnExactNameOf', WHERE WHAT IT READS IS OF BULK AT MOST 1048576: true; the input reads as it did. -/
def fnExactNameOfUptoRow : OpenClaim := { program := "ytijmhelacmjggaa", sum := "b2990acbd215ffc3b9de8738747b8fe7f40769e065230ff3bfc8359416c45cac", func := "loop.example/g00132/laws.FnExactNameOf", spec := "fnExactNameOf", unfollowed := true, recurses := true, apart := false, narrowed := true }
def FnExactNameOfUptoSaid : Prop := fnExactNameOfUptoRow.holds Try.pinned (OpenSpec.upto fnExactNameOfSpec)

/-- 'laws.FnExactStreamOk', WHERE WHAT IT READS IS OF BULK AT MOST 1048576: true; the input reads as it did. -/
def fnExactStreamOkUptoRow : OpenClaim := { program := "ytijmhelacmjggaa", sum := "b2990acbd215ffc3b9de8738747b8fe7f40769e065230ff3bfc8359416c45cac", func := "loop.example/g00132/laws.FnExactStreamOk", spec := "fnExactStreamOk", unfollowed := true, recurses := true, apart := false, narrowed := true }
def FnExactStreamOkUptoSaid : Prop := fnExactStreamOkUptoRow.holds Try.pinned (OpenSpec.upto fnExactStreamOkSpec)

/-- 'laws.FnExactReachedModes', WHERE WHAT IT READS IS OF BULK AT MOST 1048576: true; the input reads as it did. -/
def fnExactReachedModesUptoRow : OpenClaim := { program := "ytijmhelacmjggaa", sum := "b2990acbd215ffc3b9de8738747b8fe7f40769e065230ff3bfc8359416c45cac", func := "loop.example/g00132/laws.FnExactReachedModes", spec := "fnExactReachedModes", unfollowed := true, recurses := true, apart := false, narrowed := true }
def FnExactReachedModesUptoSaid : Prop := fnExactReachedModesUptoRow.holds Try.pinned (OpenSpec.upto fnExactReachedModesSpec)

/-- 'laws.FnExactKinds', WHERE WHAT IT READS IS OF BULK AT MOST 1048576: true; the input reads as it did. -/
def fnExactKindsUptoRow : OpenClaim := { program := "ytijmhelacmjggaa", sum := "b2990acbd215ffc3b9de8738747b8fe7f40769e065230ff3bfc8359416c45cac", func := "loop.example/g00132/laws.FnExactKinds", spec := "fnExactKinds", unfollowed := true, recurses := true, apart := false, narrowed := true }
def FnExactKindsUptoSaid : Prop := fnExactKindsUptoRow.holds Try.pinned (OpenSpec.upto fnExactKindsSpec)

/-- 'laws.FnExactBuildNfa', WHERE WHAT IT READS IS OF BULK AT MOST 1048576: true; the input reads as it did. -/
def fnExactBuildNfaUptoRow : OpenClaim := { program := "ytijmhelacmjggaa", sum := "b2990acbd215ffc3b9de8738747b8fe7f40769e065230ff3bfc8359416c45cac", func := "loop.example/g00132/laws.FnExactBuildNfa", spec := "fnExactBuildNfa", unfollowed := true, recurses := true, apart := false, narrowed := true }
def FnExactBuildNfaUptoSaid : Prop := fnExactBuildNfaUptoRow.holds Try.pinned (OpenSpec.upto fnExactBuildNfaSpec)

end Rows
end Go.Proofs.Ytijmhelacmjggaa
