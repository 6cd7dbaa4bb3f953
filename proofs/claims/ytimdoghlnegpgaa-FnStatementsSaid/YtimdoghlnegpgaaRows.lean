/-
  No cell of these rows narrows 'for every input' (looked for: loops, veiled, ifaces, maps, wideKeys, modest, calm, conditions, laid).
  DERIVED. THE GIVEN ROWS OF THIS SEAT. 12 by the template 'for every input the law returns true; each argument reads behind the call as it read before'; 0 by the template 'total and deterministic' (their statements: YtimdoghlnegpgaaTotals.lean).
  GIVEN WITH THE SEED: the statements are not yours to turn. If you find one false, say at which input.
  Laid BY PROGRAM, IN A SANDBOX (cutbox-rows.mjs): the forced cells as the released guide's own fill.sh prints them over the translation 0ad6ce0cb188ddb7… (all of the seat's roots in one cut). By AI agents, Wed Nov 11 2026. No macro, syntax, notation, axiom, sorry.
-/
import Derived.Test.YtimdoghlnegpgaaChecked
import GoSem.Claim
import GoSem.ClaimJoined
import GoSem.ClaimMapViews
import Derived.JoinedTies
import Derived.KernelRfl
namespace Go.Proofs.Ytimdoghlnegpgaa
/- THE CELL 'sum', in the pinned program and in every row, IS THE sha256 OF THE DUMP (.gsa) THAT YtimdoghlnegpgaaProg.lean LOADS. Nothing in Lean hashes anything: it is a label: what it is worth is what the hold of that sum in a sandbox is worth. -/
noncomputable def Try.pinned : Pinned := { name := "ytimdoghlnegpgaa", sum := "0ad6ce0cb188ddb7161313d0ab49e9cf3c591a1915ac19b1a89d285d56dacd75", checked := Try.checked }
namespace Rows
def none {H : Type} : Left H := { results := [], args := [] }

/-- 'laws.FnExactMachineOk': WHATEVER THE INPUT: true; the input reads as it did. -/
def fnExactMachineOkSpec : ChangeSpec := { name := "fnExactMachineOk", fn := fun _ => fun
  | [d] => { results := [.lit (.bool true)], args := [d] }
  | _ => none }
def fnExactMachineOkRow : OpenClaim := { program := "ytimdoghlnegpgaa", sum := "0ad6ce0cb188ddb7161313d0ab49e9cf3c591a1915ac19b1a89d285d56dacd75", func := "loop.example/g00132/laws.FnExactMachineOk", spec := "fnExactMachineOk", apart := false }
def FnExactMachineOkSaid : Prop := fnExactMachineOkRow.holds Try.pinned (OpenSpec.ofChange fnExactMachineOkSpec)

/-- ITS FALSE NEIGHBOUR: 'it returns false'. Refute it at one input. -/
def fnExactMachineOkWrong : ChangeSpec := { name := "fnExactMachineOk", fn := fun _ => fun
  | [d] => { results := [.lit (.bool false)], args := [d] }
  | _ => none }
def FnExactMachineOkWrongFalsely : Prop := fnExactMachineOkRow.holds Try.pinned (OpenSpec.ofChange fnExactMachineOkWrong)

/-- 'laws.FnExactPlain': WHATEVER THE INPUT: true; the input reads as it did. -/
def fnExactPlainSpec : ChangeSpec := { name := "fnExactPlain", fn := fun _ => fun
  | [d] => { results := [.lit (.bool true)], args := [d] }
  | _ => none }
def fnExactPlainRow : OpenClaim := { program := "ytimdoghlnegpgaa", sum := "0ad6ce0cb188ddb7161313d0ab49e9cf3c591a1915ac19b1a89d285d56dacd75", func := "loop.example/g00132/laws.FnExactPlain", spec := "fnExactPlain", unfollowed := true, recurses := true, apart := false }
def FnExactPlainSaid : Prop := fnExactPlainRow.holds Try.pinned (OpenSpec.ofChange fnExactPlainSpec)

/-- ITS FALSE NEIGHBOUR: 'it returns false'. Refute it at one input. -/
def fnExactPlainWrong : ChangeSpec := { name := "fnExactPlain", fn := fun _ => fun
  | [d] => { results := [.lit (.bool false)], args := [d] }
  | _ => none }
def FnExactPlainWrongFalsely : Prop := fnExactPlainRow.holds Try.pinned (OpenSpec.ofChange fnExactPlainWrong)

/-- 'laws.FnExactNestOf': WHATEVER THE INPUT: true; the input reads as it did. -/
def fnExactNestOfSpec : ChangeSpec := { name := "fnExactNestOf", fn := fun _ => fun
  | [d] => { results := [.lit (.bool true)], args := [d] }
  | _ => none }
def fnExactNestOfRow : OpenClaim := { program := "ytimdoghlnegpgaa", sum := "0ad6ce0cb188ddb7161313d0ab49e9cf3c591a1915ac19b1a89d285d56dacd75", func := "loop.example/g00132/laws.FnExactNestOf", spec := "fnExactNestOf", apart := false }
def FnExactNestOfSaid : Prop := fnExactNestOfRow.holds Try.pinned (OpenSpec.ofChange fnExactNestOfSpec)

/-- ITS FALSE NEIGHBOUR: 'it returns false'. Refute it at one input. -/
def fnExactNestOfWrong : ChangeSpec := { name := "fnExactNestOf", fn := fun _ => fun
  | [d] => { results := [.lit (.bool false)], args := [d] }
  | _ => none }
def FnExactNestOfWrongFalsely : Prop := fnExactNestOfRow.holds Try.pinned (OpenSpec.ofChange fnExactNestOfWrong)

/-- 'laws.FnExactStatements': WHATEVER THE INPUT: true; the input reads as it did. -/
def fnExactStatementsSpec : ChangeSpec := { name := "fnExactStatements", fn := fun _ => fun
  | [d] => { results := [.lit (.bool true)], args := [d] }
  | _ => none }
def fnExactStatementsRow : OpenClaim := { program := "ytimdoghlnegpgaa", sum := "0ad6ce0cb188ddb7161313d0ab49e9cf3c591a1915ac19b1a89d285d56dacd75", func := "loop.example/g00132/laws.FnExactStatements", spec := "fnExactStatements", apart := false }
def FnExactStatementsSaid : Prop := fnExactStatementsRow.holds Try.pinned (OpenSpec.ofChange fnExactStatementsSpec)

/-- ITS FALSE NEIGHBOUR: 'it returns false'. Refute it at one input. -/
def fnExactStatementsWrong : ChangeSpec := { name := "fnExactStatements", fn := fun _ => fun
  | [d] => { results := [.lit (.bool false)], args := [d] }
  | _ => none }
def FnExactStatementsWrongFalsely : Prop := fnExactStatementsRow.holds Try.pinned (OpenSpec.ofChange fnExactStatementsWrong)

/-- 'laws.FnExactLinesOf': WHATEVER THE INPUT: true; the input reads as it did. -/
def fnExactLinesOfSpec : ChangeSpec := { name := "fnExactLinesOf", fn := fun _ => fun
  | [d] => { results := [.lit (.bool true)], args := [d] }
  | _ => none }
def fnExactLinesOfRow : OpenClaim := { program := "ytimdoghlnegpgaa", sum := "0ad6ce0cb188ddb7161313d0ab49e9cf3c591a1915ac19b1a89d285d56dacd75", func := "loop.example/g00132/laws.FnExactLinesOf", spec := "fnExactLinesOf", apart := false }
def FnExactLinesOfSaid : Prop := fnExactLinesOfRow.holds Try.pinned (OpenSpec.ofChange fnExactLinesOfSpec)

/-- ITS FALSE NEIGHBOUR: 'it returns false'. Refute it at one input. -/
def fnExactLinesOfWrong : ChangeSpec := { name := "fnExactLinesOf", fn := fun _ => fun
  | [d] => { results := [.lit (.bool false)], args := [d] }
  | _ => none }
def FnExactLinesOfWrongFalsely : Prop := fnExactLinesOfRow.holds Try.pinned (OpenSpec.ofChange fnExactLinesOfWrong)

/-- 'laws.FnExactRunMachine': WHATEVER THE INPUT: true; the input reads as it did. -/
def fnExactRunMachineSpec : ChangeSpec := { name := "fnExactRunMachine", fn := fun _ => fun
  | [d1, d2, d3, d4] => { results := [.lit (.bool true)], args := [d1, d2, d3, d4] }
  | _ => none }
def fnExactRunMachineRow : OpenClaim := { program := "ytimdoghlnegpgaa", sum := "0ad6ce0cb188ddb7161313d0ab49e9cf3c591a1915ac19b1a89d285d56dacd75", func := "loop.example/g00132/laws.FnExactRunMachine", spec := "fnExactRunMachine", apart := false }
def FnExactRunMachineSaid : Prop := fnExactRunMachineRow.holds Try.pinned (OpenSpec.ofChange fnExactRunMachineSpec)

/-- ITS FALSE NEIGHBOUR: 'it returns false'. Refute it at one input. -/
def fnExactRunMachineWrong : ChangeSpec := { name := "fnExactRunMachine", fn := fun _ => fun
  | [d1, d2, d3, d4] => { results := [.lit (.bool false)], args := [d1, d2, d3, d4] }
  | _ => none }
def FnExactRunMachineWrongFalsely : Prop := fnExactRunMachineRow.holds Try.pinned (OpenSpec.ofChange fnExactRunMachineWrong)

/-- 'laws.FnExactCodeOk': WHATEVER THE INPUT: true; the input reads as it did. -/
def fnExactCodeOkSpec : ChangeSpec := { name := "fnExactCodeOk", fn := fun _ => fun
  | [d] => { results := [.lit (.bool true)], args := [d] }
  | _ => none }
def fnExactCodeOkRow : OpenClaim := { program := "ytimdoghlnegpgaa", sum := "0ad6ce0cb188ddb7161313d0ab49e9cf3c591a1915ac19b1a89d285d56dacd75", func := "loop.example/g00132/laws.FnExactCodeOk", spec := "fnExactCodeOk", unfollowed := true, recurses := true, apart := false }
def FnExactCodeOkSaid : Prop := fnExactCodeOkRow.holds Try.pinned (OpenSpec.ofChange fnExactCodeOkSpec)

/-- ITS FALSE NEIGHBOUR: 'it returns false'. Refute it at one input. -/
def fnExactCodeOkWrong : ChangeSpec := { name := "fnExactCodeOk", fn := fun _ => fun
  | [d] => { results := [.lit (.bool false)], args := [d] }
  | _ => none }
def FnExactCodeOkWrongFalsely : Prop := fnExactCodeOkRow.holds Try.pinned (OpenSpec.ofChange fnExactCodeOkWrong)

/-- 'laws.FnExactSemicolons': WHATEVER THE INPUT: true; the input reads as it did. -/
def fnExactSemicolonsSpec : ChangeSpec := { name := "fnExactSemicolons", fn := fun _ => fun
  | [d1, d2] => { results := [.lit (.bool true)], args := [d1, d2] }
  | _ => none }
def fnExactSemicolonsRow : OpenClaim := { program := "ytimdoghlnegpgaa", sum := "0ad6ce0cb188ddb7161313d0ab49e9cf3c591a1915ac19b1a89d285d56dacd75", func := "loop.example/g00132/laws.FnExactSemicolons", spec := "fnExactSemicolons", apart := false }
def FnExactSemicolonsSaid : Prop := fnExactSemicolonsRow.holds Try.pinned (OpenSpec.ofChange fnExactSemicolonsSpec)

/-- ITS FALSE NEIGHBOUR: 'it returns false'. Refute it at one input. -/
def fnExactSemicolonsWrong : ChangeSpec := { name := "fnExactSemicolons", fn := fun _ => fun
  | [d1, d2] => { results := [.lit (.bool false)], args := [d1, d2] }
  | _ => none }
def FnExactSemicolonsWrongFalsely : Prop := fnExactSemicolonsRow.holds Try.pinned (OpenSpec.ofChange fnExactSemicolonsWrong)

/-- 'laws.FnExactRunCode': WHATEVER THE INPUT: true; the input reads as it did. -/
def fnExactRunCodeSpec : ChangeSpec := { name := "fnExactRunCode", fn := fun _ => fun
  | [d1, d2, d3] => { results := [.lit (.bool true)], args := [d1, d2, d3] }
  | _ => none }
def fnExactRunCodeRow : OpenClaim := { program := "ytimdoghlnegpgaa", sum := "0ad6ce0cb188ddb7161313d0ab49e9cf3c591a1915ac19b1a89d285d56dacd75", func := "loop.example/g00132/laws.FnExactRunCode", spec := "fnExactRunCode", unfollowed := true, recurses := true, apart := false }
def FnExactRunCodeSaid : Prop := fnExactRunCodeRow.holds Try.pinned (OpenSpec.ofChange fnExactRunCodeSpec)

/-- ITS FALSE NEIGHBOUR: 'it returns false'. Refute it at one input. -/
def fnExactRunCodeWrong : ChangeSpec := { name := "fnExactRunCode", fn := fun _ => fun
  | [d1, d2, d3] => { results := [.lit (.bool false)], args := [d1, d2, d3] }
  | _ => none }
def FnExactRunCodeWrongFalsely : Prop := fnExactRunCodeRow.holds Try.pinned (OpenSpec.ofChange fnExactRunCodeWrong)

/-- 'laws.FnNested': WHATEVER THE INPUT: true; the input reads as it did. -/
def fnNestedSpec : ChangeSpec := { name := "fnNested", fn := fun _ => fun
  | [d] => { results := [.lit (.bool true)], args := [d] }
  | _ => none }
def fnNestedRow : OpenClaim := { program := "ytimdoghlnegpgaa", sum := "0ad6ce0cb188ddb7161313d0ab49e9cf3c591a1915ac19b1a89d285d56dacd75", func := "loop.example/g00132/laws.FnNested", spec := "fnNested", apart := false }
def FnNestedSaid : Prop := fnNestedRow.holds Try.pinned (OpenSpec.ofChange fnNestedSpec)

/-- ITS FALSE NEIGHBOUR: 'it returns false'. Refute it at one input. -/
def fnNestedWrong : ChangeSpec := { name := "fnNested", fn := fun _ => fun
  | [d] => { results := [.lit (.bool false)], args := [d] }
  | _ => none }
def FnNestedWrongFalsely : Prop := fnNestedRow.holds Try.pinned (OpenSpec.ofChange fnNestedWrong)

/-- 'laws.FnStatements': WHATEVER THE INPUT: true; the input reads as it did. -/
def fnStatementsSpec : ChangeSpec := { name := "fnStatements", fn := fun _ => fun
  | [d] => { results := [.lit (.bool true)], args := [d] }
  | _ => none }
def fnStatementsRow : OpenClaim := { program := "ytimdoghlnegpgaa", sum := "0ad6ce0cb188ddb7161313d0ab49e9cf3c591a1915ac19b1a89d285d56dacd75", func := "loop.example/g00132/laws.FnStatements", spec := "fnStatements", unfollowed := true, recurses := true, apart := false }
def FnStatementsSaid : Prop := fnStatementsRow.holds Try.pinned (OpenSpec.ofChange fnStatementsSpec)

/-- ITS FALSE NEIGHBOUR: 'it returns false'. Refute it at one input. -/
def fnStatementsWrong : ChangeSpec := { name := "fnStatements", fn := fun _ => fun
  | [d] => { results := [.lit (.bool false)], args := [d] }
  | _ => none }
def FnStatementsWrongFalsely : Prop := fnStatementsRow.holds Try.pinned (OpenSpec.ofChange fnStatementsWrong)

/-- 'laws.FnExactCompile': WHATEVER THE INPUT: true; the input reads as it did. -/
def fnExactCompileSpec : ChangeSpec := { name := "fnExactCompile", fn := fun _ => fun
  | [d] => { results := [.lit (.bool true)], args := [d] }
  | _ => none }
def fnExactCompileRow : OpenClaim := { program := "ytimdoghlnegpgaa", sum := "0ad6ce0cb188ddb7161313d0ab49e9cf3c591a1915ac19b1a89d285d56dacd75", func := "loop.example/g00132/laws.FnExactCompile", spec := "fnExactCompile", unfollowed := true, recurses := true, apart := false }
def FnExactCompileSaid : Prop := fnExactCompileRow.holds Try.pinned (OpenSpec.ofChange fnExactCompileSpec)

/-- ITS FALSE NEIGHBOUR: 'it returns false'. Refute it at one input. -/
def fnExactCompileWrong : ChangeSpec := { name := "fnExactCompile", fn := fun _ => fun
  | [d] => { results := [.lit (.bool false)], args := [d] }
  | _ => none }
def FnExactCompileWrongFalsely : Prop := fnExactCompileRow.holds Try.pinned (OpenSpec.ofChange fnExactCompileWrong)

/- THE SECOND FORM. 'bulk': how many values and letters a reading holds, each counted each time it is reached (what is shared counts as often as it is met; a slice's spare places count too). A statement '..UptoSaid' is the law's where the arguments, and the package variables that the reading takes, are together of bulk at most 1048576: NARROWER than '..Said'. Prove '..Said' where nothing that the law and all that it calls make is longer than what came in: it says more and counts as full. Else prove '..UptoSaid'. A law counts once. -/
mutual
def uptoBulk {H : Type} : DataW H → Nat
  | .lit (.string bytes) => bytes.length + 1
  | .lit _ => 1
  | .nil => 1
  | .ptr d => uptoBulk d + 1
  | .slice elems spare => uptoBulkAll elems + uptoBulkAll spare + 1
  | .agg parts => uptoBulkAll parts + 1
  | .iface _ d => uptoBulk d + 1
  | .map entries => uptoBulkEntries entries + 1
  | .held _ => 1
def uptoBulkAll {H : Type} : List (DataW H) → Nat
  | [] => 0
  | d :: r => uptoBulk d + uptoBulkAll r
def uptoBulkEntries {H : Type} : List (Lit × DataW H) → Nat
  | [] => 0
  | x :: r => uptoBulkEntry x + uptoBulkEntries r
def uptoBulkEntry {H : Type} : Lit × DataW H → Nat
  | (.string bytes, d) => bytes.length + uptoBulk d + 1
  | (_, d) => uptoBulk d + 1
 end
def uptoSmall : (H : Type) → List (DataW H) → Bool := fun _ ds => decide (uptoBulkAll ds ≤ 1048576)
def OpenSpec.upto (s : _root_.Go.ChangeSpec) : _root_.Go.OpenSpec := { _root_.Go.OpenSpec.ofChange s with cond := some uptoSmall }

/-- 'laws.FnExactMachineOk', WHERE WHAT IT READS IS OF BULK AT MOST 1048576: true; the input reads as it did. -/
def fnExactMachineOkUptoRow : OpenClaim := { program := "ytimdoghlnegpgaa", sum := "0ad6ce0cb188ddb7161313d0ab49e9cf3c591a1915ac19b1a89d285d56dacd75", func := "loop.example/g00132/laws.FnExactMachineOk", spec := "fnExactMachineOk", apart := false, narrowed := true }
def FnExactMachineOkUptoSaid : Prop := fnExactMachineOkUptoRow.holds Try.pinned (OpenSpec.upto fnExactMachineOkSpec)

/-- 'laws.FnExactPlain', WHERE WHAT IT READS IS OF BULK AT MOST 1048576: true; the input reads as it did. -/
def fnExactPlainUptoRow : OpenClaim := { program := "ytimdoghlnegpgaa", sum := "0ad6ce0cb188ddb7161313d0ab49e9cf3c591a1915ac19b1a89d285d56dacd75", func := "loop.example/g00132/laws.FnExactPlain", spec := "fnExactPlain", unfollowed := true, recurses := true, apart := false, narrowed := true }
def FnExactPlainUptoSaid : Prop := fnExactPlainUptoRow.holds Try.pinned (OpenSpec.upto fnExactPlainSpec)

/-- 'laws.FnExactNestOf', WHERE WHAT IT READS IS OF BULK AT MOST 1048576: true; the input reads as it did. -/
def fnExactNestOfUptoRow : OpenClaim := { program := "ytimdoghlnegpgaa", sum := "0ad6ce0cb188ddb7161313d0ab49e9cf3c591a1915ac19b1a89d285d56dacd75", func := "loop.example/g00132/laws.FnExactNestOf", spec := "fnExactNestOf", apart := false, narrowed := true }
def FnExactNestOfUptoSaid : Prop := fnExactNestOfUptoRow.holds Try.pinned (OpenSpec.upto fnExactNestOfSpec)

/-- 'laws.FnExactStatements', WHERE WHAT IT READS IS OF BULK AT MOST 1048576: true; the input reads as it did. -/
def fnExactStatementsUptoRow : OpenClaim := { program := "ytimdoghlnegpgaa", sum := "0ad6ce0cb188ddb7161313d0ab49e9cf3c591a1915ac19b1a89d285d56dacd75", func := "loop.example/g00132/laws.FnExactStatements", spec := "fnExactStatements", apart := false, narrowed := true }
def FnExactStatementsUptoSaid : Prop := fnExactStatementsUptoRow.holds Try.pinned (OpenSpec.upto fnExactStatementsSpec)

/-- 'laws.FnExactLinesOf', WHERE WHAT IT READS IS OF BULK AT MOST 1048576: true; the input reads as it did. -/
def fnExactLinesOfUptoRow : OpenClaim := { program := "ytimdoghlnegpgaa", sum := "0ad6ce0cb188ddb7161313d0ab49e9cf3c591a1915ac19b1a89d285d56dacd75", func := "loop.example/g00132/laws.FnExactLinesOf", spec := "fnExactLinesOf", apart := false, narrowed := true }
def FnExactLinesOfUptoSaid : Prop := fnExactLinesOfUptoRow.holds Try.pinned (OpenSpec.upto fnExactLinesOfSpec)

/-- 'laws.FnExactRunMachine', WHERE WHAT IT READS IS OF BULK AT MOST 1048576: true; the input reads as it did. -/
def fnExactRunMachineUptoRow : OpenClaim := { program := "ytimdoghlnegpgaa", sum := "0ad6ce0cb188ddb7161313d0ab49e9cf3c591a1915ac19b1a89d285d56dacd75", func := "loop.example/g00132/laws.FnExactRunMachine", spec := "fnExactRunMachine", apart := false, narrowed := true }
def FnExactRunMachineUptoSaid : Prop := fnExactRunMachineUptoRow.holds Try.pinned (OpenSpec.upto fnExactRunMachineSpec)

/-- 'laws.FnExactCodeOk', WHERE WHAT IT READS IS OF BULK AT MOST 1048576: true; the input reads as it did. -/
def fnExactCodeOkUptoRow : OpenClaim := { program := "ytimdoghlnegpgaa", sum := "0ad6ce0cb188ddb7161313d0ab49e9cf3c591a1915ac19b1a89d285d56dacd75", func := "loop.example/g00132/laws.FnExactCodeOk", spec := "fnExactCodeOk", unfollowed := true, recurses := true, apart := false, narrowed := true }
def FnExactCodeOkUptoSaid : Prop := fnExactCodeOkUptoRow.holds Try.pinned (OpenSpec.upto fnExactCodeOkSpec)

/-- 'laws.FnExactSemicolons', WHERE WHAT IT READS IS OF BULK AT MOST 1048576: true; the input reads as it did. -/
def fnExactSemicolonsUptoRow : OpenClaim := { program := "ytimdoghlnegpgaa", sum := "0ad6ce0cb188ddb7161313d0ab49e9cf3c591a1915ac19b1a89d285d56dacd75", func := "loop.example/g00132/laws.FnExactSemicolons", spec := "fnExactSemicolons", apart := false, narrowed := true }
def FnExactSemicolonsUptoSaid : Prop := fnExactSemicolonsUptoRow.holds Try.pinned (OpenSpec.upto fnExactSemicolonsSpec)

/-- 'laws.FnExactRunCode', WHERE WHAT IT READS IS OF BULK AT MOST 1048576: true; the input reads as it did. -/
def fnExactRunCodeUptoRow : OpenClaim := { program := "ytimdoghlnegpgaa", sum := "0ad6ce0cb188ddb7161313d0ab49e9cf3c591a1915ac19b1a89d285d56dacd75", func := "loop.example/g00132/laws.FnExactRunCode", spec := "fnExactRunCode", unfollowed := true, recurses := true, apart := false, narrowed := true }
def FnExactRunCodeUptoSaid : Prop := fnExactRunCodeUptoRow.holds Try.pinned (OpenSpec.upto fnExactRunCodeSpec)

/-- 'laws.FnNested', WHERE WHAT IT READS IS OF BULK AT MOST 1048576: true; the input reads as it did. -/
def fnNestedUptoRow : OpenClaim := { program := "ytimdoghlnegpgaa", sum := "0ad6ce0cb188ddb7161313d0ab49e9cf3c591a1915ac19b1a89d285d56dacd75", func := "loop.example/g00132/laws.FnNested", spec := "fnNested", apart := false, narrowed := true }
def FnNestedUptoSaid : Prop := fnNestedUptoRow.holds Try.pinned (OpenSpec.upto fnNestedSpec)

/-- 'laws.FnStatements', WHERE WHAT IT READS IS OF BULK AT MOST 1048576: true; the input reads as it did. -/
def fnStatementsUptoRow : OpenClaim := { program := "ytimdoghlnegpgaa", sum := "0ad6ce0cb188ddb7161313d0ab49e9cf3c591a1915ac19b1a89d285d56dacd75", func := "loop.example/g00132/laws.FnStatements", spec := "fnStatements", unfollowed := true, recurses := true, apart := false, narrowed := true }
def FnStatementsUptoSaid : Prop := fnStatementsUptoRow.holds Try.pinned (OpenSpec.upto fnStatementsSpec)

/-- 'laws.FnExactCompile', WHERE WHAT IT READS IS OF BULK AT MOST 1048576: true; the input reads as it did. -/
def fnExactCompileUptoRow : OpenClaim := { program := "ytimdoghlnegpgaa", sum := "0ad6ce0cb188ddb7161313d0ab49e9cf3c591a1915ac19b1a89d285d56dacd75", func := "loop.example/g00132/laws.FnExactCompile", spec := "fnExactCompile", unfollowed := true, recurses := true, apart := false, narrowed := true }
def FnExactCompileUptoSaid : Prop := fnExactCompileUptoRow.holds Try.pinned (OpenSpec.upto fnExactCompileSpec)

end Rows
end Go.Proofs.Ytimdoghlnegpgaa
