/-
  No cell of these rows narrows 'for every input' (looked for: loops, veiled, ifaces, maps, wideKeys, modest, calm, conditions, laid).
  DERIVED. THE GIVEN ROWS OF THIS SEAT. 5 by the template 'for every input the law returns true; each argument reads behind the call as it read before'; 0 by the template 'total and deterministic' (their statements: YtlecpdpdcocibaaTotals.lean).
  GIVEN WITH THE SEED: the statements are not yours to turn. If you find one false, say at which input.
  Laid BY PROGRAM, IN A SANDBOX (cutbox-rows.mjs): the forced cells as the released guide's own fill.sh prints them over the translation 52f55da7234cb089… (all of the seat's roots in one cut). By AI agents, Wed Nov 11 2026. No macro, syntax, notation, axiom, sorry.
-/
import Derived.Test.YtlecpdpdcocibaaChecked
import GoSem.Claim
import GoSem.ClaimJoined
import GoSem.ClaimMapViews
import Derived.JoinedTies
import Derived.KernelRfl
namespace Go.Proofs.Ytlecpdpdcocibaa
/- THE CELL 'sum', in the pinned program and in every row, IS THE sha256 OF THE DUMP (.gsa) THAT YtlecpdpdcocibaaProg.lean LOADS. Nothing in Lean hashes anything: it is a label: what it is worth is what the hold of that sum in a sandbox is worth. -/
noncomputable def Try.pinned : Pinned := { name := "ytlecpdpdcocibaa", sum := "52f55da7234cb0897375991dcb38878fe6122b79e94efaf9cac70625ee72f869", checked := Try.checked }
namespace Rows
def none {H : Type} : Left H := { results := [], args := [] }

/-- 'laws.FnExactGenCode': WHATEVER THE INPUT: true; the input reads as it did. -/
def fnExactGenCodeSpec : ChangeSpec := { name := "fnExactGenCode", fn := fun _ => fun
  | [d] => { results := [.lit (.bool true)], args := [d] }
  | _ => none }
def fnExactGenCodeRow : OpenClaim := { program := "ytlecpdpdcocibaa", sum := "52f55da7234cb0897375991dcb38878fe6122b79e94efaf9cac70625ee72f869", func := "loop.example/g00132/laws.FnExactGenCode", spec := "fnExactGenCode", unfollowed := true, recurses := true, apart := false }
def FnExactGenCodeSaid : Prop := fnExactGenCodeRow.holds Try.pinned (OpenSpec.ofChange fnExactGenCodeSpec)

/-- ITS FALSE NEIGHBOUR: 'it returns false'. Refute it at one input. -/
def fnExactGenCodeWrong : ChangeSpec := { name := "fnExactGenCode", fn := fun _ => fun
  | [d] => { results := [.lit (.bool false)], args := [d] }
  | _ => none }
def FnExactGenCodeWrongFalsely : Prop := fnExactGenCodeRow.holds Try.pinned (OpenSpec.ofChange fnExactGenCodeWrong)

/-- 'laws.FnCodeMeans': WHATEVER THE INPUT: true; the input reads as it did. -/
def fnCodeMeansSpec : ChangeSpec := { name := "fnCodeMeans", fn := fun _ => fun
  | [d] => { results := [.lit (.bool true)], args := [d] }
  | _ => none }
def fnCodeMeansRow : OpenClaim := { program := "ytlecpdpdcocibaa", sum := "52f55da7234cb0897375991dcb38878fe6122b79e94efaf9cac70625ee72f869", func := "loop.example/g00132/laws.FnCodeMeans", spec := "fnCodeMeans", unfollowed := true, recurses := true, apart := false }
def FnCodeMeansSaid : Prop := fnCodeMeansRow.holds Try.pinned (OpenSpec.ofChange fnCodeMeansSpec)

/-- ITS FALSE NEIGHBOUR: 'it returns false'. Refute it at one input. -/
def fnCodeMeansWrong : ChangeSpec := { name := "fnCodeMeans", fn := fun _ => fun
  | [d] => { results := [.lit (.bool false)], args := [d] }
  | _ => none }
def FnCodeMeansWrongFalsely : Prop := fnCodeMeansRow.holds Try.pinned (OpenSpec.ofChange fnCodeMeansWrong)

/-- 'laws.FnFuel': WHATEVER THE INPUT: true; the input reads as it did. -/
def fnFuelSpec : ChangeSpec := { name := "fnFuel", fn := fun _ => fun
  | [d] => { results := [.lit (.bool true)], args := [d] }
  | _ => none }
def fnFuelRow : OpenClaim := { program := "ytlecpdpdcocibaa", sum := "52f55da7234cb0897375991dcb38878fe6122b79e94efaf9cac70625ee72f869", func := "loop.example/g00132/laws.FnFuel", spec := "fnFuel", recurses := true, apart := false }
def FnFuelSaid : Prop := fnFuelRow.holds Try.pinned (OpenSpec.ofChange fnFuelSpec)

/-- ITS FALSE NEIGHBOUR: 'it returns false'. Refute it at one input. -/
def fnFuelWrong : ChangeSpec := { name := "fnFuel", fn := fun _ => fun
  | [d] => { results := [.lit (.bool false)], args := [d] }
  | _ => none }
def FnFuelWrongFalsely : Prop := fnFuelRow.holds Try.pinned (OpenSpec.ofChange fnFuelWrong)

/-- 'laws.FnMachineMeans': WHATEVER THE INPUT: true; the input reads as it did. -/
def fnMachineMeansSpec : ChangeSpec := { name := "fnMachineMeans", fn := fun _ => fun
  | [d] => { results := [.lit (.bool true)], args := [d] }
  | _ => none }
def fnMachineMeansRow : OpenClaim := { program := "ytlecpdpdcocibaa", sum := "52f55da7234cb0897375991dcb38878fe6122b79e94efaf9cac70625ee72f869", func := "loop.example/g00132/laws.FnMachineMeans", spec := "fnMachineMeans", unfollowed := true, recurses := true, apart := false }
def FnMachineMeansSaid : Prop := fnMachineMeansRow.holds Try.pinned (OpenSpec.ofChange fnMachineMeansSpec)

/-- ITS FALSE NEIGHBOUR: 'it returns false'. Refute it at one input. -/
def fnMachineMeansWrong : ChangeSpec := { name := "fnMachineMeans", fn := fun _ => fun
  | [d] => { results := [.lit (.bool false)], args := [d] }
  | _ => none }
def FnMachineMeansWrongFalsely : Prop := fnMachineMeansRow.holds Try.pinned (OpenSpec.ofChange fnMachineMeansWrong)

/-- 'laws.FnDfaMeans': WHATEVER THE INPUT: true; the input reads as it did. -/
def fnDfaMeansSpec : ChangeSpec := { name := "fnDfaMeans", fn := fun _ => fun
  | [d1, d2] => { results := [.lit (.bool true)], args := [d1, d2] }
  | _ => none }
def fnDfaMeansRow : OpenClaim := { program := "ytlecpdpdcocibaa", sum := "52f55da7234cb0897375991dcb38878fe6122b79e94efaf9cac70625ee72f869", func := "loop.example/g00132/laws.FnDfaMeans", spec := "fnDfaMeans", unfollowed := true, recurses := true, apart := false }
def FnDfaMeansSaid : Prop := fnDfaMeansRow.holds Try.pinned (OpenSpec.ofChange fnDfaMeansSpec)

/-- ITS FALSE NEIGHBOUR: 'it returns false'. Refute it at one input. -/
def fnDfaMeansWrong : ChangeSpec := { name := "fnDfaMeans", fn := fun _ => fun
  | [d1, d2] => { results := [.lit (.bool false)], args := [d1, d2] }
  | _ => none }
def FnDfaMeansWrongFalsely : Prop := fnDfaMeansRow.holds Try.pinned (OpenSpec.ofChange fnDfaMeansWrong)

/- THE SECOND FORM. 'bulk': how many values and letters a reading holds, each counted each time it is reached (what is shared counts as often as it is met; a slice's spare places count too). A statement '..UptoSaid' is the law's where the arguments, and the package variables that the reading takes, are together of bulk at most 1048576: NARROWER than '..Said'. Prove '..Said' where nothing that the law and all that it calls make is longer than what came in: it says more and counts as full. Else prove '..UptoSaid'. A law counts once. -/
mutual
def uptoBulk {H : Type} : DataW H → Nat
  | .lit (.string bytes) => bytes.length + 1
  | .lit _ => 1
  | .nil => 1
  | .ptr d => uptoBulk d + 1
  | .slice elems spare => uptoBulkAll elems + uptoBulkAll spare + 1
  | .agg parts => uptoBulkAll parts + 1
  | .iface _ d => uptoBulk d + 1
  | .map entries => uptoBulkEntries entries + 1
  | .held _ => 1
def uptoBulkAll {H : Type} : List (DataW H) → Nat
  | [] => 0
  | d :: r => uptoBulk d + uptoBulkAll r
def uptoBulkEntries {H : Type} : List (Lit × DataW H) → Nat
  | [] => 0
  | x :: r => uptoBulkEntry x + uptoBulkEntries r
def uptoBulkEntry {H : Type} : Lit × DataW H → Nat
  | (.string bytes, d) => bytes.length + uptoBulk d + 1
  | (_, d) => uptoBulk d + 1
 end
def uptoSmall : (H : Type) → List (DataW H) → Bool := fun _ ds => decide (uptoBulkAll ds ≤ 1048576)
def OpenSpec.upto (s : _root_.Go.ChangeSpec) : _root_.Go.OpenSpec := { _root_.Go.OpenSpec.ofChange s with cond := some uptoSmall }

/-- 'laws.FnExactGenCode', WHERE WHAT IT READS IS OF BULK AT MOST 1048576: true; the input reads as it did. -/
def fnExactGenCodeUptoRow : OpenClaim := { program := "ytlecpdpdcocibaa", sum := "52f55da7234cb0897375991dcb38878fe6122b79e94efaf9cac70625ee72f869", func := "loop.example/g00132/laws.FnExactGenCode", spec := "fnExactGenCode", unfollowed := true, recurses := true, apart := false, narrowed := true }
def FnExactGenCodeUptoSaid : Prop := fnExactGenCodeUptoRow.holds Try.pinned (OpenSpec.upto fnExactGenCodeSpec)

/-- 'laws.FnCodeMeans', WHERE WHAT IT READS IS OF BULK AT MOST 1048576: true; the input reads as it did. -/
def fnCodeMeansUptoRow : OpenClaim := { program := "ytlecpdpdcocibaa", sum := "52f55da7234cb0897375991dcb38878fe6122b79e94efaf9cac70625ee72f869", func := "loop.example/g00132/laws.FnCodeMeans", spec := "fnCodeMeans", unfollowed := true, recurses := true, apart := false, narrowed := true }
def FnCodeMeansUptoSaid : Prop := fnCodeMeansUptoRow.holds Try.pinned (OpenSpec.upto fnCodeMeansSpec)

/-- 'laws.FnFuel', WHERE WHAT IT READS IS OF BULK AT MOST 1048576: true; the input reads as it did. -/
def fnFuelUptoRow : OpenClaim := { program := "ytlecpdpdcocibaa", sum := "52f55da7234cb0897375991dcb38878fe6122b79e94efaf9cac70625ee72f869", func := "loop.example/g00132/laws.FnFuel", spec := "fnFuel", recurses := true, apart := false, narrowed := true }
def FnFuelUptoSaid : Prop := fnFuelUptoRow.holds Try.pinned (OpenSpec.upto fnFuelSpec)

/-- 'laws.FnMachineMeans', WHERE WHAT IT READS IS OF BULK AT MOST 1048576: true; the input reads as it did. -/
def fnMachineMeansUptoRow : OpenClaim := { program := "ytlecpdpdcocibaa", sum := "52f55da7234cb0897375991dcb38878fe6122b79e94efaf9cac70625ee72f869", func := "loop.example/g00132/laws.FnMachineMeans", spec := "fnMachineMeans", unfollowed := true, recurses := true, apart := false, narrowed := true }
def FnMachineMeansUptoSaid : Prop := fnMachineMeansUptoRow.holds Try.pinned (OpenSpec.upto fnMachineMeansSpec)

/-- 'laws.FnDfaMeans', WHERE WHAT IT READS IS OF BULK AT MOST 1048576: true; the input reads as it did. -/
def fnDfaMeansUptoRow : OpenClaim := { program := "ytlecpdpdcocibaa", sum := "52f55da7234cb0897375991dcb38878fe6122b79e94efaf9cac70625ee72f869", func := "loop.example/g00132/laws.FnDfaMeans", spec := "fnDfaMeans", unfollowed := true, recurses := true, apart := false, narrowed := true }
def FnDfaMeansUptoSaid : Prop := fnDfaMeansUptoRow.holds Try.pinned (OpenSpec.upto fnDfaMeansSpec)

end Rows
end Go.Proofs.Ytlecpdpdcocibaa
