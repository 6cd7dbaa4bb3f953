/-
  DERIVED. GIVEN WITH THE SEED: THE CARDS: each row of YtlecpdpdcocibaaDoorRows.lean that lists a variable, with what it lists TIED to the program's text (the seventh form; the later family's looks); each row that meets fmt, with fmt's text TOLD by the authors' own Lean function (tested against real Go, not proved from fmt's source: count such statements apart). THE CARD IS WHAT COUNTS. Prove the row's statement (the work); the ties are given (YtlecpdpdcocibaaDoorTie.lean); close each card by the builder's one call (the guide's Derived/Test/ToyasCard.lean, 'card_holds'). Laid BY PROGRAM, IN A SANDBOX (cutbox-door.mjs). By AI agents, Wed Nov 11 2026. No macro, syntax, notation, axiom, sorry.
-/
import Derived.Test.YtlecpdpdcocibaaDoorRows
import GoSem.ClaimSeven
namespace Go.Proofs.YtlecpdpdcocibaaDoor
namespace Rows

/-- THE TIED CARD OF 'laws.FnExactWriteCode'. -/
def fnExactWriteCodeCard : Claim7 := { stood := { row := fnExactWriteCodeRow, standIns := [], harness := (true, "b2c5617786120ea8007ea3781f6028f28a945e8f1cbbd49eae0c07936bfda610"), looks := false }, kinds := [], alts := [], laidByText := true, laidKinds := [.data, .data, .data], laidTests := true, laidLooks := .later }
def FnExactWriteCodeCardSaid : Prop := Claim7.holds Tryd.pinned (.plain (OpenSpec.ofChange fnExactWriteCodeSpec)) fnExactWriteCodeCard

/-- THE TIED CARD OF 'laws.FnExactMatches'. -/
def fnExactMatchesCard : Claim7 := { stood := { row := fnExactMatchesRow, standIns := [], harness := (true, "b2c5617786120ea8007ea3781f6028f28a945e8f1cbbd49eae0c07936bfda610"), looks := false }, kinds := [], alts := [], laidByText := true, laidKinds := [.data, .data, .data], laidTests := true, laidLooks := .later }
def FnExactMatchesCardSaid : Prop := Claim7.holds Tryd.pinned (.plain (OpenSpec.ofChange fnExactMatchesSpec)) fnExactMatchesCard

/-- THE TIED CARD OF 'laws.FnExactLongest'. -/
def fnExactLongestCard : Claim7 := { stood := { row := fnExactLongestRow, standIns := [], harness := (true, "b2c5617786120ea8007ea3781f6028f28a945e8f1cbbd49eae0c07936bfda610"), looks := false }, kinds := [], alts := [], laidByText := true, laidKinds := [.data, .data, .data], laidTests := true, laidLooks := .later }
def FnExactLongestCardSaid : Prop := Claim7.holds Tryd.pinned (.plain (OpenSpec.ofChange fnExactLongestSpec)) fnExactLongestCard

/-- THE TIED CARD OF 'laws.FnExactEndsAt'. -/
def fnExactEndsAtCard : Claim7 := { stood := { row := fnExactEndsAtRow, standIns := [], harness := (true, "b2c5617786120ea8007ea3781f6028f28a945e8f1cbbd49eae0c07936bfda610"), looks := false }, kinds := [], alts := [], laidByText := true, laidKinds := [.data, .data, .data], laidTests := true, laidLooks := .later }
def FnExactEndsAtCardSaid : Prop := Claim7.holds Tryd.pinned (.plain (OpenSpec.ofChange fnExactEndsAtSpec)) fnExactEndsAtCard

/-- THE TIED CARD OF 'laws.FnFolded'. -/
def fnFoldedCard : Claim7 := { stood := { row := fnFoldedRow, standIns := [], harness := (true, "b2c5617786120ea8007ea3781f6028f28a945e8f1cbbd49eae0c07936bfda610"), looks := false }, kinds := [], alts := [], laidByText := true, laidKinds := [.data, .data, .data], laidTests := true, laidLooks := .later }
def FnFoldedCardSaid : Prop := Claim7.holds Tryd.pinned (.plain (OpenSpec.ofChange fnFoldedSpec)) fnFoldedCard

/-- THE TIED CARD OF 'laws.FnBegins'. -/
def fnBeginsCard : Claim7 := { stood := { row := fnBeginsRow, standIns := [], harness := (true, "b2c5617786120ea8007ea3781f6028f28a945e8f1cbbd49eae0c07936bfda610"), looks := false }, kinds := [], alts := [], laidByText := true, laidKinds := [.data, .data, .data], laidTests := true, laidLooks := .later }
def FnBeginsCardSaid : Prop := Claim7.holds Tryd.pinned (.plain (OpenSpec.ofChange fnBeginsSpec)) fnBeginsCard

/-- THE SECOND FORM's CARD OF 'laws.FnExactWriteCode'. -/
def fnExactWriteCodeUptoCard : Claim7 := { stood := { row := fnExactWriteCodeUptoRow, standIns := [], harness := (true, "b2c5617786120ea8007ea3781f6028f28a945e8f1cbbd49eae0c07936bfda610"), looks := false }, kinds := [], alts := [], laidByText := true, laidKinds := [.data, .data, .data], laidTests := true, laidLooks := .later }
def FnExactWriteCodeUptoCardSaid : Prop := Claim7.holds Tryd.pinned (.plain (OpenSpec.upto fnExactWriteCodeSpec)) fnExactWriteCodeUptoCard

/-- THE SECOND FORM's CARD OF 'laws.FnExactMatches'. -/
def fnExactMatchesUptoCard : Claim7 := { stood := { row := fnExactMatchesUptoRow, standIns := [], harness := (true, "b2c5617786120ea8007ea3781f6028f28a945e8f1cbbd49eae0c07936bfda610"), looks := false }, kinds := [], alts := [], laidByText := true, laidKinds := [.data, .data, .data], laidTests := true, laidLooks := .later }
def FnExactMatchesUptoCardSaid : Prop := Claim7.holds Tryd.pinned (.plain (OpenSpec.upto fnExactMatchesSpec)) fnExactMatchesUptoCard

/-- THE SECOND FORM's CARD OF 'laws.FnExactLongest'. -/
def fnExactLongestUptoCard : Claim7 := { stood := { row := fnExactLongestUptoRow, standIns := [], harness := (true, "b2c5617786120ea8007ea3781f6028f28a945e8f1cbbd49eae0c07936bfda610"), looks := false }, kinds := [], alts := [], laidByText := true, laidKinds := [.data, .data, .data], laidTests := true, laidLooks := .later }
def FnExactLongestUptoCardSaid : Prop := Claim7.holds Tryd.pinned (.plain (OpenSpec.upto fnExactLongestSpec)) fnExactLongestUptoCard

/-- THE SECOND FORM's CARD OF 'laws.FnExactEndsAt'. -/
def fnExactEndsAtUptoCard : Claim7 := { stood := { row := fnExactEndsAtUptoRow, standIns := [], harness := (true, "b2c5617786120ea8007ea3781f6028f28a945e8f1cbbd49eae0c07936bfda610"), looks := false }, kinds := [], alts := [], laidByText := true, laidKinds := [.data, .data, .data], laidTests := true, laidLooks := .later }
def FnExactEndsAtUptoCardSaid : Prop := Claim7.holds Tryd.pinned (.plain (OpenSpec.upto fnExactEndsAtSpec)) fnExactEndsAtUptoCard

/-- THE SECOND FORM's CARD OF 'laws.FnFolded'. -/
def fnFoldedUptoCard : Claim7 := { stood := { row := fnFoldedUptoRow, standIns := [], harness := (true, "b2c5617786120ea8007ea3781f6028f28a945e8f1cbbd49eae0c07936bfda610"), looks := false }, kinds := [], alts := [], laidByText := true, laidKinds := [.data, .data, .data], laidTests := true, laidLooks := .later }
def FnFoldedUptoCardSaid : Prop := Claim7.holds Tryd.pinned (.plain (OpenSpec.upto fnFoldedSpec)) fnFoldedUptoCard

/-- THE SECOND FORM's CARD OF 'laws.FnBegins'. -/
def fnBeginsUptoCard : Claim7 := { stood := { row := fnBeginsUptoRow, standIns := [], harness := (true, "b2c5617786120ea8007ea3781f6028f28a945e8f1cbbd49eae0c07936bfda610"), looks := false }, kinds := [], alts := [], laidByText := true, laidKinds := [.data, .data, .data], laidTests := true, laidLooks := .later }
def FnBeginsUptoCardSaid : Prop := Claim7.holds Tryd.pinned (.plain (OpenSpec.upto fnBeginsSpec)) fnBeginsUptoCard
end Rows
end Go.Proofs.YtlecpdpdcocibaaDoor
