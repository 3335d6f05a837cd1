/-
  DERIVED. GIVEN WITH THE SEED: THE CARDS: each row of YtciiddejfhbncaaGreatDoorRows.lean that lists a variable, with what it lists TIED to the program's text (the seventh form; the later family's looks); each row that meets fmt, with fmt's text TOLD by the authors' own Lean function (tested against real Go, not proved from fmt's source: count such statements apart). THE CARD IS WHAT COUNTS. Prove the row's statement (the work); the ties are given (YtciiddejfhbncaaGreatDoorTie.lean); close each card by the builder's one call (the guide's Derived/Test/ToyasCard.lean, 'card_holds'). Laid BY PROGRAM, IN A SANDBOX (cutbox-door.mjs). By AI agents, Wed Nov 11 2026. No macro, syntax, notation, axiom, sorry.
-/
import Derived.Test.YtciiddejfhbncaaGreatDoorRows
import GoSem.ClaimSeven
namespace Go.Proofs.YtciiddejfhbncaaGreatDoor
namespace Rows

/-- THE TIED CARD OF 'bluelinelaw06.ChainChanges'. -/
def chainChangesCard : Claim7 := { stood := { row := chainChangesRow, standIns := [], harness := (true, "350668f687cef4ce4d196cdf73f180f2e7ca5ae0c549fe7f311a71e6632fdca7"), looks := false }, kinds := [], alts := [], laidByText := true, laidKinds := [.funcs, .funcs, .funcs], laidTests := true, laidLooks := .later }
def ChainChangesCardSaid : Prop := Claim7.holds Tryz.pinned (.plain (OpenSpec.ofChange chainChangesSpec)) chainChangesCard

/-- THE TIED CARD OF 'bluelinelaw06.ChainTrue'. -/
def chainTrueCard : Claim7 := { stood := { row := chainTrueRow, standIns := [], harness := (true, "350668f687cef4ce4d196cdf73f180f2e7ca5ae0c549fe7f311a71e6632fdca7"), looks := false }, kinds := [], alts := [], laidByText := true, laidKinds := [.funcs, .funcs, .funcs], laidTests := true, laidLooks := .later }
def ChainTrueCardSaid : Prop := Claim7.holds Tryz.pinned (.plain (OpenSpec.ofChange chainTrueSpec)) chainTrueCard

/-- THE TIED CARD OF 'bluelinelaw06.ChainNamed'. -/
def chainNamedCard : Claim7 := { stood := { row := chainNamedRow, standIns := [], harness := (true, "350668f687cef4ce4d196cdf73f180f2e7ca5ae0c549fe7f311a71e6632fdca7"), looks := false }, kinds := [], alts := [], laidByText := true, laidKinds := [.funcs, .funcs, .funcs], laidTests := true, laidLooks := .later }
def ChainNamedCardSaid : Prop := Claim7.holds Tryz.pinned (.plain (OpenSpec.ofChange chainNamedSpec)) chainNamedCard

/-- THE TIED CARD OF 'bluelinelaw06.ChainGrade'. -/
def chainGradeCard : Claim7 := { stood := { row := chainGradeRow, standIns := [], harness := (true, "350668f687cef4ce4d196cdf73f180f2e7ca5ae0c549fe7f311a71e6632fdca7"), looks := false }, kinds := [], alts := [], laidByText := true, laidKinds := [.funcs, .funcs, .funcs], laidTests := true, laidLooks := .later }
def ChainGradeCardSaid : Prop := Claim7.holds Tryz.pinned (.plain (OpenSpec.ofChange chainGradeSpec)) chainGradeCard

/-- THE TIED CARD OF 'bluelinelaw06.ChainFewest'. -/
def chainFewestCard : Claim7 := { stood := { row := chainFewestRow, standIns := [], harness := (true, "350668f687cef4ce4d196cdf73f180f2e7ca5ae0c549fe7f311a71e6632fdca7"), looks := false }, kinds := [], alts := [], laidByText := true, laidKinds := [.funcs, .funcs, .funcs], laidTests := true, laidLooks := .later }
def ChainFewestCardSaid : Prop := Claim7.holds Tryz.pinned (.plain (OpenSpec.ofChange chainFewestSpec)) chainFewestCard

/-- THE TIED CARD OF 'bluelinelaw06.ChainLess'. -/
def chainLessCard : Claim7 := { stood := { row := chainLessRow, standIns := [], harness := (true, "350668f687cef4ce4d196cdf73f180f2e7ca5ae0c549fe7f311a71e6632fdca7"), looks := false }, kinds := [], alts := [], laidByText := true, laidKinds := [.funcs, .funcs, .funcs], laidTests := true, laidLooks := .later }
def ChainLessCardSaid : Prop := Claim7.holds Tryz.pinned (.plain (OpenSpec.ofChange chainLessSpec)) chainLessCard

/-- THE TIED CARD OF 'bluelinelaw06.ChainWider'. -/
def chainWiderCard : Claim7 := { stood := { row := chainWiderRow, standIns := [], harness := (true, "350668f687cef4ce4d196cdf73f180f2e7ca5ae0c549fe7f311a71e6632fdca7"), looks := false }, kinds := [], alts := [], laidByText := true, laidKinds := [.funcs, .funcs, .funcs], laidTests := true, laidLooks := .later }
def ChainWiderCardSaid : Prop := Claim7.holds Tryz.pinned (.plain (OpenSpec.ofChange chainWiderSpec)) chainWiderCard

/-- THE TIED CARD OF 'bluelinelaw06.ChainJoined'. -/
def chainJoinedCard : Claim7 := { stood := { row := chainJoinedRow, standIns := [], harness := (true, "350668f687cef4ce4d196cdf73f180f2e7ca5ae0c549fe7f311a71e6632fdca7"), looks := false }, kinds := [], alts := [], laidByText := true, laidKinds := [.funcs, .funcs, .funcs], laidTests := true, laidLooks := .later }
def ChainJoinedCardSaid : Prop := Claim7.holds Tryz.pinned (.plain (OpenSpec.ofChange chainJoinedSpec)) chainJoinedCard

/-- THE TIED CARD OF 'bluelinelaw06.ChainIssues'. -/
def chainIssuesCard : Claim7 := { stood := { row := chainIssuesRow, standIns := [], harness := (true, "350668f687cef4ce4d196cdf73f180f2e7ca5ae0c549fe7f311a71e6632fdca7"), looks := false }, kinds := [], alts := [], laidByText := true, laidKinds := [.funcs, .funcs, .funcs], laidTests := true, laidLooks := .later }
def ChainIssuesCardSaid : Prop := Claim7.holds Tryz.pinned (.plain (OpenSpec.ofChange chainIssuesSpec)) chainIssuesCard

/-- THE TIED CARD OF 'bluelinelaw06.ChainInches'. -/
def chainInchesCard : Claim7 := { stood := { row := chainInchesRow, standIns := [], harness := (true, "350668f687cef4ce4d196cdf73f180f2e7ca5ae0c549fe7f311a71e6632fdca7"), looks := false }, kinds := [], alts := [], laidByText := true, laidKinds := [.funcs, .funcs, .funcs], laidTests := true, laidLooks := .later }
def ChainInchesCardSaid : Prop := Claim7.holds Tryz.pinned (.plain (OpenSpec.ofChange chainInchesSpec)) chainInchesCard

/-- THE TIED CARD OF 'bluelinelaw06.ChainFit'. -/
def chainFitCard : Claim7 := { stood := { row := chainFitRow, standIns := [], harness := (true, "350668f687cef4ce4d196cdf73f180f2e7ca5ae0c549fe7f311a71e6632fdca7"), looks := false }, kinds := [], alts := [], laidByText := true, laidKinds := [.funcs, .funcs, .funcs], laidTests := true, laidLooks := .later }
def ChainFitCardSaid : Prop := Claim7.holds Tryz.pinned (.plain (OpenSpec.ofChange chainFitSpec)) chainFitCard

/-- THE TIED CARD OF 'bluelinelaw06.ChainExamples'. -/
def chainExamplesCard : Claim7 := { stood := { row := chainExamplesRow, standIns := [], harness := (true, "350668f687cef4ce4d196cdf73f180f2e7ca5ae0c549fe7f311a71e6632fdca7"), looks := false }, kinds := [], alts := [], laidByText := true, laidKinds := [.funcs, .funcs, .funcs], laidTests := true, laidLooks := .later }
def ChainExamplesCardSaid : Prop := Claim7.holds Tryz.pinned (.plain (OpenSpec.ofChange chainExamplesSpec)) chainExamplesCard

/-- THE SECOND FORM's CARD OF 'bluelinelaw06.ChainChanges'. -/
def chainChangesUptoCard : Claim7 := { stood := { row := chainChangesUptoRow, standIns := [], harness := (true, "350668f687cef4ce4d196cdf73f180f2e7ca5ae0c549fe7f311a71e6632fdca7"), looks := false }, kinds := [], alts := [], laidByText := true, laidKinds := [.funcs, .funcs, .funcs], laidTests := true, laidLooks := .later }
def ChainChangesUptoCardSaid : Prop := Claim7.holds Tryz.pinned (.plain (OpenSpec.upto chainChangesSpec)) chainChangesUptoCard

/-- THE SECOND FORM's CARD OF 'bluelinelaw06.ChainTrue'. -/
def chainTrueUptoCard : Claim7 := { stood := { row := chainTrueUptoRow, standIns := [], harness := (true, "350668f687cef4ce4d196cdf73f180f2e7ca5ae0c549fe7f311a71e6632fdca7"), looks := false }, kinds := [], alts := [], laidByText := true, laidKinds := [.funcs, .funcs, .funcs], laidTests := true, laidLooks := .later }
def ChainTrueUptoCardSaid : Prop := Claim7.holds Tryz.pinned (.plain (OpenSpec.upto chainTrueSpec)) chainTrueUptoCard

/-- THE SECOND FORM's CARD OF 'bluelinelaw06.ChainNamed'. -/
def chainNamedUptoCard : Claim7 := { stood := { row := chainNamedUptoRow, standIns := [], harness := (true, "350668f687cef4ce4d196cdf73f180f2e7ca5ae0c549fe7f311a71e6632fdca7"), looks := false }, kinds := [], alts := [], laidByText := true, laidKinds := [.funcs, .funcs, .funcs], laidTests := true, laidLooks := .later }
def ChainNamedUptoCardSaid : Prop := Claim7.holds Tryz.pinned (.plain (OpenSpec.upto chainNamedSpec)) chainNamedUptoCard

/-- THE SECOND FORM's CARD OF 'bluelinelaw06.ChainGrade'. -/
def chainGradeUptoCard : Claim7 := { stood := { row := chainGradeUptoRow, standIns := [], harness := (true, "350668f687cef4ce4d196cdf73f180f2e7ca5ae0c549fe7f311a71e6632fdca7"), looks := false }, kinds := [], alts := [], laidByText := true, laidKinds := [.funcs, .funcs, .funcs], laidTests := true, laidLooks := .later }
def ChainGradeUptoCardSaid : Prop := Claim7.holds Tryz.pinned (.plain (OpenSpec.upto chainGradeSpec)) chainGradeUptoCard

/-- THE SECOND FORM's CARD OF 'bluelinelaw06.ChainFewest'. -/
def chainFewestUptoCard : Claim7 := { stood := { row := chainFewestUptoRow, standIns := [], harness := (true, "350668f687cef4ce4d196cdf73f180f2e7ca5ae0c549fe7f311a71e6632fdca7"), looks := false }, kinds := [], alts := [], laidByText := true, laidKinds := [.funcs, .funcs, .funcs], laidTests := true, laidLooks := .later }
def ChainFewestUptoCardSaid : Prop := Claim7.holds Tryz.pinned (.plain (OpenSpec.upto chainFewestSpec)) chainFewestUptoCard

/-- THE SECOND FORM's CARD OF 'bluelinelaw06.ChainLess'. -/
def chainLessUptoCard : Claim7 := { stood := { row := chainLessUptoRow, standIns := [], harness := (true, "350668f687cef4ce4d196cdf73f180f2e7ca5ae0c549fe7f311a71e6632fdca7"), looks := false }, kinds := [], alts := [], laidByText := true, laidKinds := [.funcs, .funcs, .funcs], laidTests := true, laidLooks := .later }
def ChainLessUptoCardSaid : Prop := Claim7.holds Tryz.pinned (.plain (OpenSpec.upto chainLessSpec)) chainLessUptoCard

/-- THE SECOND FORM's CARD OF 'bluelinelaw06.ChainWider'. -/
def chainWiderUptoCard : Claim7 := { stood := { row := chainWiderUptoRow, standIns := [], harness := (true, "350668f687cef4ce4d196cdf73f180f2e7ca5ae0c549fe7f311a71e6632fdca7"), looks := false }, kinds := [], alts := [], laidByText := true, laidKinds := [.funcs, .funcs, .funcs], laidTests := true, laidLooks := .later }
def ChainWiderUptoCardSaid : Prop := Claim7.holds Tryz.pinned (.plain (OpenSpec.upto chainWiderSpec)) chainWiderUptoCard

/-- THE SECOND FORM's CARD OF 'bluelinelaw06.ChainJoined'. -/
def chainJoinedUptoCard : Claim7 := { stood := { row := chainJoinedUptoRow, standIns := [], harness := (true, "350668f687cef4ce4d196cdf73f180f2e7ca5ae0c549fe7f311a71e6632fdca7"), looks := false }, kinds := [], alts := [], laidByText := true, laidKinds := [.funcs, .funcs, .funcs], laidTests := true, laidLooks := .later }
def ChainJoinedUptoCardSaid : Prop := Claim7.holds Tryz.pinned (.plain (OpenSpec.upto chainJoinedSpec)) chainJoinedUptoCard

/-- THE SECOND FORM's CARD OF 'bluelinelaw06.ChainIssues'. -/
def chainIssuesUptoCard : Claim7 := { stood := { row := chainIssuesUptoRow, standIns := [], harness := (true, "350668f687cef4ce4d196cdf73f180f2e7ca5ae0c549fe7f311a71e6632fdca7"), looks := false }, kinds := [], alts := [], laidByText := true, laidKinds := [.funcs, .funcs, .funcs], laidTests := true, laidLooks := .later }
def ChainIssuesUptoCardSaid : Prop := Claim7.holds Tryz.pinned (.plain (OpenSpec.upto chainIssuesSpec)) chainIssuesUptoCard

/-- THE SECOND FORM's CARD OF 'bluelinelaw06.ChainInches'. -/
def chainInchesUptoCard : Claim7 := { stood := { row := chainInchesUptoRow, standIns := [], harness := (true, "350668f687cef4ce4d196cdf73f180f2e7ca5ae0c549fe7f311a71e6632fdca7"), looks := false }, kinds := [], alts := [], laidByText := true, laidKinds := [.funcs, .funcs, .funcs], laidTests := true, laidLooks := .later }
def ChainInchesUptoCardSaid : Prop := Claim7.holds Tryz.pinned (.plain (OpenSpec.upto chainInchesSpec)) chainInchesUptoCard

/-- THE SECOND FORM's CARD OF 'bluelinelaw06.ChainFit'. -/
def chainFitUptoCard : Claim7 := { stood := { row := chainFitUptoRow, standIns := [], harness := (true, "350668f687cef4ce4d196cdf73f180f2e7ca5ae0c549fe7f311a71e6632fdca7"), looks := false }, kinds := [], alts := [], laidByText := true, laidKinds := [.funcs, .funcs, .funcs], laidTests := true, laidLooks := .later }
def ChainFitUptoCardSaid : Prop := Claim7.holds Tryz.pinned (.plain (OpenSpec.upto chainFitSpec)) chainFitUptoCard

/-- THE SECOND FORM's CARD OF 'bluelinelaw06.ChainExamples'. -/
def chainExamplesUptoCard : Claim7 := { stood := { row := chainExamplesUptoRow, standIns := [], harness := (true, "350668f687cef4ce4d196cdf73f180f2e7ca5ae0c549fe7f311a71e6632fdca7"), looks := false }, kinds := [], alts := [], laidByText := true, laidKinds := [.funcs, .funcs, .funcs], laidTests := true, laidLooks := .later }
def ChainExamplesUptoCardSaid : Prop := Claim7.holds Tryz.pinned (.plain (OpenSpec.upto chainExamplesSpec)) chainExamplesUptoCard
end Rows
end Go.Proofs.YtciiddejfhbncaaGreatDoor
