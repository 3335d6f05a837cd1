/-
  DERIVED. GIVEN WITH THE SEED: THE CARDS: each row of YtjodaihiogfkbaaGreatDoorRows.lean that lists a variable, with what it lists TIED to the program's text (the seventh form; the later family's looks); each row that meets fmt, with fmt's text TOLD by the authors' own Lean function (tested against real Go, not proved from fmt's source: count such statements apart). THE CARD IS WHAT COUNTS. Prove the row's statement (the work); the ties are given (YtjodaihiogfkbaaGreatDoorTie.lean); close each card by the builder's one call (the guide's Derived/Test/ToyasCard.lean, 'card_holds'). Laid BY PROGRAM, IN A SANDBOX (cutbox-door.mjs). By AI agents, Wed Nov 11 2026. No macro, syntax, notation, axiom, sorry.
-/
import Derived.Test.YtjodaihiogfkbaaGreatDoorRows
import GoSem.ClaimSeven
namespace Go.Proofs.YtjodaihiogfkbaaGreatDoor
namespace Rows

/-- THE TIED CARD OF 'bluelinelaw10.BlameKnows'. -/
def blameKnowsCard : Claim7 := { stood := { row := blameKnowsRow, standIns := [], harness := (true, "bcefd5b011abffda7eda1dd8c5c9ba908278b210fdec878a68784b40e9767e23"), looks := false }, kinds := [], alts := [], laidByText := true, laidKinds := [.funcs, .funcs, .funcs, .funcs, .funcs], laidTests := true, laidLooks := .later }
def BlameKnowsCardSaid : Prop := Claim7.holds Tryz.pinned (.plain (OpenSpec.ofChange blameKnowsSpec)) blameKnowsCard

/-- THE TIED CARD OF 'bluelinelaw10.BlameCounts'. -/
def blameCountsCard : Claim7 := { stood := { row := blameCountsRow, standIns := [], harness := (true, "bcefd5b011abffda7eda1dd8c5c9ba908278b210fdec878a68784b40e9767e23"), looks := false }, kinds := [], alts := [], laidByText := true, laidKinds := [.funcs, .funcs, .funcs, .funcs, .data, .data, .data], laidTests := true, laidLooks := .later }
def BlameCountsCardSaid : Prop := Claim7.holds Tryz.pinned (.plain (OpenSpec.ofChange blameCountsSpec)) blameCountsCard

/-- THE TIED CARD OF 'bluelinelaw10.BlameTrue'. -/
def blameTrueCard : Claim7 := { stood := { row := blameTrueRow, standIns := [], harness := (true, "bcefd5b011abffda7eda1dd8c5c9ba908278b210fdec878a68784b40e9767e23"), looks := false }, kinds := [], alts := [], laidByText := true, laidKinds := [.funcs, .funcs, .funcs, .funcs, .data, .data, .data, .funcs], laidTests := true, laidLooks := .later }
def BlameTrueCardSaid : Prop := Claim7.holds Tryz.pinned (.plain (OpenSpec.ofChange blameTrueSpec)) blameTrueCard

/-- THE TIED CARD OF 'bluelinelaw10.BlameCause'. -/
def blameCauseCard : Claim7 := { stood := { row := blameCauseRow, standIns := [], harness := (true, "bcefd5b011abffda7eda1dd8c5c9ba908278b210fdec878a68784b40e9767e23"), looks := false }, kinds := [], alts := [], laidByText := true, laidKinds := [.funcs, .funcs, .funcs, .funcs, .data, .data, .data, .funcs], laidTests := true, laidLooks := .later }
def BlameCauseCardSaid : Prop := Claim7.holds Tryz.pinned (.plain (OpenSpec.ofChange blameCauseSpec)) blameCauseCard

/-- THE TIED CARD OF 'bluelinelaw10.BlameFewest'. -/
def blameFewestCard : Claim7 := { stood := { row := blameFewestRow, standIns := [], harness := (true, "bcefd5b011abffda7eda1dd8c5c9ba908278b210fdec878a68784b40e9767e23"), looks := false }, kinds := [], alts := [], laidByText := true, laidKinds := [.funcs, .funcs, .funcs, .funcs, .data, .data, .data, .funcs], laidTests := true, laidLooks := .later }
def BlameFewestCardSaid : Prop := Claim7.holds Tryz.pinned (.plain (OpenSpec.ofChange blameFewestSpec)) blameFewestCard

/-- THE TIED CARD OF 'bluelinelaw10.BlameMeasured'. -/
def blameMeasuredCard : Claim7 := { stood := { row := blameMeasuredRow, standIns := [], harness := (true, "bcefd5b011abffda7eda1dd8c5c9ba908278b210fdec878a68784b40e9767e23"), looks := false }, kinds := [], alts := [], laidByText := true, laidKinds := [.funcs, .funcs, .funcs, .funcs, .data, .data, .data, .funcs], laidTests := true, laidLooks := .later }
def BlameMeasuredCardSaid : Prop := Claim7.holds Tryz.pinned (.plain (OpenSpec.ofChange blameMeasuredSpec)) blameMeasuredCard

/-- THE TIED CARD OF 'bluelinelaw10.BlameClear'. -/
def blameClearCard : Claim7 := { stood := { row := blameClearRow, standIns := [], harness := (true, "bcefd5b011abffda7eda1dd8c5c9ba908278b210fdec878a68784b40e9767e23"), looks := false }, kinds := [], alts := [], laidByText := true, laidKinds := [.funcs, .funcs, .funcs, .funcs, .data, .data, .data, .funcs], laidTests := true, laidLooks := .later }
def BlameClearCardSaid : Prop := Claim7.holds Tryz.pinned (.plain (OpenSpec.ofChange blameClearSpec)) blameClearCard

/-- THE TIED CARD OF 'bluelinelaw10.BlameNotes'. -/
def blameNotesCard : Claim7 := { stood := { row := blameNotesRow, standIns := [], harness := (true, "bcefd5b011abffda7eda1dd8c5c9ba908278b210fdec878a68784b40e9767e23"), looks := false }, kinds := [], alts := [], laidByText := true, laidKinds := [.funcs, .funcs, .funcs, .funcs, .data, .data, .data, .funcs], laidTests := true, laidLooks := .later }
def BlameNotesCardSaid : Prop := Claim7.holds Tryz.pinned (.plain (OpenSpec.ofChange blameNotesSpec)) blameNotesCard

/-- THE TIED CARD OF 'bluelinelaw10.BlameFits'. -/
def blameFitsCard : Claim7 := { stood := { row := blameFitsRow, standIns := [], harness := (true, "bcefd5b011abffda7eda1dd8c5c9ba908278b210fdec878a68784b40e9767e23"), looks := false }, kinds := [], alts := [], laidByText := true, laidKinds := [.funcs, .funcs, .funcs, .funcs, .data, .data, .data, .funcs], laidTests := true, laidLooks := .later }
def BlameFitsCardSaid : Prop := Claim7.holds Tryz.pinned (.plain (OpenSpec.ofChange blameFitsSpec)) blameFitsCard

/-- THE TIED CARD OF 'bluelinelaw10.BlameSettled'. -/
def blameSettledCard : Claim7 := { stood := { row := blameSettledRow, standIns := [], harness := (true, "bcefd5b011abffda7eda1dd8c5c9ba908278b210fdec878a68784b40e9767e23"), looks := false }, kinds := [], alts := [], laidByText := true, laidKinds := [.funcs, .funcs, .funcs, .funcs, .data, .data, .data, .funcs], laidTests := true, laidLooks := .later }
def BlameSettledCardSaid : Prop := Claim7.holds Tryz.pinned (.plain (OpenSpec.ofChange blameSettledSpec)) blameSettledCard

/-- THE TIED CARD OF 'bluelinelaw10.BlameHand'. -/
def blameHandCard : Claim7 := { stood := { row := blameHandRow, standIns := [], harness := (true, "bcefd5b011abffda7eda1dd8c5c9ba908278b210fdec878a68784b40e9767e23"), looks := false }, kinds := [], alts := [], laidByText := true, laidKinds := [.funcs, .funcs, .funcs, .funcs, .data, .data, .data, .funcs], laidTests := true, laidLooks := .later }
def BlameHandCardSaid : Prop := Claim7.holds Tryz.pinned (.plain (OpenSpec.ofChange blameHandSpec)) blameHandCard

/-- THE TIED CARD OF 'bluelinelaw10.BlamePrints'. -/
def blamePrintsCard : Claim7 := { stood := { row := blamePrintsRow, standIns := [], harness := (true, "bcefd5b011abffda7eda1dd8c5c9ba908278b210fdec878a68784b40e9767e23"), looks := false }, kinds := [], alts := [], laidByText := true, laidKinds := [.funcs, .funcs, .funcs, .funcs, .data, .data, .data, .funcs], laidTests := true, laidLooks := .later }
def BlamePrintsCardSaid : Prop := Claim7.holds Tryz.pinned (.plain (OpenSpec.ofChange blamePrintsSpec)) blamePrintsCard

/-- THE SECOND FORM's CARD OF 'bluelinelaw10.BlameKnows'. -/
def blameKnowsUptoCard : Claim7 := { stood := { row := blameKnowsUptoRow, standIns := [], harness := (true, "bcefd5b011abffda7eda1dd8c5c9ba908278b210fdec878a68784b40e9767e23"), looks := false }, kinds := [], alts := [], laidByText := true, laidKinds := [.funcs, .funcs, .funcs, .funcs, .funcs], laidTests := true, laidLooks := .later }
def BlameKnowsUptoCardSaid : Prop := Claim7.holds Tryz.pinned (.plain (OpenSpec.upto blameKnowsSpec)) blameKnowsUptoCard

/-- THE SECOND FORM's CARD OF 'bluelinelaw10.BlameCounts'. -/
def blameCountsUptoCard : Claim7 := { stood := { row := blameCountsUptoRow, standIns := [], harness := (true, "bcefd5b011abffda7eda1dd8c5c9ba908278b210fdec878a68784b40e9767e23"), looks := false }, kinds := [], alts := [], laidByText := true, laidKinds := [.funcs, .funcs, .funcs, .funcs, .data, .data, .data], laidTests := true, laidLooks := .later }
def BlameCountsUptoCardSaid : Prop := Claim7.holds Tryz.pinned (.plain (OpenSpec.upto blameCountsSpec)) blameCountsUptoCard

/-- THE SECOND FORM's CARD OF 'bluelinelaw10.BlameTrue'. -/
def blameTrueUptoCard : Claim7 := { stood := { row := blameTrueUptoRow, standIns := [], harness := (true, "bcefd5b011abffda7eda1dd8c5c9ba908278b210fdec878a68784b40e9767e23"), looks := false }, kinds := [], alts := [], laidByText := true, laidKinds := [.funcs, .funcs, .funcs, .funcs, .data, .data, .data, .funcs], laidTests := true, laidLooks := .later }
def BlameTrueUptoCardSaid : Prop := Claim7.holds Tryz.pinned (.plain (OpenSpec.upto blameTrueSpec)) blameTrueUptoCard

/-- THE SECOND FORM's CARD OF 'bluelinelaw10.BlameCause'. -/
def blameCauseUptoCard : Claim7 := { stood := { row := blameCauseUptoRow, standIns := [], harness := (true, "bcefd5b011abffda7eda1dd8c5c9ba908278b210fdec878a68784b40e9767e23"), looks := false }, kinds := [], alts := [], laidByText := true, laidKinds := [.funcs, .funcs, .funcs, .funcs, .data, .data, .data, .funcs], laidTests := true, laidLooks := .later }
def BlameCauseUptoCardSaid : Prop := Claim7.holds Tryz.pinned (.plain (OpenSpec.upto blameCauseSpec)) blameCauseUptoCard

/-- THE SECOND FORM's CARD OF 'bluelinelaw10.BlameFewest'. -/
def blameFewestUptoCard : Claim7 := { stood := { row := blameFewestUptoRow, standIns := [], harness := (true, "bcefd5b011abffda7eda1dd8c5c9ba908278b210fdec878a68784b40e9767e23"), looks := false }, kinds := [], alts := [], laidByText := true, laidKinds := [.funcs, .funcs, .funcs, .funcs, .data, .data, .data, .funcs], laidTests := true, laidLooks := .later }
def BlameFewestUptoCardSaid : Prop := Claim7.holds Tryz.pinned (.plain (OpenSpec.upto blameFewestSpec)) blameFewestUptoCard

/-- THE SECOND FORM's CARD OF 'bluelinelaw10.BlameMeasured'. -/
def blameMeasuredUptoCard : Claim7 := { stood := { row := blameMeasuredUptoRow, standIns := [], harness := (true, "bcefd5b011abffda7eda1dd8c5c9ba908278b210fdec878a68784b40e9767e23"), looks := false }, kinds := [], alts := [], laidByText := true, laidKinds := [.funcs, .funcs, .funcs, .funcs, .data, .data, .data, .funcs], laidTests := true, laidLooks := .later }
def BlameMeasuredUptoCardSaid : Prop := Claim7.holds Tryz.pinned (.plain (OpenSpec.upto blameMeasuredSpec)) blameMeasuredUptoCard

/-- THE SECOND FORM's CARD OF 'bluelinelaw10.BlameClear'. -/
def blameClearUptoCard : Claim7 := { stood := { row := blameClearUptoRow, standIns := [], harness := (true, "bcefd5b011abffda7eda1dd8c5c9ba908278b210fdec878a68784b40e9767e23"), looks := false }, kinds := [], alts := [], laidByText := true, laidKinds := [.funcs, .funcs, .funcs, .funcs, .data, .data, .data, .funcs], laidTests := true, laidLooks := .later }
def BlameClearUptoCardSaid : Prop := Claim7.holds Tryz.pinned (.plain (OpenSpec.upto blameClearSpec)) blameClearUptoCard

/-- THE SECOND FORM's CARD OF 'bluelinelaw10.BlameNotes'. -/
def blameNotesUptoCard : Claim7 := { stood := { row := blameNotesUptoRow, standIns := [], harness := (true, "bcefd5b011abffda7eda1dd8c5c9ba908278b210fdec878a68784b40e9767e23"), looks := false }, kinds := [], alts := [], laidByText := true, laidKinds := [.funcs, .funcs, .funcs, .funcs, .data, .data, .data, .funcs], laidTests := true, laidLooks := .later }
def BlameNotesUptoCardSaid : Prop := Claim7.holds Tryz.pinned (.plain (OpenSpec.upto blameNotesSpec)) blameNotesUptoCard

/-- THE SECOND FORM's CARD OF 'bluelinelaw10.BlameFits'. -/
def blameFitsUptoCard : Claim7 := { stood := { row := blameFitsUptoRow, standIns := [], harness := (true, "bcefd5b011abffda7eda1dd8c5c9ba908278b210fdec878a68784b40e9767e23"), looks := false }, kinds := [], alts := [], laidByText := true, laidKinds := [.funcs, .funcs, .funcs, .funcs, .data, .data, .data, .funcs], laidTests := true, laidLooks := .later }
def BlameFitsUptoCardSaid : Prop := Claim7.holds Tryz.pinned (.plain (OpenSpec.upto blameFitsSpec)) blameFitsUptoCard

/-- THE SECOND FORM's CARD OF 'bluelinelaw10.BlameSettled'. -/
def blameSettledUptoCard : Claim7 := { stood := { row := blameSettledUptoRow, standIns := [], harness := (true, "bcefd5b011abffda7eda1dd8c5c9ba908278b210fdec878a68784b40e9767e23"), looks := false }, kinds := [], alts := [], laidByText := true, laidKinds := [.funcs, .funcs, .funcs, .funcs, .data, .data, .data, .funcs], laidTests := true, laidLooks := .later }
def BlameSettledUptoCardSaid : Prop := Claim7.holds Tryz.pinned (.plain (OpenSpec.upto blameSettledSpec)) blameSettledUptoCard

/-- THE SECOND FORM's CARD OF 'bluelinelaw10.BlameHand'. -/
def blameHandUptoCard : Claim7 := { stood := { row := blameHandUptoRow, standIns := [], harness := (true, "bcefd5b011abffda7eda1dd8c5c9ba908278b210fdec878a68784b40e9767e23"), looks := false }, kinds := [], alts := [], laidByText := true, laidKinds := [.funcs, .funcs, .funcs, .funcs, .data, .data, .data, .funcs], laidTests := true, laidLooks := .later }
def BlameHandUptoCardSaid : Prop := Claim7.holds Tryz.pinned (.plain (OpenSpec.upto blameHandSpec)) blameHandUptoCard

/-- THE SECOND FORM's CARD OF 'bluelinelaw10.BlamePrints'. -/
def blamePrintsUptoCard : Claim7 := { stood := { row := blamePrintsUptoRow, standIns := [], harness := (true, "bcefd5b011abffda7eda1dd8c5c9ba908278b210fdec878a68784b40e9767e23"), looks := false }, kinds := [], alts := [], laidByText := true, laidKinds := [.funcs, .funcs, .funcs, .funcs, .data, .data, .data, .funcs], laidTests := true, laidLooks := .later }
def BlamePrintsUptoCardSaid : Prop := Claim7.holds Tryz.pinned (.plain (OpenSpec.upto blamePrintsSpec)) blamePrintsUptoCard
end Rows
end Go.Proofs.YtjodaihiogfkbaaGreatDoor
