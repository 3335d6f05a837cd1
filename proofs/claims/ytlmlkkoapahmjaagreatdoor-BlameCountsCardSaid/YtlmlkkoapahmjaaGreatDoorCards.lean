/-
  DERIVED. GIVEN WITH THE SEED: THE CARDS: each row of YtlmlkkoapahmjaaGreatDoorRows.lean that lists a variable, with what it lists TIED to the program's text (the seventh form; the later family's looks); each row that meets fmt, with fmt's text TOLD by the authors' own Lean function (tested against real Go, not proved from fmt's source: count such statements apart). THE CARD IS WHAT COUNTS. Prove the row's statement (the work); the ties are given (YtlmlkkoapahmjaaGreatDoorTie.lean); close each card by the builder's one call (the guide's Derived/Test/ToyasCard.lean, 'card_holds'). Laid BY PROGRAM, IN A SANDBOX (cutbox-door.mjs). By AI agents, Wed Nov 11 2026. No macro, syntax, notation, axiom, sorry.
-/
import Derived.Test.YtlmlkkoapahmjaaGreatDoorRows
import GoSem.ClaimSeven
namespace Go.Proofs.YtlmlkkoapahmjaaGreatDoor
namespace Rows

/-- THE TIED CARD OF 'bluelinelaw10.BlameTrue'. -/
def blameTrueCard : Claim7 := { stood := { row := blameTrueRow, standIns := [], harness := (true, "d1e88c905b080a5aa291fad1c2467e03c3e843b09e90a88b18b9c2c7b420f128"), looks := false }, kinds := [], alts := [], laidByText := true, laidKinds := [.funcs, .funcs, .funcs, .funcs, .data, .data, .data, .funcs], laidTests := true, laidLooks := .later }
def BlameTrueCardSaid : Prop := Claim7.holds Tryz.pinned (.plain (OpenSpec.ofChange blameTrueSpec)) blameTrueCard

/-- THE TIED CARD OF 'bluelinelaw10.BlameFewest'. -/
def blameFewestCard : Claim7 := { stood := { row := blameFewestRow, standIns := [], harness := (true, "d1e88c905b080a5aa291fad1c2467e03c3e843b09e90a88b18b9c2c7b420f128"), looks := false }, kinds := [], alts := [], laidByText := true, laidKinds := [.funcs, .funcs, .funcs, .funcs, .data, .data, .data, .funcs], laidTests := true, laidLooks := .later }
def BlameFewestCardSaid : Prop := Claim7.holds Tryz.pinned (.plain (OpenSpec.ofChange blameFewestSpec)) blameFewestCard

/-- THE TIED CARD OF 'bluelinelaw10.BlameCounts'. -/
def blameCountsCard : Claim7 := { stood := { row := blameCountsRow, standIns := [], harness := (true, "d1e88c905b080a5aa291fad1c2467e03c3e843b09e90a88b18b9c2c7b420f128"), looks := false }, kinds := [], alts := [], laidByText := true, laidKinds := [.funcs, .funcs, .funcs, .funcs, .data, .data, .data], laidTests := true, laidLooks := .later }
def BlameCountsCardSaid : Prop := Claim7.holds Tryz.pinned (.plain (OpenSpec.ofChange blameCountsSpec)) blameCountsCard

/-- THE TIED CARD OF 'bluelinelaw10.BlameMeasured'. -/
def blameMeasuredCard : Claim7 := { stood := { row := blameMeasuredRow, standIns := [], harness := (true, "d1e88c905b080a5aa291fad1c2467e03c3e843b09e90a88b18b9c2c7b420f128"), looks := false }, kinds := [], alts := [], laidByText := true, laidKinds := [.funcs, .funcs, .funcs, .funcs, .data, .data, .data, .funcs], laidTests := true, laidLooks := .later }
def BlameMeasuredCardSaid : Prop := Claim7.holds Tryz.pinned (.plain (OpenSpec.ofChange blameMeasuredSpec)) blameMeasuredCard

/-- THE TIED CARD OF 'bluelinelaw10.BlameExamples'. -/
def blameExamplesCard : Claim7 := { stood := { row := blameExamplesRow, standIns := [], harness := (true, "d1e88c905b080a5aa291fad1c2467e03c3e843b09e90a88b18b9c2c7b420f128"), looks := false }, kinds := [], alts := [], laidByText := true, laidKinds := [.funcs, .funcs, .funcs, .funcs, .data, .data, .data, .funcs], laidTests := true, laidLooks := .later }
def BlameExamplesCardSaid : Prop := Claim7.holds Tryz.pinned (.plain (OpenSpec.ofChange blameExamplesSpec)) blameExamplesCard

/-- THE SECOND FORM's CARD OF 'bluelinelaw10.BlameTrue'. -/
def blameTrueUptoCard : Claim7 := { stood := { row := blameTrueUptoRow, standIns := [], harness := (true, "d1e88c905b080a5aa291fad1c2467e03c3e843b09e90a88b18b9c2c7b420f128"), looks := false }, kinds := [], alts := [], laidByText := true, laidKinds := [.funcs, .funcs, .funcs, .funcs, .data, .data, .data, .funcs], laidTests := true, laidLooks := .later }
def BlameTrueUptoCardSaid : Prop := Claim7.holds Tryz.pinned (.plain (OpenSpec.upto blameTrueSpec)) blameTrueUptoCard

/-- THE SECOND FORM's CARD OF 'bluelinelaw10.BlameFewest'. -/
def blameFewestUptoCard : Claim7 := { stood := { row := blameFewestUptoRow, standIns := [], harness := (true, "d1e88c905b080a5aa291fad1c2467e03c3e843b09e90a88b18b9c2c7b420f128"), looks := false }, kinds := [], alts := [], laidByText := true, laidKinds := [.funcs, .funcs, .funcs, .funcs, .data, .data, .data, .funcs], laidTests := true, laidLooks := .later }
def BlameFewestUptoCardSaid : Prop := Claim7.holds Tryz.pinned (.plain (OpenSpec.upto blameFewestSpec)) blameFewestUptoCard

/-- THE SECOND FORM's CARD OF 'bluelinelaw10.BlameCounts'. -/
def blameCountsUptoCard : Claim7 := { stood := { row := blameCountsUptoRow, standIns := [], harness := (true, "d1e88c905b080a5aa291fad1c2467e03c3e843b09e90a88b18b9c2c7b420f128"), looks := false }, kinds := [], alts := [], laidByText := true, laidKinds := [.funcs, .funcs, .funcs, .funcs, .data, .data, .data], laidTests := true, laidLooks := .later }
def BlameCountsUptoCardSaid : Prop := Claim7.holds Tryz.pinned (.plain (OpenSpec.upto blameCountsSpec)) blameCountsUptoCard

/-- THE SECOND FORM's CARD OF 'bluelinelaw10.BlameMeasured'. -/
def blameMeasuredUptoCard : Claim7 := { stood := { row := blameMeasuredUptoRow, standIns := [], harness := (true, "d1e88c905b080a5aa291fad1c2467e03c3e843b09e90a88b18b9c2c7b420f128"), looks := false }, kinds := [], alts := [], laidByText := true, laidKinds := [.funcs, .funcs, .funcs, .funcs, .data, .data, .data, .funcs], laidTests := true, laidLooks := .later }
def BlameMeasuredUptoCardSaid : Prop := Claim7.holds Tryz.pinned (.plain (OpenSpec.upto blameMeasuredSpec)) blameMeasuredUptoCard

/-- THE SECOND FORM's CARD OF 'bluelinelaw10.BlameExamples'. -/
def blameExamplesUptoCard : Claim7 := { stood := { row := blameExamplesUptoRow, standIns := [], harness := (true, "d1e88c905b080a5aa291fad1c2467e03c3e843b09e90a88b18b9c2c7b420f128"), looks := false }, kinds := [], alts := [], laidByText := true, laidKinds := [.funcs, .funcs, .funcs, .funcs, .data, .data, .data, .funcs], laidTests := true, laidLooks := .later }
def BlameExamplesUptoCardSaid : Prop := Claim7.holds Tryz.pinned (.plain (OpenSpec.upto blameExamplesSpec)) blameExamplesUptoCard
end Rows
end Go.Proofs.YtlmlkkoapahmjaaGreatDoor
