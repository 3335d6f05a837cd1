/-
  DERIVED. GIVEN WITH THE SEED: THE CARDS: each row of YtmfanojaldiejaaGreatDoorRows.lean that lists a variable, with what it lists TIED to the program's text (the seventh form; the later family's looks); each row that meets fmt, with fmt's text TOLD by the authors' own Lean function (tested against real Go, not proved from fmt's source: count such statements apart). THE CARD IS WHAT COUNTS. Prove the row's statement (the work); the ties are given (YtmfanojaldiejaaGreatDoorTie.lean); close each card by the builder's one call (the guide's Derived/Test/ToyasCard.lean, 'card_holds'). Laid BY PROGRAM, IN A SANDBOX (cutbox-door.mjs). By AI agents, Wed Nov 11 2026. No macro, syntax, notation, axiom, sorry.
-/
import Derived.Test.YtmfanojaldiejaaGreatDoorRows
import GoSem.ClaimSeven
namespace Go.Proofs.YtmfanojaldiejaaGreatDoor
namespace Rows

/-- THE TIED CARD OF 'bluelinelaw03.NoteTruth'. -/
def noteTruthCard : Claim7 := { stood := { row := noteTruthRow, standIns := [], harness := (true, "118aecda057b7ca32dc712c0dd06a10b475f554568b26240f197050cb7023140"), looks := false }, kinds := [], alts := [], laidByText := true, laidKinds := [.funcs, .funcs], laidTests := true, laidLooks := .later }
def NoteTruthCardSaid : Prop := Claim7.holds Tryz.pinned (.plain (OpenSpec.ofChange noteTruthSpec)) noteTruthCard

/-- THE TIED CARD OF 'bluelinelaw03.NoteSettled'. -/
def noteSettledCard : Claim7 := { stood := { row := noteSettledRow, standIns := [], harness := (true, "118aecda057b7ca32dc712c0dd06a10b475f554568b26240f197050cb7023140"), looks := false }, kinds := [], alts := [], laidByText := true, laidKinds := [.funcs, .funcs], laidTests := true, laidLooks := .later }
def NoteSettledCardSaid : Prop := Claim7.holds Tryz.pinned (.plain (OpenSpec.ofChange noteSettledSpec)) noteSettledCard

/-- THE TIED CARD OF 'bluelinelaw03.NoteRule'. -/
def noteRuleCard : Claim7 := { stood := { row := noteRuleRow, standIns := [], harness := (true, "118aecda057b7ca32dc712c0dd06a10b475f554568b26240f197050cb7023140"), looks := false }, kinds := [], alts := [], laidByText := true, laidKinds := [.funcs, .funcs], laidTests := true, laidLooks := .later }
def NoteRuleCardSaid : Prop := Claim7.holds Tryz.pinned (.plain (OpenSpec.ofChange noteRuleSpec)) noteRuleCard

/-- THE TIED CARD OF 'bluelinelaw03.NoteStretched'. -/
def noteStretchedCard : Claim7 := { stood := { row := noteStretchedRow, standIns := [], harness := (true, "118aecda057b7ca32dc712c0dd06a10b475f554568b26240f197050cb7023140"), looks := false }, kinds := [], alts := [], laidByText := true, laidKinds := [.funcs, .funcs], laidTests := true, laidLooks := .later }
def NoteStretchedCardSaid : Prop := Claim7.holds Tryz.pinned (.plain (OpenSpec.ofChange noteStretchedSpec)) noteStretchedCard

/-- THE TIED CARD OF 'bluelinelaw03.NoteWithdrawn'. -/
def noteWithdrawnCard : Claim7 := { stood := { row := noteWithdrawnRow, standIns := [], harness := (true, "118aecda057b7ca32dc712c0dd06a10b475f554568b26240f197050cb7023140"), looks := false }, kinds := [], alts := [], laidByText := true, laidKinds := [.funcs, .funcs], laidTests := true, laidLooks := .later }
def NoteWithdrawnCardSaid : Prop := Claim7.holds Tryz.pinned (.plain (OpenSpec.ofChange noteWithdrawnSpec)) noteWithdrawnCard

/-- THE TIED CARD OF 'bluelinelaw03.NoteClashed'. -/
def noteClashedCard : Claim7 := { stood := { row := noteClashedRow, standIns := [], harness := (true, "118aecda057b7ca32dc712c0dd06a10b475f554568b26240f197050cb7023140"), looks := false }, kinds := [], alts := [], laidByText := true, laidKinds := [.funcs, .funcs], laidTests := true, laidLooks := .later }
def NoteClashedCardSaid : Prop := Claim7.holds Tryz.pinned (.plain (OpenSpec.ofChange noteClashedSpec)) noteClashedCard

/-- THE TIED CARD OF 'bluelinelaw03.NoteCancelled'. -/
def noteCancelledCard : Claim7 := { stood := { row := noteCancelledRow, standIns := [], harness := (true, "118aecda057b7ca32dc712c0dd06a10b475f554568b26240f197050cb7023140"), looks := false }, kinds := [], alts := [], laidByText := true, laidKinds := [.funcs, .funcs], laidTests := true, laidLooks := .later }
def NoteCancelledCardSaid : Prop := Claim7.holds Tryz.pinned (.plain (OpenSpec.ofChange noteCancelledSpec)) noteCancelledCard

/-- THE TIED CARD OF 'bluelinelaw03.NoteMatters'. -/
def noteMattersCard : Claim7 := { stood := { row := noteMattersRow, standIns := [], harness := (true, "118aecda057b7ca32dc712c0dd06a10b475f554568b26240f197050cb7023140"), looks := false }, kinds := [], alts := [], laidByText := true, laidKinds := [.funcs, .funcs], laidTests := true, laidLooks := .later }
def NoteMattersCardSaid : Prop := Claim7.holds Tryz.pinned (.plain (OpenSpec.ofChange noteMattersSpec)) noteMattersCard

/-- THE TIED CARD OF 'bluelinelaw03.NoteTrees'. -/
def noteTreesCard : Claim7 := { stood := { row := noteTreesRow, standIns := [], harness := (true, "118aecda057b7ca32dc712c0dd06a10b475f554568b26240f197050cb7023140"), looks := false }, kinds := [], alts := [], laidByText := true, laidKinds := [.funcs, .funcs], laidTests := true, laidLooks := .later }
def NoteTreesCardSaid : Prop := Claim7.holds Tryz.pinned (.plain (OpenSpec.ofChange noteTreesSpec)) noteTreesCard

/-- THE SECOND FORM's CARD OF 'bluelinelaw03.NoteTruth'. -/
def noteTruthUptoCard : Claim7 := { stood := { row := noteTruthUptoRow, standIns := [], harness := (true, "118aecda057b7ca32dc712c0dd06a10b475f554568b26240f197050cb7023140"), looks := false }, kinds := [], alts := [], laidByText := true, laidKinds := [.funcs, .funcs], laidTests := true, laidLooks := .later }
def NoteTruthUptoCardSaid : Prop := Claim7.holds Tryz.pinned (.plain (OpenSpec.upto noteTruthSpec)) noteTruthUptoCard

/-- THE SECOND FORM's CARD OF 'bluelinelaw03.NoteSettled'. -/
def noteSettledUptoCard : Claim7 := { stood := { row := noteSettledUptoRow, standIns := [], harness := (true, "118aecda057b7ca32dc712c0dd06a10b475f554568b26240f197050cb7023140"), looks := false }, kinds := [], alts := [], laidByText := true, laidKinds := [.funcs, .funcs], laidTests := true, laidLooks := .later }
def NoteSettledUptoCardSaid : Prop := Claim7.holds Tryz.pinned (.plain (OpenSpec.upto noteSettledSpec)) noteSettledUptoCard

/-- THE SECOND FORM's CARD OF 'bluelinelaw03.NoteRule'. -/
def noteRuleUptoCard : Claim7 := { stood := { row := noteRuleUptoRow, standIns := [], harness := (true, "118aecda057b7ca32dc712c0dd06a10b475f554568b26240f197050cb7023140"), looks := false }, kinds := [], alts := [], laidByText := true, laidKinds := [.funcs, .funcs], laidTests := true, laidLooks := .later }
def NoteRuleUptoCardSaid : Prop := Claim7.holds Tryz.pinned (.plain (OpenSpec.upto noteRuleSpec)) noteRuleUptoCard

/-- THE SECOND FORM's CARD OF 'bluelinelaw03.NoteStretched'. -/
def noteStretchedUptoCard : Claim7 := { stood := { row := noteStretchedUptoRow, standIns := [], harness := (true, "118aecda057b7ca32dc712c0dd06a10b475f554568b26240f197050cb7023140"), looks := false }, kinds := [], alts := [], laidByText := true, laidKinds := [.funcs, .funcs], laidTests := true, laidLooks := .later }
def NoteStretchedUptoCardSaid : Prop := Claim7.holds Tryz.pinned (.plain (OpenSpec.upto noteStretchedSpec)) noteStretchedUptoCard

/-- THE SECOND FORM's CARD OF 'bluelinelaw03.NoteWithdrawn'. -/
def noteWithdrawnUptoCard : Claim7 := { stood := { row := noteWithdrawnUptoRow, standIns := [], harness := (true, "118aecda057b7ca32dc712c0dd06a10b475f554568b26240f197050cb7023140"), looks := false }, kinds := [], alts := [], laidByText := true, laidKinds := [.funcs, .funcs], laidTests := true, laidLooks := .later }
def NoteWithdrawnUptoCardSaid : Prop := Claim7.holds Tryz.pinned (.plain (OpenSpec.upto noteWithdrawnSpec)) noteWithdrawnUptoCard

/-- THE SECOND FORM's CARD OF 'bluelinelaw03.NoteClashed'. -/
def noteClashedUptoCard : Claim7 := { stood := { row := noteClashedUptoRow, standIns := [], harness := (true, "118aecda057b7ca32dc712c0dd06a10b475f554568b26240f197050cb7023140"), looks := false }, kinds := [], alts := [], laidByText := true, laidKinds := [.funcs, .funcs], laidTests := true, laidLooks := .later }
def NoteClashedUptoCardSaid : Prop := Claim7.holds Tryz.pinned (.plain (OpenSpec.upto noteClashedSpec)) noteClashedUptoCard

/-- THE SECOND FORM's CARD OF 'bluelinelaw03.NoteCancelled'. -/
def noteCancelledUptoCard : Claim7 := { stood := { row := noteCancelledUptoRow, standIns := [], harness := (true, "118aecda057b7ca32dc712c0dd06a10b475f554568b26240f197050cb7023140"), looks := false }, kinds := [], alts := [], laidByText := true, laidKinds := [.funcs, .funcs], laidTests := true, laidLooks := .later }
def NoteCancelledUptoCardSaid : Prop := Claim7.holds Tryz.pinned (.plain (OpenSpec.upto noteCancelledSpec)) noteCancelledUptoCard

/-- THE SECOND FORM's CARD OF 'bluelinelaw03.NoteMatters'. -/
def noteMattersUptoCard : Claim7 := { stood := { row := noteMattersUptoRow, standIns := [], harness := (true, "118aecda057b7ca32dc712c0dd06a10b475f554568b26240f197050cb7023140"), looks := false }, kinds := [], alts := [], laidByText := true, laidKinds := [.funcs, .funcs], laidTests := true, laidLooks := .later }
def NoteMattersUptoCardSaid : Prop := Claim7.holds Tryz.pinned (.plain (OpenSpec.upto noteMattersSpec)) noteMattersUptoCard

/-- THE SECOND FORM's CARD OF 'bluelinelaw03.NoteTrees'. -/
def noteTreesUptoCard : Claim7 := { stood := { row := noteTreesUptoRow, standIns := [], harness := (true, "118aecda057b7ca32dc712c0dd06a10b475f554568b26240f197050cb7023140"), looks := false }, kinds := [], alts := [], laidByText := true, laidKinds := [.funcs, .funcs], laidTests := true, laidLooks := .later }
def NoteTreesUptoCardSaid : Prop := Claim7.holds Tryz.pinned (.plain (OpenSpec.upto noteTreesSpec)) noteTreesUptoCard
end Rows
end Go.Proofs.YtmfanojaldiejaaGreatDoor
