/-
  DERIVED. GIVEN WITH THE SEED: THE CARDS: each row of YtmonmfpdckdoiaaDoorRows.lean that lists a variable, with what it lists TIED to the program's text (the seventh form; the later family's looks); each row that meets fmt, with fmt's text TOLD by the authors' own Lean function (tested against real Go, not proved from fmt's source: count such statements apart). THE CARD IS WHAT COUNTS. Prove the row's statement (the work); the ties are given (YtmonmfpdckdoiaaDoorTie.lean); close each card by the builder's one call (the guide's Derived/Test/ToyasCard.lean, 'card_holds'). Laid BY PROGRAM, IN A SANDBOX (cutbox-door.mjs). By AI agents, Wed Nov 11 2026. No macro, syntax, notation, axiom, sorry.
-/
import Derived.Test.YtmonmfpdckdoiaaDoorRows
import GoSem.ClaimSeven
namespace Go.Proofs.YtmonmfpdckdoiaaDoor
namespace Rows

/-- THE TIED CARD OF 'bluelinelaw06.ChainTells'. -/
def chainTellsCard : Claim7 := { stood := { row := chainTellsRow, standIns := [], harness := (true, "88938e07b57172453b7874b59122558750eaf8704f0d66b43845b074fcaf6265"), looks := false }, kinds := [], alts := [], laidByText := true, laidKinds := [.funcs, .funcs], laidTests := true, laidLooks := .later }
def ChainTellsCardSaid : Prop := Claim7.holds Tryd.pinned (.plain (OpenSpec.ofChange chainTellsSpec)) chainTellsCard

/-- THE TIED CARD OF 'bluelinelaw03.NoteForce'. -/
def noteForceCard : Claim7 := { stood := { row := noteForceRow, standIns := [], harness := (true, "88938e07b57172453b7874b59122558750eaf8704f0d66b43845b074fcaf6265"), looks := false }, kinds := [], alts := [], laidByText := true, laidKinds := [.funcs, .funcs], laidTests := true, laidLooks := .later }
def NoteForceCardSaid : Prop := Claim7.holds Tryd.pinned (.plain (OpenSpec.ofChange noteForceSpec)) noteForceCard

/-- THE TIED CARD OF 'bluelinelaw03.NoteRuns'. -/
def noteRunsCard : Claim7 := { stood := { row := noteRunsRow, standIns := [], harness := (true, "88938e07b57172453b7874b59122558750eaf8704f0d66b43845b074fcaf6265"), looks := false }, kinds := [], alts := [], laidByText := true, laidKinds := [.funcs, .funcs], laidTests := true, laidLooks := .later }
def NoteRunsCardSaid : Prop := Claim7.holds Tryd.pinned (.plain (OpenSpec.ofChange noteRunsSpec)) noteRunsCard

/-- THE TIED CARD OF 'bluelinelaw03.NoteClashes'. -/
def noteClashesCard : Claim7 := { stood := { row := noteClashesRow, standIns := [], harness := (true, "88938e07b57172453b7874b59122558750eaf8704f0d66b43845b074fcaf6265"), looks := false }, kinds := [], alts := [], laidByText := true, laidKinds := [.funcs, .funcs], laidTests := true, laidLooks := .later }
def NoteClashesCardSaid : Prop := Claim7.holds Tryd.pinned (.plain (OpenSpec.ofChange noteClashesSpec)) noteClashesCard

/-- THE SECOND FORM's CARD OF 'bluelinelaw06.ChainTells'. -/
def chainTellsUptoCard : Claim7 := { stood := { row := chainTellsUptoRow, standIns := [], harness := (true, "88938e07b57172453b7874b59122558750eaf8704f0d66b43845b074fcaf6265"), looks := false }, kinds := [], alts := [], laidByText := true, laidKinds := [.funcs, .funcs], laidTests := true, laidLooks := .later }
def ChainTellsUptoCardSaid : Prop := Claim7.holds Tryd.pinned (.plain (OpenSpec.upto chainTellsSpec)) chainTellsUptoCard

/-- THE SECOND FORM's CARD OF 'bluelinelaw03.NoteForce'. -/
def noteForceUptoCard : Claim7 := { stood := { row := noteForceUptoRow, standIns := [], harness := (true, "88938e07b57172453b7874b59122558750eaf8704f0d66b43845b074fcaf6265"), looks := false }, kinds := [], alts := [], laidByText := true, laidKinds := [.funcs, .funcs], laidTests := true, laidLooks := .later }
def NoteForceUptoCardSaid : Prop := Claim7.holds Tryd.pinned (.plain (OpenSpec.upto noteForceSpec)) noteForceUptoCard

/-- THE SECOND FORM's CARD OF 'bluelinelaw03.NoteRuns'. -/
def noteRunsUptoCard : Claim7 := { stood := { row := noteRunsUptoRow, standIns := [], harness := (true, "88938e07b57172453b7874b59122558750eaf8704f0d66b43845b074fcaf6265"), looks := false }, kinds := [], alts := [], laidByText := true, laidKinds := [.funcs, .funcs], laidTests := true, laidLooks := .later }
def NoteRunsUptoCardSaid : Prop := Claim7.holds Tryd.pinned (.plain (OpenSpec.upto noteRunsSpec)) noteRunsUptoCard

/-- THE SECOND FORM's CARD OF 'bluelinelaw03.NoteClashes'. -/
def noteClashesUptoCard : Claim7 := { stood := { row := noteClashesUptoRow, standIns := [], harness := (true, "88938e07b57172453b7874b59122558750eaf8704f0d66b43845b074fcaf6265"), looks := false }, kinds := [], alts := [], laidByText := true, laidKinds := [.funcs, .funcs], laidTests := true, laidLooks := .later }
def NoteClashesUptoCardSaid : Prop := Claim7.holds Tryd.pinned (.plain (OpenSpec.upto noteClashesSpec)) noteClashesUptoCard
end Rows
end Go.Proofs.YtmonmfpdckdoiaaDoor
