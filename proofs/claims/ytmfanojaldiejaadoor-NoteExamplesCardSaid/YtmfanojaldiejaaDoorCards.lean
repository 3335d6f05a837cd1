/-
  DERIVED. GIVEN WITH THE SEED: THE CARDS: each row of YtmfanojaldiejaaDoorRows.lean that lists a variable, with what it lists TIED to the program's text (the seventh form; the later family's looks); each row that meets fmt, with fmt's text TOLD by the authors' own Lean function (tested against real Go, not proved from fmt's source: count such statements apart). THE CARD IS WHAT COUNTS. Prove the row's statement (the work); the ties are given (YtmfanojaldiejaaDoorTie.lean); close each card by the builder's one call (the guide's Derived/Test/ToyasCard.lean, 'card_holds'). Laid BY PROGRAM, IN A SANDBOX (cutbox-door.mjs). By AI agents, Wed Nov 11 2026. No macro, syntax, notation, axiom, sorry.
-/
import Derived.Test.YtmfanojaldiejaaDoorRows
import GoSem.ClaimSeven
namespace Go.Proofs.YtmfanojaldiejaaDoor
namespace Rows

/-- THE TIED CARD OF 'bluelinelaw03.NoteExamples'. -/
def noteExamplesCard : Claim7 := { stood := { row := noteExamplesRow, standIns := [], harness := (true, "28f70b7b5d2ea021856e8c45ff67b51f8e0e5eb97e7167582b51ee84f11b8e8e"), looks := false }, kinds := [], alts := [], laidByText := true, laidKinds := [.funcs, .funcs], laidTests := true, laidLooks := .later }
def NoteExamplesCardSaid : Prop := Claim7.holds Tryd.pinned (.plain (OpenSpec.ofChange noteExamplesSpec)) noteExamplesCard

/-- THE SECOND FORM's CARD OF 'bluelinelaw03.NoteExamples'. -/
def noteExamplesUptoCard : Claim7 := { stood := { row := noteExamplesUptoRow, standIns := [], harness := (true, "28f70b7b5d2ea021856e8c45ff67b51f8e0e5eb97e7167582b51ee84f11b8e8e"), looks := false }, kinds := [], alts := [], laidByText := true, laidKinds := [.funcs, .funcs], laidTests := true, laidLooks := .later }
def NoteExamplesUptoCardSaid : Prop := Claim7.holds Tryd.pinned (.plain (OpenSpec.upto noteExamplesSpec)) noteExamplesUptoCard
end Rows
end Go.Proofs.YtmfanojaldiejaaDoor
