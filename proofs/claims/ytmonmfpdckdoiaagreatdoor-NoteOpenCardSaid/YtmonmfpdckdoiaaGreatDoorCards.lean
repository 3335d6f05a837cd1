/-
  DERIVED. GIVEN WITH THE SEED: THE CARDS: each row of YtmonmfpdckdoiaaGreatDoorRows.lean that lists a variable, with what it lists TIED to the program's text (the seventh form; the later family's looks); each row that meets fmt, with fmt's text TOLD by the authors' own Lean function (tested against real Go, not proved from fmt's source: count such statements apart). THE CARD IS WHAT COUNTS. Prove the row's statement (the work); the ties are given (YtmonmfpdckdoiaaGreatDoorTie.lean); close each card by the builder's one call (the guide's Derived/Test/ToyasCard.lean, 'card_holds'). Laid BY PROGRAM, IN A SANDBOX (cutbox-door.mjs). By AI agents, Wed Nov 11 2026. No macro, syntax, notation, axiom, sorry.
-/
import Derived.Test.YtmonmfpdckdoiaaGreatDoorRows
import GoSem.ClaimSeven
namespace Go.Proofs.YtmonmfpdckdoiaaGreatDoor
namespace Rows

/-- THE TIED CARD OF 'bluelinelaw06.ChainNames'. -/
def chainNamesCard : Claim7 := { stood := { row := chainNamesRow, standIns := [], harness := (true, "4aa0a5f94a9fbb7650453d1e732109879afaca4c60f06a3f4945c3fe156c1516"), looks := false }, kinds := [], alts := [], laidByText := true, laidKinds := [.funcs, .funcs], laidTests := true, laidLooks := .later }
def ChainNamesCardSaid : Prop := Claim7.holds Tryz.pinned (.plain (OpenSpec.ofChange chainNamesSpec)) chainNamesCard

/-- THE TIED CARD OF 'bluelinelaw03.NoteOpen'. -/
def noteOpenCard : Claim7 := { stood := { row := noteOpenRow, standIns := [], harness := (true, "4aa0a5f94a9fbb7650453d1e732109879afaca4c60f06a3f4945c3fe156c1516"), looks := false }, kinds := [], alts := [], laidByText := true, laidKinds := [.funcs, .funcs], laidTests := true, laidLooks := .later }
def NoteOpenCardSaid : Prop := Claim7.holds Tryz.pinned (.plain (OpenSpec.ofChange noteOpenSpec)) noteOpenCard

/-- THE SECOND FORM's CARD OF 'bluelinelaw06.ChainNames'. -/
def chainNamesUptoCard : Claim7 := { stood := { row := chainNamesUptoRow, standIns := [], harness := (true, "4aa0a5f94a9fbb7650453d1e732109879afaca4c60f06a3f4945c3fe156c1516"), looks := false }, kinds := [], alts := [], laidByText := true, laidKinds := [.funcs, .funcs], laidTests := true, laidLooks := .later }
def ChainNamesUptoCardSaid : Prop := Claim7.holds Tryz.pinned (.plain (OpenSpec.upto chainNamesSpec)) chainNamesUptoCard

/-- THE SECOND FORM's CARD OF 'bluelinelaw03.NoteOpen'. -/
def noteOpenUptoCard : Claim7 := { stood := { row := noteOpenUptoRow, standIns := [], harness := (true, "4aa0a5f94a9fbb7650453d1e732109879afaca4c60f06a3f4945c3fe156c1516"), looks := false }, kinds := [], alts := [], laidByText := true, laidKinds := [.funcs, .funcs], laidTests := true, laidLooks := .later }
def NoteOpenUptoCardSaid : Prop := Claim7.holds Tryz.pinned (.plain (OpenSpec.upto noteOpenSpec)) noteOpenUptoCard
end Rows
end Go.Proofs.YtmonmfpdckdoiaaGreatDoor
