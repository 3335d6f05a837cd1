/-
  DERIVED. GIVEN WITH THE SEED: THE CARDS: each row of YtpcoahkgkgmmlaaGreatDoorRows.lean that lists a variable, with what it lists TIED to the program's text (the seventh form; the later family's looks); each row that meets fmt, with fmt's text TOLD by the authors' own Lean function (tested against real Go, not proved from fmt's source: count such statements apart). THE CARD IS WHAT COUNTS. Prove the row's statement (the work); the ties are given (YtpcoahkgkgmmlaaGreatDoorTie.lean); close each card by the builder's one call (the guide's Derived/Test/ToyasCard.lean, 'card_holds'). Laid BY PROGRAM, IN A SANDBOX (cutbox-door.mjs). By AI agents, Wed Nov 11 2026. No macro, syntax, notation, axiom, sorry.
-/
import Derived.Test.YtpcoahkgkgmmlaaGreatDoorRows
import GoSem.ClaimSeven
namespace Go.Proofs.YtpcoahkgkgmmlaaGreatDoor
namespace Rows

/-- THE TIED CARD OF 'bluelinelaw06.ChainIssues'. -/
def chainIssuesCard : Claim7 := { stood := { row := chainIssuesRow, standIns := [], harness := (true, "b7f8b4248eca35c894797a2816dfc645418188a1cfb512ed1e6c0be981e014f9"), looks := false }, kinds := [], alts := [], laidByText := true, laidKinds := [.funcs, .funcs, .funcs], laidTests := true, laidLooks := .later }
def ChainIssuesCardSaid : Prop := Claim7.holds Tryz.pinned (.plain (OpenSpec.ofChange chainIssuesSpec)) chainIssuesCard

/-- THE TIED CARD OF 'bluelinelaw06.ChainChanges'. -/
def chainChangesCard : Claim7 := { stood := { row := chainChangesRow, standIns := [], harness := (true, "b7f8b4248eca35c894797a2816dfc645418188a1cfb512ed1e6c0be981e014f9"), looks := false }, kinds := [], alts := [], laidByText := true, laidKinds := [.funcs, .funcs, .funcs], laidTests := true, laidLooks := .later }
def ChainChangesCardSaid : Prop := Claim7.holds Tryz.pinned (.plain (OpenSpec.ofChange chainChangesSpec)) chainChangesCard

/-- THE SECOND FORM's CARD OF 'bluelinelaw06.ChainIssues'. -/
def chainIssuesUptoCard : Claim7 := { stood := { row := chainIssuesUptoRow, standIns := [], harness := (true, "b7f8b4248eca35c894797a2816dfc645418188a1cfb512ed1e6c0be981e014f9"), looks := false }, kinds := [], alts := [], laidByText := true, laidKinds := [.funcs, .funcs, .funcs], laidTests := true, laidLooks := .later }
def ChainIssuesUptoCardSaid : Prop := Claim7.holds Tryz.pinned (.plain (OpenSpec.upto chainIssuesSpec)) chainIssuesUptoCard

/-- THE SECOND FORM's CARD OF 'bluelinelaw06.ChainChanges'. -/
def chainChangesUptoCard : Claim7 := { stood := { row := chainChangesUptoRow, standIns := [], harness := (true, "b7f8b4248eca35c894797a2816dfc645418188a1cfb512ed1e6c0be981e014f9"), looks := false }, kinds := [], alts := [], laidByText := true, laidKinds := [.funcs, .funcs, .funcs], laidTests := true, laidLooks := .later }
def ChainChangesUptoCardSaid : Prop := Claim7.holds Tryz.pinned (.plain (OpenSpec.upto chainChangesSpec)) chainChangesUptoCard
end Rows
end Go.Proofs.YtpcoahkgkgmmlaaGreatDoor
