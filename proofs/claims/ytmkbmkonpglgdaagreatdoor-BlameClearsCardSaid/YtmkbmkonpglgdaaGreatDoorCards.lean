/-
  DERIVED. GIVEN WITH THE SEED: THE CARDS: each row of YtmkbmkonpglgdaaGreatDoorRows.lean that lists a variable, with what it lists TIED to the program's text (the seventh form; the later family's looks); each row that meets fmt, with fmt's text TOLD by the authors' own Lean function (tested against real Go, not proved from fmt's source: count such statements apart). THE CARD IS WHAT COUNTS. Prove the row's statement (the work); the ties are given (YtmkbmkonpglgdaaGreatDoorTie.lean); close each card by the builder's one call (the guide's Derived/Test/ToyasCard.lean, 'card_holds'). Laid BY PROGRAM, IN A SANDBOX (cutbox-door.mjs). By AI agents, Wed Nov 11 2026. No macro, syntax, notation, axiom, sorry.
-/
import Derived.Test.YtmkbmkonpglgdaaGreatDoorRows
import GoSem.ClaimSeven
namespace Go.Proofs.YtmkbmkonpglgdaaGreatDoor
namespace Rows

/-- THE TIED CARD OF 'bluelinelaw10.BlameTells'. -/
def blameTellsCard : Claim7 := { stood := { row := blameTellsRow, standIns := [], harness := (true, "d4537277ffbbf47baa8b99270a92b3818bbb118c1c4a7cea581c2a2da5ad13c2"), looks := false }, kinds := [], alts := [], laidByText := true, laidKinds := [.funcs, .funcs, .funcs], laidTests := true, laidLooks := .later }
def BlameTellsCardSaid : Prop := Claim7.holds Tryz.pinned (.plain (OpenSpec.ofChange blameTellsSpec)) blameTellsCard

/-- THE TIED CARD OF 'bluelinelaw10.BlameClears'. -/
def blameClearsCard : Claim7 := { stood := { row := blameClearsRow, standIns := [], harness := (true, "d4537277ffbbf47baa8b99270a92b3818bbb118c1c4a7cea581c2a2da5ad13c2"), looks := false }, kinds := [], alts := [], laidByText := true, laidKinds := [.funcs, .funcs, .funcs], laidTests := true, laidLooks := .later }
def BlameClearsCardSaid : Prop := Claim7.holds Tryz.pinned (.plain (OpenSpec.ofChange blameClearsSpec)) blameClearsCard

/-- THE SECOND FORM's CARD OF 'bluelinelaw10.BlameTells'. -/
def blameTellsUptoCard : Claim7 := { stood := { row := blameTellsUptoRow, standIns := [], harness := (true, "d4537277ffbbf47baa8b99270a92b3818bbb118c1c4a7cea581c2a2da5ad13c2"), looks := false }, kinds := [], alts := [], laidByText := true, laidKinds := [.funcs, .funcs, .funcs], laidTests := true, laidLooks := .later }
def BlameTellsUptoCardSaid : Prop := Claim7.holds Tryz.pinned (.plain (OpenSpec.upto blameTellsSpec)) blameTellsUptoCard

/-- THE SECOND FORM's CARD OF 'bluelinelaw10.BlameClears'. -/
def blameClearsUptoCard : Claim7 := { stood := { row := blameClearsUptoRow, standIns := [], harness := (true, "d4537277ffbbf47baa8b99270a92b3818bbb118c1c4a7cea581c2a2da5ad13c2"), looks := false }, kinds := [], alts := [], laidByText := true, laidKinds := [.funcs, .funcs, .funcs], laidTests := true, laidLooks := .later }
def BlameClearsUptoCardSaid : Prop := Claim7.holds Tryz.pinned (.plain (OpenSpec.upto blameClearsSpec)) blameClearsUptoCard
end Rows
end Go.Proofs.YtmkbmkonpglgdaaGreatDoor
