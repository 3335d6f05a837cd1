/-
  DERIVED. GIVEN WITH THE SEED: THE PROGRAM's TIES (one call each: nine closed facts by the kernel) AND EACH ROW's TIE, after the 31st guide's Derived/Test/Toyas{Tie, Card}.lean. No idea stands in it: it is a product of the set-up. Laid BY PROGRAM, IN A SANDBOX (cutbox-door.mjs). By AI agents, Wed Nov 11 2026. No macro, syntax, notation, axiom, sorry.
-/
import Derived.Test.YtmfanojaldiejaaGreatDoorRows
import Derived.LaidByTextLater
import Derived.SevenTiedAt
import Derived.LaidSub
import Derived.LaidOnce
namespace Go.Proofs.YtmfanojaldiejaaGreatDoor
open Go
set_option maxRecDepth 100000
theorem seatTie1 : Tryz.prog.laidByTextLater [("blueline/sheet.checks", Rows.laid_blueline_sheet_checks), ("blueline/note.checks", Rows.laid_blueline_note_checks)] [.funcs, .funcs] true :=
  Program.laidByTextLater_by_one 31 8 2 (by kernel_rfl) (by kernel_rfl) (by kernel_rfl) (by kernel_rfl) (by kernel_rfl) (by kernel_rfl) (fun _ _ => by kernel_rfl)
theorem noOwnUnsafe : Tryz.pinned.checked.prog.headLifts.contains "ownunsafe" = false := by kernel_rfl
theorem tie : Tryz.prog.laidByTextLater [("blueline/sheet.checks", Rows.laid_blueline_sheet_checks), ("blueline/note.checks", Rows.laid_blueline_note_checks)] [.funcs, .funcs] true :=
  Program.laidByTextLater.sub seatTie1 ["blueline/sheet.checks", "blueline/note.checks"] (by kernel_rfl) (by kernel_rfl)
theorem noteTruth_row_tie : Rows.noteTruthRow.laidByTextAt .later Tryz.pinned [.funcs, .funcs] true :=
  OpenClaim.laidByTextAt_later rfl rfl tie noOwnUnsafe
theorem noteSettled_row_tie : Rows.noteSettledRow.laidByTextAt .later Tryz.pinned [.funcs, .funcs] true :=
  OpenClaim.laidByTextAt_later rfl rfl tie noOwnUnsafe
theorem noteRule_row_tie : Rows.noteRuleRow.laidByTextAt .later Tryz.pinned [.funcs, .funcs] true :=
  OpenClaim.laidByTextAt_later rfl rfl tie noOwnUnsafe
theorem noteStretched_row_tie : Rows.noteStretchedRow.laidByTextAt .later Tryz.pinned [.funcs, .funcs] true :=
  OpenClaim.laidByTextAt_later rfl rfl tie noOwnUnsafe
theorem noteWithdrawn_row_tie : Rows.noteWithdrawnRow.laidByTextAt .later Tryz.pinned [.funcs, .funcs] true :=
  OpenClaim.laidByTextAt_later rfl rfl tie noOwnUnsafe
theorem noteClashed_row_tie : Rows.noteClashedRow.laidByTextAt .later Tryz.pinned [.funcs, .funcs] true :=
  OpenClaim.laidByTextAt_later rfl rfl tie noOwnUnsafe
theorem noteCancelled_row_tie : Rows.noteCancelledRow.laidByTextAt .later Tryz.pinned [.funcs, .funcs] true :=
  OpenClaim.laidByTextAt_later rfl rfl tie noOwnUnsafe
theorem noteMatters_row_tie : Rows.noteMattersRow.laidByTextAt .later Tryz.pinned [.funcs, .funcs] true :=
  OpenClaim.laidByTextAt_later rfl rfl tie noOwnUnsafe
theorem noteTrees_row_tie : Rows.noteTreesRow.laidByTextAt .later Tryz.pinned [.funcs, .funcs] true :=
  OpenClaim.laidByTextAt_later rfl rfl tie noOwnUnsafe
theorem noteTruthUpto_row_tie : Rows.noteTruthUptoRow.laidByTextAt .later Tryz.pinned [.funcs, .funcs] true :=
  OpenClaim.laidByTextAt_later rfl rfl tie noOwnUnsafe
theorem noteSettledUpto_row_tie : Rows.noteSettledUptoRow.laidByTextAt .later Tryz.pinned [.funcs, .funcs] true :=
  OpenClaim.laidByTextAt_later rfl rfl tie noOwnUnsafe
theorem noteRuleUpto_row_tie : Rows.noteRuleUptoRow.laidByTextAt .later Tryz.pinned [.funcs, .funcs] true :=
  OpenClaim.laidByTextAt_later rfl rfl tie noOwnUnsafe
theorem noteStretchedUpto_row_tie : Rows.noteStretchedUptoRow.laidByTextAt .later Tryz.pinned [.funcs, .funcs] true :=
  OpenClaim.laidByTextAt_later rfl rfl tie noOwnUnsafe
theorem noteWithdrawnUpto_row_tie : Rows.noteWithdrawnUptoRow.laidByTextAt .later Tryz.pinned [.funcs, .funcs] true :=
  OpenClaim.laidByTextAt_later rfl rfl tie noOwnUnsafe
theorem noteClashedUpto_row_tie : Rows.noteClashedUptoRow.laidByTextAt .later Tryz.pinned [.funcs, .funcs] true :=
  OpenClaim.laidByTextAt_later rfl rfl tie noOwnUnsafe
theorem noteCancelledUpto_row_tie : Rows.noteCancelledUptoRow.laidByTextAt .later Tryz.pinned [.funcs, .funcs] true :=
  OpenClaim.laidByTextAt_later rfl rfl tie noOwnUnsafe
theorem noteMattersUpto_row_tie : Rows.noteMattersUptoRow.laidByTextAt .later Tryz.pinned [.funcs, .funcs] true :=
  OpenClaim.laidByTextAt_later rfl rfl tie noOwnUnsafe
theorem noteTreesUpto_row_tie : Rows.noteTreesUptoRow.laidByTextAt .later Tryz.pinned [.funcs, .funcs] true :=
  OpenClaim.laidByTextAt_later rfl rfl tie noOwnUnsafe
end Go.Proofs.YtmfanojaldiejaaGreatDoor
