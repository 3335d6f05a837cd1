/- Part 21 of the proofs. -/
import Derived.LaidByTextLater
import Derived.LaidSub
import Derived.LaidOnce
import Derived.Test.YtlmlkkoapahmjaaGreatDoorCards
import Derived.JoinedOf
import Derived.KernelRfl
set_option linter.all false
set_option maxHeartbeats 100000000
namespace Go.Proofs.YtlmlkkoapahmjaaGreatDoor
open Go
theorem ym {a b:Bool} (h:a=true) (k:b=true):(a&&b)=true:=by rw[h,k];rfl
set_option maxHeartbeats 100000000 in
theorem fr:joinedFacts Tryz.prog 5 Tryz.f5 Rows.blameCountsSpec Rows.blameCountsRow=true:=by
 unfold joinedFacts;repeat' (with_reducible refine ym ?_ ?_)
 all_goals as_aux_lemma=>kernel_rfl
set_option maxRecDepth 100000
theorem kt1 : Tryz.prog.laidByTextLater [("blueline/sheet.checks", Rows.laid_blueline_sheet_checks), ("blueline/chain.checks", Rows.laid_blueline_chain_checks), ("blueline/note.checks", Rows.laid_blueline_note_checks), ("blueline/recall.checks", Rows.laid_blueline_recall_checks), ("blueline/blame.fine", Rows.laid_blueline_blame_fine), ("blueline/blame.old", Rows.laid_blueline_blame_old), ("blueline/blame.hand", Rows.laid_blueline_blame_hand), ("blueline/blame.kinds", Rows.laid_blueline_blame_kinds)] [.funcs, .funcs, .funcs, .funcs, .data, .data, .data, .funcs] true :=
  Program.laidByTextLater_by_one 72 8 3 (by kernel_rfl) (by kernel_rfl) (by kernel_rfl) (by kernel_rfl) (by kernel_rfl) (by kernel_rfl) (λ_ _ => by kernel_rfl)
theorem kt2 : Tryz.pinned.checked.prog.headLifts.contains "ownunsafe" = false := by kernel_rfl
theorem kt3 : Tryz.prog.laidByTextLater [("blueline/sheet.checks", Rows.laid_blueline_sheet_checks), ("blueline/chain.checks", Rows.laid_blueline_chain_checks), ("blueline/note.checks", Rows.laid_blueline_note_checks), ("blueline/recall.checks", Rows.laid_blueline_recall_checks), ("blueline/blame.fine", Rows.laid_blueline_blame_fine), ("blueline/blame.old", Rows.laid_blueline_blame_old), ("blueline/blame.hand", Rows.laid_blueline_blame_hand)] [.funcs, .funcs, .funcs, .funcs, .data, .data, .data] true :=
  Program.laidByTextLater.sub kt1 ["blueline/sheet.checks", "blueline/chain.checks", "blueline/note.checks", "blueline/recall.checks", "blueline/blame.fine", "blueline/blame.old", "blueline/blame.hand"] (by kernel_rfl) (by kernel_rfl)
theorem blameCounts_row_tie : Rows.blameCountsRow.laidByTextAt .later Tryz.pinned [.funcs, .funcs, .funcs, .funcs, .data, .data, .data] true :=
  OpenClaim.laidByTextAt_later rfl rfl kt3 kt2
end Go.Proofs.YtlmlkkoapahmjaaGreatDoor
