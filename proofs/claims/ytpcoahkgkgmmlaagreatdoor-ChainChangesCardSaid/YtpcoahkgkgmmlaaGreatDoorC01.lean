/- Part 20 of the proofs. -/
import Derived.LaidByTextLater
import Derived.LaidSub
import Derived.LaidOnce
import Derived.Test.YtpcoahkgkgmmlaaGreatDoorCards
import Derived.JoinedOf
import Derived.KernelRfl
set_option linter.all false
set_option linter.deprecated false
set_option maxHeartbeats 100000000
namespace Go.Proofs.YtpcoahkgkgmmlaaGreatDoor
open Go
theorem wP {a b:Bool} (h:a=true) (k:b=true):(a&&b)=true:=by rw[h,k];rfl
set_option maxHeartbeats 100000000 in
theorem ep:joinedFacts Tryz.prog 4 Tryz.f4 Rows.chainChangesSpec Rows.chainChangesRow=true:=by
 unfold joinedFacts
 repeat' (with_reducible refine wP ?_ ?_)
 all_goals as_aux_lemma=>kernel_rfl
set_option maxRecDepth 100000
theorem kt1 : Tryz.prog.laidByTextLater [("blueline/size.units", Rows.laid_blueline_size_units), ("blueline/sheet.checks", Rows.laid_blueline_sheet_checks), ("blueline/chain.checks", Rows.laid_blueline_chain_checks)] [.funcs, .funcs, .funcs] true :=
  Program.laidByTextLater_by_one 33 8 2 (by kernel_rfl) (by kernel_rfl) (by kernel_rfl) (by kernel_rfl) (by kernel_rfl) (by kernel_rfl) (fun _ _ => by kernel_rfl)
theorem kt2 : Tryz.pinned.checked.prog.headLifts.contains "ownunsafe" = false := by kernel_rfl
theorem kt3 : Tryz.prog.laidByTextLater [("blueline/size.units", Rows.laid_blueline_size_units), ("blueline/sheet.checks", Rows.laid_blueline_sheet_checks), ("blueline/chain.checks", Rows.laid_blueline_chain_checks)] [.funcs, .funcs, .funcs] true :=
  Program.laidByTextLater.sub kt1 ["blueline/size.units", "blueline/sheet.checks", "blueline/chain.checks"] (by kernel_rfl) (by kernel_rfl)
theorem chainChanges_row_tie : Rows.chainChangesRow.laidByTextAt .later Tryz.pinned [.funcs, .funcs, .funcs] true :=
  OpenClaim.laidByTextAt_later rfl rfl kt3 kt2
end Go.Proofs.YtpcoahkgkgmmlaaGreatDoor
