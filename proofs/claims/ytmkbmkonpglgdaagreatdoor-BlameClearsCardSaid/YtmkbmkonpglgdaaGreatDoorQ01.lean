/- Part 26 of the proofs: laws and walks that hold without conditions beyond those that each theorem names. -/
import Derived.Test.YtmkbmkonpglgdaaGreatDoorCards
import Derived.JoinedOf
import Derived.KernelRfl
set_option linter.all false
set_option linter.deprecated false
namespace Go.Proofs.YtmkbmkonpglgdaaGreatDoor
open Go
theorem bool_and {a b:Bool} (h:a=true) (k:b=true):(a && b)=true:=by rw [h,k];rfl
set_option maxHeartbeats 100000000 in
theorem blameClears_closed:joinedFacts Tryz.prog 4 Tryz.f4 Rows.blameClearsSpec Rows.blameClearsRow=true:=by
 unfold joinedFacts
 repeat' (with_reducible refine bool_and ?_ ?_)
 all_goals as_aux_lemma=>kernel_rfl
end Go.Proofs.YtmkbmkonpglgdaaGreatDoor
