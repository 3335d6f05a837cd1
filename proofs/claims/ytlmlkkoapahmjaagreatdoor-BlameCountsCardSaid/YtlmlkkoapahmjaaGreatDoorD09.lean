/- The law BlameCounts holds of the program, at any arguments whose numbers are of their types. -/
import Derived.Test.YtlmlkkoapahmjaaGreatDoorD08
set_option linter.all false
set_option maxHeartbeats 100000000
namespace Go.Proofs.YtlmlkkoapahmjaaGreatDoor
open Go Go.Ab Go.ChangeShapes Go.WideShapes Go.ChangeAt Go.RowKit
set_option maxHeartbeats 100000000 in
theorem blameCounts_card_holds:Rows.BlameCountsCardSaid:=
 Claim7.holds_tied_plain_at .later [] [.funcs,.funcs,.funcs,.funcs,.data,.data,.data] true (true, "d1e88c905b080a5aa291fad1c2467e03c3e843b09e90a88b18b9c2c7b420f128") false
  gN (λ_ h=>by cases h) (by as_aux_lemma=>kernel_rfl) (λ_ h=>by cases h) blameCounts_row_tie rfl ⟨rfl,rfl⟩ (by as_aux_lemma=>kernel_rfl) rfl
  (λf fn hf hfn=>by
   obtain rfl:f=5:=Option.some.inj ((show Tryz.prog.funcNamed "blueline/bluelinelaw10.BlameCounts" = some 5 by as_aux_lemma=>kernel_rfl).symm.trans hf) |>.symm
   obtain rfl:fn=Tryz.f5:=(Option.some.inj (Tryz.func5.symm.trans hfn)).symm;exact⟨by as_aux_lemma=>kernel_rfl,λj t ht=>by
    rw[Tryz.params5] at ht;have hm:t∈[39]:=by simpa using Array.mem_of_getElem? ht
    have hall:([39].all λu=>!Tryz.prog.wantsStandIn u)=true:=by as_aux_lemma=>kernel_rfl
    exact(show Tryz.prog.wantsStandIn t=false by simpa using List.all_eq_true.1 hall t hm)⟩)
  (by as_aux_lemma=>kernel_rfl)
#print axioms blameCounts_card_holds
end Go.Proofs.YtlmlkkoapahmjaaGreatDoor
