/- The law ChainChanges holds of the program, at any arguments whose numbers are of their types. -/
import Derived.Test.YtpcoahkgkgmmlaaGreatDoorC09
set_option linter.all false
set_option linter.deprecated false
set_option maxHeartbeats 100000000
namespace Go.Proofs.YtpcoahkgkgmmlaaGreatDoor
open Go Go.Ab Go.ChangeShapes Go.WideShapes Go.ChangeAt Go.RowKit
set_option maxHeartbeats 100000000 in
theorem chainChanges_card_holds:Rows.ChainChangesCardSaid:=
 Claim7.holds_tied_plain_at .later [] [.funcs,.funcs,.funcs] true (true, "b7f8b4248eca35c894797a2816dfc645418188a1cfb512ed1e6c0be981e014f9") false
  fe (fun _ h=>by cases h) (by as_aux_lemma=>kernel_rfl) (fun _ h=>by cases h) chainChanges_row_tie rfl ⟨rfl,rfl⟩ (by as_aux_lemma=>kernel_rfl) rfl
  (fun f fn hf hfn=>by
   obtain rfl:f=4:=Option.some.inj ((show Tryz.prog.funcNamed "blueline/bluelinelaw06.ChainChanges" = some 4 by as_aux_lemma=>kernel_rfl).symm.trans hf) |>.symm
   obtain rfl:fn=Tryz.f4:=(Option.some.inj (Tryz.func4.symm.trans hfn)).symm
   exact⟨by as_aux_lemma=>kernel_rfl,fun j t ht=>by
    rw[Tryz.params4] at ht
    have hm:t∈[28,33,3,5]:=by simpa using Array.mem_of_getElem? ht
    have hall:([28,33,3,5].all fun u=>!Tryz.prog.wantsStandIn u)=true:=by as_aux_lemma=>kernel_rfl
    exact(show Tryz.prog.wantsStandIn t=false by simpa using List.all_eq_true.1 hall t hm)⟩)
  (by as_aux_lemma=>kernel_rfl)
#print axioms chainChanges_card_holds
end Go.Proofs.YtpcoahkgkgmmlaaGreatDoor
