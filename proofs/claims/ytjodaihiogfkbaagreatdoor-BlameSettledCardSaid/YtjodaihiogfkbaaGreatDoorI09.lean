/- The law BlameSettled holds of the program, at any arguments whose numbers are of their types. -/
import Derived.Test.YtjodaihiogfkbaaGreatDoorI08
set_option linter.all false
set_option maxHeartbeats 100000000
namespace Go.Proofs.YtjodaihiogfkbaaGreatDoor
open Go Go.Ab Go.ChangeShapes Go.WideShapes Go.ChangeAt Go.RowKit
set_option maxHeartbeats 100000000 in
theorem blameSettled_card_holds:Rows.BlameSettledCardSaid:=
 Claim7.holds_tied_plain_at .later [] [.funcs,.funcs,.funcs,.funcs,.data,.data,.data,.funcs] true (true, "bcefd5b011abffda7eda1dd8c5c9ba908278b210fdec878a68784b40e9767e23") false
  gO (λ_ h=>by cases h) (by as_aux_lemma=>kernel_rfl) (λ_ h=>by cases h) blameSettled_row_tie rfl ⟨rfl,rfl⟩ (by as_aux_lemma=>kernel_rfl) rfl
  (λf fn hf hfn=>by
   obtain rfl:f=12:=Option.some.inj ((show Tryz.prog.funcNamed "blueline/bluelinelaw10.BlameSettled" = some 12 by as_aux_lemma=>kernel_rfl).symm.trans hf) |>.symm
   obtain rfl:fn=Tryz.f12:=(Option.some.inj (Tryz.func12.symm.trans hfn)).symm;exact⟨by as_aux_lemma=>kernel_rfl,λj t ht=>by
    rw[Tryz.params12] at ht;have hm:t∈[39,5,4]:=by simpa using Array.mem_of_getElem? ht
    have hall:([39,5,4].all λu=>!Tryz.prog.wantsStandIn u)=true:=by as_aux_lemma=>kernel_rfl
    exact(show Tryz.prog.wantsStandIn t=false by simpa using List.all_eq_true.1 hall t hm)⟩)
  (by as_aux_lemma=>kernel_rfl)
#print axioms blameSettled_card_holds
end Go.Proofs.YtjodaihiogfkbaaGreatDoor
