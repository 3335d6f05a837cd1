/- The law BlamePrints holds of the program, at any arguments whose numbers are of their types. -/
import Derived.Test.YtjodaihiogfkbaaGreatDoorH07
set_option linter.all false
set_option linter.deprecated false
set_option maxHeartbeats 100000000
namespace Go.Proofs.YtjodaihiogfkbaaGreatDoor
open Go Go.Ab Go.ChangeShapes Go.WideShapes Go.ChangeAt Go.RowKit
set_option maxHeartbeats 100000000 in
theorem blamePrints_card_holds:Rows.BlamePrintsCardSaid:=
 Claim7.holds_tied_plain_at .later [] [.funcs,.funcs,.funcs,.funcs,.data,.data,.data,.funcs] true (true, "bcefd5b011abffda7eda1dd8c5c9ba908278b210fdec878a68784b40e9767e23") false
  gX (fun _ h=>by cases h) (by as_aux_lemma=>kernel_rfl) (fun _ h=>by cases h) blamePrints_row_tie rfl ⟨rfl,rfl⟩ (by as_aux_lemma=>kernel_rfl) rfl
  (fun f fn hf hfn=>by
   obtain rfl:f=14:=Option.some.inj ((show Tryz.prog.funcNamed "blueline/bluelinelaw10.BlamePrints" = some 14 by as_aux_lemma=>kernel_rfl).symm.trans hf) |>.symm
   obtain rfl:fn=Tryz.f14:=(Option.some.inj (Tryz.func14.symm.trans hfn)).symm
   exact⟨by as_aux_lemma=>kernel_rfl,fun j t ht=>by
    rw[Tryz.params14] at ht
    have hm:t∈[39,5]:=by simpa using Array.mem_of_getElem? ht
    have hall:([39,5].all fun u=>!Tryz.prog.wantsStandIn u)=true:=by as_aux_lemma=>kernel_rfl
    exact(show Tryz.prog.wantsStandIn t=false by simpa using List.all_eq_true.1 hall t hm)⟩)
  (by as_aux_lemma=>kernel_rfl)
#print axioms blamePrints_card_holds
end Go.Proofs.YtjodaihiogfkbaaGreatDoor
