/- Drawn again in inches, or in millimetres, what was known to close still is: the tied card of ChainInches holds. -/
import Derived.Test.YtciiddejfhbncaaGreatDoorCards
import Derived.Test.YtciiddejfhbncaaGreatDoorTie
import Derived.SevenTiedAt
import Derived.Test.YtciiddejfhbncaaGreatDoorP20
import Derived.Test.YtciiddejfhbncaaGreatDoorP28
import Derived.Test.YtciiddejfhbncaaGreatDoorL01
import Derived.Test.YtciiddejfhbncaaGreatDoorL03
set_option linter.all false
set_option linter.deprecated false
namespace Go.Proofs.YtciiddejfhbncaaGreatDoor
open Go Go.Ab Go.ChangeShapes Go.WideShapes Go.ChangeAt Go.RowKit
def G6 (g:Nat):Option (List IC):=if g=2 then some [.fn (.func 229) [],.fn (.func 230) [],.fn (.func 231) [],.fn (.func 232) []] else if g=1 then some [.fn (.func 226) [],.fn (.func 227) [],.fn (.func 228) []] else if g=0 then some (unitI12 225) else .none
theorem gSheet:Tryz.prog.globalNamed "blueline/sheet.checks" = some 2:=by kernel_rfl
theorem tSheet:(Tryz.prog.globals[2]?).map (·.type)=some 213:=by kernel_rfl
theorem gChain:Tryz.prog.globalNamed "blueline/chain.checks" = some 1:=by kernel_rfl
theorem tChain:(Tryz.prog.globals[1]?).map (·.type)=some 188:=by kernel_rfl
theorem own:ownKnob Tryz.prog.godebug=.none:=by kernel_rfl
theorem laidOut:laidOutB Tryz.prog=true:=by kernel_rfl
theorem rep_table {W:World} {g:Nat} {fs:List FuncId} (h0:0 < fs.length) (h:∀ (j:Nat) (f:FuncId),fs[j]?=some f→W.cell? ⟨g,j,.none⟩=some (.func (.func f) #[] #[])):RepI W (okW W) (.ip (fs.map fun f=>.fn (.func f) [])) (.pointer (some ⟨g,0,.none⟩)):=by
 have hb:g < W.heap.size:=block_of_cell (a:=⟨g,0,.none⟩) (h 0 fs[0] (by simp))
 refine .ip _ _ (fun j=>.func (.func (fs.getD j 0)) #[] #[]) rfl hb (fun j c hj=>?_) (fun j c hj=>?_)
 ·rw [List.getElem?_map,Option.map_eq_some_iff] at hj
  obtain ⟨f,hf,rfl⟩:=hj
  have:=h j f hf
  simpa [hf] using this
 ·rw [List.getElem?_map,Option.map_eq_some_iff] at hj
  obtain ⟨f,hf,rfl⟩:=hj
  simpa [hf] using RepI.fn (w:=W) (ok:=okW W) (.func f) [] #[] rfl (fun j c v h=>by simp at h)
theorem sheet_cells {W:World} (h:laidMetH Tryz.prog Rows.chainInchesRow.laid W):∀ (j:Nat) (f:FuncId),[229,230,231,232][j]?=some f→W.cell? ⟨2,j,.none⟩=some (.func (.func f) #[] #[]):=by
 obtain ⟨g,t,cs,fuel,p,hg,ht,hv,hd⟩:=h.funcs (n:= "blueline/sheet.checks") (List.mem_cons_of_mem _ (List.mem_cons_self ..))
 obtain rfl:=Option.some.inj (gSheet.symm.trans hg)
 obtain rfl:=Option.some.inj (tSheet.symm.trans ht)
 intro j f hj
 rw [World.var?_cell hg hv j]
 exact cells_of_table (names:=[[98,108,117,101,108,105,110,101,47,115,104,101,101,116,46,99,104,101,99,107,115,36,49],[98,108,117,101,108,105,110,101,47,115,104,101,101,116,46,99,104,101,99,107,115,36,50],[98,108,117,101,108,105,110,101,47,115,104,101,101,116,46,99,104,101,99,107,115,36,51],[98,108,117,101,108,105,110,101,47,115,104,101,101,116,46,99,104,101,99,107,115,36,52]]) (fs:=[229,230,231,232]) Tryz.underlying213 Tryz.underlying212 rfl rfl Tryz.underlying211 (by kernel_rfl) (by kernel_rfl) rfl (by kernel_rfl) rfl hd j f hj
theorem chain_cells {W:World} (h:laidMetH Tryz.prog Rows.chainInchesRow.laid W):∀ (j:Nat) (f:FuncId),[226,227,228][j]?=some f→W.cell? ⟨1,j,.none⟩=some (.func (.func f) #[] #[]):=by
 obtain ⟨g,t,cs,fuel,p,hg,ht,hv,hd⟩:=h.funcs (n:= "blueline/chain.checks") (List.mem_cons_of_mem _ (List.mem_cons_of_mem _ (List.mem_cons_self ..)))
 obtain rfl:=Option.some.inj (gChain.symm.trans hg)
 obtain rfl:=Option.some.inj (tChain.symm.trans ht)
 intro j f hj
 rw [World.var?_cell hg hv j]
 exact cells_of_table (names:=[[98,108,117,101,108,105,110,101,47,99,104,97,105,110,46,99,104,101,99,107,115,36,49],[98,108,117,101,108,105,110,101,47,99,104,97,105,110,46,99,104,101,99,107,115,36,50],[98,108,117,101,108,105,110,101,47,99,104,97,105,110,46,99,104,101,99,107,115,36,51]]) (fs:=[226,227,228]) Tryz.underlying188 Tryz.underlying187 rfl rfl Tryz.underlying186 (by kernel_rfl) (by kernel_rfl) rfl (by kernel_rfl) rfl hd j f hj
theorem gUnits:Tryz.prog.globalNamed "blueline/size.units" = some 0:=by kernel_rfl
theorem tUnits:(Tryz.prog.globals[0]?).map (·.type)=some 178:=by kernel_rfl
theorem units_cells6 {W:World} (h:laidMetH Tryz.prog Rows.chainInchesRow.laid W):∀ (j:Nat) (v:Value),(unitV12 225)[j]?=some v→W.cell? ⟨0,j,.none⟩=some v:=by
 obtain ⟨g,t,cs,fuel,p,hg,ht,hv,hd⟩:=h.funcs (n:= "blueline/size.units") (List.mem_cons_self ..)
 obtain rfl:=Option.some.inj (gUnits.symm.trans hg)
 obtain rfl:=Option.some.inj (tUnits.symm.trans ht)
 have hU:=units_cells (b:=98) (r:=[108,117,101,108,105,110,101,47,115,105,122,101,46,114,111,117,110,100,101,100]) (f:=225) Tryz.underlying178 (by kernel_rfl) (by kernel_rfl) Tryz.underlying177 ⟨rfl,rfl⟩ ⟨rfl,rfl⟩ ⟨rfl,rfl⟩ ⟨rfl,rfl⟩ (by kernel_rfl) (by kernel_rfl) (by kernel_rfl) Tryz.underlying3 Tryz.underlying9 Tryz.underlying175 (by kernel_rfl) hd
 intro j v hj
 rw [World.var?_cell hg hv j,← Array.getElem?_toList,hU]
 exact hj
theorem rep_G6 {W:World} (h:laidMetH Tryz.prog Rows.chainInchesRow.laid W):∀ g l,G6 g=some l→RepI W (okW W) (.ip l) (.pointer (some ⟨g,0,.none⟩)):=by
 intro g l hl
 unfold G6 at hl
 split at hl
 ·rename_i e;subst e;cases hl;exact rep_table (fs:=[229,230,231,232]) (by decide) (sheet_cells h)
 ·split at hl
  ·rename_i e;subst e;cases hl;exact rep_table (fs:=[226,227,228]) (by decide) (chain_cells h)
  ·split at hl
   ·rename_i e;subst e;cases hl;exact rep_units (units_cells6 h)
   ·cases hl
theorem door_met (os:Os) (args:Array Value):laidMetH Tryz.prog Rows.chainInchesRow.laid ((World.doorLaid Tryz.prog 600 os).forCall (fun _ _=>0) ⟨#[],args,[]⟩).memory:=
 laidMetH_of_parts3 (fuel:=8) (laidMet_of_run' 8 (by kernel_rfl) (by kernel_rfl)) (by kernel_rfl) (by kernel_rfl)
set_option maxRecDepth 100000 in
theorem chainInches_lifted (os:Os) (started:os.Started) (H:Type) (enc:TypeId×Value→H) :
 ReturnsInHanded {} Tryz.checked os 12 .any (fun w args=>(Rows.chainInchesSpec.pre enc Tryz.prog Tryz.f12 [] false w args∧laidMetH Tryz.prog Rows.chainInchesRow.laid w)∧sizedMet enc Tryz.prog Tryz.f12 (OpenSpec.ofChange Rows.chainInchesSpec) false w args)
  (Rows.chainInchesSpec.post enc Tryz.prog Tryz.f12 false true false false):=by
 refine returnsInHanded_of_change_and (C:=Tryz.checked) (X:=fun w _=>laidMetH Tryz.prog Rows.chainInchesRow.laid w) (fun _ _ _ hh h=>h.of_heap hh) own started (by kernel_rfl) Tryz.func12
  (ChangeSpec.witness_shaped (enc:=enc) (C:=Tryz.checked) (os:=os) (X:=fun w _=>laidMetH Tryz.prog Rows.chainInchesRow.laid w) false (World.doorLaid Tryz.prog 600 os) #[.agg #[.slice .none 0 0,.slice .none 0 0,.int .i64 0,.slice .none 0 0],.bool false] 8 rfl (World.shaped_of_RefB (by kernel_rfl) (by kernel_rfl)) (by kernel_rfl) (by kernel_rfl) (by kernel_rfl) (door_met os _)) ?_
 intro W base args ds gs before hval0 hW _ _ hL _
 have hval:∀ (j:Nat) t v,Tryz.f12.params[j]?=some t→args[j]?=some v→Value.okWide Tryz.prog W .any base t v:=hval0
 have hW':=hW
 obtain ⟨p,q,hA0,hV,rfl,hfz,hnd⟩:=hW
 have hA:DataW.TrodAll enc Tryz.prog W 0 (fun _=>true) true Tryz.f12.params.toList args.toList ds p:=hA0
 rw [Tryz.params12] at hA hval
 obtain ⟨v0,v1,d0,d1,p0,p1,rfl,rfl,rfl,h0,h1⟩:=trodAll_two hA
 obtain ⟨rfl,rfl⟩:=trodVars_none hV
 obtain ⟨cs0,rfl,hcs0⟩:=okWide_struct Tryz.underlying28 (hval 0 28 v0 rfl rfl)
 obtain ⟨n1,rfl,rfl,rfl⟩:=open_bool Tryz.underlying4 (hval 1 4 v1 rfl rfl) h1
 clear hA0 hval0
 simp only [List.append_nil] at hW'
 have h0k:=h0
 obtain ⟨fuel0,hf0⟩:=h0
 obtain ⟨l0,⟨c0,hc0,rfl⟩,hR0⟩:=rdChains H enc W fuel0 cs0.toList _ hf0
 have hlt0:∀ x∈p0,x.block < W.heap.size:=fun x hx=>by simpa using hW'.lt x (by simp [hx])
 have hcall:=(chainInches_c (G:=G6) c0 n1 _ _ _ rfl rfl (units_G G6 rfl) (sortFOk G6) (sortGOk G6) hc0 []).calls (vs:=#[.agg cs0,.bool n1]) (W:=W) (u:=.bool true) (rep_G6 hL) rfl (fun j d v hd hv=>by
  match j with
  | 0=>simp at hd hv;subst hd;subst hv;exact .ofCells hR0
  | 1=>simp at hd hv;subst hd;subst hv;exact .ofCell (c:=.raw (.bool n1)) (.one (.raw _ rfl))
  | j + 2=>simp at hd)
 refine hcall.mono fun e W' ⟨he,hnx⟩=>?_
 subst he
 refine ⟨_,rfl,_,_,_,[],p0,[],hW',trodAll_mk1 (shut_bool Tryz.underlying4 _),?_,rfl,hnx.frame _,fun h=>by cases h⟩
 have hend:=trodAll_mk2 (Below.trod laidOut (by kernel_rfl) (of_decide_eq_true (by kernel_rfl)) h0k hnx hlt0) (shut_bool (enc:=enc) (w:=W') (base:=0) (spare:=fun b=>decide (b < W.heap.size)) (held:=true) Tryz.underlying4 n1)
 simp only [List.append_nil,List.nil_append,List.append_assoc] at hend ⊢
 exact hend
theorem chainInches_holds:Rows.ChainInchesSaid:=
 OpenClaim.holds_of_wide 12 Tryz.f12 rfl rfl rfl rfl rfl rfl rfl ⟨rfl,rfl,rfl,rfl,rfl⟩ rfl rfl rfl rfl rfl (by kernel_rfl) Tryz.func12 chainInches_closed
  (of_decide_eq_true (by kernel_rfl)) (by unfold Func.isWrapper;first|(rw [if_pos (by decide +kernel)];kernel_rfl)|(rw [if_neg (by decide +kernel)];exact ⟨rfl,rfl⟩))
  (fun os started H enc _=>chainInches_lifted os started H enc)
theorem chainInches_card_holds:Rows.ChainInchesCardSaid:=
 Claim7.holds_tied_plain_at .later [] [.funcs,.funcs,.funcs] true (true, "350668f687cef4ce4d196cdf73f180f2e7ca5ae0c549fe7f311a71e6632fdca7") false
  chainInches_holds (fun _ h=>by cases h) (by kernel_rfl) (fun _ h=>by cases h) chainInches_row_tie rfl ⟨rfl,rfl⟩ (by kernel_rfl) rfl
  (fun f fn hf hfn=>by
   obtain rfl:f=12:=Option.some.inj ((show Tryz.prog.funcNamed "blueline/bluelinelaw06.ChainInches" = some 12 by kernel_rfl).symm.trans hf) |>.symm
   obtain rfl:fn=Tryz.f12:=(Option.some.inj (Tryz.func12.symm.trans hfn)).symm
   exact ⟨by kernel_rfl,fun j t ht=>by
    rw [Tryz.params12] at ht
    have hm:t∈[28,4]:=by simpa using Array.mem_of_getElem? ht
    have hall:([28,4].all fun u=>!Tryz.prog.wantsStandIn u)=true:=by kernel_rfl
    exact (show Tryz.prog.wantsStandIn t=false by simpa using List.all_eq_true.1 hall t hm)⟩)
  (by kernel_rfl)
#print axioms chainInches_card_holds
end Go.Proofs.YtciiddejfhbncaaGreatDoor
