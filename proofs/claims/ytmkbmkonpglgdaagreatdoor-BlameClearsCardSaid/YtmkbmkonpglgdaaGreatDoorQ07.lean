/- The sizes that clear a hand, and the case with another measurement, are those of the reference, and what is returned shares no memory with the case, for every case, piece and size: no condition beyond the statement's own guard. -/
import Derived.Test.YtmkbmkonpglgdaaGreatDoorCards
import Derived.Test.YtmkbmkonpglgdaaGreatDoorTie
import Derived.SevenTiedAt
import Derived.Test.YtmkbmkonpglgdaaGreatDoorQ01
import Derived.Test.YtmkbmkonpglgdaaGreatDoorQ02
import Derived.Test.YtmkbmkonpglgdaaGreatDoorQ04
import Derived.Test.YtmkbmkonpglgdaaGreatDoorQ06
set_option linter.all false
set_option linter.deprecated false
namespace Go.Proofs.YtmkbmkonpglgdaaGreatDoor
open Go Go.Ab Go.ChangeShapes Go.WideShapes Go.ChangeAt Go.RowKit
def G6 (g:Nat):Option (List IC):=if g=0 then some [.fn (.func 166) [],.fn (.func 167) [],.fn (.func 168) [],.fn (.func 169) []] else if g=2 then some [.fn (.func 184) [],.fn (.func 186) [],.fn (.func 187) [],.fn (.func 188) [],.fn (.func 189) [],.fn (.func 190) [],.fn (.func 193) [],.fn (.func 195) []] else if g=1 then some [.fn (.func 176) [],.fn (.func 177) [],.fn (.func 178) [],.fn (.func 181) [],.fn (.func 182) []] else .none
theorem gSheet:Tryz.prog.globalNamed "blueline/sheet.checks" = some 0:=by kernel_rfl
theorem tSheet:(Tryz.prog.globals[0]?).map (·.type)=some 159:=by kernel_rfl
theorem gNote:Tryz.prog.globalNamed "blueline/note.checks" = some 2:=by kernel_rfl
theorem tNote:(Tryz.prog.globals[2]?).map (·.type)=some 204:=by kernel_rfl
theorem gRecall:Tryz.prog.globalNamed "blueline/recall.checks" = some 1:=by kernel_rfl
theorem tRecall:(Tryz.prog.globals[1]?).map (·.type)=some 186:=by kernel_rfl
theorem own:ownKnob Tryz.prog.godebug=.none:=by kernel_rfl
theorem laidOut:laidOutB Tryz.prog=true:=by kernel_rfl
theorem rep_table {W:World} {g:Nat} {fs:List FuncId} (h0:0 < fs.length) (h:∀ (j:Nat) (f:FuncId),fs[j]?=some f→W.cell? ⟨g,j,.none⟩=some (.func (.func f) #[] #[])):RepI W (okW W) (.ip (fs.map fun f=>.fn (.func f) [])) (.pointer (some ⟨g,0,.none⟩)):=by
 have hb:g < W.heap.size:=block_of_cell (a:=⟨g,0,.none⟩) (h 0 fs[0] (by simp))
 refine .ip _ _ (fun j=>.func (.func (fs.getD j 0)) #[] #[]) rfl hb (fun j c hj=>?_) (fun j c hj=>?_)
 ·rw [List.getElem?_map,Option.map_eq_some_iff] at hj
  obtain ⟨f,hf,rfl⟩:=hj
  have:=h j f hf
  simpa [hf] using this
 ·rw [List.getElem?_map,Option.map_eq_some_iff] at hj
  obtain ⟨f,hf,rfl⟩:=hj
  simpa [hf] using RepI.fn (w:=W) (ok:=okW W) (.func f) [] #[] rfl (fun j c v h=>by simp at h)
theorem sheet_cells {W:World} (h:laidMetH Tryz.prog Rows.blameClearsRow.laid W):∀ (j:Nat) (f:FuncId),[166,167,168,169][j]?=some f→W.cell? ⟨0,j,.none⟩=some (.func (.func f) #[] #[]):=by
 obtain ⟨g,t,cs,fuel,p,hg,ht,hv,hd⟩:=h.funcs (n:= "blueline/sheet.checks") (List.mem_cons_self ..)
 obtain rfl:=Option.some.inj (gSheet.symm.trans hg)
 obtain rfl:=Option.some.inj (tSheet.symm.trans ht)
 intro j f hj
 rw [World.var?_cell hg hv j]
 exact cells_of_table (names:=[[98,108,117,101,108,105,110,101,47,115,104,101,101,116,46,99,104,101,99,107,115,36,49],[98,108,117,101,108,105,110,101,47,115,104,101,101,116,46,99,104,101,99,107,115,36,50],[98,108,117,101,108,105,110,101,47,115,104,101,101,116,46,99,104,101,99,107,115,36,51],[98,108,117,101,108,105,110,101,47,115,104,101,101,116,46,99,104,101,99,107,115,36,52]]) (fs:=[166,167,168,169]) Tryz.underlying159 Tryz.underlying158 rfl rfl Tryz.underlying157 (by kernel_rfl) (by kernel_rfl) rfl (by kernel_rfl) rfl hd j f hj
theorem note_cells {W:World} (h:laidMetH Tryz.prog Rows.blameClearsRow.laid W):∀ (j:Nat) (f:FuncId),[184,186,187,188,189,190,193,195][j]?=some f→W.cell? ⟨2,j,.none⟩=some (.func (.func f) #[] #[]):=by
 obtain ⟨g,t,cs,fuel,p,hg,ht,hv,hd⟩:=h.funcs (n:= "blueline/note.checks") (List.mem_cons_of_mem _ (List.mem_cons_self ..))
 obtain rfl:=Option.some.inj (gNote.symm.trans hg)
 obtain rfl:=Option.some.inj (tNote.symm.trans ht)
 intro j f hj
 rw [World.var?_cell hg hv j]
 exact cells_of_table (names:=[[98,108,117,101,108,105,110,101,47,110,111,116,101,46,99,104,101,99,107,115,36,49],[98,108,117,101,108,105,110,101,47,110,111,116,101,46,99,104,101,99,107,115,36,50],[98,108,117,101,108,105,110,101,47,110,111,116,101,46,99,104,101,99,107,115,36,51],[98,108,117,101,108,105,110,101,47,110,111,116,101,46,99,104,101,99,107,115,36,52],[98,108,117,101,108,105,110,101,47,110,111,116,101,46,99,104,101,99,107,115,36,53],[98,108,117,101,108,105,110,101,47,110,111,116,101,46,99,104,101,99,107,115,36,54],[98,108,117,101,108,105,110,101,47,110,111,116,101,46,99,104,101,99,107,115,36,55],[98,108,117,101,108,105,110,101,47,110,111,116,101,46,99,104,101,99,107,115,36,56]]) (fs:=[184,186,187,188,189,190,193,195]) Tryz.underlying204 Tryz.underlying203 rfl rfl Tryz.underlying194 (by kernel_rfl) (by kernel_rfl) rfl (by kernel_rfl) rfl hd j f hj
theorem recall_cells {W:World} (h:laidMetH Tryz.prog Rows.blameClearsRow.laid W):∀ (j:Nat) (f:FuncId),[176,177,178,181,182][j]?=some f→W.cell? ⟨1,j,.none⟩=some (.func (.func f) #[] #[]):=by
 obtain ⟨g,t,cs,fuel,p,hg,ht,hv,hd⟩:=h.funcs (n:= "blueline/recall.checks") (List.mem_cons_of_mem _ (List.mem_cons_of_mem _ (List.mem_cons_self ..)))
 obtain rfl:=Option.some.inj (gRecall.symm.trans hg)
 obtain rfl:=Option.some.inj (tRecall.symm.trans ht)
 intro j f hj
 rw [World.var?_cell hg hv j]
 exact cells_of_table (names:=[[98,108,117,101,108,105,110,101,47,114,101,99,97,108,108,46,99,104,101,99,107,115,36,49],[98,108,117,101,108,105,110,101,47,114,101,99,97,108,108,46,99,104,101,99,107,115,36,50],[98,108,117,101,108,105,110,101,47,114,101,99,97,108,108,46,99,104,101,99,107,115,36,51],[98,108,117,101,108,105,110,101,47,114,101,99,97,108,108,46,99,104,101,99,107,115,36,52],[98,108,117,101,108,105,110,101,47,114,101,99,97,108,108,46,99,104,101,99,107,115,36,53]]) (fs:=[176,177,178,181,182]) Tryz.underlying186 Tryz.underlying185 rfl rfl Tryz.underlying183 (by kernel_rfl) (by kernel_rfl) rfl (by kernel_rfl) rfl hd j f hj
theorem rep_G6 {W:World} (h:laidMetH Tryz.prog Rows.blameClearsRow.laid W):∀ g l,G6 g=some l→RepI W (okW W) (.ip l) (.pointer (some ⟨g,0,.none⟩)):=by
 intro g l hl
 unfold G6 at hl
 split at hl
 ·rename_i e;subst e;cases hl;exact rep_table (fs:=[166,167,168,169]) (by decide) (sheet_cells h)
 ·split at hl
  ·rename_i e;subst e;cases hl;exact rep_table (fs:=[184,186,187,188,189,190,193,195]) (by decide) (note_cells h)
  ·split at hl
   ·rename_i e;subst e;cases hl;exact rep_table (fs:=[176,177,178,181,182]) (by decide) (recall_cells h)
   ·cases hl
theorem door_met (os:Os) (args:Array Value):laidMetH Tryz.prog Rows.blameClearsRow.laid ((World.doorLaid Tryz.prog 600 os).forCall (fun _ _=>0) ⟨#[],args,[]⟩).memory:=
 laidMetH_of_parts3 (fuel:=8) (laidMet_of_run' 8 (by kernel_rfl) (by kernel_rfl)) (by kernel_rfl) (by kernel_rfl)
set_option maxRecDepth 100000 in
theorem blameClears_lifted (os:Os) (started:os.Started) (H:Type) (enc:TypeId×Value→H) :
 ReturnsInHanded {} Tryz.checked os 4 .any (fun w args=>(Rows.blameClearsSpec.pre enc Tryz.prog Tryz.f4 [] false w args∧laidMetH Tryz.prog Rows.blameClearsRow.laid w)∧sizedMet enc Tryz.prog Tryz.f4 (OpenSpec.ofChange Rows.blameClearsSpec) false w args)
  (Rows.blameClearsSpec.post enc Tryz.prog Tryz.f4 false true false false):=by
 refine returnsInHanded_of_change_and (C:=Tryz.checked) (X:=fun w _=>laidMetH Tryz.prog Rows.blameClearsRow.laid w) (fun _ _ _ hh h=>h.of_heap hh) own started (by kernel_rfl) Tryz.func4
  (ChangeSpec.witness_shaped (enc:=enc) (C:=Tryz.checked) (os:=os) (X:=fun w _=>laidMetH Tryz.prog Rows.blameClearsRow.laid w) false (World.doorLaid Tryz.prog 600 os) #[.agg #[.slice .none 0 0,.slice .none 0 0,.slice .none 0 0,.slice .none 0 0,.int .i64 0,.int .i64 0,.slice .none 0 0,.int .i64 0,.int .i64 0,.slice .none 0 0],.int .i64 0,.agg #[.int .i64 0,.int .i64 0]] 8 rfl (World.shaped_of_RefB (by kernel_rfl) (by kernel_rfl)) (by kernel_rfl) (by kernel_rfl) (by kernel_rfl) (door_met os _)) ?_
 intro W base args ds gs before hval0 hW _ _ hL _
 have hval:∀ (j:Nat) t v,Tryz.f4.params[j]?=some t→args[j]?=some v→Value.okWide Tryz.prog W .any base t v:=hval0
 have hW':=hW
 obtain ⟨p,q,hA0,hV,rfl,hfz,hnd⟩:=hW
 have hA:DataW.TrodAll enc Tryz.prog W 0 (fun _=>true) true Tryz.f4.params.toList args.toList ds p:=hA0
 rw [Tryz.params4] at hA hval
 obtain ⟨v0,v1,v2,d0,d1,d2,p0,p1,p2,rfl,rfl,rfl,h0,h1,h2⟩:=trodAll_three hA
 obtain ⟨rfl,rfl⟩:=trodVars_none hV
 obtain ⟨cs0,rfl,hcs0⟩:=okWide_struct Tryz.underlying39 (hval 0 39 v0 rfl rfl)
 obtain ⟨n1,rfl,rfl,rfl,wn1⟩:=open_int Tryz.underlying3 (hval 1 3 v1 rfl rfl) h1
 obtain ⟨cs2,rfl,hcs2⟩:=okWide_struct Tryz.underlying34 (hval 2 34 v2 rfl rfl)
 clear hA0 hval0
 simp only [List.append_nil] at hW'
 have h0k:=h0
 obtain ⟨fuel0,hf0⟩:=h0
 obtain ⟨l0,⟨c0,hc0,rfl⟩,hR0⟩:=rdCase H enc W fuel0 cs0.toList _ hf0
 have hlt0:∀ x∈p0,x.block < W.heap.size:=fun x hx=>by simpa using hW'.lt x (by simp [hx])
 have h2k:=h2
 obtain ⟨fuel2,hf2⟩:=h2
 obtain ⟨l2,⟨x2,y2,rfl⟩,hR2⟩:=oGap H enc W fuel2 cs2.toList _ hf2
 have hlt2:∀ x∈p2,x.block < W.heap.size:=fun x hx=>by simpa using hW'.lt x (by simp [hx])
 have hcall:=(blameClears_c (G:=G6) c0 n1 x2 y2 rfl rfl (sortOk G6) rfl hc0 []).calls (vs:=#[.agg cs0,.int .i64 n1,.agg cs2]) (W:=W) (u:=.bool true) (rep_G6 hL) rfl (fun j d v hd hv=>by
  match j with
  | 0=>simp at hd hv;subst hd;subst hv;exact .ofCells hR0
  | 1=>simp at hd hv;subst hd;subst hv;exact .ofCell (c:=.raw (.int .i64 n1)) (.one (.raw _ rfl))
  | 2=>simp at hd hv;subst hd;subst hv;exact .ofCells hR2
  | j + 3=>simp at hd)
 refine hcall.mono fun e W' ⟨he,hnx⟩=>?_
 subst he
 refine ⟨_,rfl,_,_,_,[],p0 ++ p2,[],hW',trodAll_mk1 (shut_bool Tryz.underlying4 _),?_,rfl,hnx.frame _,fun h=>by cases h⟩
 have hend:=trodAll_mk3 (Below.trod laidOut (by kernel_rfl) (of_decide_eq_true (by kernel_rfl)) h0k hnx hlt0) (shut_int (enc:=enc) (w:=W') (base:=0) (spare:=fun b=>decide (b < W.heap.size)) (held:=true) Tryz.underlying3 wn1) (Below.trod laidOut (by kernel_rfl) (of_decide_eq_true (by kernel_rfl)) h2k hnx hlt2)
 simp only [List.append_nil,List.nil_append,List.append_assoc] at hend ⊢
 exact hend
theorem blameClears_holds:Rows.BlameClearsSaid:=
 OpenClaim.holds_of_wide 4 Tryz.f4 rfl rfl rfl rfl rfl rfl rfl ⟨rfl,rfl,rfl,rfl,rfl⟩ rfl rfl rfl rfl rfl (by kernel_rfl) Tryz.func4 blameClears_closed
  (of_decide_eq_true (by kernel_rfl)) (by unfold Func.isWrapper;first|(rw [if_pos (by decide +kernel)];kernel_rfl)|(rw [if_neg (by decide +kernel)];exact ⟨rfl,rfl⟩))
  (fun os started H enc _=>blameClears_lifted os started H enc)
theorem blameClears_card_holds:Rows.BlameClearsCardSaid:=
 Claim7.holds_tied_plain_at .later [] [.funcs,.funcs,.funcs] true (true, "d4537277ffbbf47baa8b99270a92b3818bbb118c1c4a7cea581c2a2da5ad13c2") false
  blameClears_holds (fun _ h=>by cases h) (by kernel_rfl) (fun _ h=>by cases h) blameClears_row_tie rfl ⟨rfl,rfl⟩ (by kernel_rfl) rfl
  (fun f fn hf hfn=>by
   obtain rfl:f=4:=Option.some.inj ((show Tryz.prog.funcNamed "blueline/bluelinelaw10.BlameClears" = some 4 by kernel_rfl).symm.trans hf) |>.symm
   obtain rfl:fn=Tryz.f4:=(Option.some.inj (Tryz.func4.symm.trans hfn)).symm
   exact ⟨by kernel_rfl,fun j t ht=>by
    rw [Tryz.params4] at ht
    have hm:t∈[39,3,34]:=by simpa using Array.mem_of_getElem? ht
    have hall:([39,3,34].all fun u=>!Tryz.prog.wantsStandIn u)=true:=by kernel_rfl
    exact (show Tryz.prog.wantsStandIn t=false by simpa using List.all_eq_true.1 hall t hm)⟩)
  (by kernel_rfl)
#print axioms blameClears_card_holds
end Go.Proofs.YtmkbmkonpglgdaaGreatDoor
