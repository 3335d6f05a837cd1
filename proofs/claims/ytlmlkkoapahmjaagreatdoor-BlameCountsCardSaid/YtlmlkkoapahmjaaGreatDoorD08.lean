/- Part 28 of the proofs. -/
import Derived.Test.YtlmlkkoapahmjaaGreatDoorCards
import Derived.SevenTiedAt
import Derived.Test.YtlmlkkoapahmjaaGreatDoorD01
import Derived.Test.YtlmlkkoapahmjaaGreatDoorD02
import Derived.Test.YtlmlkkoapahmjaaGreatDoorD05
import Derived.Test.YtlmlkkoapahmjaaGreatDoorD06
import Derived.Test.YtlmlkkoapahmjaaGreatDoorD07
set_option linter.all false
set_option maxHeartbeats 100000000
namespace Go.Proofs.YtlmlkkoapahmjaaGreatDoor
open Go Go.Ab Go.ChangeShapes Go.WideShapes Go.ChangeAt Go.RowKit
def G6 (g:Nat):Option (List IC):=if g=4 then some [.fn (.func 315) [],.fn (.func 316) [],.fn (.func 317) [],.fn (.func 318) []] else if g=7 then some [.fn (.func 345) [],.fn (.func 346) [],.fn (.func 347) []] else if g=5 then some [.fn (.func 325) [],.fn (.func 326) [],.fn (.func 327) [],.fn (.func 328) [],.fn (.func 329) [],.fn (.func 330) [],.fn (.func 333) [],.fn (.func 335) []] else if g=6 then some [.fn (.func 337) [],.fn (.func 338) [],.fn (.func 339) [],.fn (.func 342) [],.fn (.func 343) []] else if g=0 then some [.raw (.bool false),.raw (.bool false)] else if g=2 then some [.raw (.bool true),.raw (.bool false)] else if g=3 then some [.raw (.bool false),.raw (.bool true)] else .none
theorem gSheet:Tryz.prog.globalNamed "blueline/sheet.checks" = some 4:=by kernel_rfl
theorem tSheet:(Tryz.prog.globals[4]?).map (·.type)=some 283:=by kernel_rfl
theorem gChain:Tryz.prog.globalNamed "blueline/chain.checks" = some 7:=by kernel_rfl
theorem tChain:(Tryz.prog.globals[7]?).map (·.type)=some 361:=by kernel_rfl
theorem gNote:Tryz.prog.globalNamed "blueline/note.checks" = some 5:=by kernel_rfl
theorem tNote:(Tryz.prog.globals[5]?).map (·.type)=some 306:=by kernel_rfl
theorem gRecall:Tryz.prog.globalNamed "blueline/recall.checks" = some 6:=by kernel_rfl
theorem tRecall:(Tryz.prog.globals[6]?).map (·.type)=some 355:=by kernel_rfl
theorem own:ownKnob Tryz.prog.godebug=.none:=by kernel_rfl
theorem As:laidOutB Tryz.prog=true:=by kernel_rfl
theorem dK {W:World} {g:Nat} {fs:List FuncId} (h0:0<fs.length) (h:∀ (j:Nat) (f:FuncId),fs[j]?=some f->W.cell? ⟨g,j,.none⟩=some (.func (.func f) #[] #[])):RepI W (uc W) (.ip (fs.map λf=>.fn (.func f) [])) (.pointer (some ⟨g,0,.none⟩)):=by
 have hb:g<W.heap.size:=U6 (a:=⟨g,0,.none⟩) (h 0 fs[0] (by simp));refine .ip _ _ (λj=>.func (.func (fs.getD j 0)) #[] #[]) rfl hb (λj c hj=>?_) (λj c hj=>?_)
 ·rw[List.getElem?_map,Option.map_eq_some_iff] at hj;obtain⟨f,hf,rfl⟩:=hj;have:=h j f hf;simpa[hf] using this
 ·rw[List.getElem?_map,Option.map_eq_some_iff] at hj;obtain⟨f,hf,rfl⟩:=hj;simpa[hf] using RepI.fn (w:=W) (ok:=uc W) (.func f) [] #[] rfl (λj c v h=>by simp at h)
theorem ou {W:World} (h:laidMetH Tryz.prog Rows.blameCountsRow.laid W):∀ (j:Nat) (f:FuncId),[315,316,317,318][j]?=some f->W.cell? ⟨4,j,.none⟩=some (.func (.func f) #[] #[]):=by
 obtain⟨g,t,cs,fuel,p,hg,ht,hv,hd⟩:=h.funcs (n:= "blueline/sheet.checks") (List.mem_cons_self ..)
 obtain rfl:=Option.some.inj (gSheet.symm.trans hg);obtain rfl:=Option.some.inj (tSheet.symm.trans ht);intro j f hj;rw[World.var?_cell hg hv j];exact Q7 (names:=[[98,108,117,101,108,105,110,101,47,115,104,101,101,116,46,99,104,101,99,107,115,36,49],[98,108,117,101,108,105,110,101,47,115,104,101,101,116,46,99,104,101,99,107,115,36,50],[98,108,117,101,108,105,110,101,47,115,104,101,101,116,46,99,104,101,99,107,115,36,51],[98,108,117,101,108,105,110,101,47,115,104,101,101,116,46,99,104,101,99,107,115,36,52]]) (fs:=[315,316,317,318]) Tryz.underlying283 Tryz.underlying282 rfl rfl Tryz.underlying281 (by kernel_rfl) (by kernel_rfl) rfl (by kernel_rfl) rfl hd j f hj
theorem pI {W:World} (h:laidMetH Tryz.prog Rows.blameCountsRow.laid W):∀ (j:Nat) (f:FuncId),[345,346,347][j]?=some f->W.cell? ⟨7,j,.none⟩=some (.func (.func f) #[] #[]):=by
 obtain⟨g,t,cs,fuel,p,hg,ht,hv,hd⟩:=h.funcs (n:= "blueline/chain.checks") (List.mem_cons_of_mem _ (List.mem_cons_self ..))
 obtain rfl:=Option.some.inj (gChain.symm.trans hg);obtain rfl:=Option.some.inj (tChain.symm.trans ht);intro j f hj;rw[World.var?_cell hg hv j];exact Q7 (names:=[[98,108,117,101,108,105,110,101,47,99,104,97,105,110,46,99,104,101,99,107,115,36,49],[98,108,117,101,108,105,110,101,47,99,104,97,105,110,46,99,104,101,99,107,115,36,50],[98,108,117,101,108,105,110,101,47,99,104,97,105,110,46,99,104,101,99,107,115,36,51]]) (fs:=[345,346,347]) Tryz.underlying361 Tryz.underlying360 rfl rfl Tryz.underlying359 (by kernel_rfl) (by kernel_rfl) rfl (by kernel_rfl) rfl hd j f hj
theorem qL {W:World} (h:laidMetH Tryz.prog Rows.blameCountsRow.laid W):∀ (j:Nat) (f:FuncId),[325,326,327,328,329,330,333,335][j]?=some f->W.cell? ⟨5,j,.none⟩=some (.func (.func f) #[] #[]):=by
 obtain⟨g,t,cs,fuel,p,hg,ht,hv,hd⟩:=h.funcs (n:= "blueline/note.checks") (List.mem_cons_of_mem _ (List.mem_cons_of_mem _ (List.mem_cons_self ..)))
 obtain rfl:=Option.some.inj (gNote.symm.trans hg);obtain rfl:=Option.some.inj (tNote.symm.trans ht);intro j f hj;rw[World.var?_cell hg hv j];exact Q7 (names:=[[98,108,117,101,108,105,110,101,47,110,111,116,101,46,99,104,101,99,107,115,36,49],[98,108,117,101,108,105,110,101,47,110,111,116,101,46,99,104,101,99,107,115,36,50],[98,108,117,101,108,105,110,101,47,110,111,116,101,46,99,104,101,99,107,115,36,51],[98,108,117,101,108,105,110,101,47,110,111,116,101,46,99,104,101,99,107,115,36,52],[98,108,117,101,108,105,110,101,47,110,111,116,101,46,99,104,101,99,107,115,36,53],[98,108,117,101,108,105,110,101,47,110,111,116,101,46,99,104,101,99,107,115,36,54],[98,108,117,101,108,105,110,101,47,110,111,116,101,46,99,104,101,99,107,115,36,55],[98,108,117,101,108,105,110,101,47,110,111,116,101,46,99,104,101,99,107,115,36,56]]) (fs:=[325,326,327,328,329,330,333,335]) Tryz.underlying306 Tryz.underlying305 rfl rfl Tryz.underlying303 (by kernel_rfl) (by kernel_rfl) rfl (by kernel_rfl) rfl hd j f hj
theorem nr {W:World} (h:laidMetH Tryz.prog Rows.blameCountsRow.laid W):∀ (j:Nat) (f:FuncId),[337,338,339,342,343][j]?=some f->W.cell? ⟨6,j,.none⟩=some (.func (.func f) #[] #[]):=by
 obtain⟨g,t,cs,fuel,p,hg,ht,hv,hd⟩:=h.funcs (n:= "blueline/recall.checks") (List.mem_cons_of_mem _ (List.mem_cons_of_mem _ (List.mem_cons_of_mem _ (List.mem_cons_self ..))))
 obtain rfl:=Option.some.inj (gRecall.symm.trans hg);obtain rfl:=Option.some.inj (tRecall.symm.trans ht);intro j f hj;rw[World.var?_cell hg hv j];exact Q7 (names:=[[98,108,117,101,108,105,110,101,47,114,101,99,97,108,108,46,99,104,101,99,107,115,36,49],[98,108,117,101,108,105,110,101,47,114,101,99,97,108,108,46,99,104,101,99,107,115,36,50],[98,108,117,101,108,105,110,101,47,114,101,99,97,108,108,46,99,104,101,99,107,115,36,51],[98,108,117,101,108,105,110,101,47,114,101,99,97,108,108,46,99,104,101,99,107,115,36,52],[98,108,117,101,108,105,110,101,47,114,101,99,97,108,108,46,99,104,101,99,107,115,36,53]]) (fs:=[337,338,339,342,343]) Tryz.underlying355 Tryz.underlying354 rfl rfl Tryz.underlying352 (by kernel_rfl) (by kernel_rfl) rfl (by kernel_rfl) rfl hd j f hj
theorem gFine:Tryz.prog.globalNamed "blueline/blame.fine" = some 0:=by kernel_rfl
theorem DO:(Tryz.prog.globals[0]?).map (·.type)=some 114:=by kernel_rfl
theorem rm {W:World} (h:laidMetH Tryz.prog Rows.blameCountsRow.laid W):∀ (j:Nat) (v:Value),[Value.bool false,.bool false][j]?=some v->W.cell? ⟨0,j,.none⟩=some v:=by
 have hf:=h.filter λx=>x.1 == "blueline/blame.fine"
 rw[show (Rows.blameCountsRow.laid.filter λx=>x.1 == "blueline/blame.fine")=[("blueline/blame.fine",.agg [.lit (.bool false),.lit (.bool false)])] by rfl] at hf
 obtain⟨cs,hv,hd⟩:=iB (t:=114) (e:=4) Tryz.underlying114 Tryz.underlying4 (by kernel_rfl) (by kernel_rfl) (λg hg=>by obtain rfl:=Option.some.inj (gFine.symm.trans hg);exact DO) hf;intro j v hj;rw[World.var?_cell gFine hv j];exact hd j v hj
theorem gOld:Tryz.prog.globalNamed "blueline/blame.old" = some 2:=by kernel_rfl
theorem FB:(Tryz.prog.globals[2]?).map (·.type)=some 114:=by kernel_rfl
theorem ub {W:World} (h:laidMetH Tryz.prog Rows.blameCountsRow.laid W):∀ (j:Nat) (v:Value),[Value.bool true,.bool false][j]?=some v->W.cell? ⟨2,j,.none⟩=some v:=by
 have hf:=h.filter λx=>x.1 == "blueline/blame.old"
 rw[show (Rows.blameCountsRow.laid.filter λx=>x.1 == "blueline/blame.old")=[("blueline/blame.old",.agg [.lit (.bool true),.lit (.bool false)])] by rfl] at hf
 obtain⟨cs,hv,hd⟩:=iB (t:=114) (e:=4) Tryz.underlying114 Tryz.underlying4 (by kernel_rfl) (by kernel_rfl) (λg hg=>by obtain rfl:=Option.some.inj (gOld.symm.trans hg);exact FB) hf;intro j v hj;rw[World.var?_cell gOld hv j];exact hd j v hj
theorem gHand:Tryz.prog.globalNamed "blueline/blame.hand" = some 3:=by kernel_rfl
theorem DN:(Tryz.prog.globals[3]?).map (·.type)=some 114:=by kernel_rfl
theorem rj {W:World} (h:laidMetH Tryz.prog Rows.blameCountsRow.laid W):∀ (j:Nat) (v:Value),[Value.bool false,.bool true][j]?=some v->W.cell? ⟨3,j,.none⟩=some v:=by
 have hf:=h.filter λx=>x.1 == "blueline/blame.hand"
 rw[show (Rows.blameCountsRow.laid.filter λx=>x.1 == "blueline/blame.hand")=[("blueline/blame.hand",.agg [.lit (.bool false),.lit (.bool true)])] by rfl] at hf
 obtain⟨cs,hv,hd⟩:=iB (t:=114) (e:=4) Tryz.underlying114 Tryz.underlying4 (by kernel_rfl) (by kernel_rfl) (λg hg=>by obtain rfl:=Option.some.inj (gHand.symm.trans hg);exact DN) hf;intro j v hj;rw[World.var?_cell gHand hv j];exact hd j v hj
theorem Cd {W:World} (h:laidMetH Tryz.prog Rows.blameCountsRow.laid W):∀ g l,G6 g=some l->RepI W (uc W) (.ip l) (.pointer (some ⟨g,0,.none⟩)):=by
 intro g l hl;unfold G6 at hl;split at hl
 ·rename_i e;subst e;cases hl;exact dK (fs:=[315,316,317,318]) (by decide) (ou h)
 ·split at hl
  ·rename_i e;subst e;cases hl;exact dK (fs:=[345,346,347]) (by decide) (pI h)
  ·split at hl
   ·rename_i e;subst e;cases hl;exact dK (fs:=[325,326,327,328,329,330,333,335]) (by decide) (qL h)
   ·split at hl
    ·rename_i e;subst e;cases hl;exact dK (fs:=[337,338,339,342,343]) (by decide) (nr h)
    ·split at hl
     ·rename_i e;subst e;cases hl;exact no (rm h)
     ·split at hl
      ·rename_i e;subst e;cases hl;exact no (ub h)
      ·split at hl
       ·rename_i e;subst e;cases hl;exact no (rj h)
       ·cases hl
theorem ya (os:Os) (args:Array Value):laidMetH Tryz.prog Rows.blameCountsRow.laid ((World.doorLaid Tryz.prog 600 os).forCall (λ_ _=>0) ⟨#[],args,[]⟩).memory:=
 laidMetH_of_parts3 (fuel:=8) (laidMet_of_run' 8 (by kernel_rfl) (by kernel_rfl)) (by kernel_rfl) (by kernel_rfl)
set_option maxRecDepth 100000 in
theorem fq (os:Os) (started:os.Started) (H:Type) (enc:TypeId×Value->H) :
 ReturnsInHanded {} Tryz.checked os 5 .any (λw args=>(Rows.blameCountsSpec.pre enc Tryz.prog Tryz.f5 [] false w args/\laidMetH Tryz.prog Rows.blameCountsRow.laid w)/\sizedMet enc Tryz.prog Tryz.f5 (OpenSpec.ofChange Rows.blameCountsSpec) false w args)
  (Rows.blameCountsSpec.post enc Tryz.prog Tryz.f5 false true false false):=by
 refine returnsInHanded_of_change_and (C:=Tryz.checked) (X:=λw _=>laidMetH Tryz.prog Rows.blameCountsRow.laid w) (λ_ _ _ hh h=>h.of_heap hh) own started (by kernel_rfl) Tryz.func5
  (ChangeSpec.witness_shaped (enc:=enc) (C:=Tryz.checked) (os:=os) (X:=λw _=>laidMetH Tryz.prog Rows.blameCountsRow.laid w) false (World.doorLaid Tryz.prog 600 os) #[.agg #[.slice .none 0 0,.slice .none 0 0,.slice .none 0 0,.slice .none 0 0,.int .i64 0,.int .i64 0,.slice .none 0 0,.int .i64 0,.int .i64 0,.slice .none 0 0]] 8 rfl (World.shaped_of_RefB (by kernel_rfl) (by kernel_rfl)) (by kernel_rfl) (by kernel_rfl) (by kernel_rfl) (ya os _)) ?_
 intro W base args ds gs rO hval0 hW _ _ hL _;have hval:∀ (j:Nat) t v,Tryz.f5.params[j]?=some t->args[j]?=some v->Value.okWide Tryz.prog W .any base t v:=hval0;have hW':=hW;obtain⟨p,q,hA0,hV,rfl,hfz,hnd⟩:=hW;have hA:DataW.TrodAll enc Tryz.prog W 0 (λ_=>true) true Tryz.f5.params.toList args.toList ds p:=hA0;rw[Tryz.params5] at hA hval;obtain⟨v0,d0,rfl,rfl,h0⟩:=trodAll_one hA;obtain⟨p0,hp0⟩:∃ p0,p0=p:=⟨p,rfl⟩
 subst hp0;obtain⟨rfl,rfl⟩:=trodVars_none hV;obtain⟨cs0,rfl,hcs0⟩:=okWide_struct Tryz.underlying39 (hval 0 39 v0 rfl rfl);clear hA0 hval0;simp only[List.append_nil] at hW';have h0k:=h0;obtain⟨fuel0,hf0⟩:=h0;obtain⟨l0,⟨c0,hc0,rfl⟩,hR0⟩:=Ci H enc W fuel0 cs0.toList _ hf0;have hlt0:∀ x∈p0,x.block<W.heap.size:=λx hx=>by simpa using hW'.lt x (by simp[hx])
 have hcall:=(lS (G:=G6) c0 rfl rfl (BW G6) (zF G6) rfl rfl ⟨rfl,rfl,rfl⟩ hc0 []).calls (vs:=#[.agg cs0]) (W:=W) (u:=.bool true) (Cd hL) rfl (λj d v hd hv=>by
  match j with
  | 0=>simp at hd hv;subst hd;subst hv;exact .ofCells hR0
  | j+1=>simp at hd)
 refine hcall.mono λe W' ⟨he,hnx⟩=>?_;subst he;refine⟨_,rfl,_,_,_,[],p0,[],hW',trodAll_mk1 (shut_bool Tryz.underlying4 _),?_,rfl,hnx.frame _,λh=>by cases h⟩;have hend:=trodAll_mk1 (Below.trod As (by kernel_rfl) (of_decide_eq_true (by kernel_rfl)) h0k hnx hlt0);simp only[List.append_nil,List.nil_append,List.append_assoc] at hend ⊢;exact hend
theorem gN:Rows.BlameCountsSaid:=
 OpenClaim.holds_of_wide 5 Tryz.f5 rfl rfl rfl rfl rfl rfl rfl ⟨rfl,rfl,rfl,rfl,rfl⟩ rfl rfl rfl rfl rfl (by kernel_rfl) Tryz.func5 fr
  (of_decide_eq_true (by kernel_rfl)) (by unfold Func.isWrapper;first|(rw[if_pos (by decide +kernel)];kernel_rfl)|(rw[if_neg (by decide +kernel)];exact⟨rfl,rfl⟩))
  (λos started H enc _=>fq os started H enc)
end Go.Proofs.YtlmlkkoapahmjaaGreatDoor
