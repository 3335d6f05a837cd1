/- Part 25 of the proofs. -/
import Derived.Test.YtjodaihiogfkbaaGreatDoorCards
import Derived.SevenTiedAt
import Derived.Test.YtjodaihiogfkbaaGreatDoorH01
import Derived.Test.YtjodaihiogfkbaaGreatDoorH02
import Derived.Test.YtjodaihiogfkbaaGreatDoorH06
set_option linter.all false
set_option linter.deprecated false
set_option maxHeartbeats 100000000
namespace Go.Proofs.YtjodaihiogfkbaaGreatDoor
open Go Go.Ab Go.ChangeShapes Go.WideShapes Go.ChangeAt Go.RowKit
def G6 (g:Nat):Option (List IC):=if g=5 then some [.fn (.func 357) [],.fn (.func 358) [],.fn (.func 359) [],.fn (.func 360) []] else if g=7 then some [.fn (.func 372) [],.fn (.func 373) [],.fn (.func 374) []] else if g=4 then some [.fn (.func 346) [],.fn (.func 347) [],.fn (.func 348) [],.fn (.func 349) [],.fn (.func 350) [],.fn (.func 351) [],.fn (.func 354) [],.fn (.func 356) []] else if g=6 then some [.fn (.func 364) [],.fn (.func 365) [],.fn (.func 366) [],.fn (.func 369) [],.fn (.func 370) []] else if g=1 then some [.raw .nilFunc,.fn (.func 339) [],.fn (.func 340) [],.fn (.func 343) []] else if g=0 then some [.raw (.bool false),.raw (.bool false)] else if g=2 then some [.raw (.bool true),.raw (.bool false)] else if g=3 then some [.raw (.bool false),.raw (.bool true)] else .none
theorem gSheet:Tryz.prog.globalNamed "blueline/sheet.checks" = some 5:=by kernel_rfl
theorem tSheet:(Tryz.prog.globals[5]?).map (·.type)=some 311:=by kernel_rfl
theorem gChain:Tryz.prog.globalNamed "blueline/chain.checks" = some 7:=by kernel_rfl
theorem tChain:(Tryz.prog.globals[7]?).map (·.type)=some 386:=by kernel_rfl
theorem gNote:Tryz.prog.globalNamed "blueline/note.checks" = some 4:=by kernel_rfl
theorem tNote:(Tryz.prog.globals[4]?).map (·.type)=some 257:=by kernel_rfl
theorem gRecall:Tryz.prog.globalNamed "blueline/recall.checks" = some 6:=by kernel_rfl
theorem tRecall:(Tryz.prog.globals[6]?).map (·.type)=some 380:=by kernel_rfl
theorem own:ownKnob Tryz.prog.godebug=.none:=by kernel_rfl
theorem Ct:laidOutB Tryz.prog=true:=by kernel_rfl
theorem dR {W:World} {g:Nat} {fs:List FuncId} (h0:0<fs.length) (h:∀ (j:Nat) (f:FuncId),fs[j]?=some f→W.cell? ⟨g,j,.none⟩=some (.func (.func f) #[] #[])):RepI W (vF W) (.ip (fs.map fun f=>.fn (.func f) [])) (.pointer (some ⟨g,0,.none⟩)):=by
 have hb:g<W.heap.size:=V1 (a:=⟨g,0,.none⟩) (h 0 fs[0] (by simp))
 refine .ip _ _ (fun j=>.func (.func (fs.getD j 0)) #[] #[]) rfl hb (fun j c hj=>?_) (fun j c hj=>?_)
 ·rw[List.getElem?_map,Option.map_eq_some_iff] at hj
  obtain⟨f,hf,rfl⟩:=hj
  have:=h j f hf
  simpa[hf] using this
 ·rw[List.getElem?_map,Option.map_eq_some_iff] at hj
  obtain⟨f,hf,rfl⟩:=hj
  simpa[hf] using RepI.fn (w:=W) (ok:=vF W) (.func f) [] #[] rfl (fun j c v h=>by simp at h)
theorem pp {W:World} (h:laidMetH Tryz.prog Rows.blamePrintsRow.laid W):∀ (j:Nat) (f:FuncId),[357,358,359,360][j]?=some f→W.cell? ⟨5,j,.none⟩=some (.func (.func f) #[] #[]):=by
 obtain⟨g,t,cs,fuel,p,hg,ht,hv,hd⟩:=h.funcs (n:= "blueline/sheet.checks") (List.mem_cons_self ..)
 obtain rfl:=Option.some.inj (gSheet.symm.trans hg)
 obtain rfl:=Option.some.inj (tSheet.symm.trans ht)
 intro j f hj
 rw[World.var?_cell hg hv j]
 exact R8 (names:=[[98,108,117,101,108,105,110,101,47,115,104,101,101,116,46,99,104,101,99,107,115,36,49],[98,108,117,101,108,105,110,101,47,115,104,101,101,116,46,99,104,101,99,107,115,36,50],[98,108,117,101,108,105,110,101,47,115,104,101,101,116,46,99,104,101,99,107,115,36,51],[98,108,117,101,108,105,110,101,47,115,104,101,101,116,46,99,104,101,99,107,115,36,52]]) (fs:=[357,358,359,360]) Tryz.underlying311 Tryz.underlying310 rfl rfl Tryz.underlying309 (by kernel_rfl) (by kernel_rfl) rfl (by kernel_rfl) rfl hd j f hj
theorem qG {W:World} (h:laidMetH Tryz.prog Rows.blamePrintsRow.laid W):∀ (j:Nat) (f:FuncId),[372,373,374][j]?=some f→W.cell? ⟨7,j,.none⟩=some (.func (.func f) #[] #[]):=by
 obtain⟨g,t,cs,fuel,p,hg,ht,hv,hd⟩:=h.funcs (n:= "blueline/chain.checks") (List.mem_cons_of_mem _ (List.mem_cons_self ..))
 obtain rfl:=Option.some.inj (gChain.symm.trans hg)
 obtain rfl:=Option.some.inj (tChain.symm.trans ht)
 intro j f hj
 rw[World.var?_cell hg hv j]
 exact R8 (names:=[[98,108,117,101,108,105,110,101,47,99,104,97,105,110,46,99,104,101,99,107,115,36,49],[98,108,117,101,108,105,110,101,47,99,104,97,105,110,46,99,104,101,99,107,115,36,50],[98,108,117,101,108,105,110,101,47,99,104,97,105,110,46,99,104,101,99,107,115,36,51]]) (fs:=[372,373,374]) Tryz.underlying386 Tryz.underlying385 rfl rfl Tryz.underlying384 (by kernel_rfl) (by kernel_rfl) rfl (by kernel_rfl) rfl hd j f hj
theorem rW {W:World} (h:laidMetH Tryz.prog Rows.blamePrintsRow.laid W):∀ (j:Nat) (f:FuncId),[346,347,348,349,350,351,354,356][j]?=some f→W.cell? ⟨4,j,.none⟩=some (.func (.func f) #[] #[]):=by
 obtain⟨g,t,cs,fuel,p,hg,ht,hv,hd⟩:=h.funcs (n:= "blueline/note.checks") (List.mem_cons_of_mem _ (List.mem_cons_of_mem _ (List.mem_cons_self ..)))
 obtain rfl:=Option.some.inj (gNote.symm.trans hg)
 obtain rfl:=Option.some.inj (tNote.symm.trans ht)
 intro j f hj
 rw[World.var?_cell hg hv j]
 exact R8 (names:=[[98,108,117,101,108,105,110,101,47,110,111,116,101,46,99,104,101,99,107,115,36,49],[98,108,117,101,108,105,110,101,47,110,111,116,101,46,99,104,101,99,107,115,36,50],[98,108,117,101,108,105,110,101,47,110,111,116,101,46,99,104,101,99,107,115,36,51],[98,108,117,101,108,105,110,101,47,110,111,116,101,46,99,104,101,99,107,115,36,52],[98,108,117,101,108,105,110,101,47,110,111,116,101,46,99,104,101,99,107,115,36,53],[98,108,117,101,108,105,110,101,47,110,111,116,101,46,99,104,101,99,107,115,36,54],[98,108,117,101,108,105,110,101,47,110,111,116,101,46,99,104,101,99,107,115,36,55],[98,108,117,101,108,105,110,101,47,110,111,116,101,46,99,104,101,99,107,115,36,56]]) (fs:=[346,347,348,349,350,351,354,356]) Tryz.underlying257 Tryz.underlying256 rfl rfl Tryz.underlying254 (by kernel_rfl) (by kernel_rfl) rfl (by kernel_rfl) rfl hd j f hj
theorem nS {W:World} (h:laidMetH Tryz.prog Rows.blamePrintsRow.laid W):∀ (j:Nat) (f:FuncId),[364,365,366,369,370][j]?=some f→W.cell? ⟨6,j,.none⟩=some (.func (.func f) #[] #[]):=by
 obtain⟨g,t,cs,fuel,p,hg,ht,hv,hd⟩:=h.funcs (n:= "blueline/recall.checks") (List.mem_cons_of_mem _ (List.mem_cons_of_mem _ (List.mem_cons_of_mem _ (List.mem_cons_self ..))))
 obtain rfl:=Option.some.inj (gRecall.symm.trans hg)
 obtain rfl:=Option.some.inj (tRecall.symm.trans ht)
 intro j f hj
 rw[World.var?_cell hg hv j]
 exact R8 (names:=[[98,108,117,101,108,105,110,101,47,114,101,99,97,108,108,46,99,104,101,99,107,115,36,49],[98,108,117,101,108,105,110,101,47,114,101,99,97,108,108,46,99,104,101,99,107,115,36,50],[98,108,117,101,108,105,110,101,47,114,101,99,97,108,108,46,99,104,101,99,107,115,36,51],[98,108,117,101,108,105,110,101,47,114,101,99,97,108,108,46,99,104,101,99,107,115,36,52],[98,108,117,101,108,105,110,101,47,114,101,99,97,108,108,46,99,104,101,99,107,115,36,53]]) (fs:=[364,365,366,369,370]) Tryz.underlying380 Tryz.underlying379 rfl rfl Tryz.underlying377 (by kernel_rfl) (by kernel_rfl) rfl (by kernel_rfl) rfl hd j f hj
theorem gKinds:Tryz.prog.globalNamed "blueline/blame.kinds" = some 1:=by kernel_rfl
theorem tKinds:(Tryz.prog.globals[1]?).map (·.type)=some 211:=by kernel_rfl
theorem od {W:World} (h:laidMetH Tryz.prog Rows.blamePrintsRow.laid W):∀ (j:Nat) (v:Value),[Value.nilFunc,.func (.func 339) #[] #[],.func (.func 340) #[] #[],.func (.func 343) #[] #[]][j]?=some v→W.cell? ⟨1,j,.none⟩=some v:=by
 obtain⟨g,t,cs,fuel,p,hg,ht,hv,hd⟩:=h.funcs (n:= "blueline/blame.kinds") (List.mem_cons_of_mem _ (List.mem_cons_of_mem _ (List.mem_cons_of_mem _ (List.mem_cons_of_mem _ (List.mem_cons_of_mem _ (List.mem_cons_of_mem _ (List.mem_cons_of_mem _ (List.mem_cons_self ..))))))))
 obtain rfl:=Option.some.inj (gKinds.symm.trans hg)
 obtain rfl:=Option.some.inj (tKinds.symm.trans ht)
 have hU:=pV (b1:=98) (r1:=[108,117,101,108,105,110,101,47,98,108,97,109,101,46,107,105,110,100,115,36,49]) (f1:=339) (b2:=98) (r2:=[108,117,101,108,105,110,101,47,98,108,97,109,101,46,107,105,110,100,115,36,50]) (f2:=340) (b3:=98) (r3:=[108,117,101,108,105,110,101,47,98,108,97,109,101,46,107,105,110,100,115,36,51]) (f3:=343) Tryz.underlying211 Tryz.underlying210 rfl rfl Tryz.underlying209 (by kernel_rfl) (by kernel_rfl) (by kernel_rfl) (by kernel_rfl) (by kernel_rfl) hd
 intro j v hj
 rw[World.var?_cell hg hv j]
 exact hU j v hj
theorem gFine:Tryz.prog.globalNamed "blueline/blame.fine" = some 0:=by kernel_rfl
theorem Gs:(Tryz.prog.globals[0]?).map (·.type)=some 148:=by kernel_rfl
theorem sL {W:World} (h:laidMetH Tryz.prog Rows.blamePrintsRow.laid W):∀ (j:Nat) (v:Value),[Value.bool false,.bool false][j]?=some v→W.cell? ⟨0,j,.none⟩=some v:=by
 have hf:=h.filter fun x=>x.1 == "blueline/blame.fine"
 rw[show (Rows.blamePrintsRow.laid.filter fun x=>x.1 == "blueline/blame.fine")=[("blueline/blame.fine",.agg [.lit (.bool false),.lit (.bool false)])] by rfl] at hf
 obtain⟨cs,hv,hd⟩:=iM (t:=148) (e:=4) Tryz.underlying148 Tryz.underlying4 (by kernel_rfl) (by kernel_rfl) (fun g hg=>by obtain rfl:=Option.some.inj (gFine.symm.trans hg);exact Gs) hf
 intro j v hj
 rw[World.var?_cell gFine hv j]
 exact hd j v hj
theorem gOld:Tryz.prog.globalNamed "blueline/blame.old" = some 2:=by kernel_rfl
theorem Ip:(Tryz.prog.globals[2]?).map (·.type)=some 148:=by kernel_rfl
theorem vE {W:World} (h:laidMetH Tryz.prog Rows.blamePrintsRow.laid W):∀ (j:Nat) (v:Value),[Value.bool true,.bool false][j]?=some v→W.cell? ⟨2,j,.none⟩=some v:=by
 have hf:=h.filter fun x=>x.1 == "blueline/blame.old"
 rw[show (Rows.blamePrintsRow.laid.filter fun x=>x.1 == "blueline/blame.old")=[("blueline/blame.old",.agg [.lit (.bool true),.lit (.bool false)])] by rfl] at hf
 obtain⟨cs,hv,hd⟩:=iM (t:=148) (e:=4) Tryz.underlying148 Tryz.underlying4 (by kernel_rfl) (by kernel_rfl) (fun g hg=>by obtain rfl:=Option.some.inj (gOld.symm.trans hg);exact Ip) hf
 intro j v hj
 rw[World.var?_cell gOld hv j]
 exact hd j v hj
theorem gHand:Tryz.prog.globalNamed "blueline/blame.hand" = some 3:=by kernel_rfl
theorem Gr:(Tryz.prog.globals[3]?).map (·.type)=some 148:=by kernel_rfl
theorem sG {W:World} (h:laidMetH Tryz.prog Rows.blamePrintsRow.laid W):∀ (j:Nat) (v:Value),[Value.bool false,.bool true][j]?=some v→W.cell? ⟨3,j,.none⟩=some v:=by
 have hf:=h.filter fun x=>x.1 == "blueline/blame.hand"
 rw[show (Rows.blamePrintsRow.laid.filter fun x=>x.1 == "blueline/blame.hand")=[("blueline/blame.hand",.agg [.lit (.bool false),.lit (.bool true)])] by rfl] at hf
 obtain⟨cs,hv,hd⟩:=iM (t:=148) (e:=4) Tryz.underlying148 Tryz.underlying4 (by kernel_rfl) (by kernel_rfl) (fun g hg=>by obtain rfl:=Option.some.inj (gHand.symm.trans hg);exact Gr) hf
 intro j v hj
 rw[World.var?_cell gHand hv j]
 exact hd j v hj
theorem Ew {W:World} (h:laidMetH Tryz.prog Rows.blamePrintsRow.laid W):∀ g l,G6 g=some l→RepI W (vF W) (.ip l) (.pointer (some ⟨g,0,.none⟩)):=by
 intro g l hl
 unfold G6 at hl
 split at hl
 ·rename_i e;subst e;cases hl;exact dR (fs:=[357,358,359,360]) (by decide) (pp h)
 ·split at hl
  ·rename_i e;subst e;cases hl;exact dR (fs:=[372,373,374]) (by decide) (qG h)
  ·split at hl
   ·rename_i e;subst e;cases hl;exact dR (fs:=[346,347,348,349,350,351,354,356]) (by decide) (rW h)
   ·split at hl
    ·rename_i e;subst e;cases hl;exact dR (fs:=[364,365,366,369,370]) (by decide) (nS h)
    ·split at hl
     ·rename_i e;subst e;cases hl;exact vi (od h)
     ·split at hl
      ·rename_i e;subst e;cases hl;exact nQ (sL h)
      ·split at hl
       ·rename_i e;subst e;cases hl;exact nQ (vE h)
       ·split at hl
        ·rename_i e;subst e;cases hl;exact nQ (sG h)
        ·cases hl
theorem Ac (os:Os) (args:Array Value):laidMetH Tryz.prog Rows.blamePrintsRow.laid ((World.doorLaid Tryz.prog 600 os).forCall (fun _ _=>0) ⟨#[],args,[]⟩).memory:=
 laidMetH_of_parts3 (fuel:=8) (laidMet_of_run' 8 (by kernel_rfl) (by kernel_rfl)) (by kernel_rfl) (by kernel_rfl)
set_option maxRecDepth 100000 in
theorem fy (os:Os) (started:os.Started) (H:Type) (enc:TypeId×Value→H) :
 ReturnsInHanded {} Tryz.checked os 14 .any (fun w args=>(Rows.blamePrintsSpec.pre enc Tryz.prog Tryz.f14 [] false w args∧laidMetH Tryz.prog Rows.blamePrintsRow.laid w)∧sizedMet enc Tryz.prog Tryz.f14 (OpenSpec.ofChange Rows.blamePrintsSpec) false w args)
  (Rows.blamePrintsSpec.post enc Tryz.prog Tryz.f14 false true false false):=by
 refine returnsInHanded_of_change_and (C:=Tryz.checked) (X:=fun w _=>laidMetH Tryz.prog Rows.blamePrintsRow.laid w) (fun _ _ _ hh h=>h.of_heap hh) own started (by kernel_rfl) Tryz.func14
  (ChangeSpec.witness_shaped (enc:=enc) (C:=Tryz.checked) (os:=os) (X:=fun w _=>laidMetH Tryz.prog Rows.blamePrintsRow.laid w) false (World.doorLaid Tryz.prog 600 os) #[.agg #[.slice .none 0 0,.slice .none 0 0,.slice .none 0 0,.slice .none 0 0,.int .i64 0,.int .i64 0,.slice .none 0 0,.int .i64 0,.int .i64 0,.slice .none 0 0],.int .u8 0] 8 rfl (World.shaped_of_RefB (by kernel_rfl) (by kernel_rfl)) (by kernel_rfl) (by kernel_rfl) (by kernel_rfl) (Ac os _)) ?_
 intro W base args ds gs tt hval0 hW _ _ hL _
 have hval:∀ (j:Nat) t v,Tryz.f14.params[j]?=some t→args[j]?=some v→Value.okWide Tryz.prog W .any base t v:=hval0
 have hW':=hW
 obtain⟨p,q,hA0,hV,rfl,hfz,hnd⟩:=hW
 have hA:DataW.TrodAll enc Tryz.prog W 0 (fun _=>true) true Tryz.f14.params.toList args.toList ds p:=hA0
 rw[Tryz.params14] at hA hval
 obtain⟨v0,v1,d0,d1,p0,p1,rfl,rfl,rfl,h0,h1⟩:=trodAll_two hA
 obtain⟨rfl,rfl⟩:=trodVars_none hV
 obtain⟨cs0,rfl,hcs0⟩:=okWide_struct Tryz.underlying39 (hval 0 39 v0 rfl rfl)
 obtain⟨n1,rfl,rfl,rfl,wn1⟩:=open_int Tryz.underlying5 (hval 1 5 v1 rfl rfl) h1
 clear hA0 hval0
 simp only[List.append_nil] at hW'
 have rn1:0≤n1∧n1≤255:=by simpa[Lit.wf,IntKind.min,IntKind.max,IntKind.signed,IntKind.bits] using wn1
 obtain⟨m1,rfl⟩:=Int.eq_ofNat_of_zero_le rn1.1
 have rm1:m1<256:=by omega
 have h0k:=h0
 obtain⟨fuel0,hf0⟩:=h0
 obtain⟨l0,⟨c0,hc0,rfl⟩,hR0⟩:=EB H enc W fuel0 cs0.toList _ hf0
 have hlt0:∀ x∈p0,x.block<W.heap.size:=fun x hx=>by simpa using hW'.lt x (by simp[hx])
 have hcall:=(ms (G:=G6) c0 m1 rfl rfl (En G6) (BF G6) rfl rfl rfl ⟨rfl,rfl,rfl⟩ hc0 (Nat.le_of_lt_succ rm1) []).calls (vs:=#[.agg cs0,.int .u8 (m1:Int)]) (W:=W) (u:=.bool true) (Ew hL) rfl (fun j d v hd hv=>by
  match j with
  | 0=>simp at hd hv;subst hd;subst hv;exact .ofCells hR0
  | 1=>simp at hd hv;subst hd;subst hv;exact .ofCell (c:=.raw (.int .u8 (m1:Int))) (.one (.raw _ rfl))
  | j+2=>simp at hd)
 refine hcall.mono fun e W' ⟨he,hnx⟩=>?_
 subst he
 refine⟨_,rfl,_,_,_,[],p0,[],hW',trodAll_mk1 (shut_bool Tryz.underlying4 _),?_,rfl,hnx.frame _,fun h=>by cases h⟩
 have hend:=trodAll_mk2 (Below.trod Ct (by kernel_rfl) (of_decide_eq_true (by kernel_rfl)) h0k hnx hlt0) (shut_int (enc:=enc) (w:=W') (base:=0) (spare:=fun b=>decide (b<W.heap.size)) (held:=true) Tryz.underlying5 wn1)
 simp only[List.append_nil,List.nil_append,List.append_assoc] at hend ⊢
 exact hend
theorem gX:Rows.BlamePrintsSaid:=
 OpenClaim.holds_of_wide 14 Tryz.f14 rfl rfl rfl rfl rfl rfl rfl ⟨rfl,rfl,rfl,rfl,rfl⟩ rfl rfl rfl rfl rfl (by kernel_rfl) Tryz.func14 fA
  (of_decide_eq_true (by kernel_rfl)) (by unfold Func.isWrapper;first|(rw[if_pos (by decide +kernel)];kernel_rfl)|(rw[if_neg (by decide +kernel)];exact⟨rfl,rfl⟩))
  (fun os started H enc _=>fy os started H enc)
end Go.Proofs.YtjodaihiogfkbaaGreatDoor
