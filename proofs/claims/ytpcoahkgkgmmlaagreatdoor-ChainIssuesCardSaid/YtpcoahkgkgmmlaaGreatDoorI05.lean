/- Part 25 of the proofs. -/
import Derived.Test.YtpcoahkgkgmmlaaGreatDoorCards
import Derived.SevenTiedAt
import Derived.Test.YtpcoahkgkgmmlaaGreatDoorR15
import Derived.Test.YtpcoahkgkgmmlaaGreatDoorI01
import Derived.Test.YtpcoahkgkgmmlaaGreatDoorI02
import Derived.Test.YtpcoahkgkgmmlaaGreatDoorI03
import Derived.Test.YtpcoahkgkgmmlaaGreatDoorI04
set_option linter.all false
set_option linter.deprecated false
set_option maxHeartbeats 100000000
namespace Go.Proofs.YtpcoahkgkgmmlaaGreatDoor
open Go Go.Ab Go.ChangeShapes Go.WideShapes Go.ChangeAt Go.RowKit
def G6 (g:Nat):Option (List IC):=if g=1 then some [.fn (.func 205) [],.fn (.func 206) [],.fn (.func 207) [],.fn (.func 208) []] else if g=0 then some [.fn (.func 202) [],.fn (.func 203) [],.fn (.func 204) []] else if g=2 then some (gS 212) else .none
theorem gSheet:Tryz.prog.globalNamed "blueline/sheet.checks" = some 1:=by kernel_rfl
theorem tSheet:(Tryz.prog.globals[1]?).map (·.type)=some 173:=by kernel_rfl
theorem gChain:Tryz.prog.globalNamed "blueline/chain.checks" = some 0:=by kernel_rfl
theorem tChain:(Tryz.prog.globals[0]?).map (·.type)=some 155:=by kernel_rfl
theorem own:ownKnob Tryz.prog.godebug=.none:=by kernel_rfl
theorem qT:laidOutB Tryz.prog=true:=by kernel_rfl
theorem kL {W:World} {g:Nat} {fs:List FuncId} (h0:0<fs.length) (h:∀ (j:Nat) (f:FuncId),fs[j]?=some f→W.cell? ⟨g,j,.none⟩=some (.func (.func f) #[] #[])):RepI W (tY W) (.ip (fs.map fun f=>.fn (.func f) [])) (.pointer (some ⟨g,0,.none⟩)):=by
 have hb:g<W.heap.size:=ab (a:=⟨g,0,.none⟩) (h 0 fs[0] (by simp))
 refine .ip _ _ (fun j=>.func (.func (fs.getD j 0)) #[] #[]) rfl hb (fun j c hj=>?_) (fun j c hj=>?_)
 ·rw[List.getElem?_map,Option.map_eq_some_iff] at hj
  obtain⟨f,hf,rfl⟩:=hj
  have:=h j f hf
  simpa[hf] using this
 ·rw[List.getElem?_map,Option.map_eq_some_iff] at hj
  obtain⟨f,hf,rfl⟩:=hj
  simpa[hf] using RepI.fn (w:=W) (ok:=tY W) (.func f) [] #[] rfl (fun j c v h=>by simp at h)
theorem nk {W:World} (h:laidMetH Tryz.prog Rows.chainIssuesRow.laid W):∀ (j:Nat) (f:FuncId),[205,206,207,208][j]?=some f→W.cell? ⟨1,j,.none⟩=some (.func (.func f) #[] #[]):=by
 obtain⟨g,t,cs,fuel,p,hg,ht,hv,hd⟩:=h.funcs (n:= "blueline/sheet.checks") (List.mem_cons_of_mem _ (List.mem_cons_self ..))
 obtain rfl:=Option.some.inj (gSheet.symm.trans hg)
 obtain rfl:=Option.some.inj (tSheet.symm.trans ht)
 intro j f hj
 rw[World.var?_cell hg hv j]
 exact bZ (names:=[[98,108,117,101,108,105,110,101,47,115,104,101,101,116,46,99,104,101,99,107,115,36,49],[98,108,117,101,108,105,110,101,47,115,104,101,101,116,46,99,104,101,99,107,115,36,50],[98,108,117,101,108,105,110,101,47,115,104,101,101,116,46,99,104,101,99,107,115,36,51],[98,108,117,101,108,105,110,101,47,115,104,101,101,116,46,99,104,101,99,107,115,36,52]]) (fs:=[205,206,207,208]) Tryz.underlying173 Tryz.underlying172 rfl rfl Tryz.underlying171 (by kernel_rfl) (by kernel_rfl) rfl (by kernel_rfl) rfl hd j f hj
theorem oq {W:World} (h:laidMetH Tryz.prog Rows.chainIssuesRow.laid W):∀ (j:Nat) (f:FuncId),[202,203,204][j]?=some f→W.cell? ⟨0,j,.none⟩=some (.func (.func f) #[] #[]):=by
 obtain⟨g,t,cs,fuel,p,hg,ht,hv,hd⟩:=h.funcs (n:= "blueline/chain.checks") (List.mem_cons_of_mem _ (List.mem_cons_of_mem _ (List.mem_cons_self ..)))
 obtain rfl:=Option.some.inj (gChain.symm.trans hg)
 obtain rfl:=Option.some.inj (tChain.symm.trans ht)
 intro j f hj
 rw[World.var?_cell hg hv j]
 exact bZ (names:=[[98,108,117,101,108,105,110,101,47,99,104,97,105,110,46,99,104,101,99,107,115,36,49],[98,108,117,101,108,105,110,101,47,99,104,97,105,110,46,99,104,101,99,107,115,36,50],[98,108,117,101,108,105,110,101,47,99,104,97,105,110,46,99,104,101,99,107,115,36,51]]) (fs:=[202,203,204]) Tryz.underlying155 Tryz.underlying154 rfl rfl Tryz.underlying153 (by kernel_rfl) (by kernel_rfl) rfl (by kernel_rfl) rfl hd j f hj
theorem gUnits:Tryz.prog.globalNamed "blueline/size.units" = some 2:=by kernel_rfl
theorem tUnits:(Tryz.prog.globals[2]?).map (·.type)=some 240:=by kernel_rfl
theorem lR {W:World} (h:laidMetH Tryz.prog Rows.chainIssuesRow.laid W):∀ (j:Nat) (v:Value),(cp 212)[j]?=some v→W.cell? ⟨2,j,.none⟩=some v:=by
 obtain⟨g,t,cs,fuel,p,hg,ht,hv,hd⟩:=h.funcs (n:= "blueline/size.units") (List.mem_cons_self ..)
 obtain rfl:=Option.some.inj (gUnits.symm.trans hg)
 obtain rfl:=Option.some.inj (tUnits.symm.trans ht)
 have hU:=mY (b:=98) (r:=[108,117,101,108,105,110,101,47,115,105,122,101,46,114,111,117,110,100,101,100]) (f:=212) Tryz.underlying240 (by kernel_rfl) (by kernel_rfl) Tryz.underlying216 ⟨rfl,rfl⟩ ⟨rfl,rfl⟩ ⟨rfl,rfl⟩ ⟨rfl,rfl⟩ (by kernel_rfl) (by kernel_rfl) (by kernel_rfl) Tryz.underlying3 Tryz.underlying9 Tryz.underlying214 (by kernel_rfl) hd
 intro j v hj
 rw[World.var?_cell hg hv j,← Array.getElem?_toList,hU]
 exact hj
theorem yw {W:World} (h:laidMetH Tryz.prog Rows.chainIssuesRow.laid W):∀ g l,G6 g=some l→RepI W (tY W) (.ip l) (.pointer (some ⟨g,0,.none⟩)):=by
 intro g l hl
 unfold G6 at hl
 split at hl
 ·rename_i e;subst e;cases hl;exact kL (fs:=[205,206,207,208]) (by decide) (nk h)
 ·split at hl
  ·rename_i e;subst e;cases hl;exact kL (fs:=[202,203,204]) (by decide) (oq h)
  ·split at hl
   ·rename_i e;subst e;cases hl;exact rR (lR h)
   ·cases hl
theorem vF (os:Os) (args:Array Value):laidMetH Tryz.prog Rows.chainIssuesRow.laid ((World.doorLaid Tryz.prog 600 os).forCall (fun _ _=>0) ⟨#[],args,[]⟩).memory:=
 laidMetH_of_parts3 (fuel:=8) (laidMet_of_run' 8 (by kernel_rfl) (by kernel_rfl)) (by kernel_rfl) (by kernel_rfl)
set_option maxRecDepth 100000 in
theorem dB (os:Os) (started:os.Started) (H:Type) (enc:TypeId×Value→H) :
 ReturnsInHanded {} Tryz.checked os 3 .any (fun w args=>(Rows.chainIssuesSpec.pre enc Tryz.prog Tryz.f3 [] false w args∧laidMetH Tryz.prog Rows.chainIssuesRow.laid w)∧sizedMet enc Tryz.prog Tryz.f3 (OpenSpec.ofChange Rows.chainIssuesSpec) false w args)
  (Rows.chainIssuesSpec.post enc Tryz.prog Tryz.f3 false true false false):=by
 refine returnsInHanded_of_change_and (C:=Tryz.checked) (X:=fun w _=>laidMetH Tryz.prog Rows.chainIssuesRow.laid w) (fun _ _ _ hh h=>h.of_heap hh) own started (by kernel_rfl) Tryz.func3
  (ChangeSpec.witness_shaped (enc:=enc) (C:=Tryz.checked) (os:=os) (X:=fun w _=>laidMetH Tryz.prog Rows.chainIssuesRow.laid w) false (World.doorLaid Tryz.prog 600 os) #[.agg #[.slice .none 0 0,.slice .none 0 0,.int .i64 0,.slice .none 0 0],.int .u16 0,.int .u16 0,.slice .none 0 0] 8 rfl (World.shaped_of_RefB (by kernel_rfl) (by kernel_rfl)) (by kernel_rfl) (by kernel_rfl) (by kernel_rfl) (vF os _)) ?_
 intro W base args ds gs G1 hval0 hW _ _ hL _
 have hval:∀ (j:Nat) t v,Tryz.f3.params[j]?=some t→args[j]?=some v→Value.okWide Tryz.prog W .any base t v:=hval0
 have hW':=hW
 obtain⟨p,q,hA0,hV,rfl,hfz,hnd⟩:=hW
 have hA:DataW.TrodAll enc Tryz.prog W 0 (fun _=>true) true Tryz.f3.params.toList args.toList ds p:=hA0
 rw[Tryz.params3] at hA hval
 obtain⟨v0,v1,v2,v3,d0,d1,d2,d3,p0,p1,p2,p3,rfl,rfl,rfl,h0,h1,h2,h3⟩:=trodAll_four hA
 obtain⟨rfl,rfl⟩:=trodVars_none hV
 obtain⟨cs0,rfl,hcs0⟩:=okWide_struct Tryz.underlying28 (hval 0 28 v0 rfl rfl)
 obtain⟨n1,rfl,rfl,rfl,wn1⟩:=open_int Tryz.underlying29 (hval 1 29 v1 rfl rfl) h1
 obtain⟨n2,rfl,rfl,rfl,wn2⟩:=open_int Tryz.underlying29 (hval 2 29 v2 rfl rfl) h2
 obtain⟨sa3,sn3,sc3,rfl⟩:=okWide_slice Tryz.underlying30 (hval 3 30 v3 rfl rfl)
 clear hA0 hval0
 simp only[List.append_nil] at hW'
 have rn1:0≤n1∧n1≤65535:=by simpa[Lit.wf,IntKind.min,IntKind.max,IntKind.signed,IntKind.bits] using wn1
 obtain⟨m1,rfl⟩:=Int.eq_ofNat_of_zero_le rn1.1
 have rm1:m1<65536:=by omega
 have rn2:0≤n2∧n2≤65535:=by simpa[Lit.wf,IntKind.min,IntKind.max,IntKind.signed,IntKind.bits] using wn2
 obtain⟨m2,rfl⟩:=Int.eq_ofNat_of_zero_le rn2.1
 have rm2:m2<65536:=by omega
 have h0k:=h0
 obtain⟨fuel0,hf0⟩:=h0
 obtain⟨l0,⟨c0,hc0,rfl⟩,hR0⟩:=uD H enc W fuel0 cs0.toList _ hf0
 have hlt0:∀ x∈p0,x.block<W.heap.size:=fun x hx=>by simpa using hW'.lt x (by simp[hx])
 have h3k:=h3
 obtain⟨fuel3,hf3⟩:=h3
 obtain⟨l3,⟨c3,hc3,rfl⟩,hR3⟩:=Ap H enc W fuel3 [.slice sa3 sn3 sc3] _ hf3
 have hlt3:∀ x∈p3,x.block<W.heap.size:=fun x hx=>by simpa using hW'.lt x (by simp[hx])
 have hcall:=(ku (G:=G6) c0 m1 m2 c3 _ _ _ rfl rfl (wu G6 rfl) (wD G6) (wC G6) hc0 rm1 rm2 hc3 []).calls (vs:=#[.agg cs0,.int .u16 (m1:Int),.int .u16 (m2:Int),.slice sa3 sn3 sc3]) (W:=W) (u:=.bool true) (yw hL) rfl (fun j d v hd hv=>by
  match j with
  | 0=>simp at hd hv;subst hd;subst hv;exact .ofCells hR0
  | 1=>simp at hd hv;subst hd;subst hv;exact .ofCell (c:=.raw (.int .u16 (m1:Int))) (.one (.raw _ rfl))
  | 2=>simp at hd hv;subst hd;subst hv;exact .ofCell (c:=.raw (.int .u16 (m2:Int))) (.one (.raw _ rfl))
  | 3=>simp at hd hv;subst hd;subst hv;exact .ofCell hR3
  | j+4=>simp at hd)
 refine hcall.mono fun e W' ⟨he,hnx⟩=>?_
 subst he
 refine⟨_,rfl,_,_,_,[],p0++p3,[],hW',trodAll_mk1 (shut_bool Tryz.underlying4 _),?_,rfl,hnx.frame _,fun h=>by cases h⟩
 have hend:=trodAll_mk4 (Below.trod qT (by kernel_rfl) (of_decide_eq_true (by kernel_rfl)) h0k hnx hlt0) (shut_int (enc:=enc) (w:=W') (base:=0) (spare:=fun b=>decide (b<W.heap.size)) (held:=true) Tryz.underlying29 wn1) (shut_int (enc:=enc) (w:=W') (base:=0) (spare:=fun b=>decide (b<W.heap.size)) (held:=true) Tryz.underlying29 wn2) (Below.trod qT (by kernel_rfl) (of_decide_eq_true (by kernel_rfl)) h3k hnx hlt3)
 simp only[List.append_nil,List.nil_append,List.append_assoc] at hend ⊢
 exact hend
theorem fe:Rows.ChainIssuesSaid:=
 OpenClaim.holds_of_wide 3 Tryz.f3 rfl rfl rfl rfl rfl rfl rfl ⟨rfl,rfl,rfl,rfl,rfl⟩ rfl rfl rfl rfl rfl (by kernel_rfl) Tryz.func3 dC
  (of_decide_eq_true (by kernel_rfl)) (by unfold Func.isWrapper;first|(rw[if_pos (by decide +kernel)];kernel_rfl)|(rw[if_neg (by decide +kernel)];exact⟨rfl,rfl⟩))
  (fun os started H enc _=>dB os started H enc)
end Go.Proofs.YtpcoahkgkgmmlaaGreatDoor
