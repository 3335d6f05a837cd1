/- Part 28 of the proofs. -/
import Derived.Test.YtpcoahkgkgmmlaaGreatDoorCards
import Derived.SevenTiedAt
import Derived.Test.YtpcoahkgkgmmlaaGreatDoorS16
import Derived.Test.YtpcoahkgkgmmlaaGreatDoorC01
import Derived.Test.YtpcoahkgkgmmlaaGreatDoorC02
import Derived.Test.YtpcoahkgkgmmlaaGreatDoorC06
import Derived.Test.YtpcoahkgkgmmlaaGreatDoorC07
import Derived.Test.YtpcoahkgkgmmlaaGreatDoorC08
set_option linter.all false
set_option linter.deprecated false
set_option maxHeartbeats 100000000
namespace Go.Proofs.YtpcoahkgkgmmlaaGreatDoor
open Go Go.Ab Go.ChangeShapes Go.WideShapes Go.ChangeAt Go.RowKit
def G6 (g:Nat):Option (List IC):=if g=1 then some [.fn (.func 205) [],.fn (.func 206) [],.fn (.func 207) [],.fn (.func 208) []] else if g=0 then some [.fn (.func 202) [],.fn (.func 203) [],.fn (.func 204) []] else if g=2 then some (ji 212) else .none
theorem gSheet:Tryz.prog.globalNamed "blueline/sheet.checks" = some 1:=by kernel_rfl
theorem tSheet:(Tryz.prog.globals[1]?).map (·.type)=some 173:=by kernel_rfl
theorem gChain:Tryz.prog.globalNamed "blueline/chain.checks" = some 0:=by kernel_rfl
theorem tChain:(Tryz.prog.globals[0]?).map (·.type)=some 155:=by kernel_rfl
theorem own:ownKnob Tryz.prog.godebug=.none:=by kernel_rfl
theorem sh:laidOutB Tryz.prog=true:=by kernel_rfl
theorem lU {W:World} {g:Nat} {fs:List FuncId} (h0:0<fs.length) (h:∀ (j:Nat) (f:FuncId),fs[j]?=some f→W.cell? ⟨g,j,.none⟩=some (.func (.func f) #[] #[])):RepI W (uU W) (.ip (fs.map fun f=>.fn (.func f) [])) (.pointer (some ⟨g,0,.none⟩)):=by
 have hb:g<W.heap.size:=bb (a:=⟨g,0,.none⟩) (h 0 fs[0] (by simp))
 refine .ip _ _ (fun j=>.func (.func (fs.getD j 0)) #[] #[]) rfl hb (fun j c hj=>?_) (fun j c hj=>?_)
 ·rw[List.getElem?_map,Option.map_eq_some_iff] at hj
  obtain⟨f,hf,rfl⟩:=hj
  have:=h j f hf
  simpa[hf] using this
 ·rw[List.getElem?_map,Option.map_eq_some_iff] at hj
  obtain⟨f,hf,rfl⟩:=hj
  simpa[hf] using RepI.fn (w:=W) (ok:=uU W) (.func f) [] #[] rfl (fun j c v h=>by simp at h)
theorem nX {W:World} (h:laidMetH Tryz.prog Rows.chainChangesRow.laid W):∀ (j:Nat) (f:FuncId),[205,206,207,208][j]?=some f→W.cell? ⟨1,j,.none⟩=some (.func (.func f) #[] #[]):=by
 obtain⟨g,t,cs,fuel,p,hg,ht,hv,hd⟩:=h.funcs (n:= "blueline/sheet.checks") (List.mem_cons_of_mem _ (List.mem_cons_self ..))
 obtain rfl:=Option.some.inj (gSheet.symm.trans hg)
 obtain rfl:=Option.some.inj (tSheet.symm.trans ht)
 intro j f hj
 rw[World.var?_cell hg hv j]
 exact dg (names:=[[98,108,117,101,108,105,110,101,47,115,104,101,101,116,46,99,104,101,99,107,115,36,49],[98,108,117,101,108,105,110,101,47,115,104,101,101,116,46,99,104,101,99,107,115,36,50],[98,108,117,101,108,105,110,101,47,115,104,101,101,116,46,99,104,101,99,107,115,36,51],[98,108,117,101,108,105,110,101,47,115,104,101,101,116,46,99,104,101,99,107,115,36,52]]) (fs:=[205,206,207,208]) Tryz.underlying173 Tryz.underlying172 rfl rfl Tryz.underlying171 (by kernel_rfl) (by kernel_rfl) rfl (by kernel_rfl) rfl hd j f hj
theorem pr {W:World} (h:laidMetH Tryz.prog Rows.chainChangesRow.laid W):∀ (j:Nat) (f:FuncId),[202,203,204][j]?=some f→W.cell? ⟨0,j,.none⟩=some (.func (.func f) #[] #[]):=by
 obtain⟨g,t,cs,fuel,p,hg,ht,hv,hd⟩:=h.funcs (n:= "blueline/chain.checks") (List.mem_cons_of_mem _ (List.mem_cons_of_mem _ (List.mem_cons_self ..)))
 obtain rfl:=Option.some.inj (gChain.symm.trans hg)
 obtain rfl:=Option.some.inj (tChain.symm.trans ht)
 intro j f hj
 rw[World.var?_cell hg hv j]
 exact dg (names:=[[98,108,117,101,108,105,110,101,47,99,104,97,105,110,46,99,104,101,99,107,115,36,49],[98,108,117,101,108,105,110,101,47,99,104,97,105,110,46,99,104,101,99,107,115,36,50],[98,108,117,101,108,105,110,101,47,99,104,97,105,110,46,99,104,101,99,107,115,36,51]]) (fs:=[202,203,204]) Tryz.underlying155 Tryz.underlying154 rfl rfl Tryz.underlying153 (by kernel_rfl) (by kernel_rfl) rfl (by kernel_rfl) rfl hd j f hj
theorem gUnits:Tryz.prog.globalNamed "blueline/size.units" = some 2:=by kernel_rfl
theorem tUnits:(Tryz.prog.globals[2]?).map (·.type)=some 240:=by kernel_rfl
theorem mQ {W:World} (h:laidMetH Tryz.prog Rows.chainChangesRow.laid W):∀ (j:Nat) (v:Value),(dx 212)[j]?=some v→W.cell? ⟨2,j,.none⟩=some v:=by
 obtain⟨g,t,cs,fuel,p,hg,ht,hv,hd⟩:=h.funcs (n:= "blueline/size.units") (List.mem_cons_self ..)
 obtain rfl:=Option.some.inj (gUnits.symm.trans hg)
 obtain rfl:=Option.some.inj (tUnits.symm.trans ht)
 have hU:=nQ (b:=98) (r:=[108,117,101,108,105,110,101,47,115,105,122,101,46,114,111,117,110,100,101,100]) (f:=212) Tryz.underlying240 (by kernel_rfl) (by kernel_rfl) Tryz.underlying216 ⟨rfl,rfl⟩ ⟨rfl,rfl⟩ ⟨rfl,rfl⟩ ⟨rfl,rfl⟩ (by kernel_rfl) (by kernel_rfl) (by kernel_rfl) Tryz.underlying3 Tryz.underlying9 Tryz.underlying214 (by kernel_rfl) hd
 intro j v hj
 rw[World.var?_cell hg hv j,← Array.getElem?_toList,hU]
 exact hj
theorem Ai {W:World} (h:laidMetH Tryz.prog Rows.chainChangesRow.laid W):∀ g l,G6 g=some l→RepI W (uU W) (.ip l) (.pointer (some ⟨g,0,.none⟩)):=by
 intro g l hl
 unfold G6 at hl
 split at hl
 ·rename_i e;subst e;cases hl;exact lU (fs:=[205,206,207,208]) (by decide) (nX h)
 ·split at hl
  ·rename_i e;subst e;cases hl;exact lU (fs:=[202,203,204]) (by decide) (pr h)
  ·split at hl
   ·rename_i e;subst e;cases hl;exact td (mQ h)
   ·cases hl
theorem wC (os:Os) (args:Array Value):laidMetH Tryz.prog Rows.chainChangesRow.laid ((World.doorLaid Tryz.prog 600 os).forCall (fun _ _=>0) ⟨#[],args,[]⟩).memory:=
 laidMetH_of_parts3 (fuel:=8) (laidMet_of_run' 8 (by kernel_rfl) (by kernel_rfl)) (by kernel_rfl) (by kernel_rfl)
set_option maxRecDepth 100000 in
theorem eo (os:Os) (started:os.Started) (H:Type) (enc:TypeId×Value→H) :
 ReturnsInHanded {} Tryz.checked os 4 .any (fun w args=>(Rows.chainChangesSpec.pre enc Tryz.prog Tryz.f4 [] false w args∧laidMetH Tryz.prog Rows.chainChangesRow.laid w)∧sizedMet enc Tryz.prog Tryz.f4 (OpenSpec.ofChange Rows.chainChangesSpec) false w args)
  (Rows.chainChangesSpec.post enc Tryz.prog Tryz.f4 false true false false):=by
 refine returnsInHanded_of_change_and (C:=Tryz.checked) (X:=fun w _=>laidMetH Tryz.prog Rows.chainChangesRow.laid w) (fun _ _ _ hh h=>h.of_heap hh) own started (by kernel_rfl) Tryz.func4
  (ChangeSpec.witness_shaped (enc:=enc) (C:=Tryz.checked) (os:=os) (X:=fun w _=>laidMetH Tryz.prog Rows.chainChangesRow.laid w) false (World.doorLaid Tryz.prog 600 os) #[.agg #[.slice .none 0 0,.slice .none 0 0,.int .i64 0,.slice .none 0 0],.slice .none 0 0,.int .i64 0,.int .u8 0] 8 rfl (World.shaped_of_RefB (by kernel_rfl) (by kernel_rfl)) (by kernel_rfl) (by kernel_rfl) (by kernel_rfl) (wC os _)) ?_
 intro W base args ds gs F5 hval0 hW _ _ hL _
 have hval:∀ (j:Nat) t v,Tryz.f4.params[j]?=some t→args[j]?=some v→Value.okWide Tryz.prog W .any base t v:=hval0
 have hW':=hW
 obtain⟨p,q,hA0,hV,rfl,hfz,hnd⟩:=hW
 have hA:DataW.TrodAll enc Tryz.prog W 0 (fun _=>true) true Tryz.f4.params.toList args.toList ds p:=hA0
 rw[Tryz.params4] at hA hval
 obtain⟨v0,v1,v2,v3,d0,d1,d2,d3,p0,p1,p2,p3,rfl,rfl,rfl,h0,h1,h2,h3⟩:=trodAll_four hA
 obtain⟨rfl,rfl⟩:=trodVars_none hV
 obtain⟨cs0,rfl,hcs0⟩:=okWide_struct Tryz.underlying28 (hval 0 28 v0 rfl rfl)
 obtain⟨sa1,sn1,sc1,rfl⟩:=okWide_slice Tryz.underlying33 (hval 1 33 v1 rfl rfl)
 obtain⟨n2,rfl,rfl,rfl,wn2⟩:=open_int Tryz.underlying3 (hval 2 3 v2 rfl rfl) h2
 obtain⟨n3,rfl,rfl,rfl,wn3⟩:=open_int Tryz.underlying5 (hval 3 5 v3 rfl rfl) h3
 clear hA0 hval0
 simp only[List.append_nil] at hW'
 have rn3:0≤n3∧n3≤255:=by simpa[Lit.wf,IntKind.min,IntKind.max,IntKind.signed,IntKind.bits] using wn3
 obtain⟨m3,rfl⟩:=Int.eq_ofNat_of_zero_le rn3.1
 have rm3:m3<256:=by omega
 have h0k:=h0
 obtain⟨fuel0,hf0⟩:=h0
 obtain⟨l0,⟨c0,hc0,rfl⟩,hR0⟩:=vG H enc W fuel0 cs0.toList _ hf0
 have hlt0:∀ x∈p0,x.block<W.heap.size:=fun x hx=>by simpa using hW'.lt x (by simp[hx])
 have h1k:=h1
 obtain⟨fuel1,hf1⟩:=h1
 obtain⟨l1,⟨c1,rfl⟩,hR1⟩:=As H enc W fuel1 [.slice sa1 sn1 sc1] _ hf1
 have hlt1:∀ x∈p1,x.block<W.heap.size:=fun x hx=>by simpa using hW'.lt x (by simp[hx])
 have hcall:=(kW (G:=G6) c0 c1 n2 m3 _ _ _ rfl rfl (xD G6 rfl) (xJ G6) (xI G6) (xL G6) hc0 (by omega) (by omega) []).calls (vs:=#[.agg cs0,.slice sa1 sn1 sc1,.int .i64 n2,.int .u8 (m3:Int)]) (W:=W) (u:=.bool true) (Ai hL) rfl (fun j d v hd hv=>by
  match j with
  | 0=>simp at hd hv;subst hd;subst hv;exact .ofCells hR0
  | 1=>simp at hd hv;subst hd;subst hv;exact .ofCell hR1
  | 2=>simp at hd hv;subst hd;subst hv;exact .ofCell (c:=.raw (.int .i64 n2)) (.one (.raw _ rfl))
  | 3=>simp at hd hv;subst hd;subst hv;exact .ofCell (c:=.raw (.int .u8 (m3:Int))) (.one (.raw _ rfl))
  | j+4=>simp at hd)
 refine hcall.mono fun e W' ⟨he,hnx⟩=>?_
 subst he
 refine⟨_,rfl,_,_,_,[],p0++p1,[],hW',trodAll_mk1 (shut_bool Tryz.underlying4 _),?_,rfl,hnx.frame _,fun h=>by cases h⟩
 have hend:=trodAll_mk4 (Below.trod sh (by kernel_rfl) (of_decide_eq_true (by kernel_rfl)) h0k hnx hlt0) (Below.trod sh (by kernel_rfl) (of_decide_eq_true (by kernel_rfl)) h1k hnx hlt1) (shut_int (enc:=enc) (w:=W') (base:=0) (spare:=fun b=>decide (b<W.heap.size)) (held:=true) Tryz.underlying3 wn2) (shut_int (enc:=enc) (w:=W') (base:=0) (spare:=fun b=>decide (b<W.heap.size)) (held:=true) Tryz.underlying5 wn3)
 simp only[List.append_nil,List.nil_append,List.append_assoc] at hend ⊢
 exact hend
theorem fe:Rows.ChainChangesSaid:=
 OpenClaim.holds_of_wide 4 Tryz.f4 rfl rfl rfl rfl rfl rfl rfl ⟨rfl,rfl,rfl,rfl,rfl⟩ rfl rfl rfl rfl rfl (by kernel_rfl) Tryz.func4 ep
  (of_decide_eq_true (by kernel_rfl)) (by unfold Func.isWrapper;first|(rw[if_pos (by decide +kernel)];kernel_rfl)|(rw[if_neg (by decide +kernel)];exact⟨rfl,rfl⟩))
  (fun os started H enc _=>eo os started H enc)
end Go.Proofs.YtpcoahkgkgmmlaaGreatDoor
