/- Part 26 of the proofs. -/
import Derived.Ground.NamesProg
import Derived.Shelf.Lays
import Derived.Shelf.SlGeneric
import Derived.Shelf.SlSortCmp.NoneTotal
import Derived.Ground.SlsfProg
import Derived.Test.YtjodaihiogfkbaaGreatDoorCards
import Derived.SevenTiedAt
import Derived.Test.YtjodaihiogfkbaaGreatDoorR15
import Derived.Test.YtjodaihiogfkbaaGreatDoorE01
import Derived.Test.YtjodaihiogfkbaaGreatDoorE02
import Derived.Test.YtjodaihiogfkbaaGreatDoorE03
import Derived.Test.YtjodaihiogfkbaaGreatDoorE04
import Derived.Test.YtjodaihiogfkbaaGreatDoorE05
import Derived.Test.YtjodaihiogfkbaaGreatDoorE07
set_option linter.all false
set_option linter.deprecated false
set_option maxHeartbeats 100000000
namespace Go.Proofs
open Go.Shelf
def Tryz.laysSort_ren:Go.Shelf.Ren:=⟨fun|189=>173|125=>201|257=>221|128=>249|129=>250|294=>270|295=>271|296=>272|297=>273|298=>274|299=>275|216=>196|300=>276|301=>277|328=>302|329=>286|330=>287|331=>303|332=>304|215=>239|343=>314|n=>n,fun|28=>40|3=>3|46=>287|0=>0|51=>157|53=>335|4=>4|183=>328|182=>327|131=>154|5=>5|9=>9|218=>363|222=>367|228=>390|229=>391|n=>n,fun|n=>n⟩
theorem Tryz.laysSort:Go.Proofs.Lays.n189 Tryz.prog Tryz.laysSort_ren:={
 mixed:=by kernel_rfl
 f125:=Tryz.func201.trans (congrArg some (by kernel_rfl))
 f128:=Tryz.func249.trans (congrArg some (by kernel_rfl))
 f129:=Tryz.func250.trans (congrArg some (by kernel_rfl))
 f189:=Tryz.func173.trans (congrArg some (by kernel_rfl))
 f215:=Tryz.func239.trans (congrArg some (by kernel_rfl))
 f216:=Tryz.func196.trans (congrArg some (by kernel_rfl))
 f257:=Tryz.func221.trans (congrArg some (by kernel_rfl))
 f294:=Tryz.func270.trans (congrArg some (by kernel_rfl))
 f295:=Tryz.func271.trans (congrArg some (by kernel_rfl))
 f296:=Tryz.func272.trans (congrArg some (by kernel_rfl))
 f297:=Tryz.func273.trans (congrArg some (by kernel_rfl))
 f298:=Tryz.func274.trans (congrArg some (by kernel_rfl))
 f299:=Tryz.func275.trans (congrArg some (by kernel_rfl))
 f300:=Tryz.func276.trans (congrArg some (by kernel_rfl))
 f301:=Tryz.func277.trans (congrArg some (by kernel_rfl))
 f328:=Tryz.func302.trans (congrArg some (by kernel_rfl))
 f329:=Tryz.func286.trans (congrArg some (by kernel_rfl))
 f330:=Tryz.func287.trans (congrArg some (by kernel_rfl))
 f331:=Tryz.func303.trans (congrArg some (by kernel_rfl))
 f332:=Tryz.func304.trans (congrArg some (by kernel_rfl))
 f343:=Tryz.func314.trans (congrArg some (by kernel_rfl))
 t0:=Tryz.underlying0
 a0:=Tryz.isAgg0
 z0:=Tryz.sizeOf0
 v0:=Tryz.zeroValue0
 t3:=Tryz.underlying3
 a3:=Tryz.isAgg3
 z3:=Tryz.sizeOf3
 v3:=Tryz.zeroValue3
 t4:=Tryz.underlying4
 a4:=Tryz.isAgg4
 z4:=Tryz.sizeOf4
 v4:=Tryz.zeroValue4
 t5:=Tryz.underlying5
 a5:=Tryz.isAgg5
 z5:=Tryz.sizeOf5
 v5:=Tryz.zeroValue5
 t9:=Tryz.underlying9
 a9:=Tryz.isAgg9
 z9:=Tryz.sizeOf9
 v9:=Tryz.zeroValue9
 t28:=Tryz.underlying40
 a28:=Tryz.isAgg40
 z28:=Tryz.sizeOf40
 v28:=Tryz.zeroValue40
 t46:=Tryz.underlying287
 a46:=Tryz.isAgg287
 z46:=Tryz.sizeOf287
 v46:=Tryz.zeroValue287
 t51:=Tryz.underlying157
 a51:=Tryz.isAgg157
 z51:=Tryz.sizeOf157
 v51:=Tryz.zeroValue157
 t53:=Tryz.underlying335
 a53:=Tryz.isAgg335
 z53:=Tryz.sizeOf335
 v53:=Tryz.zeroValue335
 t131:=Tryz.underlying154
 a131:=Tryz.isAgg154
 z131:=Tryz.sizeOf154
 v131:=Tryz.zeroValue154
 t182:=Tryz.underlying327
 a182:=Tryz.isAgg327
 z182:=Tryz.sizeOf327
 v182:=Tryz.zeroValue327
 t183:=Tryz.underlying328
 a183:=Tryz.isAgg328
 z183:=Tryz.sizeOf328
 v183:=Tryz.zeroValue328
 t218:=Tryz.underlying363
 a218:=Tryz.isAgg363
 z218:=Tryz.sizeOf363
 v218:=Tryz.zeroValue363
 t222:=Tryz.underlying367
 a222:=Tryz.isAgg367
 z222:=Tryz.sizeOf367
 v222:=Tryz.zeroValue367
 t228:=Tryz.underlying390
 a228:=Tryz.isAgg390
 z228:=Tryz.sizeOf390
 v228:=Tryz.zeroValue390
 t229:=Tryz.underlying391
 a229:=Tryz.isAgg391
 z229:=Tryz.sizeOf391
 v229:=Tryz.zeroValue391 }
end Go.Proofs
namespace Go.Proofs
open Go Go.Ab
theorem EL (G:KB):A0 G:=fun l g sz nl hz hl =>
 DCall.sort (P:=Tryz.prog) (G:=G) (f:=173) (fun blk cap zs w hH hb hs=>Any.slices_Sort_int Tryz.laysSort blk 0 cap zs w hH hb hs) (fun a cap w=>Any.slices_Sort_int_none Tryz.laysSort a cap w) l g sz nl hz hl
end Go.Proofs
namespace Go.Proofs
open Go.Shelf
def Tryz.laysSus_ren:Go.Shelf.Ren:=⟨fun|6=>138|15=>201|14=>200|28=>249|29=>250|20=>241|21=>242|22=>243|23=>244|24=>245|25=>246|26=>247|27=>248|46=>285|47=>286|48=>287|49=>288|50=>289|57=>305|n=>n,fun|22=>52|24=>42|25=>140|3=>3|39=>287|0=>0|53=>157|55=>335|4=>4|46=>328|45=>327|50=>154|5=>5|9=>9|66=>363|70=>367|76=>390|77=>391|n=>n,fun|n=>n⟩
theorem Tryz.laysSus:Go.Proofs.SlLaysF0.n6 Tryz.prog Tryz.laysSus_ren:={
 mixed:=by kernel_rfl
 f6:=⟨Tryz.f138.name,by decide,Tryz.func138.trans (congrArg some (by kernel_rfl))⟩
 f14:=⟨Tryz.f200.name,by decide,Tryz.func200.trans (congrArg some (by kernel_rfl))⟩
 f15:=Tryz.func201.trans (congrArg some (by kernel_rfl))
 f20:=⟨Tryz.f241.name,by decide,Tryz.func241.trans (congrArg some (by kernel_rfl))⟩
 f21:=⟨Tryz.f242.name,by decide,Tryz.func242.trans (congrArg some (by kernel_rfl))⟩
 f22:=⟨Tryz.f243.name,by decide,Tryz.func243.trans (congrArg some (by kernel_rfl))⟩
 f23:=⟨Tryz.f244.name,by decide,Tryz.func244.trans (congrArg some (by kernel_rfl))⟩
 f24:=⟨Tryz.f245.name,by decide,Tryz.func245.trans (congrArg some (by kernel_rfl))⟩
 f25:=⟨Tryz.f246.name,by decide,Tryz.func246.trans (congrArg some (by kernel_rfl))⟩
 f26:=⟨Tryz.f247.name,by decide,Tryz.func247.trans (congrArg some (by kernel_rfl))⟩
 f27:=⟨Tryz.f248.name,by decide,Tryz.func248.trans (congrArg some (by kernel_rfl))⟩
 f28:=Tryz.func249.trans (congrArg some (by kernel_rfl))
 f29:=Tryz.func250.trans (congrArg some (by kernel_rfl))
 f46:=⟨Tryz.f285.name,by decide,Tryz.func285.trans (congrArg some (by kernel_rfl))⟩
 f47:=Tryz.func286.trans (congrArg some (by kernel_rfl))
 f48:=Tryz.func287.trans (congrArg some (by kernel_rfl))
 f49:=⟨Tryz.f288.name,by decide,Tryz.func288.trans (congrArg some (by kernel_rfl))⟩
 f50:=⟨Tryz.f289.name,by decide,Tryz.func289.trans (congrArg some (by kernel_rfl))⟩
 f57:=⟨Tryz.f305.name,by decide,Tryz.func305.trans (congrArg some (by kernel_rfl))⟩
 t0:=Tryz.underlying0
 a0:=Tryz.isAgg0
 z0:=Tryz.sizeOf0
 v0:=Tryz.zeroValue0
 t3:=Tryz.underlying3
 a3:=Tryz.isAgg3
 z3:=Tryz.sizeOf3
 v3:=Tryz.zeroValue3
 t4:=Tryz.underlying4
 a4:=Tryz.isAgg4
 z4:=Tryz.sizeOf4
 v4:=Tryz.zeroValue4
 t5:=Tryz.underlying5
 a5:=Tryz.isAgg5
 z5:=Tryz.sizeOf5
 v5:=Tryz.zeroValue5
 t9:=Tryz.underlying9
 a9:=Tryz.isAgg9
 z9:=Tryz.sizeOf9
 v9:=Tryz.zeroValue9
 t22:=Tryz.underlying52
 a22:=Tryz.isAgg52
 z22:=Tryz.sizeOf52
 v22:=Tryz.zeroValue52
 t25:=Tryz.underlying140
 a25:=Tryz.isAgg140
 z25:=Tryz.sizeOf140
 v25:=Tryz.zeroValue140
 t39:=Tryz.underlying287
 a39:=Tryz.isAgg287
 z39:=Tryz.sizeOf287
 v39:=Tryz.zeroValue287
 t45:=Tryz.underlying327
 a45:=Tryz.isAgg327
 z45:=Tryz.sizeOf327
 v45:=Tryz.zeroValue327
 t46:=Tryz.underlying328
 a46:=Tryz.isAgg328
 z46:=Tryz.sizeOf328
 v46:=Tryz.zeroValue328
 t50:=Tryz.underlying154
 a50:=Tryz.isAgg154
 z50:=Tryz.sizeOf154
 v50:=Tryz.zeroValue154
 t53:=Tryz.underlying157
 a53:=Tryz.isAgg157
 z53:=Tryz.sizeOf157
 v53:=Tryz.zeroValue157
 t55:=Tryz.underlying335
 a55:=Tryz.isAgg335
 z55:=Tryz.sizeOf335
 v55:=Tryz.zeroValue335
 t66:=Tryz.underlying363
 a66:=Tryz.isAgg363
 z66:=Tryz.sizeOf363
 v66:=Tryz.zeroValue363
 t70:=Tryz.underlying367
 a70:=Tryz.isAgg367
 z70:=Tryz.sizeOf367
 v70:=Tryz.zeroValue367
 t76:=Tryz.underlying390
 a76:=Tryz.isAgg390
 z76:=Tryz.sizeOf390
 v76:=Tryz.zeroValue390
 t77:=Tryz.underlying391
 a77:=Tryz.isAgg391
 z77:=Tryz.sizeOf391
 v77:=Tryz.zeroValue391 }
end Go.Proofs
namespace Go.Proofs
open Go Go.Ab Go.Sort
theorem IQ:SWO (fun x y:xy=>decide (N3 x.1 y.1<0)) where
 irrefl x:=by
  rw[decide_eq_false_iff_not,gh];unfold cw;omega
 trans x y z h1 h2:=by
  rw[decide_eq_true_iff,gh] at *
  exact tG h1 h2
 ntrans x y z h1 h2:=by
  rw[decide_eq_false_iff_not,gh] at *
  unfold cw at *
  omega
theorem Ce (G:KB):W5 G:=fun l gn sz nl hz hl =>
 DCall.sortF (P:=Tryz.prog) (G:=G) (f:=138) (g:=86) uK 2 (by decide) (fun _=>rfl) (fun a b=>N3 a.1 b.1) IQ (fun x y=>by have h:=uu (G:=fun _=>none) x.1 y.1 x.2 y.2;exact h)
  (fun α _ en hk h1 c hO blk cap d w hcmp hH hb hs=>AnyQ.slices_SortFunc Tryz.laysSus 2 Tryz.isAgg42 Tryz.sizeOf42 en hk h1 c hO 86 #[] blk 0 cap d w (by simp) hcmp hH hb hs)
  (fun a cap w=>AnyF.slices_SortFunc_none Tryz.laysSus a cap _ w) (.im (.fn (.func 86) []))
  (fun M v hv=>by
   cases hv with
   | im _ _ h=>cases h with
     | fn _ _ vs h1 _ =>
       have:vs=#[]:=Array.eq_empty_of_size_eq_zero (by simpa using h1.symm)
       rw[this]) l gn sz nl hz hl
end Go.Proofs
namespace Go.Proofs.YtjodaihiogfkbaaGreatDoor
open Go Go.Ab Go.ChangeShapes Go.WideShapes Go.ChangeAt Go.RowKit
def G6 (g:Nat):Option (List IC):=if g=5 then some [.fn (.func 357) [],.fn (.func 358) [],.fn (.func 359) [],.fn (.func 360) []] else if g=7 then some [.fn (.func 372) [],.fn (.func 373) [],.fn (.func 374) []] else if g=4 then some [.fn (.func 346) [],.fn (.func 347) [],.fn (.func 348) [],.fn (.func 349) [],.fn (.func 350) [],.fn (.func 351) [],.fn (.func 354) [],.fn (.func 356) []] else if g=6 then some [.fn (.func 364) [],.fn (.func 365) [],.fn (.func 366) [],.fn (.func 369) [],.fn (.func 370) []] else if g=1 then some [.raw .nilFunc,.fn (.func 339) [],.fn (.func 340) [],.fn (.func 343) []] else if g=0 then some [.raw (.bool false),.raw (.bool false)] else if g=2 then some [.raw (.bool true),.raw (.bool false)] else if g=3 then some [.raw (.bool false),.raw (.bool true)] else .none
theorem gSheet:Tryz.prog.globalNamed "blueline/sheet.checks" = some 5:=by kernel_rfl
theorem tSheet:(Tryz.prog.globals[5]?).map (·.type)=some 311:=by kernel_rfl
theorem gChain:Tryz.prog.globalNamed "blueline/chain.checks" = some 7:=by kernel_rfl
theorem tChain:(Tryz.prog.globals[7]?).map (·.type)=some 386:=by kernel_rfl
theorem gNote:Tryz.prog.globalNamed "blueline/note.checks" = some 4:=by kernel_rfl
theorem tNote:(Tryz.prog.globals[4]?).map (·.type)=some 257:=by kernel_rfl
theorem gRecall:Tryz.prog.globalNamed "blueline/recall.checks" = some 6:=by kernel_rfl
theorem tRecall:(Tryz.prog.globals[6]?).map (·.type)=some 380:=by kernel_rfl
theorem own:ownKnob Tryz.prog.godebug=.none:=by kernel_rfl
theorem uB:laidOutB Tryz.prog=true:=by kernel_rfl
theorem ee {W:World} {g:Nat} {fs:List FuncId} (h0:0<fs.length) (h:∀ (j:Nat) (f:FuncId),fs[j]?=some f→W.cell? ⟨g,j,.none⟩=some (.func (.func f) #[] #[])):RepI W (vU W) (.ip (fs.map fun f=>.fn (.func f) [])) (.pointer (some ⟨g,0,.none⟩)):=by
 have hb:g<W.heap.size:=W4 (a:=⟨g,0,.none⟩) (h 0 fs[0] (by simp))
 refine .ip _ _ (fun j=>.func (.func (fs.getD j 0)) #[] #[]) rfl hb (fun j c hj=>?_) (fun j c hj=>?_)
 ·rw[List.getElem?_map,Option.map_eq_some_iff] at hj
  obtain⟨f,hf,rfl⟩:=hj
  have:=h j f hf
  simpa[hf] using this
 ·rw[List.getElem?_map,Option.map_eq_some_iff] at hj
  obtain⟨f,hf,rfl⟩:=hj
  simpa[hf] using RepI.fn (w:=W) (ok:=vU W) (.func f) [] #[] rfl (fun j c v h=>by simp at h)
theorem pE {W:World} (h:laidMetH Tryz.prog Rows.blameClearRow.laid W):∀ (j:Nat) (f:FuncId),[357,358,359,360][j]?=some f→W.cell? ⟨5,j,.none⟩=some (.func (.func f) #[] #[]):=by
 obtain⟨g,t,cs,fuel,p,hg,ht,hv,hd⟩:=h.funcs (n:= "blueline/sheet.checks") (List.mem_cons_self ..)
 obtain rfl:=Option.some.inj (gSheet.symm.trans hg)
 obtain rfl:=Option.some.inj (tSheet.symm.trans ht)
 intro j f hj
 rw[World.var?_cell hg hv j]
 exact T4 (names:=[[98,108,117,101,108,105,110,101,47,115,104,101,101,116,46,99,104,101,99,107,115,36,49],[98,108,117,101,108,105,110,101,47,115,104,101,101,116,46,99,104,101,99,107,115,36,50],[98,108,117,101,108,105,110,101,47,115,104,101,101,116,46,99,104,101,99,107,115,36,51],[98,108,117,101,108,105,110,101,47,115,104,101,101,116,46,99,104,101,99,107,115,36,52]]) (fs:=[357,358,359,360]) Tryz.underlying311 Tryz.underlying310 rfl rfl Tryz.underlying309 (by kernel_rfl) (by kernel_rfl) rfl (by kernel_rfl) rfl hd j f hj
theorem qP {W:World} (h:laidMetH Tryz.prog Rows.blameClearRow.laid W):∀ (j:Nat) (f:FuncId),[372,373,374][j]?=some f→W.cell? ⟨7,j,.none⟩=some (.func (.func f) #[] #[]):=by
 obtain⟨g,t,cs,fuel,p,hg,ht,hv,hd⟩:=h.funcs (n:= "blueline/chain.checks") (List.mem_cons_of_mem _ (List.mem_cons_self ..))
 obtain rfl:=Option.some.inj (gChain.symm.trans hg)
 obtain rfl:=Option.some.inj (tChain.symm.trans ht)
 intro j f hj
 rw[World.var?_cell hg hv j]
 exact T4 (names:=[[98,108,117,101,108,105,110,101,47,99,104,97,105,110,46,99,104,101,99,107,115,36,49],[98,108,117,101,108,105,110,101,47,99,104,97,105,110,46,99,104,101,99,107,115,36,50],[98,108,117,101,108,105,110,101,47,99,104,97,105,110,46,99,104,101,99,107,115,36,51]]) (fs:=[372,373,374]) Tryz.underlying386 Tryz.underlying385 rfl rfl Tryz.underlying384 (by kernel_rfl) (by kernel_rfl) rfl (by kernel_rfl) rfl hd j f hj
theorem sf {W:World} (h:laidMetH Tryz.prog Rows.blameClearRow.laid W):∀ (j:Nat) (f:FuncId),[346,347,348,349,350,351,354,356][j]?=some f→W.cell? ⟨4,j,.none⟩=some (.func (.func f) #[] #[]):=by
 obtain⟨g,t,cs,fuel,p,hg,ht,hv,hd⟩:=h.funcs (n:= "blueline/note.checks") (List.mem_cons_of_mem _ (List.mem_cons_of_mem _ (List.mem_cons_self ..)))
 obtain rfl:=Option.some.inj (gNote.symm.trans hg)
 obtain rfl:=Option.some.inj (tNote.symm.trans ht)
 intro j f hj
 rw[World.var?_cell hg hv j]
 exact T4 (names:=[[98,108,117,101,108,105,110,101,47,110,111,116,101,46,99,104,101,99,107,115,36,49],[98,108,117,101,108,105,110,101,47,110,111,116,101,46,99,104,101,99,107,115,36,50],[98,108,117,101,108,105,110,101,47,110,111,116,101,46,99,104,101,99,107,115,36,51],[98,108,117,101,108,105,110,101,47,110,111,116,101,46,99,104,101,99,107,115,36,52],[98,108,117,101,108,105,110,101,47,110,111,116,101,46,99,104,101,99,107,115,36,53],[98,108,117,101,108,105,110,101,47,110,111,116,101,46,99,104,101,99,107,115,36,54],[98,108,117,101,108,105,110,101,47,110,111,116,101,46,99,104,101,99,107,115,36,55],[98,108,117,101,108,105,110,101,47,110,111,116,101,46,99,104,101,99,107,115,36,56]]) (fs:=[346,347,348,349,350,351,354,356]) Tryz.underlying257 Tryz.underlying256 rfl rfl Tryz.underlying254 (by kernel_rfl) (by kernel_rfl) rfl (by kernel_rfl) rfl hd j f hj
theorem od {W:World} (h:laidMetH Tryz.prog Rows.blameClearRow.laid W):∀ (j:Nat) (f:FuncId),[364,365,366,369,370][j]?=some f→W.cell? ⟨6,j,.none⟩=some (.func (.func f) #[] #[]):=by
 obtain⟨g,t,cs,fuel,p,hg,ht,hv,hd⟩:=h.funcs (n:= "blueline/recall.checks") (List.mem_cons_of_mem _ (List.mem_cons_of_mem _ (List.mem_cons_of_mem _ (List.mem_cons_self ..))))
 obtain rfl:=Option.some.inj (gRecall.symm.trans hg)
 obtain rfl:=Option.some.inj (tRecall.symm.trans ht)
 intro j f hj
 rw[World.var?_cell hg hv j]
 exact T4 (names:=[[98,108,117,101,108,105,110,101,47,114,101,99,97,108,108,46,99,104,101,99,107,115,36,49],[98,108,117,101,108,105,110,101,47,114,101,99,97,108,108,46,99,104,101,99,107,115,36,50],[98,108,117,101,108,105,110,101,47,114,101,99,97,108,108,46,99,104,101,99,107,115,36,51],[98,108,117,101,108,105,110,101,47,114,101,99,97,108,108,46,99,104,101,99,107,115,36,52],[98,108,117,101,108,105,110,101,47,114,101,99,97,108,108,46,99,104,101,99,107,115,36,53]]) (fs:=[364,365,366,369,370]) Tryz.underlying380 Tryz.underlying379 rfl rfl Tryz.underlying377 (by kernel_rfl) (by kernel_rfl) rfl (by kernel_rfl) rfl hd j f hj
theorem gKinds:Tryz.prog.globalNamed "blueline/blame.kinds" = some 1:=by kernel_rfl
theorem tKinds:(Tryz.prog.globals[1]?).map (·.type)=some 211:=by kernel_rfl
theorem oz {W:World} (h:laidMetH Tryz.prog Rows.blameClearRow.laid W):∀ (j:Nat) (v:Value),[Value.nilFunc,.func (.func 339) #[] #[],.func (.func 340) #[] #[],.func (.func 343) #[] #[]][j]?=some v→W.cell? ⟨1,j,.none⟩=some v:=by
 obtain⟨g,t,cs,fuel,p,hg,ht,hv,hd⟩:=h.funcs (n:= "blueline/blame.kinds") (List.mem_cons_of_mem _ (List.mem_cons_of_mem _ (List.mem_cons_of_mem _ (List.mem_cons_of_mem _ (List.mem_cons_of_mem _ (List.mem_cons_of_mem _ (List.mem_cons_of_mem _ (List.mem_cons_self ..))))))))
 obtain rfl:=Option.some.inj (gKinds.symm.trans hg)
 obtain rfl:=Option.some.inj (tKinds.symm.trans ht)
 have hU:=qg (b1:=98) (r1:=[108,117,101,108,105,110,101,47,98,108,97,109,101,46,107,105,110,100,115,36,49]) (f1:=339) (b2:=98) (r2:=[108,117,101,108,105,110,101,47,98,108,97,109,101,46,107,105,110,100,115,36,50]) (f2:=340) (b3:=98) (r3:=[108,117,101,108,105,110,101,47,98,108,97,109,101,46,107,105,110,100,115,36,51]) (f3:=343) Tryz.underlying211 Tryz.underlying210 rfl rfl Tryz.underlying209 (by kernel_rfl) (by kernel_rfl) (by kernel_rfl) (by kernel_rfl) (by kernel_rfl) hd
 intro j v hj
 rw[World.var?_cell hg hv j]
 exact hU j v hj
theorem gFine:Tryz.prog.globalNamed "blueline/blame.fine" = some 0:=by kernel_rfl
theorem GS:(Tryz.prog.globals[0]?).map (·.type)=some 148:=by kernel_rfl
theorem sU {W:World} (h:laidMetH Tryz.prog Rows.blameClearRow.laid W):∀ (j:Nat) (v:Value),[Value.bool false,.bool false][j]?=some v→W.cell? ⟨0,j,.none⟩=some v:=by
 have hf:=h.filter fun x=>x.1 == "blueline/blame.fine"
 rw[show (Rows.blameClearRow.laid.filter fun x=>x.1 == "blueline/blame.fine")=[("blueline/blame.fine",.agg [.lit (.bool false),.lit (.bool false)])] by rfl] at hf
 obtain⟨cs,hv,hd⟩:=iN (t:=148) (e:=4) Tryz.underlying148 Tryz.underlying4 (by kernel_rfl) (by kernel_rfl) (fun g hg=>by obtain rfl:=Option.some.inj (gFine.symm.trans hg);exact GS) hf
 intro j v hj
 rw[World.var?_cell gFine hv j]
 exact hd j v hj
theorem gOld:Tryz.prog.globalNamed "blueline/blame.old" = some 2:=by kernel_rfl
theorem IP:(Tryz.prog.globals[2]?).map (·.type)=some 148:=by kernel_rfl
theorem vT {W:World} (h:laidMetH Tryz.prog Rows.blameClearRow.laid W):∀ (j:Nat) (v:Value),[Value.bool true,.bool false][j]?=some v→W.cell? ⟨2,j,.none⟩=some v:=by
 have hf:=h.filter fun x=>x.1 == "blueline/blame.old"
 rw[show (Rows.blameClearRow.laid.filter fun x=>x.1 == "blueline/blame.old")=[("blueline/blame.old",.agg [.lit (.bool true),.lit (.bool false)])] by rfl] at hf
 obtain⟨cs,hv,hd⟩:=iN (t:=148) (e:=4) Tryz.underlying148 Tryz.underlying4 (by kernel_rfl) (by kernel_rfl) (fun g hg=>by obtain rfl:=Option.some.inj (gOld.symm.trans hg);exact IP) hf
 intro j v hj
 rw[World.var?_cell gOld hv j]
 exact hd j v hj
theorem gHand:Tryz.prog.globalNamed "blueline/blame.hand" = some 3:=by kernel_rfl
theorem GR:(Tryz.prog.globals[3]?).map (·.type)=some 148:=by kernel_rfl
theorem sO {W:World} (h:laidMetH Tryz.prog Rows.blameClearRow.laid W):∀ (j:Nat) (v:Value),[Value.bool false,.bool true][j]?=some v→W.cell? ⟨3,j,.none⟩=some v:=by
 have hf:=h.filter fun x=>x.1 == "blueline/blame.hand"
 rw[show (Rows.blameClearRow.laid.filter fun x=>x.1 == "blueline/blame.hand")=[("blueline/blame.hand",.agg [.lit (.bool false),.lit (.bool true)])] by rfl] at hf
 obtain⟨cs,hv,hd⟩:=iN (t:=148) (e:=4) Tryz.underlying148 Tryz.underlying4 (by kernel_rfl) (by kernel_rfl) (fun g hg=>by obtain rfl:=Option.some.inj (gHand.symm.trans hg);exact GR) hf
 intro j v hj
 rw[World.var?_cell gHand hv j]
 exact hd j v hj
theorem ES {W:World} (h:laidMetH Tryz.prog Rows.blameClearRow.laid W):∀ g l,G6 g=some l→RepI W (vU W) (.ip l) (.pointer (some ⟨g,0,.none⟩)):=by
 intro g l hl
 unfold G6 at hl
 split at hl
 ·rename_i e;subst e;cases hl;exact ee (fs:=[357,358,359,360]) (by decide) (pE h)
 ·split at hl
  ·rename_i e;subst e;cases hl;exact ee (fs:=[372,373,374]) (by decide) (qP h)
  ·split at hl
   ·rename_i e;subst e;cases hl;exact ee (fs:=[346,347,348,349,350,351,354,356]) (by decide) (sf h)
   ·split at hl
    ·rename_i e;subst e;cases hl;exact ee (fs:=[364,365,366,369,370]) (by decide) (od h)
    ·split at hl
     ·rename_i e;subst e;cases hl;exact vA (oz h)
     ·split at hl
      ·rename_i e;subst e;cases hl;exact oa (sU h)
      ·split at hl
       ·rename_i e;subst e;cases hl;exact oa (vT h)
       ·split at hl
        ·rename_i e;subst e;cases hl;exact oa (sO h)
        ·cases hl
theorem AH (os:Os) (args:Array Value):laidMetH Tryz.prog Rows.blameClearRow.laid ((World.doorLaid Tryz.prog 600 os).forCall (fun _ _=>0) ⟨#[],args,[]⟩).memory:=
 laidMetH_of_parts3 (fuel:=8) (laidMet_of_run' 8 (by kernel_rfl) (by kernel_rfl)) (by kernel_rfl) (by kernel_rfl)
set_option maxRecDepth 100000 in
theorem gY (os:Os) (started:os.Started) (H:Type) (enc:TypeId×Value→H) :
 ReturnsInHanded {} Tryz.checked os 9 .any (fun w args=>(Rows.blameClearSpec.pre enc Tryz.prog Tryz.f9 [] false w args∧laidMetH Tryz.prog Rows.blameClearRow.laid w)∧sizedMet enc Tryz.prog Tryz.f9 (OpenSpec.ofChange Rows.blameClearSpec) false w args)
  (Rows.blameClearSpec.post enc Tryz.prog Tryz.f9 false true false false):=by
 refine returnsInHanded_of_change_and (C:=Tryz.checked) (X:=fun w _=>laidMetH Tryz.prog Rows.blameClearRow.laid w) (fun _ _ _ hh h=>h.of_heap hh) own started (by kernel_rfl) Tryz.func9
  (ChangeSpec.witness_shaped (enc:=enc) (C:=Tryz.checked) (os:=os) (X:=fun w _=>laidMetH Tryz.prog Rows.blameClearRow.laid w) false (World.doorLaid Tryz.prog 600 os) #[.agg #[.slice .none 0 0,.slice .none 0 0,.slice .none 0 0,.slice .none 0 0,.int .i64 0,.int .i64 0,.slice .none 0 0,.int .i64 0,.int .i64 0,.slice .none 0 0],.int .u8 0,.slice .none 0 0] 8 rfl (World.shaped_of_RefB (by kernel_rfl) (by kernel_rfl)) (by kernel_rfl) (by kernel_rfl) (by kernel_rfl) (AH os _)) ?_
 intro W base args ds gs tF hval0 hW _ _ hL _
 have hval:∀ (j:Nat) t v,Tryz.f9.params[j]?=some t→args[j]?=some v→Value.okWide Tryz.prog W .any base t v:=hval0
 have hW':=hW
 obtain⟨p,q,hA0,hV,rfl,hfz,hnd⟩:=hW
 have hA:DataW.TrodAll enc Tryz.prog W 0 (fun _=>true) true Tryz.f9.params.toList args.toList ds p:=hA0
 rw[Tryz.params9] at hA hval
 obtain⟨v0,v1,v2,d0,d1,d2,p0,p1,p2,rfl,rfl,rfl,h0,h1,h2⟩:=trodAll_three hA
 obtain⟨rfl,rfl⟩:=trodVars_none hV
 obtain⟨cs0,rfl,hcs0⟩:=okWide_struct Tryz.underlying39 (hval 0 39 v0 rfl rfl)
 obtain⟨n1,rfl,rfl,rfl,wn1⟩:=open_int Tryz.underlying5 (hval 1 5 v1 rfl rfl) h1
 obtain⟨sa2,sn2,sc2,rfl⟩:=okWide_slice Tryz.underlying69 (hval 2 69 v2 rfl rfl)
 clear hA0 hval0
 simp only[List.append_nil] at hW'
 have rn1:0≤n1∧n1≤255:=by simpa[Lit.wf,IntKind.min,IntKind.max,IntKind.signed,IntKind.bits] using wn1
 obtain⟨m1,rfl⟩:=Int.eq_ofNat_of_zero_le rn1.1
 have rm1:m1<256:=by omega
 have h0k:=h0
 obtain⟨fuel0,hf0⟩:=h0
 obtain⟨l0,⟨c0,hc0,rfl⟩,hR0⟩:=EX H enc W fuel0 cs0.toList _ hf0
 have hlt0:∀ x∈p0,x.block<W.heap.size:=fun x hx=>by simpa using hW'.lt x (by simp[hx])
 have h2k:=h2
 obtain⟨fuel2,hf2⟩:=h2
 obtain⟨l2,⟨c2,hc2,rfl⟩,hR2⟩:=Hq H enc W fuel2 [.slice sa2 sn2 sc2] _ hf2
 have hlt2:∀ x∈p2,x.block<W.heap.size:=fun x hx=>by simpa using hW'.lt x (by simp[hx])
 have hcall:=(pb (G:=G6) c0 m1 c2 rfl rfl (EL G6) (Ce G6) rfl rfl rfl ⟨rfl,rfl,rfl⟩ hc0 (Nat.le_of_lt_succ rm1) hc2 []).calls (vs:=#[.agg cs0,.int .u8 (m1:Int),.slice sa2 sn2 sc2]) (W:=W) (u:=.bool true) (ES hL) rfl (fun j d v hd hv=>by
  match j with
  | 0=>simp at hd hv;subst hd;subst hv;exact .ofCells hR0
  | 1=>simp at hd hv;subst hd;subst hv;exact .ofCell (c:=.raw (.int .u8 (m1:Int))) (.one (.raw _ rfl))
  | 2=>simp at hd hv;subst hd;subst hv;exact .ofCell hR2
  | j+3=>simp at hd)
 refine hcall.mono fun e W' ⟨he,hnx⟩=>?_
 subst he
 refine⟨_,rfl,_,_,_,[],p0++p2,[],hW',trodAll_mk1 (shut_bool Tryz.underlying4 _),?_,rfl,hnx.frame _,fun h=>by cases h⟩
 have hend:=trodAll_mk3 (Below.trod uB (by kernel_rfl) (of_decide_eq_true (by kernel_rfl)) h0k hnx hlt0) (shut_int (enc:=enc) (w:=W') (base:=0) (spare:=fun b=>decide (b<W.heap.size)) (held:=true) Tryz.underlying5 wn1) (Below.trod uB (by kernel_rfl) (of_decide_eq_true (by kernel_rfl)) h2k hnx hlt2)
 simp only[List.append_nil,List.nil_append,List.append_assoc] at hend ⊢
 exact hend
theorem iZ:Rows.BlameClearSaid:=
 OpenClaim.holds_of_wide 9 Tryz.f9 rfl rfl rfl rfl rfl rfl rfl ⟨rfl,rfl,rfl,rfl,rfl⟩ rfl rfl rfl rfl rfl (by kernel_rfl) Tryz.func9 gZ
  (of_decide_eq_true (by kernel_rfl)) (by unfold Func.isWrapper;first|(rw[if_pos (by decide +kernel)];kernel_rfl)|(rw[if_neg (by decide +kernel)];exact⟨rfl,rfl⟩))
  (fun os started H enc _=>gY os started H enc)
end Go.Proofs.YtjodaihiogfkbaaGreatDoor
