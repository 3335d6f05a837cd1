/- Part 30 of the proofs: laws and walks that hold without conditions beyond those that each theorem names. -/
import Derived.Test.YtciiddejfhbncaaGreatDoorA26
import Derived.Test.YtciiddejfhbncaaGreatDoorA27
import Derived.Test.YtciiddejfhbncaaGreatDoorA28
set_option linter.all false
set_option linter.deprecated false
namespace Go.Proofs
open Go Go.Ab
def pre (p:Option Issue) (x:Issue):List Int:=match p with|some y=>if y.drawing=x.drawing then [] else [x.drawing]|none=>[x.drawing]
def good (p:Option Issue) (x:Issue):Prop:=issueOk x=true∧match p with|some y=>y.drawing=x.drawing∧y.letter + 1=x.letter∧y.kind=x.kind∨y.drawing < x.drawing∧x.letter=1|none=>x.letter=1
def dd:List Issue→List Int
 | []=>[]
 | [x]=>[x.drawing]
 | x :: y :: r=>if x.drawing=y.drawing then dd (y :: r) else x.drawing :: dd (y :: r)
end Go.Proofs
namespace Go.Proofs
open Go Go.Ab
def newT (c:Chains) (f:Issue→List Dim×Int) (n:Int):Issue:=if (f (takeI c.reg c.lets n)).1=(takeI c.reg c.lets n).dims then takeI c.reg c.lets n else newI c.reg (takeI c.reg c.lets n) n (f (takeI c.reg c.lets n)).1
theorem issueOk_iff (x:Issue):issueOk x=true↔(1≤x.drawing∧x.drawing≤9999∧1≤x.letter∧x.letter≤8∧(x.kind=1∧1≤x.items.length∧x.items.length≤8∧x.dims.length=0∨2≤x.kind∧x.kind≤3∧x.dims.length≤4∧x.items.length=0))∧itemsOk x.drawing 0 x.items=true∧∀ d∈x.dims,dimOk d=true:=by
 rw [issueOk,Bool.and_eq_true,Bool.and_eq_true,ck12_iff,List.all_eq_true,and_assoc]
structure Changed (c:Chains) (f:Issue→List Dim×Int):Prop where
 reg:checkR (changedC c f).reg=0
 nums:nums (changedC c f).reg=nums c.reg
 mem:∀ x,x∈(changedC c f).reg↔x∈c.reg∨∃ n∈Go.Proofs.nums c.reg,(f (takeI c.reg c.lets n)).1≠(takeI c.reg c.lets n).dims∧x=newI c.reg (takeI c.reg c.lets n) n (f (takeI c.reg c.lets n)).1
 len:(changedC c f).reg.length=c.reg.length + ((Go.Proofs.nums c.reg).filter fun n=>decide ((f (takeI c.reg c.lets n)).1≠(takeI c.reg c.lets n).dims)).length
 letl:(changedC c f).lets.length=c.lets.length
 letAt:∀ (k:Nat) (n:Int),(Go.Proofs.nums c.reg)[k]?=some n→(changedC c f).lets[k]?=if (f (takeI c.reg c.lets n)).1=(takeI c.reg c.lets n).dims then c.lets[k]? else some ((cntN c.reg n:Int) + 1)
 lets:lettersI (changedC c f).reg (changedC c f).lets=true
 take:∀ n∈Go.Proofs.nums c.reg,takeI (changedC c f).reg (changedC c f).lets n=newT c f n
 err:∀ n∈Go.Proofs.nums c.reg,(f (takeI c.reg c.lets n)).2=0
 chE:chainsE (changedC c f)=0
 ok:OkC (changedC c f)
 small:SmallC (changedC c f)
 smallG:SmallG (changedC c f)
end Go.Proofs
namespace Go.Proofs
open Go Go.Ab
end Go.Proofs
namespace Go.Proofs
open Go Go.Ab
end Go.Proofs
namespace Go.Proofs
open Go Go.Ab
structure ProofOf (c:Chains) (L:Nat) (x:ChLoop) (S:List Int):Prop where
 at':c.loops[L]?=some x
 len:S.length=x.links.length
 within:∀ (k:Nat) (y:Link) (n:Int),x.links[k]?=some y→S[k]?=some n→(dimAt c y).lower≤n∧n≤(dimAt c y).upper
 near:∀ (k:Nat) (y:Link) (n:Int),x.links[k]?=some y→S[k]?=some n→spotOf y∈allSpots c→n - midD (dimAt c y)≤gradeN c + 1∧midD (dimAt c y) - n≤gradeN c + 1
 out:sumZ x.links S < x.lo∨x.hi < sumZ x.links S
end Go.Proofs
namespace Go.Ab
open Go
end Go.Ab
namespace Go.Proofs
open Go Go.Ab
end Go.Proofs
namespace Go.Ab
open Go
end Go.Ab
namespace Go.Proofs
open Go Go.Ab
end Go.Proofs
namespace Go.Proofs
open Go Go.Ab
structure Wider (c Y:Chains) (k:Nat) (x:ChLoop) (a b:Int):Prop where
 chE:chainsE Y=0
 small:SmallC Y
 closes:∀ so g,allT c so g=true→allT Y so g=true
 spots:allSpots Y=allSpots c
 loose:looseR Y=looseR c
 lo:loopsE Y (k:Int)=0∧rLo Y k=rLo c k∧rHi Y k=rHi c k∧closesK Y k=if a≤rLo c k∧rHi c k≤b then 2 else if rHi c k < a∨b < rLo c k then 0 else 1
end Go.Proofs
namespace Go.Proofs
open Go Go.Ab
set_option linter.unusedSimpArgs false
variable {G:Nat→Option (List IC)}
attribute [simp] permL reO cutL cutE gones noLoop nilV nilX ZK
def pickS (by':List Int) (at':Nat) (d:Dim):Int:=d.lower + chooseU by' at' % (d.upper - d.lower + 1)
def pickL (by':List Int) (k:Nat) (ds:List Dim):List Int:=ds.mapIdx fun i d=>pickS by' (8 * k + i) d
theorem pickL_len (b:List Int) (k:Nat) (ds:List Dim):(pickL b k ds).length=ds.length:=by simp [pickL]
theorem pickL_get (b:List Int) (k:Nat) (ds:List Dim) {i:Nat} {d:Dim} (h:ds[i]?=some d):(pickL b k ds)[i]?=some (pickS b (8 * k + i) d):=by
 simp [pickL,h]
theorem pickS_in (b:List Int) (i:Nat) {d:Dim} (h:d.lower≤d.upper):d.lower≤pickS b i d∧pickS b i d≤d.upper:=by
 have h1:0≤chooseU b i % (d.upper - d.lower + 1):=Int.emod_nonneg _ (by omega)
 have h2:chooseU b i % (d.upper - d.lower + 1) < d.upper - d.lower + 1:=Int.emod_lt_of_pos _ (by omega)
 unfold pickS;omega
theorem chooseU_in {b:List Int} (hu:∀ n∈b,0≤n∧n≤4294967295) (i:Nat):0≤chooseU b i∧chooseU b i≤4294967295:=by
 unfold chooseU
 split
 ·omega
 ·rename_i h
  rw [List.getElem?_eq_getElem (Nat.mod_lt _ (by omega))]
  exact hu _ (List.getElem_mem _)
set_option maxHeartbeats 8000000 in
set_option maxRecDepth 10000 in
theorem chainTrue_c (c:Chains) (b:List Int) (u1 u2 u3:IC) (hG:sheetG G) (hC:chainG G) (hU:unitG G u1 u2 u3) (hSF:SortFOk G) (hSG:SortGOk G) (hk:KindOk c.reg) (hu:∀ n∈b,0≤n∧n≤4294967295) (objs:List DObj):DCall Tryz.prog G 4 [chv c,.one (.im (.sl (b.map encU)))] objs (fun rr objs'=>rr=bv true∧objs'=objs):=by
 refine DCall.frame ?_ (by simp) (by simp) objs
 refine DCall_intro Tryz.func4 rfl Tryz.ntmps4 (by simp) rfl ?_
 try simp only [chv]
 have c1:=alive_c (G:=G) u1 u2 u3 hG hC hU hSF hSG
 have c2:=ready6_c (G:=G) c hk
 cases hq:readyC c
 ·rw [hq] at c2
  have hs:True:=trivial
  repeat' first|(with_reducible first|refine q01 ?_|refine q02 ?_|refine q11 ?_|refine q17 ?_)|(with_reducible refine At.fn_ret (by simp -dsimp [hs];exact rfl) ?_)|(refine CallE.pure (c1) ?_;try simp -dsimp [hs])|(refine CallE.pure (c2) ?_;try simp -dsimp [hs])|(with_reducible refine DT_regionE [0,1,2,4,5,6,7,8,9,10,11,12,13,14,15,16,17,18,19,20,21,22,30,33,34,35,36,107,109,110,111,112,202] ?_;simp -dsimp [hs])|(refine DT_cond rfl (fun h=>?_) (fun h=>?_)<;>(try simp only [nrm] at h)<;>(try exact Bool.noConfusion h))
  all_goals try simp -dsimp [hs]
  all_goals try clear hs
 ·rw [hq] at c2
  have hq':=hq
  simp only [readyC,Bool.and_eq_true,decide_eq_true_eq] at hq'
  obtain ⟨hq1,hq2⟩:=hq'
  have hg:=smallB_iff.1 hq1
  have hsm:SmallC c:=⟨⟨hg.1.1,fun x hx=>⟨(hk x hx).1,(hk x hx).2,(hg.1.2 x hx).1,(hg.1.2 x hx).2⟩⟩,hg.2⟩
  have hOk:=okC hq2
  have hs:True:=trivial
  repeat' first|(with_reducible first|refine q01 ?_|refine q11 ?_|refine q12 ?_|refine q14 ?_)|(refine CallE.pure (c1) ?_;try simp -dsimp [hs])|(refine CallE.pure (c2) ?_;try simp -dsimp [hs])|(with_reducible refine DT_regionE [0,1,2,4,5,6,7,8,9,10,11,12,13,14,15,16,17,18,19,20,21,22,30,33,34,35,36,107,109,110,111,112,202] ?_;simp -dsimp [hs])|(refine DT_cond rfl (fun h=>?_) (fun h=>?_)<;>(try simp only [nrm] at h)<;>(try exact Bool.noConfusion h))
  all_goals try simp -dsimp [hs]
  all_goals try clear hs
  refine DT_loop (ι:={ k:Nat // k≤c.loops.length }) (fun k=>⟨205,[(1,.one (.im (.sl (b.map encU)))),(2,.one (.ptr 0 0)),(5,bv true),(33,.one (.im (.sl (c.loops.map encLoop)))),(34,iv (c.loops.length:Int)),(35,iv (k.1:Int))],[.row [.im (.sl (c.reg.map encIssue)),.im (.sl (c.lets.map Ab.encI)),.im (rI c.of),.im (.sl (c.loops.map encLoop))]]⟩) (fun k=>c.loops.length - k.1) ⟨0,by omega⟩ (Weak.of_keep [1,2,5,33,34,35] (by simp)) ?_
  rintro ⟨k,hkl⟩
  simp only [iv,rI,bv]
  by_cases hlt:k < c.loops.length
  ·have hl6:=hOk.num
   have hw:IntKind.i64.wrap ((k:Int) + 1)=((k + 1:Nat):Int):=i64w (by omega) (by omega)
   obtain ⟨x,hx⟩:∃ x,c.loops[k]?=some x:=⟨c.loops[k],by simp [hlt]⟩
   have hxe:∀ h,c.loops[k]'h=x:=fun h=>by rw [List.getElem?_eq_getElem h] at hx;exact Option.some.inj hx
   have hxm:x∈c.loops:=List.mem_of_getElem? hx
   have hl8:=(hOk.gap x hxm).1
   have hlE:loopsE c (k:Int)=0:=by rw [loopsE,if_neg (by simp [hq2]),if_pos ⟨by omega,by omega⟩]
   have hLo:rLo c (k:Int)=endS x.links (sizesI c x) false:=by rw [rLo,if_pos hlE,loI];simp [hx]
   have hHi:rHi c (k:Int)=endS x.links (sizesI c x) true:=by rw [rHi,if_pos hlE,hiI];simp [hx]
   have hcl:closesK c (k:Int)=if x.lo≤rLo c k∧rHi c k≤x.hi then 2 else if rHi c k < x.lo∨x.hi < rLo c k then 0 else 1:=by rw [closesK,if_pos hlE,clK];simp [hx]
   have hlp:lpAt c (k:Int)=x:=by simp [lpAt,hx]
   have hwf:worstR c (k:Int) false=endsL x.links (sizesI c x) false:=by rw [worstR,if_pos hlE,hlp]
   have hwt:worstR c (k:Int) true=endsL x.links (sizesI c x) true:=by rw [worstR,if_pos hlE,hlp]
   have c3:=pReach_c (G:=G) c k hG hC hsm okC
   have c4:=pCloses_c (G:=G) c k hG hC hsm okC
   have c5:=pWorst_c (G:=G) c k false hG hC hsm
   have c6:=pWorst_c (G:=G) c k true hG hC hsm
   rw [hlE] at c3 c4 c5 c6
   rw [hwf] at c5
   rw [hwt] at c6
   rw [hcl] at c4
   have hdsl:(sizesI c x).length=x.links.length:=by simp [sizesI]
   have hlen1:=endsL_len x.links (sizesI c x) false hdsl
   have hlen2:=endsL_len x.links (sizesI c x) true hdsl
   have hdok:∀ (i:Nat) (d:Dim),(sizesI c x)[i]?=some d→dimOk d=true:=fun i d h=>by
    simp only [sizesI,List.getElem?_map,Option.map_eq_some_iff] at h
    obtain ⟨y,hy,rfl⟩:=h
    exact (dimAt_ok hOk hxm (List.mem_of_getElem? hy)).1
   have hdat:∀ (i:Nat) (y:Link),x.links[i]?=some y→(sizesI c x)[i]?=some (dimAt c y):=fun i y h=>by simp [sizesI,h]
   have hbd:∀ (i:Nat) (d:Dim),(sizesI c x)[i]?=some d→d.lower≤d.upper∧0≤d.lower∧d.upper≤1000000000:=fun i d h=>by
    have h1:=hdok i d h
    rw [dimOk_iff] at h1
    omega
   have c7:=lawWithin_c (G:=G) c x _ hOk hsm hxm hlen1 (fun i y n hy hn=>ends_in _ _ _ i _ n (hdat i y hy) (hbd i _ (hdat i y hy)).1 hn)
   have c8:=lawWithin_c (G:=G) c x _ hOk hsm hxm hlen2 (fun i y n hy hn=>ends_in _ _ _ i _ n (hdat i y hy) (hbd i _ (hdat i y hy)).1 hn)
   have hin:∀ s:List Int,s.length=x.links.length→(∀ (i:Nat) (d:Dim) (n:Int),(sizesI c x)[i]?=some d→s[i]?=some n→d.lower≤n∧n≤d.upper)→∀ n∈s,-2000000000≤n∧n≤2000000000:=fun s hs h n hn=>by
    obtain ⟨i,hi⟩:=List.mem_iff_getElem?.1 hn
    have hil:=(List.getElem?_eq_some_iff.1 hi).1
    have hd:(sizesI c x)[i]?=some ((sizesI c x)[i]'(by omega)):=List.getElem?_eq_getElem _
    have h1:=h i _ n hd hi
    have h2:=hbd i _ hd
    omega
   have c9:=sum6_c (G:=G) x _ (by omega) hlen1 (hin _ hlen1 fun i d n hd hn=>ends_in _ _ _ i d n hd (hbd i d hd).1 hn)
   have c10:=sum6_c (G:=G) x _ (by omega) hlen2 (hin _ hlen2 fun i d n hd hn=>ends_in _ _ _ i d n hd (hbd i d hd).1 hn)
   rw [sumTo_all _ _ hlen1,← endS_sum,← hLo] at c9
   rw [sumTo_all _ _ hlen2,← endS_sum,← hHi] at c10
   generalize endsL x.links (sizesI c x) false=A1 at *
   generalize endsL x.links (sizesI c x) true=A2 at *
   simp only [refv,encLoop,rI,List.map_cons,List.map_nil] at c3 c7 c8 c9 c10
   have hs:True:=trivial
   repeat' first|(with_reducible first|refine q01 ?_|refine q11 ?_|refine q12 ?_|refine q14 ?_)|(refine CallE.pure (c3) ?_;try simp -dsimp [hlt,hx,hxe,hw,hs])|(refine CallE.pure (c4) ?_;try simp -dsimp [hlt,hx,hxe,hw,hs])|(refine CallE.pure (c5) ?_;try simp -dsimp [hlt,hx,hxe,hw,hs])|(refine CallE.pure (c6) ?_;try simp -dsimp [hlt,hx,hxe,hw,hs])|(refine QCall_pure (c7) ?_;try simp -dsimp [hlt,hx,hxe,hw,hs])|(refine QCall_pure (c8) ?_;try simp -dsimp [hlt,hx,hxe,hw,hs])|(refine QCall_pure (c9) ?_;try simp -dsimp [hlt,hx,hxe,hw,hs])|(refine QCall_pure (c10) ?_;try simp -dsimp [hlt,hx,hxe,hw,hs])|(refine DT_regionM (id:=11) (nt:=205) 44 [0,1,2,4,5,6,7,8,9,10,11,12,13,14,15,16,17,18,19,20,21,22,30,33,34,35,36,107,109,110,111,112,202] mixed rfl (by kernel_rfl) ?_;simp -dsimp [hlt,hx,hxe,hw,hs])|(with_reducible refine DT_regionE [0,1,2,4,5,6,7,8,9,10,11,12,13,14,15,16,17,18,19,20,21,22,30,33,34,35,36,107,109,110,111,112,202] ?_;simp -dsimp [hlt,hx,hxe,hw,hs])|(refine DT_cond rfl (fun h=>?_) (fun h=>?_)<;>(try simp only [nrm] at h)<;>(try exact Bool.noConfusion h))
   all_goals try simp -dsimp [hlt,hx,hxe,hw,hs]
   all_goals try clear hs
   have hTl:=pickL_len b k (sizesI c x)
   have hTg:=fun (i:Nat) (d:Dim) (h:(sizesI c x)[i]?=some d)=>pickL_get b k (sizesI c x) h
   have hTin:∀ (i:Nat) (d:Dim) (n:Int),(sizesI c x)[i]?=some d→(pickL b k (sizesI c x))[i]?=some n→d.lower≤n∧n≤d.upper:=fun i d n hd hn=>by
    rw [hTg i d hd] at hn
    cases hn
    exact pickS_in b _ (hbd i d hd).1
   have hTs:=hin _ (hTl.trans hdsl) hTin
   have hbt:=sum_between x.links (sizesI c x) _ hdsl (hTl.trans hdsl) hTin
   rw [← hLo,← hHi] at hbt
   have c11:=sum6_c (G:=G) x _ (by omega) (hTl.trans hdsl) hTs
   rw [sumTo_all _ _ (hTl.trans hdsl)] at c11
   simp only [encLoop,rI,List.map_cons,List.map_nil] at c11
   generalize pickL b k (sizesI c x)=T at *
   generalize rLo c (k:Int)=Lo at *
   generalize rHi c (k:Int)=Hi at *
   generalize sumZ x.links T=N at *
   have hTxl:T.length=x.links.length:=hTl.trans hdsl
   refine DT_loop (ι:={ p:Nat×Nat×Bool // p.1≤x.links.length }) (fun p=>⟨205,[(1,.one (.im (.sl (b.map encU)))),(2,.one (.ptr 0 0)),(5,bv true),(6,iv (k:Int)),(7,.one (.ptr 2 0)),(8,.one (.ptr 3 0)),(10,u8v (if x.lo≤Lo∧Hi≤x.hi then 2 else if Hi < x.lo∨x.hi < Lo then 0 else 1)),(16,.one (.vec 4 p.1.2.1 0 p.1.1)),(33,.one (.im (.sl (c.loops.map encLoop)))),(34,iv (c.loops.length:Int)),(35,iv (k:Int)),(109,.one (.im (.sl (x.links.map encLink)))),(110,iv (x.links.length:Int)),(111,iv (p.1.1:Int))],
    [.row [.im (.sl (c.reg.map encIssue)),.im (.sl (c.lets.map Ab.encI)),.im (rI c.of),.im (.sl (c.loops.map encLoop))],.vec 0 [] 0 true,.row [.im (.sl (x.links.map encLink)),.im (rI x.lo),.im (rI x.hi)],.row [.im (rI Lo),.im (rI Hi)],.vec 1 (ims ((T.take p.1.1).map Ab.encI)) p.1.2.1 p.1.2.2]⟩) (fun p=>x.links.length - p.1.1) ⟨(0,0,true),by simp⟩ (Weak.of_keep [1,2,5,6,7,8,10,16,33,34,35,109,110,111] (by simp)) ?_
   rintro ⟨⟨i,gn,nl⟩,hi⟩
   simp only at hi
   simp only [iv,rI,bv,u8v]
   generalize hK:(if x.lo≤Lo∧Hi≤x.hi then (2:Int) else if Hi < x.lo∨x.hi < Lo then 0 else 1)=K at *
   by_cases hlti:i < x.links.length
   ·have hwi:IntKind.i64.wrap ((i:Int) + 1)=((i + 1:Nat):Int):=i64w (by omega) (by omega)
    obtain ⟨y,hy⟩:∃ y,x.links[i]?=some y:=⟨x.links[i],by simp [hlti]⟩
    have hye:∀ h,x.links[i]'h=y:=fun h=>by rw [List.getElem?_eq_getElem h] at hy;exact Option.some.inj hy
    have hym:=List.mem_of_getElem? hy
    have hd:=dimAt_ok hOk hxm hym
    have hlk:=hOk.link x hxm y hym
    have hlt2:=hOk.lets
    simp only [lettersI,Bool.and_eq_true,decide_eq_true_eq] at hlt2
    have c12:=sizeOf_c (G:=G) c y (dimAt c y) (by have:=hsm.1.1;omega) hlk.1 hlt2.1 hlk.2.1 hd.2
    simp only [linkv,encLink,rI,List.map_cons,List.map_nil] at c12
    have hTi:=hTg i _ (hdat i y hy)
    have hb3:=hbd i _ (hdat i y hy)
    have c13:=choose6_c (G:=G) b (8 * k + i) (by omega) hu
    have hch:=chooseU_in hu (8 * k + i)
    have hiT:i < T.length:=by omega
    have htk:T.take (i + 1)=T.take i ++ [pickS b (8 * k + i) (dimAt c y)]:=by
     rw [List.take_succ_eq_append_getElem hiT]
     congr 2
     rw [List.getElem?_eq_getElem hiT] at hTi
     exact Option.some.inj hTi
    have hpi:=pickS_in b (8 * k + i) hb3.1
    rw [pickS] at htk hpi
    generalize dimAt c y=d at *
    generalize chooseU b (8 * k + i)=q at *
    have hcast:((8 * k + i:Nat):Int)=8 * (k:Int) + (i:Int):=by omega
    rw [hcast] at c13
    have v1:IntKind.i64.wrap (8 * (k:Int))=8 * (k:Int):=i64w (by omega) (by omega)
    have v2:IntKind.i64.wrap (8 * (k:Int) + (i:Int))=8 * (k:Int) + (i:Int):=i64w (by omega) (by omega)
    have v3:IntKind.i64.wrap (d.upper - d.lower)=d.upper - d.lower:=i64w (by omega) (by omega)
    have v4:IntKind.i64.wrap (d.upper - d.lower + 1)=d.upper - d.lower + 1:=i64w (by omega) (by omega)
    have hm:q.tmod (d.upper - d.lower + 1)=q % (d.upper - d.lower + 1):=Int.tmod_eq_emod_of_nonneg hch.1
    have hz:¬ d.upper - d.lower + 1=0:=by omega
    generalize q % (d.upper - d.lower + 1)=m at *
    have v5:IntKind.i64.wrap m=m:=i64w (by omega) (by omega)
    have v6:IntKind.i64.wrap (d.lower + m)=d.lower + m:=i64w (by omega) (by omega)
    have hmin:min i T.length=i:=by omega
    have htk2:(ims ((T.map Ab.encI).take i)).take i=ims ((T.map Ab.encI).take i):=List.take_of_length_le (by simp [ims_length];omega)
    have hcp1:(i + 1) * 8≤140737488355328:=by omega
    have hcp2:i≤9223372036854775806:=by omega
    have happ:ims ((T.map Ab.encI).take i) ++ [[DC.im (.raw (.int .i64 (d.lower + m)))]]=ims ((T.map Ab.encI).take i ++ [[.raw (.int .i64 (d.lower + m))]]):=by simp [ims]
    have htm:(T.map Ab.encI).take (i + 1)=(T.map Ab.encI).take i ++ [[.raw (.int .i64 (d.lower + m))]]:=by
     rw [← List.map_take,htk,List.map_append,List.map_take];rfl
    have happ2:ims ((T.map Ab.encI).take i) ++ [[DC.im (.raw (.int .i64 (d.lower + m)))]]=ims ((T.map Ab.encI).take (i + 1)):=by rw [htm,happ]
    clear htm happ
    have hs:True:=trivial
    repeat' first|(with_reducible first|refine q01 ?_|refine q04 ?_|refine q11 ?_|refine q12 ?_|refine q14 ?_)|(refine CallE.pure (c12) ?_;try simp -dsimp [hmin,htk2,hcp1,hcp2,hlti,hy,hye,hwi,v1,v2,v3,v4,v5,v6,hm,hz,hs])|(refine QCall_pure (c13) ?_;try simp -dsimp [hmin,htk2,hcp1,hcp2,hlti,hy,hye,hwi,v1,v2,v3,v4,v5,v6,hm,hz,hs])|(refine DT_regionM (id:=18) (nt:=205) 18 [0,1,2,4,5,6,7,8,9,10,11,12,13,14,15,16,17,18,19,20,21,22,30,33,34,35,36,107,109,110,111,112,202] mixed rfl (by kernel_rfl) ?_;simp -dsimp [hmin,htk2,hcp1,hcp2,hlti,hy,hye,hwi,v1,v2,v3,v4,v5,v6,hm,hz,hs])|(with_reducible refine DT_regionE [0,1,2,4,5,6,7,8,9,10,11,12,13,14,15,16,17,18,19,20,21,22,30,33,34,35,36,107,109,110,111,112,202] ?_;simp -dsimp [hmin,htk2,hcp1,hcp2,hlti,hy,hye,hwi,v1,v2,v3,v4,v5,v6,hm,hz,hs])|(refine DT_cond rfl (fun h=>?_) (fun h=>?_)<;>(try simp only [nrm] at h)<;>(try exact Bool.noConfusion h))
    all_goals try simp -dsimp [hmin,htk2,hcp1,hcp2,hlti,hy,hye,hwi,v1,v2,v3,v4,v5,v6,hm,hz,hs]
    all_goals try clear hs
    all_goals exact At.round ⟨(i + 1,gn + 1,false),by omega⟩ (by simp;omega) (Weak.of_drop [1,2,5,6,7,8,10,16,33,34,35,109,110,111] 5 (by simp) (by simp) (by simp [happ2]))
   ·obtain rfl:i=x.links.length:=by omega
    simp only [← hTxl,List.take_length]
    have hs:True:=trivial
    repeat' first|(with_reducible first|refine q01 ?_|refine q02 ?_|refine q03 ?_|refine q04 ?_|refine q05 ?_|refine q06 ?_|refine q11 ?_|refine q14 ?_|refine q16 ?_|refine q17 ?_)|(with_reducible refine At.fn_ret (by simp -dsimp [hlti,hs];exact rfl) ?_)|(refine CallE.thaw (c11) ?_ ?_ ?_;(focus (simp;done));(focus (simp;done));try simp -dsimp [hlti,hs])|(with_reducible refine DT_regionE [0,1,2,4,5,6,7,8,9,10,11,12,13,14,15,16,17,18,19,20,21,22,30,33,34,35,36,107,109,110,111,112,202] ?_;simp -dsimp [hlti,hs])|(refine DT_cond rfl (fun h=>?_) (fun h=>?_)<;>(try simp only [nrm] at h)<;>(try exact Bool.noConfusion h))|(with_reducible refine GStop_split ?_ ?_<;>intro h<;>have h0:=h<;>(try simp only [nrm] at h)<;>(try exact Bool.noConfusion h)<;>have h2:=h<;>(try simp at h2)<;>(replace hs:=And.intro h0 (And.intro h (And.intro h2 hs)))<;>simp -dsimp [h0,h,h2,hlti,hs])
    all_goals try simp -dsimp [hlti,hs]
    all_goals try clear hs
    all_goals first
     | exact At.round ⟨k + 1,by omega⟩ (by simp;omega) (Weak.of_drop [1,2,5,33,34,35] 1 (by simp) (by simp) (by simp [hw]))
     | (exfalso;split at hK<;>(try split at hK)<;>omega)
  ·obtain rfl:k=c.loops.length:=by omega
   have hs:True:=trivial
   repeat' first|(with_reducible first|refine q01 ?_|refine q03 ?_|refine q06 ?_|refine q11 ?_|refine q16 ?_|refine q17 ?_)|(with_reducible refine At.fn_ret (by simp -dsimp [hlt,hs];exact rfl) ?_)|(with_reducible refine DT_regionE [0,1,2,4,5,6,7,8,9,10,11,12,13,14,15,16,17,18,19,20,21,22,30,33,34,35,36,107,109,110,111,112,202] ?_;simp -dsimp [hlt,hs])|(refine DT_cond rfl (fun h=>?_) (fun h=>?_)<;>(try simp only [nrm] at h)<;>(try exact Bool.noConfusion h))
   all_goals try simp -dsimp [hlt,hs]
   all_goals try clear hs
end Go.Proofs
namespace Go.Proofs
open Go Go.Ab
set_option linter.unusedSimpArgs false
variable {G:Nat→Option (List IC)}
attribute [simp] permL reO cutL cutE gones noLoop nilV nilX ZK
structure Kd where
 is:Bool
 kind:Int
def encKd (x:Kd):List IC:=[rB x.is,.raw (.int .u8 x.kind)]
def kdv (x:Kd):DV:=.agg ((encKd x).map .im)
theorem encKd_len (x:Kd):(encKd x).length=2:=rfl
theorem kdv_im (x:Kd):ImV (kdv x):=by simp [kdv]
attribute [simp] encKd_len kdv_im
theorem indexFunc_kd (l:List Kd) (p:Kd→Bool) (k:Nat) (caps:List DC) (objs:List DObj) (hok:CallOk Tryz.prog k) (hf:∀ x∈l,DCall Tryz.prog G k (kdv x :: caps.map .one) objs (fun d o=>d=bv (p x)∧o=objs)) (hl:l.length < 1000000):DCall Tryz.prog G 148 [.one (.im (.sl (l.map encKd))),.one (.fn (.func k) caps)] objs (fun d o=>d=iv (fidx p l)∧o=objs):=by
 refine DCall_intro Tryz.func148 rfl Tryz.ntmps148 (by simp) rfl ?_
 have hs:True:=trivial
 repeat' first|(with_reducible first|refine q01 ?_|refine q11 ?_|refine q12 ?_)|(with_reducible refine DT_regionE [0,1,4,5,7,8,9,16] ?_;simp -dsimp [hs])
 all_goals try simp -dsimp [hs]
 all_goals try clear hs
 refine DT_loop (ι:={ k:Nat // k≤l.length∧∀ j x,j < k→l[j]?=some x→p x=false }) (fun i=>⟨19,[(0,.one (.im (.sl (l.map encKd)))),(1,.one (.fn (.func k) caps)),(7,iv (l.length:Int)),(8,iv (i.1:Int))],objs⟩) (fun i=>l.length - i.1) ⟨0,by simp⟩ (Weak.of_keep [0,1,7,8] (by simp)) ?_
 rintro ⟨i,hi,hno⟩
 simp only [iv]
 by_cases hlt:i < l.length
 ·have hx:l[i]?=some l[i]:=by simp [hlt]
  have hw:IntKind.i64.wrap ((i:Int) + 1)=((i + 1:Nat):Int):=i64w (by omega) (by omega)
  have hc:=hf l[i] (by simp)
  simp only [kdv,encKd,rB,List.map_cons,List.map_nil,bv,rI] at hc
  have hs:True:=trivial
  repeat' first|(with_reducible first|refine q01 ?_|refine q02 ?_|refine q03 ?_|refine q04 ?_|refine q05 ?_|refine q06 ?_|refine q11 ?_|refine q12 ?_|refine q14 ?_|refine q16 ?_|refine q17 ?_|refine And.intro (by omega) ?_)|(with_reducible refine At.fn_ret (by simp -dsimp [hx,hw,hok,hs];exact rfl) ?_)|(refine CallE.here hc ?_;try simp -dsimp [hx,hw,hok,hs])|(with_reducible refine DT_regionE [0,1,4,5,7,8,9,16] ?_;simp -dsimp [hx,hw,hok,hs])|(refine DT_cond rfl (fun h=>?_) (fun h=>?_)<;>(try simp only [nrm] at h)<;>(try exact Bool.noConfusion h))|with_reducible refine And.intro ?_ ?_
  all_goals try simp -dsimp [hx,hw,hok,hs]
  all_goals try clear hs
  all_goals try omega
  ·exact (fidx_yes hx (by assumption) hno).symm
  ·exact At.round ⟨i + 1,by omega,fun j x hj hjx=>by
    by_cases e:j=i
    ·subst e;rw [hx] at hjx;cases hjx;assumption
    ·exact hno j x (by omega) hjx⟩ (by simp;omega) (Weak.of_keep [0,1,7,8] (by simp))
 ·have hs:True:=trivial
  repeat' first|(with_reducible first|refine q01 ?_|refine q03 ?_|refine q06 ?_|refine q11 ?_|refine q12 ?_|refine q14 ?_|refine q16 ?_|refine q17 ?_)|(with_reducible refine At.fn_ret (by simp -dsimp [hs];exact rfl) ?_)|(with_reducible refine DT_regionE [0,1,4,5,7,8,9,16] ?_;simp -dsimp [hs])|(refine DT_cond rfl (fun h=>?_) (fun h=>?_)<;>(try simp only [nrm] at h)<;>(try exact Bool.noConfusion h))|with_reducible refine And.intro ?_ ?_
  all_goals try simp -dsimp [hs]
  all_goals try clear hs
  all_goals try omega
  exact (fidx_no fun j x hjx=>hno j x (by have:=lt_of_getElem? hjx;omega) hjx).symm
theorem fitF_c (x:Kd) (objs:List DObj):DCall Tryz.prog G 108 [kdv x] objs (fun rr objs'=>rr=bv x.is∧objs'=objs):=by
 refine DCall.frame ?_ (by simp) (by simp) objs
 refine DCall_intro Tryz.func108 rfl Tryz.ntmps108 (by simp) rfl ?_
 try simp only [iv]
 simp only [kdv,encKd,rB,List.map_cons,List.map_nil]
 have hs:True:=trivial
 repeat' first|(with_reducible first|refine q01 ?_|refine q11 ?_|refine q17 ?_)|(with_reducible refine At.fn_ret (by simp -dsimp [hs];exact rfl) ?_)|(with_reducible refine DT_regionE [0,1,2] ?_;simp -dsimp [hs])
 all_goals try simp -dsimp [hs]
 all_goals try clear hs
theorem first_c (l:List Kd) (x:Kd) (j:Nat) (hj:l[j]?=some x) (hf:fidx (fun x=>x.is) l=(j:Int)) (hl:l.length < 1000) (objs:List DObj):DCall Tryz.prog G 107 [.one (.im (.sl (l.map encKd))),.one (.im (.fn (.func 108) []))] objs (fun rr objs'=>rr=kdv x∧objs'=objs):=by
 refine DCall.frame ?_ (by simp) (by simp) objs
 refine DCall_intro Tryz.func107 rfl Tryz.ntmps107 (by simp) rfl ?_
 try simp only [iv]
 have c1:∀ objs,DCall Tryz.prog G 148 [.one (.im (.sl (l.map encKd))),.one (.im (.fn (.func 108) []))] objs (fun d o=>d=iv (fidx (fun x=>x.is) l)∧o=objs):=fun objs=>fn_im (indexFunc_kd (G:=G) l (fun x=>x.is) 108 [] objs (by simp) (fun x _=>fitF_c x objs) (by omega))
 rw [hf] at c1
 have hjl:=lt_of_getElem? hj
 have hje:∀ h,l[j]'h=x:=fun h=>by rw [List.getElem?_eq_getElem h] at hj;exact Option.some.inj hj
 have hs:True:=trivial
 repeat' first|(with_reducible first|refine q01 ?_|refine q11 ?_|refine q17 ?_)|(with_reducible refine At.fn_ret (by simp -dsimp [hj,hjl,hje,kdv,encKd,rB,hs];exact rfl) ?_)|(refine CallE.pure (c1) ?_;try simp -dsimp [hj,hjl,hje,kdv,encKd,rB,hs])|(with_reducible refine DT_regionE [0,1,4] ?_;simp -dsimp [hj,hjl,hje,kdv,encKd,rB,hs])
 all_goals try simp -dsimp [hj,hjl,hje,kdv,encKd,rB,hs]
 all_goals try clear hs
theorem sboth_c (a b:Dim) (objs:List DObj):DCall Tryz.prog G 102 [dimv a,dimv b] objs (fun rr objs'=>rr=iv (if dimOk a=true∧dimOk b=true then 0 else 10)∧objs'=objs):=by
 refine DCall.frame ?_ (by simp) (by simp) objs
 refine DCall_intro Tryz.func102 rfl Tryz.ntmps102 (by simp) rfl ?_
 try simp only [dimv,dimv]
 have c1:=sizeCheck_c (G:=G) a
 have c2:=sizeCheck_c (G:=G) b
 simp only [dimv,encDim,rI,List.map_cons,List.map_nil] at c1 c2
 cases ha:dimOk a<;>cases hb:dimOk b<;>rw [ha] at c1<;>rw [hb] at c2
 ·have hs:True:=trivial
  repeat' first|(with_reducible first|refine q01 ?_|refine q02 ?_|refine q11 ?_|refine q17 ?_)|(with_reducible refine At.fn_ret (by simp -dsimp [hs];exact rfl) ?_)|(refine CallE.pure (c1) ?_;try simp -dsimp [hs])|(with_reducible refine DT_regionE [0,1,2,3,4,12] ?_;simp -dsimp [hs])|(refine DT_cond rfl (fun h=>?_) (fun h=>?_)<;>(try simp only [nrm] at h)<;>(try exact Bool.noConfusion h))
  all_goals try simp -dsimp [hs]
  all_goals try clear hs
 ·have hs:True:=trivial
  repeat' first|(with_reducible first|refine q01 ?_|refine q02 ?_|refine q11 ?_|refine q17 ?_)|(with_reducible refine At.fn_ret (by simp -dsimp [hs];exact rfl) ?_)|(refine CallE.pure (c1) ?_;try simp -dsimp [hs])|(with_reducible refine DT_regionE [0,1,2,3,4,12] ?_;simp -dsimp [hs])|(refine DT_cond rfl (fun h=>?_) (fun h=>?_)<;>(try simp only [nrm] at h)<;>(try exact Bool.noConfusion h))
  all_goals try simp -dsimp [hs]
  all_goals try clear hs
 ·have hs:True:=trivial
  repeat' first|(with_reducible first|refine q01 ?_|refine q02 ?_|refine q11 ?_|refine q17 ?_)|(with_reducible refine At.fn_ret (by simp -dsimp [hs];exact rfl) ?_)|(refine CallE.pure (c1) ?_;try simp -dsimp [hs])|(refine CallE.pure (c2) ?_;try simp -dsimp [hs])|(with_reducible refine DT_regionE [0,1,2,3,4,12] ?_;simp -dsimp [hs])|(refine DT_cond rfl (fun h=>?_) (fun h=>?_)<;>(try simp only [nrm] at h)<;>(try exact Bool.noConfusion h))
  all_goals try simp -dsimp [hs]
  all_goals try clear hs
 ·have hs:True:=trivial
  repeat' first|(with_reducible first|refine q01 ?_|refine q11 ?_|refine q14 ?_|refine q17 ?_)|(with_reducible refine At.fn_ret (by simp -dsimp [hs];exact rfl) ?_)|(refine CallE.pure (c1) ?_;try simp -dsimp [hs])|(refine CallE.pure (c2) ?_;try simp -dsimp [hs])|(with_reducible refine DT_regionE [0,1,2,3,4,12] ?_;simp -dsimp [hs])|(refine DT_cond rfl (fun h=>?_) (fun h=>?_)<;>(try simp only [nrm] at h)<;>(try exact Bool.noConfusion h))
  all_goals try simp -dsimp [hs]
  all_goals try clear hs
def fitK (a b:Dim):Int:=if 0≤a.lower - b.upper then 1 else if a.upper - b.lower≤0 then 2 else 3
set_option maxHeartbeats 1000000 in
theorem fit_c (a b:Dim) (ha:dimOk a=true) (hb:dimOk b=true) (objs:List DObj):DCall Tryz.prog G 58 [dimv a,dimv b] objs (fun rr objs'=>rr=.tup [refv (a.lower - b.upper) (a.upper - b.lower),u8v (fitK a b),iv 0]∧objs'=objs):=by
 refine DCall.frame ?_ (by simp) (by simp) objs
 refine DCall_intro Tryz.func58 rfl Tryz.ntmps58 (by simp) rfl ?_
 try simp only [dimv,dimv]
 have c1:=sboth_c (G:=G) a b
 rw [if_pos ⟨ha,hb⟩] at c1
 rw [dimOk_iff] at ha hb
 have v1:IntKind.i64.wrap (a.lower - b.upper)=a.lower - b.upper:=i64w (by omega) (by omega)
 have v2:IntKind.i64.wrap (a.upper - b.lower)=a.upper - b.lower:=i64w (by omega) (by omega)
 have hK:fitK a b=if 0≤a.lower - b.upper then 1 else if a.upper - b.lower≤0 then 2 else 3:=rfl
 simp only [dimv,encDim,rI,List.map_cons,List.map_nil] at c1
 generalize hA:a.lower - b.upper=A at *
 generalize hB:a.upper - b.lower=B at *
 have c2:=fun (x:Kd) (j:Nat) h1 h2=>first_c (G:=G) [⟨decide (0≤A),1⟩,⟨decide (B≤0),2⟩,⟨true,3⟩] x j h1 h2 (by simp)
 by_cases h1:0≤A
 ·rw [if_pos h1] at hK
  have c3:=c2 ⟨true,1⟩ 0 (by simp [h1]) (by simp [fidx,List.findIdx?_cons,h1])
  simp only [decide_eq_true h1] at c3
  simp only [kdv,encKd,rB,List.map_cons,List.map_nil] at c3
  have hs:True:=trivial
  repeat' first|(with_reducible first|refine q01 ?_|refine q11 ?_|refine q14 ?_|refine q17 ?_)|(with_reducible refine At.fn_ret (by simp -dsimp [v1,v2,hA,hB,h1,hK,hs];exact rfl) ?_)|(refine CallE.pure (c1) ?_;try simp -dsimp [v1,v2,hA,hB,h1,hK,hs])|(refine QCall.thaw (c3) ?_ ?_ ?_;(focus (simp;done));(focus (simp;done));try simp -dsimp [v1,v2,hA,hB,h1,hK,hs])|(refine DT_regionX (id:=6) (nt:=41) 4 [3] [0,1,2,3,4,5,6,7,8,13,37,38,39] [0,1,2,3,4,5,6,7,8,13] mixed rfl (by kernel_rfl) ?_;simp -dsimp [v1,v2,hA,hB,h1,hK,hs])|(with_reducible refine DT_regionE [0,1,2,3,4,5,6,7,8,13] ?_;simp -dsimp [v1,v2,hA,hB,h1,hK,hs])|(refine DT_cond rfl (fun h=>?_) (fun h=>?_)<;>(try simp only [nrm] at h)<;>(try exact Bool.noConfusion h))
  all_goals try simp -dsimp [v1,v2,hA,hB,h1,hK,hs]
  all_goals try clear hs
 ·rw [if_neg h1] at hK
  by_cases h2:B≤0
  ·rw [if_pos h2] at hK
   have c3:=c2 ⟨true,2⟩ 1 (by simp [h2]) (by simp [fidx,List.findIdx?_cons,h1,h2])
   simp only [decide_eq_false h1,decide_eq_true h2] at c3
   simp only [kdv,encKd,rB,List.map_cons,List.map_nil] at c3
   have hs:True:=trivial
   repeat' first|(with_reducible first|refine q01 ?_|refine q11 ?_|refine q14 ?_|refine q17 ?_)|(with_reducible refine At.fn_ret (by simp -dsimp [v1,v2,hA,hB,h1,h2,hK,hs];exact rfl) ?_)|(refine CallE.pure (c1) ?_;try simp -dsimp [v1,v2,hA,hB,h1,h2,hK,hs])|(refine QCall.thaw (c3) ?_ ?_ ?_;(focus (simp;done));(focus (simp;done));try simp -dsimp [v1,v2,hA,hB,h1,h2,hK,hs])|(refine DT_regionX (id:=6) (nt:=41) 4 [3] [0,1,2,3,4,5,6,7,8,13,37,38,39] [0,1,2,3,4,5,6,7,8,13] mixed rfl (by kernel_rfl) ?_;simp -dsimp [v1,v2,hA,hB,h1,h2,hK,hs])|(with_reducible refine DT_regionE [0,1,2,3,4,5,6,7,8,13] ?_;simp -dsimp [v1,v2,hA,hB,h1,h2,hK,hs])|(refine DT_cond rfl (fun h=>?_) (fun h=>?_)<;>(try simp only [nrm] at h)<;>(try exact Bool.noConfusion h))
   all_goals try simp -dsimp [v1,v2,hA,hB,h1,h2,hK,hs]
   all_goals try clear hs
  ·rw [if_neg h2] at hK
   have c3:=c2 ⟨true,3⟩ 2 (by simp) (by simp [fidx,List.findIdx?_cons,h1,h2])
   simp only [decide_eq_false h1,decide_eq_false h2] at c3
   simp only [kdv,encKd,rB,List.map_cons,List.map_nil] at c3
   have hs:True:=trivial
   repeat' first|(with_reducible first|refine q01 ?_|refine q11 ?_|refine q14 ?_|refine q17 ?_)|(with_reducible refine At.fn_ret (by simp -dsimp [v1,v2,hA,hB,h1,h2,hK,hs];exact rfl) ?_)|(refine CallE.pure (c1) ?_;try simp -dsimp [v1,v2,hA,hB,h1,h2,hK,hs])|(refine QCall.thaw (c3) ?_ ?_ ?_;(focus (simp;done));(focus (simp;done));try simp -dsimp [v1,v2,hA,hB,h1,h2,hK,hs])|(refine DT_regionX (id:=6) (nt:=41) 4 [3] [0,1,2,3,4,5,6,7,8,13,37,38,39] [0,1,2,3,4,5,6,7,8,13] mixed rfl (by kernel_rfl) ?_;simp -dsimp [v1,v2,hA,hB,h1,h2,hK,hs])|(with_reducible refine DT_regionE [0,1,2,3,4,5,6,7,8,13] ?_;simp -dsimp [v1,v2,hA,hB,h1,h2,hK,hs])|(refine DT_cond rfl (fun h=>?_) (fun h=>?_)<;>(try simp only [nrm] at h)<;>(try exact Bool.noConfusion h))
   all_goals try simp -dsimp [v1,v2,hA,hB,h1,h2,hK,hs]
   all_goals try clear hs
def fitC (a b:Dim):Chains:={ reg:=[{ drawing:=1,letter:=1,kind:=1,items:=[⟨2,1⟩,⟨3,1⟩],dims:=[] },{ drawing:=2,letter:=1,kind:=2,items:=[],dims:=[a] },{ drawing:=3,letter:=1,kind:=2,items:=[],dims:=[b] }],lets:=[1,1,1],of:=1,loops:=[{ links:=[⟨2,0,false⟩,⟨3,0,true⟩],lo:=0,hi:=8000000000 }] }
theorem fitC_small (a b:Dim):SmallC (fitC a b):=by
 refine ⟨⟨by simp [fitC],fun x hx=>?_⟩,by simp [fitC],by simp [fitC],fun x hx=>?_⟩
 ·simp only [fitC,List.mem_cons,List.not_mem_nil,or_false] at hx
  rcases hx with rfl|rfl|rfl<;>simp
 ·simp only [fitC,List.mem_cons,List.not_mem_nil,or_false] at hx
  subst hx;simp
theorem fitC_scan {a b:Dim} (ha:dimOk a=true) (hb:dimOk b=true):scanI none (fitC a b).reg=some [1,2,3]:=by
 have h1:issueOk { drawing:=1,letter:=1,kind:=1,items:=[⟨2,1⟩,⟨3,1⟩],dims:=[] }=true:=by decide
 have h2:issueOk { drawing:=2,letter:=1,kind:=2,items:=[],dims:=[a] }=true:=(issueOk_iff _).2 ⟨by simp,by simp [itemsOk],by simpa using ha⟩
 have h3:issueOk { drawing:=3,letter:=1,kind:=2,items:=[],dims:=[b] }=true:=(issueOk_iff _).2 ⟨by simp,by simp [itemsOk],by simpa using hb⟩
 simp [fitC,scanI,h1,h2,h3]
theorem fitC_nums (a b:Dim):nums (fitC a b).reg=[1,2,3]:=by kernel_rfl
theorem fitC_depths (a b:Dim):depthsL (fitC a b).reg=[2,1,1]:=by kernel_rfl
theorem fitC_check {a b:Dim} (ha:dimOk a=true) (hb:dimOk b=true):checkR (fitC a b).reg=0:=by
 have hL:listedI (fitC a b).reg=true:=by
  simp only [listedI,Bool.and_eq_true,decide_eq_true_eq]
  rw [fitC_scan ha hb,fitC_nums]
  simp [fitC]
 rw [checkR,if_neg (by simp [hL]),fitC_depths];decide
theorem fitC_lets (a b:Dim):lettersI (fitC a b).reg (fitC a b).lets=true:=by kernel_rfl
theorem fitC_loops (a b:Dim):(fitC a b).loops.all (loopOkR (fitC a b))=true:=by kernel_rfl
theorem fitC_ok {a b:Dim} (ha:dimOk a=true) (hb:dimOk b=true):chainsE (fitC a b)=0:=by
 rw [chainsE_zero (fitC_check ha hb),if_pos]
 exact ⟨fitC_lets a b,by rw [fitC_nums];show (1:Int)∈[1,2,3];simp,by simp [fitC],fitC_loops a b⟩
theorem fitC_sizes (a b:Dim):sizesI (fitC a b) ⟨[⟨2,0,false⟩,⟨3,0,true⟩],0,8000000000⟩=[a,b]:=by kernel_rfl
theorem fitC_reach {a b:Dim} (ha:dimOk a=true) (hb:dimOk b=true):loopsE (fitC a b) 0=0∧rLo (fitC a b) 0=a.lower - b.upper∧rHi (fitC a b) 0=a.upper - b.lower∧closesK (fitC a b) 0=if 0≤a.lower - b.upper then 2 else if a.upper - b.lower < 0 then 0 else 1:=by
 have hE:loopsE (fitC a b) 0=0:=by rw [loopsE,if_neg (by simp [fitC_ok ha hb]),if_pos (by simp [fitC])]
 have hl:(fitC a b).loops[(0:Int).toNat]?=some ⟨[⟨2,0,false⟩,⟨3,0,true⟩],0,8000000000⟩:=rfl
 have e1:rLo (fitC a b) 0=a.lower - b.upper:=by
  rw [rLo,if_pos hE,loI,hl]
  simp only [fitC_sizes]
  simp [endS,endN,sgn];omega
 have e2:rHi (fitC a b) 0=a.upper - b.lower:=by
  rw [rHi,if_pos hE,hiI,hl]
  simp only [fitC_sizes]
  simp [endS,endN,sgn];omega
 refine ⟨hE,e1,e2,?_⟩
 rw [closesK,if_pos hE,clK,hl]
 simp only [e1,e2]
 rw [dimOk_iff] at ha hb
 by_cases h:0≤a.lower - b.upper
 ·rw [if_pos h,if_pos ⟨h,by omega⟩]
 ·rw [if_neg h,if_neg (by omega)]
  by_cases h2:a.upper - b.lower < 0
  ·rw [if_pos (.inl h2),if_pos h2]
  ·rw [if_neg (by omega),if_neg h2]
end Go.Proofs
namespace Go.Proofs
open Go Go.Ab
set_option linter.unusedSimpArgs false
variable {G:Nat→Option (List IC)}
attribute [simp] permL reO cutL cutE gones noLoop nilV nilX ZK
set_option maxHeartbeats 8000000 in
set_option maxRecDepth 10000 in
theorem chainFit_c (a b:Dim) (u1 u2 u3:IC) (hG:sheetG G) (hC:chainG G) (hU:unitG G u1 u2 u3) (hSF:SortFOk G) (hSG:SortGOk G) (objs:List DObj):DCall Tryz.prog G 13 [dimv a,dimv b] objs (fun rr objs'=>rr=bv true∧objs'=objs):=by
 refine DCall.frame ?_ (by simp) (by simp) objs
 refine DCall_intro Tryz.func13 rfl Tryz.ntmps13 (by simp) rfl ?_
 try simp only [dimv,dimv]
 have c1:=alive_c (G:=G) u1 u2 u3 hG hC hU hSF hSG
 have c2:=dim_c (G:=G) a
 have c3:=dim_c (G:=G) b
 simp only [dimv,encDim,rI,List.map_cons,List.map_nil] at c2 c3
 cases ha:dimOk a<;>cases hb:dimOk b<;>rw [ha] at c2<;>rw [hb] at c3
 ·have hs:True:=trivial
  repeat' first|(with_reducible first|refine q01 ?_|refine q02 ?_|refine q11 ?_|refine q17 ?_)|(with_reducible refine At.fn_ret (by simp -dsimp [hs];exact rfl) ?_)|(refine CallE.pure (c1) ?_;try simp -dsimp [hs])|(refine CallE.pure (c2) ?_;try simp -dsimp [hs])|(with_reducible refine DT_regionE [0,1,2,3,4,5,6,7,8,9,10,11,12,13,26] ?_;simp -dsimp [hs])|(refine DT_cond rfl (fun h=>?_) (fun h=>?_)<;>(try simp only [nrm] at h)<;>(try exact Bool.noConfusion h))
  all_goals try simp -dsimp [hs]
  all_goals try clear hs
 ·have hs:True:=trivial
  repeat' first|(with_reducible first|refine q01 ?_|refine q02 ?_|refine q11 ?_|refine q17 ?_)|(with_reducible refine At.fn_ret (by simp -dsimp [hs];exact rfl) ?_)|(refine CallE.pure (c1) ?_;try simp -dsimp [hs])|(refine CallE.pure (c2) ?_;try simp -dsimp [hs])|(with_reducible refine DT_regionE [0,1,2,3,4,5,6,7,8,9,10,11,12,13,26] ?_;simp -dsimp [hs])|(refine DT_cond rfl (fun h=>?_) (fun h=>?_)<;>(try simp only [nrm] at h)<;>(try exact Bool.noConfusion h))
  all_goals try simp -dsimp [hs]
  all_goals try clear hs
 ·have hs:True:=trivial
  repeat' first|(with_reducible first|refine q01 ?_|refine q02 ?_|refine q11 ?_|refine q17 ?_)|(with_reducible refine At.fn_ret (by simp -dsimp [hs];exact rfl) ?_)|(refine CallE.pure (c1) ?_;try simp -dsimp [hs])|(refine CallE.pure (c2) ?_;try simp -dsimp [hs])|(refine CallE.pure (c3) ?_;try simp -dsimp [hs])|(with_reducible refine DT_regionE [0,1,2,3,4,5,6,7,8,9,10,11,12,13,26] ?_;simp -dsimp [hs])|(refine DT_cond rfl (fun h=>?_) (fun h=>?_)<;>(try simp only [nrm] at h)<;>(try exact Bool.noConfusion h))
  all_goals try simp -dsimp [hs]
  all_goals try clear hs
 ·have hsm:=fitC_small a b
  have h0:=fitC_ok ha hb
  obtain ⟨r1,r2,r3,r4⟩:=fitC_reach ha hb
  have c4:=part_c (G:=G) 2 2 a
  have c5:=part_c (G:=G) 3 2 b
  have c6:=pReach_c (G:=G) (fitC a b) 0 hG hC hsm okC
  have c7:=pCloses_c (G:=G) (fitC a b) 0 hG hC hsm okC
  have c8:=fit_c (G:=G) a b ha hb
  rw [r1,r2,r3] at c6
  rw [r1,r4] at c7
  have hX:chv (fitC a b)=.agg [.im (.sl [[.raw (.int .i64 1),.raw (.int .i64 1),.raw (.int .u8 1),.sl [[.raw (.int .i64 2),.raw (.int .i64 1)],[.raw (.int .i64 3),.raw (.int .i64 1)]],.sl []],[.raw (.int .i64 2),.raw (.int .i64 1),.raw (.int .u8 2),.sl [],.sl [[.raw (.int .i64 a.nominal),.raw (.int .i64 a.lower),.raw (.int .i64 a.upper)]]],[.raw (.int .i64 3),.raw (.int .i64 1),.raw (.int .u8 2),.sl [],.sl [[.raw (.int .i64 b.nominal),.raw (.int .i64 b.lower),.raw (.int .i64 b.upper)]]]]),.im (.sl [[.raw (.int .i64 1)],[.raw (.int .i64 1)],[.raw (.int .i64 1)]]),.im (.raw (.int .i64 1)),.im (.sl [[.sl [[.raw (.int .i64 2),.raw (.int .i64 0),.raw (.bool false)],[.raw (.int .i64 3),.raw (.int .i64 0),.raw (.bool true)]],.raw (.int .i64 0),.raw (.int .i64 8000000000)]])]:=rfl
  rw [hX] at c6 c7
  simp only [dimv,encDim,issv,encIssue,refv,u8v,rI,List.map_cons,List.map_nil] at c4 c5 c6 c7 c8
  have hKK:fitK a b=if 0≤a.lower - b.upper then 1 else if a.upper - b.lower≤0 then 2 else 3:=rfl
  rw [dimOk_iff] at ha hb
  generalize hA:a.lower - b.upper=A at *
  generalize hB:a.upper - b.lower=B at *
  have hAB:A≤B:=by omega
  have hfin:(0≤A∧fitK a b=1∧(if 0≤A then (2:Int) else if B < 0 then 0 else 1)=2∧(B < 0)=False)∨(¬ 0≤A∧fitK a b=2∧(if 0≤A then (2:Int) else if B < 0 then 0 else 1)=0∧(B < 0)=True)∨(¬ 0≤A∧fitK a b=2∧(if 0≤A then (2:Int) else if B < 0 then 0 else 1)=1∧(B < 0)=False)∨(¬ 0≤A∧fitK a b=3∧(if 0≤A then (2:Int) else if B < 0 then 0 else 1)=1∧(B < 0)=False):=by
   rw [hKK]
   by_cases h1:0≤A
   ·exact .inl ⟨h1,by rw [if_pos h1],by rw [if_pos h1],eq_false (by omega)⟩
   ·rw [if_neg h1,if_neg h1]
    by_cases h2:B < 0
    ·exact .inr (.inl ⟨h1,by rw [if_pos (by omega)],by rw [if_pos h2],eq_true h2⟩)
    ·by_cases h3:B≤0
     ·exact .inr (.inr (.inl ⟨h1,by rw [if_pos h3],by rw [if_neg h2],eq_false h2⟩))
     ·exact .inr (.inr (.inr ⟨h1,by rw [if_neg h3],by rw [if_neg h2],eq_false h2⟩))
  generalize fitK a b=K1 at *
  generalize (if 0≤A then (2:Int) else if B < 0 then 0 else 1)=K2 at *
  clear hKK
  have hs:True:=trivial
  rcases hfin with ⟨f1,f2,f3,f4⟩|⟨f1,f2,f3,f4⟩|⟨f1,f2,f3,f4⟩|⟨f1,f2,f3,f4⟩
  have hs:True:=trivial
  repeat' first|(with_reducible first|refine q01 ?_|refine q11 ?_|refine q14 ?_|refine q17 ?_)|(with_reducible refine At.fn_ret (by simp -dsimp [f1,f2,f3,f4,hs];exact rfl) ?_)|(refine CallE.pure (c1) ?_;try simp -dsimp [f1,f2,f3,f4,hs])|(refine CallE.pure (c2) ?_;try simp -dsimp [f1,f2,f3,f4,hs])|(refine CallE.pure (c3) ?_;try simp -dsimp [f1,f2,f3,f4,hs])|(refine QCall_pure (c4) ?_;try simp -dsimp [f1,f2,f3,f4,hs])|(refine QCall_pure (c5) ?_;try simp -dsimp [f1,f2,f3,f4,hs])|(refine CallE.pure (c6) ?_;try simp -dsimp [f1,f2,f3,f4,hs])|(refine CallE.pure (c7) ?_;try simp -dsimp [f1,f2,f3,f4,hs])|(refine CallE.pure (c8) ?_;try simp -dsimp [f1,f2,f3,f4,hs])|(refine DT_regionX (id:=4) (nt:=96) 19 [] [0,1,2,3,4,5,6,7,8,9,10,11,12,13,26,28,29,30,31,32,33,34,35,36,37,38,39,40,41,42,43,44,45] [0,1,2,3,4,5,6,7,8,9,10,11,12,13,26] mixed rfl (by kernel_rfl) ?_;simp -dsimp [f1,f2,f3,f4,hs])|(with_reducible refine DT_regionE [0,1,2,3,4,5,6,7,8,9,10,11,12,13,26] ?_;simp -dsimp [f1,f2,f3,f4,hs])|(refine DT_cond rfl (fun h=>?_) (fun h=>?_)<;>(try simp only [nrm] at h)<;>(try exact Bool.noConfusion h))
  all_goals try simp -dsimp [f1,f2,f3,f4,hs]
  all_goals try clear hs
end Go.Proofs
