/- Part 30 of the proofs: laws and walks that hold without conditions beyond those that each theorem names. -/
import Derived.Test.YtciiddejfhbncaaGreatDoorA26
import Derived.Test.YtciiddejfhbncaaGreatDoorA27
import Derived.Test.YtciiddejfhbncaaGreatDoorA28
set_option linter.all false
set_option linter.deprecated false
namespace Go.Proofs
open Go Go.Ab
def pre (p:Option Issue) (x:Issue):List Int:=match p with|some y=>if y.drawing=x.drawing then [] else [x.drawing]|none=>[x.drawing]
def good (p:Option Issue) (x:Issue):Prop:=issueOk x=true∧match p with|some y=>y.drawing=x.drawing∧y.letter + 1=x.letter∧y.kind=x.kind∨y.drawing < x.drawing∧x.letter=1|none=>x.letter=1
def dd:List Issue→List Int
 | []=>[]
 | [x]=>[x.drawing]
 | x :: y :: r=>if x.drawing=y.drawing then dd (y :: r) else x.drawing :: dd (y :: r)
end Go.Proofs
namespace Go.Proofs
open Go Go.Ab
def newT (c:Chains) (f:Issue→List Dim×Int) (n:Int):Issue:=if (f (takeI c.reg c.lets n)).1=(takeI c.reg c.lets n).dims then takeI c.reg c.lets n else newI c.reg (takeI c.reg c.lets n) n (f (takeI c.reg c.lets n)).1
structure Changed (c:Chains) (f:Issue→List Dim×Int):Prop where
 reg:checkR (changedC c f).reg=0
 nums:nums (changedC c f).reg=nums c.reg
 mem:∀ x,x∈(changedC c f).reg↔x∈c.reg∨∃ n∈Go.Proofs.nums c.reg,(f (takeI c.reg c.lets n)).1≠(takeI c.reg c.lets n).dims∧x=newI c.reg (takeI c.reg c.lets n) n (f (takeI c.reg c.lets n)).1
 len:(changedC c f).reg.length=c.reg.length + ((Go.Proofs.nums c.reg).filter fun n=>decide ((f (takeI c.reg c.lets n)).1≠(takeI c.reg c.lets n).dims)).length
 letl:(changedC c f).lets.length=c.lets.length
 letAt:∀ (k:Nat) (n:Int),(Go.Proofs.nums c.reg)[k]?=some n→(changedC c f).lets[k]?=if (f (takeI c.reg c.lets n)).1=(takeI c.reg c.lets n).dims then c.lets[k]? else some ((cntN c.reg n:Int) + 1)
 lets:lettersI (changedC c f).reg (changedC c f).lets=true
 take:∀ n∈Go.Proofs.nums c.reg,takeI (changedC c f).reg (changedC c f).lets n=newT c f n
 err:∀ n∈Go.Proofs.nums c.reg,(f (takeI c.reg c.lets n)).2=0
 chE:chainsE (changedC c f)=0
 ok:OkC (changedC c f)
 small:SmallC (changedC c f)
 smallG:SmallG (changedC c f)
end Go.Proofs
namespace Go.Proofs
open Go Go.Ab
end Go.Proofs
namespace Go.Proofs
open Go Go.Ab
end Go.Proofs
namespace Go.Proofs
open Go Go.Ab
structure ProofOf (c:Chains) (L:Nat) (x:ChLoop) (S:List Int):Prop where
 at':c.loops[L]?=some x
 len:S.length=x.links.length
 within:∀ (k:Nat) (y:Link) (n:Int),x.links[k]?=some y→S[k]?=some n→(dimAt c y).lower≤n∧n≤(dimAt c y).upper
 near:∀ (k:Nat) (y:Link) (n:Int),x.links[k]?=some y→S[k]?=some n→spotOf y∈allSpots c→n - midD (dimAt c y)≤gradeN c + 1∧midD (dimAt c y) - n≤gradeN c + 1
 out:sumZ x.links S < x.lo∨x.hi < sumZ x.links S
end Go.Proofs
namespace Go.Ab
open Go
end Go.Ab
namespace Go.Proofs
open Go Go.Ab
end Go.Proofs
namespace Go.Ab
open Go
end Go.Ab
namespace Go.Proofs
open Go Go.Ab
end Go.Proofs
namespace Go.Proofs
open Go Go.Ab
structure Wider (c Y:Chains) (k:Nat) (x:ChLoop) (a b:Int):Prop where
 chE:chainsE Y=0
 small:SmallC Y
 closes:∀ so g,allT c so g=true→allT Y so g=true
 spots:allSpots Y=allSpots c
 loose:looseR Y=looseR c
 lo:loopsE Y (k:Int)=0∧rLo Y k=rLo c k∧rHi Y k=rHi c k∧closesK Y k=if a≤rLo c k∧rHi c k≤b then 2 else if rHi c k < a∨b < rLo c k then 0 else 1
end Go.Proofs
namespace Go.Proofs
open Go Go.Ab
set_option linter.unusedSimpArgs false
variable {G:Nat→Option (List IC)}
attribute [simp] permL reO cutL cutE gones noLoop nilV nilX ZK
def pickS (by':List Int) (at':Nat) (d:Dim):Int:=d.lower + chooseU by' at' % (d.upper - d.lower + 1)
def pickL (by':List Int) (k:Nat) (ds:List Dim):List Int:=ds.mapIdx fun i d=>pickS by' (8 * k + i) d
theorem pickL_len (b:List Int) (k:Nat) (ds:List Dim):(pickL b k ds).length=ds.length:=by simp [pickL]
theorem pickL_get (b:List Int) (k:Nat) (ds:List Dim) {i:Nat} {d:Dim} (h:ds[i]?=some d):(pickL b k ds)[i]?=some (pickS b (8 * k + i) d):=by
 simp [pickL,h]
theorem pickS_in (b:List Int) (i:Nat) {d:Dim} (h:d.lower≤d.upper):d.lower≤pickS b i d∧pickS b i d≤d.upper:=by
 have h1:0≤chooseU b i % (d.upper - d.lower + 1):=Int.emod_nonneg _ (by omega)
 have h2:chooseU b i % (d.upper - d.lower + 1) < d.upper - d.lower + 1:=Int.emod_lt_of_pos _ (by omega)
 unfold pickS;omega
theorem chooseU_in {b:List Int} (hu:∀ n∈b,0≤n∧n≤4294967295) (i:Nat):0≤chooseU b i∧chooseU b i≤4294967295:=by
 unfold chooseU
 split
 ·omega
 ·rename_i h
  rw [List.getElem?_eq_getElem (Nat.mod_lt _ (by omega))]
  exact hu _ (List.getElem_mem _)
set_option maxHeartbeats 8000000 in
set_option maxRecDepth 10000 in
theorem chainTrue_c (c:Chains) (b:List Int) (u1 u2 u3:IC) (hG:sheetG G) (hC:chainG G) (hU:unitG G u1 u2 u3) (hSF:SortFOk G) (hSG:SortGOk G) (hk:KindOk c.reg) (hu:∀ n∈b,0≤n∧n≤4294967295) (objs:List DObj):DCall Tryz.prog G 4 [chv c,.one (.im (.sl (b.map encU)))] objs (fun rr objs'=>rr=bv true∧objs'=objs):=by
 refine DCall.frame ?_ (by simp) (by simp) objs
 refine DCall_intro Tryz.func4 rfl Tryz.ntmps4 (by simp) rfl ?_
 try simp only [chv]
 have c1:=alive_c (G:=G) u1 u2 u3 hG hC hU hSF hSG
 have c2:=ready6_c (G:=G) c hk
 cases hq:readyC c
 ·rw [hq] at c2
  have hs:True:=trivial
  repeat' first|(with_reducible first|refine q01 ?_|refine q02 ?_|refine q11 ?_|refine q17 ?_)|(with_reducible refine At.fn_ret (by simp -dsimp [hs];exact rfl) ?_)|(refine CallE.pure (c1) ?_;try simp -dsimp [hs])|(refine CallE.pure (c2) ?_;try simp -dsimp [hs])|(with_reducible refine DT_regionE [0,1,2,4,5,6,7,8,9,10,11,12,13,14,15,16,17,18,19,20,21,22,30,33,34,35,36,107,109,110,111,112,202] ?_;simp -dsimp [hs])|(refine DT_cond rfl (fun h=>?_) (fun h=>?_)<;>(try simp only [nrm] at h)<;>(try exact Bool.noConfusion h))
  all_goals try simp -dsimp [hs]
  all_goals try clear hs
 ·rw [hq] at c2
  have hq':=hq
  simp only [readyC,Bool.and_eq_true,decide_eq_true_eq] at hq'
  obtain ⟨hq1,hq2⟩:=hq'
  have hg:=smallB_iff.1 hq1
  have hsm:SmallC c:=⟨⟨hg.1.1,fun x hx=>⟨(hk x hx).1,(hk x hx).2,(hg.1.2 x hx).1,(hg.1.2 x hx).2⟩⟩,hg.2⟩
  have hOk:=okC hq2
  have hs:True:=trivial
  repeat' first|(with_reducible first|refine q01 ?_|refine q11 ?_|refine q12 ?_|refine q14 ?_)|(refine CallE.pure (c1) ?_;try simp -dsimp [hs])|(refine CallE.pure (c2) ?_;try simp -dsimp [hs])|(with_reducible refine DT_regionE [0,1,2,4,5,6,7,8,9,10,11,12,13,14,15,16,17,18,19,20,21,22,30,33,34,35,36,107,109,110,111,112,202] ?_;simp -dsimp [hs])|(refine DT_cond rfl (fun h=>?_) (fun h=>?_)<;>(try simp only [nrm] at h)<;>(try exact Bool.noConfusion h))
  all_goals try simp -dsimp [hs]
  all_goals try clear hs
  refine DT_loop (ι:={ k:Nat // k≤c.loops.length }) (fun k=>⟨205,[(1,.one (.im (.sl (b.map encU)))),(2,.one (.ptr 0 0)),(5,bv true),(33,.one (.im (.sl (c.loops.map encLoop)))),(34,iv (c.loops.length:Int)),(35,iv (k.1:Int))],[.row [.im (.sl (c.reg.map encIssue)),.im (.sl (c.lets.map Ab.encI)),.im (rI c.of),.im (.sl (c.loops.map encLoop))]]⟩) (fun k=>c.loops.length - k.1) ⟨0,by omega⟩ (Weak.of_keep [1,2,5,33,34,35] (by simp)) ?_
  rintro ⟨k,hkl⟩
  simp only [iv,rI,bv]
  by_cases hlt:k < c.loops.length
  ·have hl6:=hOk.num
   have hw:IntKind.i64.wrap ((k:Int) + 1)=((k + 1:Nat):Int):=i64w (by omega) (by omega)
   obtain ⟨x,hx⟩:∃ x,c.loops[k]?=some x:=⟨c.loops[k],by simp [hlt]⟩
   have hxe:∀ h,c.loops[k]'h=x:=fun h=>by rw [List.getElem?_eq_getElem h] at hx;exact Option.some.inj hx
   have hxm:x∈c.loops:=List.mem_of_getElem? hx
   have hl8:=(hOk.gap x hxm).1
   have hlE:loopsE c (k:Int)=0:=by rw [loopsE,if_neg (by simp [hq2]),if_pos ⟨by omega,by omega⟩]
   have hLo:rLo c (k:Int)=endS x.links (sizesI c x) false:=by rw [rLo,if_pos hlE,loI];simp [hx]
   have hHi:rHi c (k:Int)=endS x.links (sizesI c x) true:=by rw [rHi,if_pos hlE,hiI];simp [hx]
   have hcl:closesK c (k:Int)=if x.lo≤rLo c k∧rHi c k≤x.hi then 2 else if rHi c k < x.lo∨x.hi < rLo c k then 0 else 1:=by rw [closesK,if_pos hlE,clK];simp [hx]
   have hlp:lpAt c (k:Int)=x:=by simp [lpAt,hx]
   have hwf:worstR c (k:Int) false=endsL x.links (sizesI c x) false:=by rw [worstR,if_pos hlE,hlp]
   have hwt:worstR c (k:Int) true=endsL x.links (sizesI c x) true:=by rw [worstR,if_pos hlE,hlp]
   have c3:=pReach_c (G:=G) c k hG hC hsm okC
   have c4:=pCloses_c (G:=G) c k hG hC hsm okC
   have c5:=pWorst_c (G:=G) c k false hG hC hsm
   have c6:=pWorst_c (G:=G) c k true hG hC hsm
   rw [hlE] at c3 c4 c5 c6
   rw [hwf] at c5
   rw [hwt] at c6
   rw [hcl] at c4
   have hdsl:(sizesI c x).length=x.links.length:=by simp [sizesI]
   have hlen1:=endsL_len x.links (sizesI c x) false hdsl
   have hlen2:=endsL_len x.links (sizesI c x) true hdsl
   have hdok:∀ (i:Nat) (d:Dim),(sizesI c x)[i]?=some d→dimOk d=true:=fun i d h=>by
    simp only [sizesI,List.getElem?_map,Option.map_eq_some_iff] at h
    obtain ⟨y,hy,rfl⟩:=h
    exact (dimAt_ok hOk hxm (List.mem_of_getElem? hy)).1
   have hdat:∀ (i:Nat) (y:Link),x.links[i]?=some y→(sizesI c x)[i]?=some (dimAt c y):=fun i y h=>by simp [sizesI,h]
   have hbd:∀ (i:Nat) (d:Dim),(sizesI c x)[i]?=some d→d.lower≤d.upper∧0≤d.lower∧d.upper≤1000000000:=fun i d h=>by
    have h1:=hdok i d h
    rw [dimOk_iff] at h1
    omega
   have c7:=lawWithin_c (G:=G) c x _ hOk hsm hxm hlen1 (fun i y n hy hn=>ends_in _ _ _ i _ n (hdat i y hy) (hbd i _ (hdat i y hy)).1 hn)
   have c8:=lawWithin_c (G:=G) c x _ hOk hsm hxm hlen2 (fun i y n hy hn=>ends_in _ _ _ i _ n (hdat i y hy) (hbd i _ (hdat i y hy)).1 hn)
   have hin:∀ s:List Int,s.length=x.links.length→(∀ (i:Nat) (d:Dim) (n:Int),(sizesI c x)[i]?=some d→s[i]?=some n→d.lower≤n∧n≤d.upper)→∀ n∈s,-2000000000≤n∧n≤2000000000:=fun s hs h n hn=>by
    obtain ⟨i,hi⟩:=List.mem_iff_getElem?.1 hn
    have hil:=(List.getElem?_eq_some_iff.1 hi).1
    have hd:(sizesI c x)[i]?=some ((sizesI c x)[i]'(by omega)):=List.getElem?_eq_getElem _
    have h1:=h i _ n hd hi
    have h2:=hbd i _ hd
    omega
   have c9:=sum6_c (G:=G) x _ (by omega) hlen1 (hin _ hlen1 fun i d n hd hn=>ends_in _ _ _ i d n hd (hbd i d hd).1 hn)
   have c10:=sum6_c (G:=G) x _ (by omega) hlen2 (hin _ hlen2 fun i d n hd hn=>ends_in _ _ _ i d n hd (hbd i d hd).1 hn)
   rw [sumTo_all _ _ hlen1,← endS_sum,← hLo] at c9
   rw [sumTo_all _ _ hlen2,← endS_sum,← hHi] at c10
   generalize endsL x.links (sizesI c x) false=A1 at *
   generalize endsL x.links (sizesI c x) true=A2 at *
   simp only [refv,encLoop,rI,List.map_cons,List.map_nil] at c3 c7 c8 c9 c10
   have hs:True:=trivial
   repeat' first|(with_reducible first|refine q01 ?_|refine q11 ?_|refine q12 ?_|refine q14 ?_)|(refine CallE.pure (c3) ?_;try simp -dsimp [hlt,hx,hxe,hw,hs])|(refine CallE.pure (c4) ?_;try simp -dsimp [hlt,hx,hxe,hw,hs])|(refine CallE.pure (c5) ?_;try simp -dsimp [hlt,hx,hxe,hw,hs])|(refine CallE.pure (c6) ?_;try simp -dsimp [hlt,hx,hxe,hw,hs])|(refine QCall_pure (c7) ?_;try simp -dsimp [hlt,hx,hxe,hw,hs])|(refine QCall_pure (c8) ?_;try simp -dsimp [hlt,hx,hxe,hw,hs])|(refine QCall_pure (c9) ?_;try simp -dsimp [hlt,hx,hxe,hw,hs])|(refine QCall_pure (c10) ?_;try simp -dsimp [hlt,hx,hxe,hw,hs])|(refine DT_regionM (id:=11) (nt:=205) 44 [0,1,2,4,5,6,7,8,9,10,11,12,13,14,15,16,17,18,19,20,21,22,30,33,34,35,36,107,109,110,111,112,202] mixed rfl (by kernel_rfl) ?_;simp -dsimp [hlt,hx,hxe,hw,hs])|(with_reducible refine DT_regionE [0,1,2,4,5,6,7,8,9,10,11,12,13,14,15,16,17,18,19,20,21,22,30,33,34,35,36,107,109,110,111,112,202] ?_;simp -dsimp [hlt,hx,hxe,hw,hs])|(refine DT_cond rfl (fun h=>?_) (fun h=>?_)<;>(try simp only [nrm] at h)<;>(try exact Bool.noConfusion h))
   all_goals try simp -dsimp [hlt,hx,hxe,hw,hs]
   all_goals try clear hs
   have hTl:=pickL_len b k (sizesI c x)
   have hTg:=fun (i:Nat) (d:Dim) (h:(sizesI c x)[i]?=some d)=>pickL_get b k (sizesI c x) h
   have hTin:∀ (i:Nat) (d:Dim) (n:Int),(sizesI c x)[i]?=some d→(pickL b k (sizesI c x))[i]?=some n→d.lower≤n∧n≤d.upper:=fun i d n hd hn=>by
    rw [hTg i d hd] at hn
    cases hn
    exact pickS_in b _ (hbd i d hd).1
   have hTs:=hin _ (hTl.trans hdsl) hTin
   have hbt:=sum_between x.links (sizesI c x) _ hdsl (hTl.trans hdsl) hTin
   rw [← hLo,← hHi] at hbt
   have c11:=sum6_c (G:=G) x _ (by omega) (hTl.trans hdsl) hTs
   rw [sumTo_all _ _ (hTl.trans hdsl)] at c11
   simp only [encLoop,rI,List.map_cons,List.map_nil] at c11
   generalize pickL b k (sizesI c x)=T at *
   generalize rLo c (k:Int)=Lo at *
   generalize rHi c (k:Int)=Hi at *
   generalize sumZ x.links T=N at *
   have hTxl:T.length=x.links.length:=hTl.trans hdsl
   refine DT_loop (ι:={ p:Nat×Nat×Bool // p.1≤x.links.length }) (fun p=>⟨205,[(1,.one (.im (.sl (b.map encU)))),(2,.one (.ptr 0 0)),(5,bv true),(6,iv (k:Int)),(7,.one (.ptr 2 0)),(8,.one (.ptr 3 0)),(10,u8v (if x.lo≤Lo∧Hi≤x.hi then 2 else if Hi < x.lo∨x.hi < Lo then 0 else 1)),(16,.one (.vec 4 p.1.2.1 0 p.1.1)),(33,.one (.im (.sl (c.loops.map encLoop)))),(34,iv (c.loops.length:Int)),(35,iv (k:Int)),(109,.one (.im (.sl (x.links.map encLink)))),(110,iv (x.links.length:Int)),(111,iv (p.1.1:Int))],
    [.row [.im (.sl (c.reg.map encIssue)),.im (.sl (c.lets.map Ab.encI)),.im (rI c.of),.im (.sl (c.loops.map encLoop))],.vec 0 [] 0 true,.row [.im (.sl (x.links.map encLink)),.im (rI x.lo),.im (rI x.hi)],.row [.im (rI Lo),.im (rI Hi)],.vec 1 (ims ((T.take p.1.1).map Ab.encI)) p.1.2.1 p.1.2.2]⟩) (fun p=>x.links.length - p.1.1) ⟨(0,0,true),by simp⟩ (Weak.of_keep [1,2,5,6,7,8,10,16,33,34,35,109,110,111] (by simp)) ?_
   rintro ⟨⟨i,gn,nl⟩,hi⟩
   simp only at hi
   simp only [iv,rI,bv,u8v]
   generalize hK:(if x.lo≤Lo∧Hi≤x.hi then (2:Int) else if Hi < x.lo∨x.hi < Lo then 0 else 1)=K at *
   by_cases hlti:i < x.links.length
   ·have hwi:IntKind.i64.wrap ((i:Int) + 1)=((i + 1:Nat):Int):=i64w (by omega) (by omega)
    obtain ⟨y,hy⟩:∃ y,x.links[i]?=some y:=⟨x.links[i],by simp [hlti]⟩
    have hye:∀ h,x.links[i]'h=y:=fun h=>by rw [List.getElem?_eq_getElem h] at hy;exact Option.some.inj hy
    have hym:=List.mem_of_getElem? hy
    have hd:=dimAt_ok hOk hxm hym
    have hlk:=hOk.link x hxm y hym
    have hlt2:=hOk.lets
    simp only [lettersI,Bool.and_eq_true,decide_eq_true_eq] at hlt2
    have c12:=sizeOf_c (G:=G) c y (dimAt c y) (by have:=hsm.1.1;omega) hlk.1 hlt2.1 hlk.2.1 hd.2
    simp only [linkv,encLink,rI,List.map_cons,List.map_nil] at c12
    have hTi:=hTg i _ (hdat i y hy)
    have hb3:=hbd i _ (hdat i y hy)
    have c13:=choose6_c (G:=G) b (8 * k + i) (by omega) hu
    have hch:=chooseU_in hu (8 * k + i)
    have hiT:i < T.length:=by omega
    have htk:T.take (i + 1)=T.take i ++ [pickS b (8 * k + i) (dimAt c y)]:=by
     rw [List.take_succ_eq_append_getElem hiT]
     congr 2
     rw [List.getElem?_eq_getElem hiT] at hTi
     exact Option.some.inj hTi
    have hpi:=pickS_in b (8 * k + i) hb3.1
    rw [pickS] at htk hpi
    generalize dimAt c y=d at *
    generalize chooseU b (8 * k + i)=q at *
    have hcast:((8 * k + i:Nat):Int)=8 * (k:Int) + (i:Int):=by omega
    rw [hcast] at c13
    have v1:IntKind.i64.wrap (8 * (k:Int))=8 * (k:Int):=i64w (by omega) (by omega)
    have v2:IntKind.i64.wrap (8 * (k:Int) + (i:Int))=8 * (k:Int) + (i:Int):=i64w (by omega) (by omega)
    have v3:IntKind.i64.wrap (d.upper - d.lower)=d.upper - d.lower:=i64w (by omega) (by omega)
    have v4:IntKind.i64.wrap (d.upper - d.lower + 1)=d.upper - d.lower + 1:=i64w (by omega) (by omega)
    have hm:q.tmod (d.upper - d.lower + 1)=q % (d.upper - d.lower + 1):=Int.tmod_eq_emod_of_nonneg hch.1
    have hz:¬ d.upper - d.lower + 1=0:=by omega
    generalize q % (d.upper - d.lower + 1)=m at *
    have v5:IntKind.i64.wrap m=m:=i64w (by omega) (by omega)
    have v6:IntKind.i64.wrap (d.lower + m)=d.lower + m:=i64w (by omega) (by omega)
    have hmin:min i T.length=i:=by omega
    have htk2:(ims ((T.map Ab.encI).take i)).take i=ims ((T.map Ab.encI).take i):=List.take_of_length_le (by simp [ims_length];omega)
    have hcp1:(i + 1) * 8≤140737488355328:=by omega
    have hcp2:i≤9223372036854775806:=by omega
    have happ:ims ((T.map Ab.encI).take i) ++ [[DC.im (.raw (.int .i64 (d.lower + m)))]]=ims ((T.map Ab.encI).take i ++ [[.raw (.int .i64 (d.lower + m))]]):=by simp [ims]
    have htm:(T.map Ab.encI).take (i + 1)=(T.map Ab.encI).take i ++ [[.raw (.int .i64 (d.lower + m))]]:=by
     rw [← List.map_take,htk,List.map_append,List.map_take];rfl
    have happ2:ims ((T.map Ab.encI).take i) ++ [[DC.im (.raw (.int .i64 (d.lower + m)))]]=ims ((T.map Ab.encI).take (i + 1)):=by rw [htm,happ]
    clear htm happ
    have hs:True:=trivial
    repeat' first|(with_reducible first|refine q01 ?_|refine q04 ?_|refine q11 ?_|refine q12 ?_|refine q14 ?_)|(refine CallE.pure (c12) ?_;try simp -dsimp [hmin,htk2,hcp1,hcp2,hlti,hy,hye,hwi,v1,v2,v3,v4,v5,v6,hm,hz,hs])|(refine QCall_pure (c13) ?_;try simp -dsimp [hmin,htk2,hcp1,hcp2,hlti,hy,hye,hwi,v1,v2,v3,v4,v5,v6,hm,hz,hs])|(refine DT_regionM (id:=18) (nt:=205) 18 [0,1,2,4,5,6,7,8,9,10,11,12,13,14,15,16,17,18,19,20,21,22,30,33,34,35,36,107,109,110,111,112,202] mixed rfl (by kernel_rfl) ?_;simp -dsimp [hmin,htk2,hcp1,hcp2,hlti,hy,hye,hwi,v1,v2,v3,v4,v5,v6,hm,hz,hs])|(with_reducible refine DT_regionE [0,1,2,4,5,6,7,8,9,10,11,12,13,14,15,16,17,18,19,20,21,22,30,33,34,35,36,107,109,110,111,112,202] ?_;simp -dsimp [hmin,htk2,hcp1,hcp2,hlti,hy,hye,hwi,v1,v2,v3,v4,v5,v6,hm,hz,hs])|(refine DT_cond rfl (fun h=>?_) (fun h=>?_)<;>(try simp only [nrm] at h)<;>(try exact Bool.noConfusion h))
    all_goals try simp -dsimp [hmin,htk2,hcp1,hcp2,hlti,hy,hye,hwi,v1,v2,v3,v4,v5,v6,hm,hz,hs]
    all_goals try clear hs
    all_goals exact At.round ⟨(i + 1,gn + 1,false),by omega⟩ (by simp;omega) (Weak.of_drop [1,2,5,6,7,8,10,16,33,34,35,109,110,111] 5 (by simp) (by simp) (by simp [happ2]))
   ·obtain rfl:i=x.links.length:=by omega
    simp only [← hTxl,List.take_length]
    have hs:True:=trivial
    repeat' first|(with_reducible first|refine q01 ?_|refine q02 ?_|refine q03 ?_|refine q04 ?_|refine q05 ?_|refine q06 ?_|refine q11 ?_|refine q14 ?_|refine q16 ?_|refine q17 ?_)|(with_reducible refine At.fn_ret (by simp -dsimp [hlti,hs];exact rfl) ?_)|(refine CallE.thaw (c11) ?_ ?_ ?_;(focus (simp;done));(focus (simp;done));try simp -dsimp [hlti,hs])|(with_reducible refine DT_regionE [0,1,2,4,5,6,7,8,9,10,11,12,13,14,15,16,17,18,19,20,21,22,30,33,34,35,36,107,109,110,111,112,202] ?_;simp -dsimp [hlti,hs])|(refine DT_cond rfl (fun h=>?_) (fun h=>?_)<;>(try simp only [nrm] at h)<;>(try exact Bool.noConfusion h))|(with_reducible refine GStop_split ?_ ?_<;>intro h<;>have h0:=h<;>(try simp only [nrm] at h)<;>(try exact Bool.noConfusion h)<;>have h2:=h<;>(try simp at h2)<;>(replace hs:=And.intro h0 (And.intro h (And.intro h2 hs)))<;>simp -dsimp [h0,h,h2,hlti,hs])
    all_goals try simp -dsimp [hlti,hs]
    all_goals try clear hs
    all_goals first
     | exact At.round ⟨k + 1,by omega⟩ (by simp;omega) (Weak.of_drop [1,2,5,33,34,35] 1 (by simp) (by simp) (by simp [hw]))
     | (exfalso;split at hK<;>(try split at hK)<;>omega)
  ·obtain rfl:k=c.loops.length:=by omega
   have hs:True:=trivial
   repeat' first|(with_reducible first|refine q01 ?_|refine q03 ?_|refine q06 ?_|refine q11 ?_|refine q16 ?_|refine q17 ?_)|(with_reducible refine At.fn_ret (by simp -dsimp [hlt,hs];exact rfl) ?_)|(with_reducible refine DT_regionE [0,1,2,4,5,6,7,8,9,10,11,12,13,14,15,16,17,18,19,20,21,22,30,33,34,35,36,107,109,110,111,112,202] ?_;simp -dsimp [hlt,hs])|(refine DT_cond rfl (fun h=>?_) (fun h=>?_)<;>(try simp only [nrm] at h)<;>(try exact Bool.noConfusion h))
   all_goals try simp -dsimp [hlt,hs]
   all_goals try clear hs
end Go.Proofs
namespace Go.Proofs
open Go Go.Ab
set_option linter.unusedSimpArgs false
variable {G:Nat→Option (List IC)}
attribute [simp] permL reO cutL cutE gones noLoop nilV nilX ZK
structure Kd where
 is:Bool
 kind:Int
def encKd (x:Kd):List IC:=[rB x.is,.raw (.int .u8 x.kind)]
def kdv (x:Kd):DV:=.agg ((encKd x).map .im)
theorem encKd_len (x:Kd):(encKd x).length=2:=rfl
theorem kdv_im (x:Kd):ImV (kdv x):=by simp [kdv]
attribute [simp] encKd_len kdv_im
end Go.Proofs
namespace Go.Proofs
open Go Go.Ab
set_option linter.unusedSimpArgs false
variable {G:Nat→Option (List IC)}
attribute [simp] permL reO cutL cutE gones noLoop nilV nilX ZK
end Go.Proofs
namespace Go.Proofs
open Go Go.Ab
set_option linter.unusedSimpArgs false
variable {G:Nat→Option (List IC)}
attribute [simp] permL reO cutL cutE gones noLoop nilV nilX ZK
def exOdd:Chains:={ reg:=[{ drawing:=1,letter:=1,kind:=1,items:=[⟨2,2⟩,⟨3,1⟩,⟨4,1⟩],dims:=[] },{ drawing:=2,letter:=1,kind:=2,items:=[],dims:=[⟨100,98,103⟩] },{ drawing:=3,letter:=1,kind:=2,items:=[],dims:=[⟨200,199,201⟩] },{ drawing:=4,letter:=1,kind:=3,items:=[],dims:=[⟨410,405,412⟩] }],lets:=[1,1,1,1],of:=1,loops:=[{ links:=[⟨4,0,false⟩,⟨2,0,true⟩,⟨2,0,true⟩,⟨2,0,true⟩],lo:=0,hi:=20 }] }
theorem exOdd_v:chv exOdd=.agg [.im (.sl [[.raw (.int .i64 1),.raw (.int .i64 1),.raw (.int .u8 1),.sl [[.raw (.int .i64 2),.raw (.int .i64 2)],[.raw (.int .i64 3),.raw (.int .i64 1)],[.raw (.int .i64 4),.raw (.int .i64 1)]],.sl []],[.raw (.int .i64 2),.raw (.int .i64 1),.raw (.int .u8 2),.sl [],.sl [[.raw (.int .i64 100),.raw (.int .i64 98),.raw (.int .i64 103)]]],[.raw (.int .i64 3),.raw (.int .i64 1),.raw (.int .u8 2),.sl [],.sl [[.raw (.int .i64 200),.raw (.int .i64 199),.raw (.int .i64 201)]]],[.raw (.int .i64 4),.raw (.int .i64 1),.raw (.int .u8 3),.sl [],.sl [[.raw (.int .i64 410),.raw (.int .i64 405),.raw (.int .i64 412)]]]]),.im (.sl [[.raw (.int .i64 1)],[.raw (.int .i64 1)],[.raw (.int .i64 1)],[.raw (.int .i64 1)]]),.im (.raw (.int .i64 1)),.im (.sl [[.sl [[.raw (.int .i64 4),.raw (.int .i64 0),.raw (.bool false)],[.raw (.int .i64 2),.raw (.int .i64 0),.raw (.bool true)],[.raw (.int .i64 2),.raw (.int .i64 0),.raw (.bool true)],[.raw (.int .i64 2),.raw (.int .i64 0),.raw (.bool true)]],.raw (.int .i64 0),.raw (.int .i64 20)]])]:=rfl
theorem exOdd_small:SmallC exOdd:=by
 refine ⟨⟨by decide,?_⟩,by decide,by decide,?_⟩
 ·intro x hx
  simp only [exOdd,List.mem_cons,List.not_mem_nil,or_false] at hx
  rcases hx with rfl|rfl|rfl|rfl<;>decide
 ·intro x hx
  simp only [exOdd,List.mem_cons,List.not_mem_nil,or_false] at hx
  subst hx;decide
def exWide:Chains:={ reg:=[{ drawing:=1,letter:=1,kind:=1,items:=[⟨2,2⟩,⟨3,1⟩,⟨4,1⟩],dims:=[] },{ drawing:=2,letter:=1,kind:=2,items:=[],dims:=[⟨100,98,103⟩] },{ drawing:=3,letter:=1,kind:=2,items:=[],dims:=[⟨200,199,201⟩] },{ drawing:=4,letter:=1,kind:=3,items:=[],dims:=[⟨410,405,412⟩] }],lets:=[1,1,1,1],of:=1,loops:=[{ links:=[⟨4,0,false⟩,⟨2,0,true⟩,⟨2,0,true⟩,⟨3,0,true⟩],lo:=-2,hi:=17 }] }
theorem exWide_v:chv exWide=.agg [.im (.sl [[.raw (.int .i64 1),.raw (.int .i64 1),.raw (.int .u8 1),.sl [[.raw (.int .i64 2),.raw (.int .i64 2)],[.raw (.int .i64 3),.raw (.int .i64 1)],[.raw (.int .i64 4),.raw (.int .i64 1)]],.sl []],[.raw (.int .i64 2),.raw (.int .i64 1),.raw (.int .u8 2),.sl [],.sl [[.raw (.int .i64 100),.raw (.int .i64 98),.raw (.int .i64 103)]]],[.raw (.int .i64 3),.raw (.int .i64 1),.raw (.int .u8 2),.sl [],.sl [[.raw (.int .i64 200),.raw (.int .i64 199),.raw (.int .i64 201)]]],[.raw (.int .i64 4),.raw (.int .i64 1),.raw (.int .u8 3),.sl [],.sl [[.raw (.int .i64 410),.raw (.int .i64 405),.raw (.int .i64 412)]]]]),.im (.sl [[.raw (.int .i64 1)],[.raw (.int .i64 1)],[.raw (.int .i64 1)],[.raw (.int .i64 1)]]),.im (.raw (.int .i64 1)),.im (.sl [[.sl [[.raw (.int .i64 4),.raw (.int .i64 0),.raw (.bool false)],[.raw (.int .i64 2),.raw (.int .i64 0),.raw (.bool true)],[.raw (.int .i64 2),.raw (.int .i64 0),.raw (.bool true)],[.raw (.int .i64 3),.raw (.int .i64 0),.raw (.bool true)]],.raw (.int .i64 (-2)),.raw (.int .i64 17)]])]:=rfl
theorem exWide_small:SmallC exWide:=by
 refine ⟨⟨by decide,?_⟩,by decide,by decide,?_⟩
 ·intro x hx
  simp only [exWide,List.mem_cons,List.not_mem_nil,or_false] at hx
  rcases hx with rfl|rfl|rfl|rfl<;>decide
 ·intro x hx
  simp only [exWide,List.mem_cons,List.not_mem_nil,or_false] at hx
  subst hx;decide
def exNever:Chains:={ reg:=[{ drawing:=1,letter:=1,kind:=1,items:=[⟨2,2⟩,⟨3,1⟩,⟨4,1⟩],dims:=[] },{ drawing:=2,letter:=1,kind:=2,items:=[],dims:=[⟨100,98,103⟩] },{ drawing:=3,letter:=1,kind:=2,items:=[],dims:=[⟨200,199,201⟩] },{ drawing:=4,letter:=1,kind:=3,items:=[],dims:=[⟨410,405,412⟩] }],lets:=[1,1,1,1],of:=1,loops:=[{ links:=[⟨4,0,false⟩,⟨2,0,true⟩,⟨2,0,true⟩,⟨3,0,true⟩],lo:=6,hi:=9 }] }
theorem exNever_v:chv exNever=.agg [.im (.sl [[.raw (.int .i64 1),.raw (.int .i64 1),.raw (.int .u8 1),.sl [[.raw (.int .i64 2),.raw (.int .i64 2)],[.raw (.int .i64 3),.raw (.int .i64 1)],[.raw (.int .i64 4),.raw (.int .i64 1)]],.sl []],[.raw (.int .i64 2),.raw (.int .i64 1),.raw (.int .u8 2),.sl [],.sl [[.raw (.int .i64 100),.raw (.int .i64 98),.raw (.int .i64 103)]]],[.raw (.int .i64 3),.raw (.int .i64 1),.raw (.int .u8 2),.sl [],.sl [[.raw (.int .i64 200),.raw (.int .i64 199),.raw (.int .i64 201)]]],[.raw (.int .i64 4),.raw (.int .i64 1),.raw (.int .u8 3),.sl [],.sl [[.raw (.int .i64 410),.raw (.int .i64 405),.raw (.int .i64 412)]]]]),.im (.sl [[.raw (.int .i64 1)],[.raw (.int .i64 1)],[.raw (.int .i64 1)],[.raw (.int .i64 1)]]),.im (.raw (.int .i64 1)),.im (.sl [[.sl [[.raw (.int .i64 4),.raw (.int .i64 0),.raw (.bool false)],[.raw (.int .i64 2),.raw (.int .i64 0),.raw (.bool true)],[.raw (.int .i64 2),.raw (.int .i64 0),.raw (.bool true)],[.raw (.int .i64 3),.raw (.int .i64 0),.raw (.bool true)]],.raw (.int .i64 6),.raw (.int .i64 9)]])]:=rfl
theorem exNever_small:SmallC exNever:=by
 refine ⟨⟨by decide,?_⟩,by decide,by decide,?_⟩
 ·intro x hx
  simp only [exNever,List.mem_cons,List.not_mem_nil,or_false] at hx
  rcases hx with rfl|rfl|rfl|rfl<;>decide
 ·intro x hx
  simp only [exNever,List.mem_cons,List.not_mem_nil,or_false] at hx
  subst hx;decide
def exTorn:Chains:={ reg:=[{ drawing:=1,letter:=1,kind:=1,items:=[⟨1,2⟩,⟨3,1⟩,⟨4,1⟩],dims:=[] },{ drawing:=2,letter:=1,kind:=2,items:=[],dims:=[⟨100,98,103⟩] },{ drawing:=3,letter:=1,kind:=2,items:=[],dims:=[⟨200,199,201⟩] },{ drawing:=4,letter:=1,kind:=3,items:=[],dims:=[⟨410,405,412⟩] }],lets:=[1,1,1,1],of:=1,loops:=[{ links:=[⟨4,0,false⟩,⟨2,0,true⟩,⟨2,0,true⟩,⟨3,0,true⟩],lo:=0,hi:=20 }] }
theorem exTorn_v:chv exTorn=.agg [.im (.sl [[.raw (.int .i64 1),.raw (.int .i64 1),.raw (.int .u8 1),.sl [[.raw (.int .i64 1),.raw (.int .i64 2)],[.raw (.int .i64 3),.raw (.int .i64 1)],[.raw (.int .i64 4),.raw (.int .i64 1)]],.sl []],[.raw (.int .i64 2),.raw (.int .i64 1),.raw (.int .u8 2),.sl [],.sl [[.raw (.int .i64 100),.raw (.int .i64 98),.raw (.int .i64 103)]]],[.raw (.int .i64 3),.raw (.int .i64 1),.raw (.int .u8 2),.sl [],.sl [[.raw (.int .i64 200),.raw (.int .i64 199),.raw (.int .i64 201)]]],[.raw (.int .i64 4),.raw (.int .i64 1),.raw (.int .u8 3),.sl [],.sl [[.raw (.int .i64 410),.raw (.int .i64 405),.raw (.int .i64 412)]]]]),.im (.sl [[.raw (.int .i64 1)],[.raw (.int .i64 1)],[.raw (.int .i64 1)],[.raw (.int .i64 1)]]),.im (.raw (.int .i64 1)),.im (.sl [[.sl [[.raw (.int .i64 4),.raw (.int .i64 0),.raw (.bool false)],[.raw (.int .i64 2),.raw (.int .i64 0),.raw (.bool true)],[.raw (.int .i64 2),.raw (.int .i64 0),.raw (.bool true)],[.raw (.int .i64 3),.raw (.int .i64 0),.raw (.bool true)]],.raw (.int .i64 0),.raw (.int .i64 20)]])]:=rfl
theorem exTorn_small:SmallC exTorn:=by
 refine ⟨⟨by decide,?_⟩,by decide,by decide,?_⟩
 ·intro x hx
  simp only [exTorn,List.mem_cons,List.not_mem_nil,or_false] at hx
  rcases hx with rfl|rfl|rfl|rfl<;>decide
 ·intro x hx
  simp only [exTorn,List.mem_cons,List.not_mem_nil,or_false] at hx
  subst hx;decide
theorem exC_v:chv exC=.agg [.im (.sl [[.raw (.int .i64 1),.raw (.int .i64 1),.raw (.int .u8 1),.sl [[.raw (.int .i64 2),.raw (.int .i64 2)],[.raw (.int .i64 3),.raw (.int .i64 1)],[.raw (.int .i64 4),.raw (.int .i64 1)]],.sl []],[.raw (.int .i64 2),.raw (.int .i64 1),.raw (.int .u8 2),.sl [],.sl [[.raw (.int .i64 100),.raw (.int .i64 98),.raw (.int .i64 103)]]],[.raw (.int .i64 3),.raw (.int .i64 1),.raw (.int .u8 2),.sl [],.sl [[.raw (.int .i64 200),.raw (.int .i64 199),.raw (.int .i64 201)]]],[.raw (.int .i64 4),.raw (.int .i64 1),.raw (.int .u8 3),.sl [],.sl [[.raw (.int .i64 410),.raw (.int .i64 405),.raw (.int .i64 412)]]]]),.im (.sl [[.raw (.int .i64 1)],[.raw (.int .i64 1)],[.raw (.int .i64 1)],[.raw (.int .i64 1)]]),.im (.raw (.int .i64 1)),.im (.sl [[.sl [[.raw (.int .i64 4),.raw (.int .i64 0),.raw (.bool false)],[.raw (.int .i64 2),.raw (.int .i64 0),.raw (.bool true)],[.raw (.int .i64 2),.raw (.int .i64 0),.raw (.bool true)],[.raw (.int .i64 3),.raw (.int .i64 0),.raw (.bool true)]],.raw (.int .i64 0),.raw (.int .i64 20)]])]:=rfl
theorem exT_small:SmallC exT:=by
 refine ⟨⟨by decide,?_⟩,by decide,by decide,?_⟩
 ·intro x hx
  simp only [exT,List.mem_cons,List.not_mem_nil,or_false] at hx
  rcases hx with rfl|rfl|rfl|rfl|rfl<;>decide
 ·intro x hx
  simp only [exT,exC,List.mem_cons,List.not_mem_nil,or_false] at hx
  subst hx;decide
theorem ex_worst2:worstR exC 0 true=[412,98,98,199]:=by decide +kernel
theorem exT_ok:chainsE exT=0∧loopsE exT 0=0∧rLo exT 0=2∧rHi exT 0=15:=by decide +kernel
theorem exW_g:gradeE exWide=0∧gradeR exWide=1000000000∧proofE exWide=6∧fewE exWide=0∧fewR exWide=[]:=by decide +kernel
theorem exN_g:gradeE exNever=6∧fewE exNever=6:=by decide +kernel
theorem ex_one:loopsE exC 1=2:=by decide +kernel
theorem ex_tight4:tighE exC [⟨4,0⟩] 1=2:=by decide +kernel
theorem ex_red3:redE exC 3=11:=by decide +kernel
theorem exO_e:chainsE exOdd=60:=by decide +kernel
theorem exTo_e:chainsE exTorn=20:=by decide +kernel
def exD:DV:=.agg [.vec 5 0 0 4,.vec 6 0 0 4,.im (rI 1),.vec 8 0 0 1]
def exO:List DObj:=[.vec 0 [] 0 true,.vec 0 [] 0 true,.vec 0 [] 0 true,.row [.vec 5 0 0 4,.vec 6 0 0 4,.im (rI 1),.vec 8 0 0 1],.vec 2 [[.im (rI 2),.im (rI 2)],[.im (rI 3),.im (rI 1)],[.im (rI 4),.im (rI 1)]] 0 false,
 .vec 5 [[.im (rI 1),.im (rI 1),.im (.raw (.int .u8 1)),.vec 4 0 0 3,.im (.sl [])],[.im (rI 2),.im (rI 1),.im (.raw (.int .u8 2)),.im (.sl []),.im (.sl [[rI 100,rI 98,rI 103]])],[.im (rI 3),.im (rI 1),.im (.raw (.int .u8 2)),.im (.sl []),.im (.sl [[rI 200,rI 199,rI 201]])],[.im (rI 4),.im (rI 1),.im (.raw (.int .u8 3)),.im (.sl []),.im (.sl [[rI 410,rI 405,rI 412]])]] 0 false,
 .vec 1 [[.im (rI 1)],[.im (rI 1)],[.im (rI 1)],[.im (rI 1)]] 0 false,.vec 3 [[.im (rI 4),.im (rI 0),.im (rB false)],[.im (rI 2),.im (rI 0),.im (rB true)],[.im (rI 2),.im (rI 0),.im (rB true)],[.im (rI 3),.im (rI 0),.im (rB true)]] 0 false,.vec 3 [[.vec 7 0 0 4,.im (rI 0),.im (rI 20)]] 0 false]
def ExQ (d:DV) (o:List DObj):Prop:=d=exD∧o=exO
theorem chainsM_q:DCall Tryz.prog G 59 [] [] ExQ:=by
 refine DCall_intro Tryz.func59 rfl Tryz.ntmps59 (by simp) rfl ?_
 have c1:=back_c (G:=G) 2
 have c2:=back_c (G:=G) 3
 have c3:=part_c (G:=G) 2 2 ⟨100,98,103⟩
 have c4:=part_c (G:=G) 3 2 ⟨200,199,201⟩
 have c5:=part_c (G:=G) 4 3 ⟨410,405,412⟩
 simp only [dimv,lnkv,encLink,encDim,issv,encIssue,rI,List.map_cons,List.map_nil] at c1 c2 c3 c4 c5
 have hs:True:=trivial
 repeat' first|(with_reducible first|refine q01 ?_|refine q11 ?_|refine q17 ?_)|(with_reducible refine At.fn_ret (by simp -dsimp [hs];exact rfl) ?_)|(refine CallE.pure (c1) ?_;try simp -dsimp [hs])|(refine CallE.pure (c2) ?_;try simp -dsimp [hs])|(refine CallE.pure (c3) ?_;try simp -dsimp [hs])|(refine CallE.pure (c4) ?_;try simp -dsimp [hs])|(refine CallE.pure (c5) ?_;try simp -dsimp [hs])|(with_reducible refine DT_regionE [0,1] ?_;simp -dsimp [hs])
 all_goals try simp -dsimp [hs]
 all_goals try clear hs
 all_goals exact ⟨rfl,rfl⟩
theorem chainsM_c:DCall Tryz.prog G 59 [] [] (fun d o=>d=exD∧o=exO):=chainsM_q
end Go.Proofs
namespace Go.Proofs
open Go Go.Ab
set_option linter.unusedSimpArgs false
variable {G:Nat→Option (List IC)}
attribute [simp] permL reO cutL cutE gones noLoop nilV nilX ZK
end Go.Proofs
namespace Go.Proofs
open Go Go.Ab
set_option linter.unusedSimpArgs false
variable {G:Nat→Option (List IC)}
attribute [simp] permL reO cutL cutE gones noLoop nilV nilX ZK
@[simp] def u16w (n:Int):DV:=.one (.im (.raw (.int .u16 n)))
end Go.Proofs
namespace Go.Proofs
open Go Go.Ab
set_option linter.unusedSimpArgs false
variable {G:Nat→Option (List IC)}
attribute [simp] permL reO cutL cutE gones noLoop nilV nilX ZK
end Go.Proofs
namespace Go.Proofs
open Go Go.Ab
set_option linter.unusedSimpArgs false
variable {G:Nat→Option (List IC)}
attribute [simp] permL reO cutL cutE gones noLoop nilV nilX ZK
end Go.Proofs
namespace Go.Proofs
open Go Go.Ab
set_option linter.unusedSimpArgs false
variable {G:Nat→Option (List IC)}
attribute [simp] permL reO cutL cutE gones noLoop nilV nilX ZK
theorem DT_freezeN (i:Nat) {P:Program} {nt:Nat} {tmps:List (Nat×DV)} {o:DObj} {os:List DObj} {ops:Array Oper} {b:Bool} {Q:Exit→DS→Prop} (h:DT P G ⟨0,none⟩ (Code.region i ops b) (DS.drop ⟨nt,tmps,o :: os⟩ 0) Q):DT P G ⟨0,none⟩ (Code.region i ops b) ⟨nt,tmps,o :: os⟩ Q:=
 DT_weak (Weak.drop (Nat.zero_le _) (Nat.zero_le _)) h
end Go.Proofs
namespace Go.Proofs
open Go Go.Ab
set_option linter.unusedSimpArgs false
variable {G:Nat→Option (List IC)}
attribute [simp] permL reO cutL cutE gones noLoop nilV nilX ZK
set_option maxHeartbeats 16000000 in
set_option maxRecDepth 100000 in
theorem chainExamples_c (u1 u2 u3:IC) (hG:sheetG G) (hC:chainG G) (hU:unitG G u1 u2 u3) (hSF:SortFOk G) (hSG:SortGOk G) (objs:List DObj):DCall Tryz.prog G 14 [] objs (fun rr objs'=>rr=bv true∧objs'=objs):=by
 refine DCall.frame ?_ (by simp) (by simp) objs
 refine DCall_intro Tryz.func14 rfl Tryz.ntmps14 (by simp) rfl ?_
 try simp only [iv]
 have c1:=alive_c (G:=G) u1 u2 u3 hG hC hU hSF hSG
 have c0:=chains_c (G:=G)
 have cb:=both_c (G:=G)
 have cm:=chainsM_c (G:=G)
 simp only [exD,exO,rI,rB] at cm
 have hsm:=ex_small
 have c2:=pWorst_c (G:=G) exC 0 true hG hC hsm
 rw [ex_worst2,ex_loops] at c2
 have c3:=pTighten_c (G:=G) exC [⟨2,0⟩,⟨3,0⟩] 1 hG hC hsm hSF hSG (by simp)
 rw [ex_tight,ex_tightE] at c3
 have c4:=pReach_c (G:=G) exT 0 hG hC exT_small okC
 rw [exT_ok.2.1,exT_ok.2.2.1,exT_ok.2.2.2] at c4
 have s1:=sameInts_c (G:=G) [412,98,98,199] [412,98,98,199] (by simp)
 simp only [decide_true] at s1
 have d1:=pGrade_c (G:=G) exWide hG hC exWide_small
 have d2:=pProof_c (G:=G) exWide hG hC exWide_small
 have d3:=pFewest_c (G:=G) exWide hG hC exWide_small hSF
 rw [exW_g.1,exW_g.2.1] at d1
 rw [exW_g.2.2.1] at d2
 rw [exW_g.2.2.2.1,exW_g.2.2.2.2] at d3
 have d4:=pGrade_c (G:=G) exNever hG hC exNever_small
 have d5:=pFewest_c (G:=G) exNever hG hC exNever_small hSF
 rw [exN_g.1] at d4
 rw [exN_g.2] at d5
 have d6:=pReach_c (G:=G) exC 1 hG hC hsm okC
 rw [ex_one] at d6
 have d7:=pTighten_c (G:=G) exC [⟨4,0⟩] 1 hG hC hsm hSF hSG (by simp)
 rw [ex_tight4] at d7
 have d8:=pRedraw_c (G:=G) exC 3 u1 u2 u3 hG hC hU hsm hSG (by decide) (by decide)
 rw [ex_red3] at d8
 have d9:=pSpots_c (G:=G) exOdd hG hC exOdd_small hSF
 rw [exO_e] at d9
 have d10:=pWrong_c (G:=G) exTorn hG hC exTorn_small
 rw [exTo_e] at d10
 generalize prL exWide=w1 at *
 generalize prS exWide=w2 at *
 generalize gradeR exNever=w3 at *
 generalize fewR exNever=w4 at *
 generalize rLo exC 1=w5 at *
 generalize rHi exC 1=w6 at *
 generalize tighR exC [⟨4,0⟩] 1=w7 at *
 generalize redR exC 3=w8 at *
 generalize spotsR exOdd=w9 at *
 generalize wrongR exTorn=w10 at *
 clear hsm
 obtain ⟨T,hT⟩:∃ T,chv exT=T:=⟨_,rfl⟩
 have hTf:∃ x y z w,T=.agg [.im x,.im y,.im z,.im w]:=⟨_,_,_,_,hT.symm⟩
 obtain ⟨t1,t2,t3,t4,rfl⟩:=hTf
 rw [hT] at c3 c4
 clear hT
 rw [exC_v] at c0 c2 c3 d6 d7 d8
 rw [exWide_v] at d1 d2 d3
 rw [exNever_v] at d4 d5
 rw [exOdd_v] at d9
 rw [exTorn_v] at d10
 simp only [spotsv,isv,refv,u8v,encSpot,rI,List.map_cons,List.map_nil] at *
 have hs:True:=trivial
 repeat' first|(with_reducible first|refine q01 ?_|refine q11 ?_|refine q14 ?_)|(refine CallE.pure (c1) ?_;try simp -dsimp [hs])|(refine CallE.pure (c0) ?_;try simp -dsimp [hs])|(refine CallE.pure (cb) ?_;try simp -dsimp [hs])|(refine CallE.pure (c2) ?_;try simp -dsimp [hs])|(refine CallE.pure (c3) ?_;try simp -dsimp [hs])|(refine CallE.pure (c4) ?_;try simp -dsimp [hs])|(with_reducible refine DT_regionE [0,1,2,3,4,5,6,7,8,9,10,11,12,15,16,17,19,21,23,25,27,29,31,35,72] ?_;simp -dsimp [hs])|(refine DT_cond rfl (fun h=>?_) (fun h=>?_)<;>(try simp only [nrm] at h)<;>(try exact Bool.noConfusion h))
 all_goals try simp -dsimp [hs]
 all_goals try clear hs
 have hs:True:=trivial
 repeat' first|(with_reducible first|refine q01 ?_|refine q11 ?_|refine q14 ?_)|(refine CallE.thaw (s1) ?_ ?_ ?_;(focus (simp;done));(focus (simp;done));try simp -dsimp [hs])|(refine DT_freezeN 13 ?_;try simp -dsimp [hs])|(refine CallE.embed [] (cm) ?_ ?_ ?_ ?_ ?_ ?_;(focus (simp [emb];done));(focus (simp;done));(focus (simp;done));(focus (simp;done));(focus (refine emb_all ?_;simp [emb,embAll];done));try simp -dsimp [mergeO,emb,hs])|(with_reducible refine DT_regionE [0,1,2,3,4,5,6,7,8,9,10,11,12,15,16,17,19,21,23,25,27,29,31,35,72] ?_;simp -dsimp [hs])|(refine DT_cond rfl (fun h=>?_) (fun h=>?_)<;>(try simp only [nrm] at h)<;>(try exact Bool.noConfusion h))
 all_goals try simp -dsimp [hs]
 all_goals try clear hs
 have hs:True:=trivial
 repeat' first|(with_reducible first|refine q01 ?_|refine q11 ?_|refine q17 ?_)|(with_reducible refine At.fn_ret (by simp -dsimp [hs];exact rfl) ?_)|(refine CallE.pure (c0) ?_;try simp -dsimp [hs])|(refine CallE.pure (d1) ?_;try simp -dsimp [hs])|(refine CallE.pure (d2) ?_;try simp -dsimp [hs])|(refine CallE.pure (d3) ?_;try simp -dsimp [hs])|(refine CallE.pure (d4) ?_;try simp -dsimp [hs])|(refine CallE.pure (d5) ?_;try simp -dsimp [hs])|(refine CallE.pure (d6) ?_;try simp -dsimp [hs])|(refine CallE.freeze 0 (d7 []) ?_ ?_ ?_ ?_ ?_ ?_;(focus (simp;done));(focus (simp;done));(focus (simp;done));(focus rfl);(focus (simp;done));try simp -dsimp [gones];try simp -dsimp [hs])|(refine CallE.pure (d8) ?_;try simp -dsimp [hs])|(refine CallE.pure (d9) ?_;try simp -dsimp [hs])|(refine CallE.pure (d10) ?_;try simp -dsimp [hs])|(with_reducible refine DT_regionE [0,1,2,3,4,5,6,7,8,9,10,11,12,15,16,17,19,21,23,25,27,29,31,35,72] ?_;simp -dsimp [hs])
 all_goals try simp -dsimp [hs]
 all_goals try clear hs
end Go.Proofs
