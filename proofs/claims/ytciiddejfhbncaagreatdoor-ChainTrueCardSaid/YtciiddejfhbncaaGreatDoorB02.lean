/- Part 30 of the proofs: laws and walks that hold without conditions beyond those that each theorem names. -/
import Derived.Test.YtciiddejfhbncaaGreatDoorA28
set_option linter.all false
set_option linter.deprecated false
namespace Go.Proofs
open Go Go.Ab
set_option linter.unusedSimpArgs false
variable {G:Nat→Option (List IC)}
attribute [simp] permL reO cutL cutE gones noLoop nilV nilX ZK
def pickS (by':List Int) (at':Nat) (d:Dim):Int:=d.lower + chooseU by' at' % (d.upper - d.lower + 1)
def pickL (by':List Int) (k:Nat) (ds:List Dim):List Int:=ds.mapIdx fun i d=>pickS by' (8 * k + i) d
theorem pickL_len (b:List Int) (k:Nat) (ds:List Dim):(pickL b k ds).length=ds.length:=by simp [pickL]
theorem pickL_get (b:List Int) (k:Nat) (ds:List Dim) {i:Nat} {d:Dim} (h:ds[i]?=some d):(pickL b k ds)[i]?=some (pickS b (8 * k + i) d):=by
 simp [pickL,h]
theorem pickS_in (b:List Int) (i:Nat) {d:Dim} (h:d.lower≤d.upper):d.lower≤pickS b i d∧pickS b i d≤d.upper:=by
 have h1:0≤chooseU b i % (d.upper - d.lower + 1):=Int.emod_nonneg _ (by omega)
 have h2:chooseU b i % (d.upper - d.lower + 1) < d.upper - d.lower + 1:=Int.emod_lt_of_pos _ (by omega)
 unfold pickS;omega
theorem chooseU_in {b:List Int} (hu:∀ n∈b,0≤n∧n≤4294967295) (i:Nat):0≤chooseU b i∧chooseU b i≤4294967295:=by
 unfold chooseU
 split
 ·omega
 ·rename_i h
  rw [List.getElem?_eq_getElem (Nat.mod_lt _ (by omega))]
  exact hu _ (List.getElem_mem _)
set_option maxHeartbeats 8000000 in
set_option maxRecDepth 10000 in
theorem chainTrue_c (c:Chains) (b:List Int) (u1 u2 u3:IC) (hG:sheetG G) (hC:chainG G) (hU:unitG G u1 u2 u3) (hSF:SortFOk G) (hSG:SortGOk G) (hk:KindOk c.reg) (hu:∀ n∈b,0≤n∧n≤4294967295) (objs:List DObj):DCall Tryz.prog G 4 [chv c,.one (.im (.sl (b.map encU)))] objs (fun rr objs'=>rr=bv true∧objs'=objs):=by
 refine DCall.frame ?_ (by simp) (by simp) objs
 refine DCall_intro Tryz.func4 rfl Tryz.ntmps4 (by simp) rfl ?_
 try simp only [chv]
 have c1:=alive_c (G:=G) u1 u2 u3 hG hC hU hSF hSG
 have c2:=ready6_c (G:=G) c hk
 cases hq:readyC c
 ·rw [hq] at c2
  have hs:True:=trivial
  repeat' first|(with_reducible first|refine q01 ?_|refine q02 ?_|refine q11 ?_|refine q17 ?_)|(with_reducible refine At.fn_ret (by simp -dsimp [hs];exact rfl) ?_)|(refine CallE.pure (c1) ?_;try simp -dsimp [hs])|(refine CallE.pure (c2) ?_;try simp -dsimp [hs])|(with_reducible refine DT_regionE [0,1,2,4,5,6,7,8,9,10,11,12,13,14,15,16,17,18,19,20,21,22,30,33,34,35,36,107,109,110,111,112,202] ?_;simp -dsimp [hs])|(refine DT_cond rfl (fun h=>?_) (fun h=>?_)<;>(try simp only [nrm] at h)<;>(try exact Bool.noConfusion h))
  all_goals try simp -dsimp [hs]
  all_goals try clear hs
 ·rw [hq] at c2
  have hq':=hq
  simp only [readyC,Bool.and_eq_true,decide_eq_true_eq] at hq'
  obtain ⟨hq1,hq2⟩:=hq'
  have hg:=smallB_iff.1 hq1
  have hsm:SmallC c:=⟨⟨hg.1.1,fun x hx=>⟨(hk x hx).1,(hk x hx).2,(hg.1.2 x hx).1,(hg.1.2 x hx).2⟩⟩,hg.2⟩
  have hOk:=okC hq2
  have hs:True:=trivial
  repeat' first|(with_reducible first|refine q01 ?_|refine q11 ?_|refine q12 ?_|refine q14 ?_)|(refine CallE.pure (c1) ?_;try simp -dsimp [hs])|(refine CallE.pure (c2) ?_;try simp -dsimp [hs])|(with_reducible refine DT_regionE [0,1,2,4,5,6,7,8,9,10,11,12,13,14,15,16,17,18,19,20,21,22,30,33,34,35,36,107,109,110,111,112,202] ?_;simp -dsimp [hs])|(refine DT_cond rfl (fun h=>?_) (fun h=>?_)<;>(try simp only [nrm] at h)<;>(try exact Bool.noConfusion h))
  all_goals try simp -dsimp [hs]
  all_goals try clear hs
  refine DT_loop (ι:={ k:Nat // k≤c.loops.length }) (fun k=>⟨205,[(1,.one (.im (.sl (b.map encU)))),(2,.one (.ptr 0 0)),(5,bv true),(33,.one (.im (.sl (c.loops.map encLoop)))),(34,iv (c.loops.length:Int)),(35,iv (k.1:Int))],[.row [.im (.sl (c.reg.map encIssue)),.im (.sl (c.lets.map Ab.encI)),.im (rI c.of),.im (.sl (c.loops.map encLoop))]]⟩) (fun k=>c.loops.length - k.1) ⟨0,by omega⟩ (Weak.of_keep [1,2,5,33,34,35] (by simp)) ?_
  rintro ⟨k,hkl⟩
  simp only [iv,rI,bv]
  by_cases hlt:k < c.loops.length
  ·have hl6:=hOk.num
   have hw:IntKind.i64.wrap ((k:Int) + 1)=((k + 1:Nat):Int):=i64w (by omega) (by omega)
   obtain ⟨x,hx⟩:∃ x,c.loops[k]?=some x:=⟨c.loops[k],by simp [hlt]⟩
   have hxe:∀ h,c.loops[k]'h=x:=fun h=>by rw [List.getElem?_eq_getElem h] at hx;exact Option.some.inj hx
   have hxm:x∈c.loops:=List.mem_of_getElem? hx
   have hl8:=(hOk.gap x hxm).1
   have hlE:loopsE c (k:Int)=0:=by rw [loopsE,if_neg (by simp [hq2]),if_pos ⟨by omega,by omega⟩]
   have hLo:rLo c (k:Int)=endS x.links (sizesI c x) false:=by rw [rLo,if_pos hlE,loI];simp [hx]
   have hHi:rHi c (k:Int)=endS x.links (sizesI c x) true:=by rw [rHi,if_pos hlE,hiI];simp [hx]
   have hcl:closesK c (k:Int)=if x.lo≤rLo c k∧rHi c k≤x.hi then 2 else if rHi c k < x.lo∨x.hi < rLo c k then 0 else 1:=by rw [closesK,if_pos hlE,clK];simp [hx]
   have hlp:lpAt c (k:Int)=x:=by simp [lpAt,hx]
   have hwf:worstR c (k:Int) false=endsL x.links (sizesI c x) false:=by rw [worstR,if_pos hlE,hlp]
   have hwt:worstR c (k:Int) true=endsL x.links (sizesI c x) true:=by rw [worstR,if_pos hlE,hlp]
   have c3:=pReach_c (G:=G) c k hG hC hsm okC
   have c4:=pCloses_c (G:=G) c k hG hC hsm okC
   have c5:=pWorst_c (G:=G) c k false hG hC hsm
   have c6:=pWorst_c (G:=G) c k true hG hC hsm
   rw [hlE] at c3 c4 c5 c6
   rw [hwf] at c5
   rw [hwt] at c6
   rw [hcl] at c4
   have hdsl:(sizesI c x).length=x.links.length:=by simp [sizesI]
   have hlen1:=endsL_len x.links (sizesI c x) false hdsl
   have hlen2:=endsL_len x.links (sizesI c x) true hdsl
   have hdok:∀ (i:Nat) (d:Dim),(sizesI c x)[i]?=some d→dimOk d=true:=fun i d h=>by
    simp only [sizesI,List.getElem?_map,Option.map_eq_some_iff] at h
    obtain ⟨y,hy,rfl⟩:=h
    exact (dimAt_ok hOk hxm (List.mem_of_getElem? hy)).1
   have hdat:∀ (i:Nat) (y:Link),x.links[i]?=some y→(sizesI c x)[i]?=some (dimAt c y):=fun i y h=>by simp [sizesI,h]
   have hbd:∀ (i:Nat) (d:Dim),(sizesI c x)[i]?=some d→d.lower≤d.upper∧0≤d.lower∧d.upper≤1000000000:=fun i d h=>by
    have h1:=hdok i d h
    rw [dimOk_iff] at h1
    omega
   have c7:=lawWithin_c (G:=G) c x _ hOk hsm hxm hlen1 (fun i y n hy hn=>ends_in _ _ _ i _ n (hdat i y hy) (hbd i _ (hdat i y hy)).1 hn)
   have c8:=lawWithin_c (G:=G) c x _ hOk hsm hxm hlen2 (fun i y n hy hn=>ends_in _ _ _ i _ n (hdat i y hy) (hbd i _ (hdat i y hy)).1 hn)
   have hin:∀ s:List Int,s.length=x.links.length→(∀ (i:Nat) (d:Dim) (n:Int),(sizesI c x)[i]?=some d→s[i]?=some n→d.lower≤n∧n≤d.upper)→∀ n∈s,-2000000000≤n∧n≤2000000000:=fun s hs h n hn=>by
    obtain ⟨i,hi⟩:=List.mem_iff_getElem?.1 hn
    have hil:=(List.getElem?_eq_some_iff.1 hi).1
    have hd:(sizesI c x)[i]?=some ((sizesI c x)[i]'(by omega)):=List.getElem?_eq_getElem _
    have h1:=h i _ n hd hi
    have h2:=hbd i _ hd
    omega
   have c9:=sum6_c (G:=G) x _ (by omega) hlen1 (hin _ hlen1 fun i d n hd hn=>ends_in _ _ _ i d n hd (hbd i d hd).1 hn)
   have c10:=sum6_c (G:=G) x _ (by omega) hlen2 (hin _ hlen2 fun i d n hd hn=>ends_in _ _ _ i d n hd (hbd i d hd).1 hn)
   rw [sumTo_all _ _ hlen1,← endS_sum,← hLo] at c9
   rw [sumTo_all _ _ hlen2,← endS_sum,← hHi] at c10
   generalize endsL x.links (sizesI c x) false=A1 at *
   generalize endsL x.links (sizesI c x) true=A2 at *
   simp only [refv,encLoop,rI,List.map_cons,List.map_nil] at c3 c7 c8 c9 c10
   have hs:True:=trivial
   repeat' first|(with_reducible first|refine q01 ?_|refine q11 ?_|refine q12 ?_|refine q14 ?_)|(refine CallE.pure (c3) ?_;try simp -dsimp [hlt,hx,hxe,hw,hs])|(refine CallE.pure (c4) ?_;try simp -dsimp [hlt,hx,hxe,hw,hs])|(refine CallE.pure (c5) ?_;try simp -dsimp [hlt,hx,hxe,hw,hs])|(refine CallE.pure (c6) ?_;try simp -dsimp [hlt,hx,hxe,hw,hs])|(refine QCall_pure (c7) ?_;try simp -dsimp [hlt,hx,hxe,hw,hs])|(refine QCall_pure (c8) ?_;try simp -dsimp [hlt,hx,hxe,hw,hs])|(refine QCall_pure (c9) ?_;try simp -dsimp [hlt,hx,hxe,hw,hs])|(refine QCall_pure (c10) ?_;try simp -dsimp [hlt,hx,hxe,hw,hs])|(refine DT_regionM (id:=11) (nt:=205) 44 [0,1,2,4,5,6,7,8,9,10,11,12,13,14,15,16,17,18,19,20,21,22,30,33,34,35,36,107,109,110,111,112,202] mixed rfl (by kernel_rfl) ?_;simp -dsimp [hlt,hx,hxe,hw,hs])|(with_reducible refine DT_regionE [0,1,2,4,5,6,7,8,9,10,11,12,13,14,15,16,17,18,19,20,21,22,30,33,34,35,36,107,109,110,111,112,202] ?_;simp -dsimp [hlt,hx,hxe,hw,hs])|(refine DT_cond rfl (fun h=>?_) (fun h=>?_)<;>(try simp only [nrm] at h)<;>(try exact Bool.noConfusion h))
   all_goals try simp -dsimp [hlt,hx,hxe,hw,hs]
   all_goals try clear hs
   have hTl:=pickL_len b k (sizesI c x)
   have hTg:=fun (i:Nat) (d:Dim) (h:(sizesI c x)[i]?=some d)=>pickL_get b k (sizesI c x) h
   have hTin:∀ (i:Nat) (d:Dim) (n:Int),(sizesI c x)[i]?=some d→(pickL b k (sizesI c x))[i]?=some n→d.lower≤n∧n≤d.upper:=fun i d n hd hn=>by
    rw [hTg i d hd] at hn
    cases hn
    exact pickS_in b _ (hbd i d hd).1
   have hTs:=hin _ (hTl.trans hdsl) hTin
   have hbt:=sum_between x.links (sizesI c x) _ hdsl (hTl.trans hdsl) hTin
   rw [← hLo,← hHi] at hbt
   have c11:=sum6_c (G:=G) x _ (by omega) (hTl.trans hdsl) hTs
   rw [sumTo_all _ _ (hTl.trans hdsl)] at c11
   simp only [encLoop,rI,List.map_cons,List.map_nil] at c11
   generalize pickL b k (sizesI c x)=T at *
   generalize rLo c (k:Int)=Lo at *
   generalize rHi c (k:Int)=Hi at *
   generalize sumZ x.links T=N at *
   have hTxl:T.length=x.links.length:=hTl.trans hdsl
   refine DT_loop (ι:={ p:Nat×Nat×Bool // p.1≤x.links.length }) (fun p=>⟨205,[(1,.one (.im (.sl (b.map encU)))),(2,.one (.ptr 0 0)),(5,bv true),(6,iv (k:Int)),(7,.one (.ptr 2 0)),(8,.one (.ptr 3 0)),(10,u8v (if x.lo≤Lo∧Hi≤x.hi then 2 else if Hi < x.lo∨x.hi < Lo then 0 else 1)),(16,.one (.vec 4 p.1.2.1 0 p.1.1)),(33,.one (.im (.sl (c.loops.map encLoop)))),(34,iv (c.loops.length:Int)),(35,iv (k:Int)),(109,.one (.im (.sl (x.links.map encLink)))),(110,iv (x.links.length:Int)),(111,iv (p.1.1:Int))],
    [.row [.im (.sl (c.reg.map encIssue)),.im (.sl (c.lets.map Ab.encI)),.im (rI c.of),.im (.sl (c.loops.map encLoop))],.vec 0 [] 0 true,.row [.im (.sl (x.links.map encLink)),.im (rI x.lo),.im (rI x.hi)],.row [.im (rI Lo),.im (rI Hi)],.vec 1 (ims ((T.take p.1.1).map Ab.encI)) p.1.2.1 p.1.2.2]⟩) (fun p=>x.links.length - p.1.1) ⟨(0,0,true),by simp⟩ (Weak.of_keep [1,2,5,6,7,8,10,16,33,34,35,109,110,111] (by simp)) ?_
   rintro ⟨⟨i,gn,nl⟩,hi⟩
   simp only at hi
   simp only [iv,rI,bv,u8v]
   generalize hK:(if x.lo≤Lo∧Hi≤x.hi then (2:Int) else if Hi < x.lo∨x.hi < Lo then 0 else 1)=K at *
   by_cases hlti:i < x.links.length
   ·have hwi:IntKind.i64.wrap ((i:Int) + 1)=((i + 1:Nat):Int):=i64w (by omega) (by omega)
    obtain ⟨y,hy⟩:∃ y,x.links[i]?=some y:=⟨x.links[i],by simp [hlti]⟩
    have hye:∀ h,x.links[i]'h=y:=fun h=>by rw [List.getElem?_eq_getElem h] at hy;exact Option.some.inj hy
    have hym:=List.mem_of_getElem? hy
    have hd:=dimAt_ok hOk hxm hym
    have hlk:=hOk.link x hxm y hym
    have hlt2:=hOk.lets
    simp only [lettersI,Bool.and_eq_true,decide_eq_true_eq] at hlt2
    have c12:=sizeOf_c (G:=G) c y (dimAt c y) (by have:=hsm.1.1;omega) hlk.1 hlt2.1 hlk.2.1 hd.2
    simp only [linkv,encLink,rI,List.map_cons,List.map_nil] at c12
    have hTi:=hTg i _ (hdat i y hy)
    have hb3:=hbd i _ (hdat i y hy)
    have c13:=choose6_c (G:=G) b (8 * k + i) (by omega) hu
    have hch:=chooseU_in hu (8 * k + i)
    have hiT:i < T.length:=by omega
    have htk:T.take (i + 1)=T.take i ++ [pickS b (8 * k + i) (dimAt c y)]:=by
     rw [List.take_succ_eq_append_getElem hiT]
     congr 2
     rw [List.getElem?_eq_getElem hiT] at hTi
     exact Option.some.inj hTi
    have hpi:=pickS_in b (8 * k + i) hb3.1
    rw [pickS] at htk hpi
    generalize dimAt c y=d at *
    generalize chooseU b (8 * k + i)=q at *
    have hcast:((8 * k + i:Nat):Int)=8 * (k:Int) + (i:Int):=by omega
    rw [hcast] at c13
    have v1:IntKind.i64.wrap (8 * (k:Int))=8 * (k:Int):=i64w (by omega) (by omega)
    have v2:IntKind.i64.wrap (8 * (k:Int) + (i:Int))=8 * (k:Int) + (i:Int):=i64w (by omega) (by omega)
    have v3:IntKind.i64.wrap (d.upper - d.lower)=d.upper - d.lower:=i64w (by omega) (by omega)
    have v4:IntKind.i64.wrap (d.upper - d.lower + 1)=d.upper - d.lower + 1:=i64w (by omega) (by omega)
    have hm:q.tmod (d.upper - d.lower + 1)=q % (d.upper - d.lower + 1):=Int.tmod_eq_emod_of_nonneg hch.1
    have hz:¬ d.upper - d.lower + 1=0:=by omega
    generalize q % (d.upper - d.lower + 1)=m at *
    have v5:IntKind.i64.wrap m=m:=i64w (by omega) (by omega)
    have v6:IntKind.i64.wrap (d.lower + m)=d.lower + m:=i64w (by omega) (by omega)
    have hmin:min i T.length=i:=by omega
    have htk2:(ims ((T.map Ab.encI).take i)).take i=ims ((T.map Ab.encI).take i):=List.take_of_length_le (by simp [ims_length];omega)
    have hcp1:(i + 1) * 8≤140737488355328:=by omega
    have hcp2:i≤9223372036854775806:=by omega
    have happ:ims ((T.map Ab.encI).take i) ++ [[DC.im (.raw (.int .i64 (d.lower + m)))]]=ims ((T.map Ab.encI).take i ++ [[.raw (.int .i64 (d.lower + m))]]):=by simp [ims]
    have htm:(T.map Ab.encI).take (i + 1)=(T.map Ab.encI).take i ++ [[.raw (.int .i64 (d.lower + m))]]:=by
     rw [← List.map_take,htk,List.map_append,List.map_take];rfl
    have happ2:ims ((T.map Ab.encI).take i) ++ [[DC.im (.raw (.int .i64 (d.lower + m)))]]=ims ((T.map Ab.encI).take (i + 1)):=by rw [htm,happ]
    clear htm happ
    have hs:True:=trivial
    repeat' first|(with_reducible first|refine q01 ?_|refine q04 ?_|refine q11 ?_|refine q12 ?_|refine q14 ?_)|(refine CallE.pure (c12) ?_;try simp -dsimp [hmin,htk2,hcp1,hcp2,hlti,hy,hye,hwi,v1,v2,v3,v4,v5,v6,hm,hz,hs])|(refine QCall_pure (c13) ?_;try simp -dsimp [hmin,htk2,hcp1,hcp2,hlti,hy,hye,hwi,v1,v2,v3,v4,v5,v6,hm,hz,hs])|(refine DT_regionM (id:=18) (nt:=205) 18 [0,1,2,4,5,6,7,8,9,10,11,12,13,14,15,16,17,18,19,20,21,22,30,33,34,35,36,107,109,110,111,112,202] mixed rfl (by kernel_rfl) ?_;simp -dsimp [hmin,htk2,hcp1,hcp2,hlti,hy,hye,hwi,v1,v2,v3,v4,v5,v6,hm,hz,hs])|(with_reducible refine DT_regionE [0,1,2,4,5,6,7,8,9,10,11,12,13,14,15,16,17,18,19,20,21,22,30,33,34,35,36,107,109,110,111,112,202] ?_;simp -dsimp [hmin,htk2,hcp1,hcp2,hlti,hy,hye,hwi,v1,v2,v3,v4,v5,v6,hm,hz,hs])|(refine DT_cond rfl (fun h=>?_) (fun h=>?_)<;>(try simp only [nrm] at h)<;>(try exact Bool.noConfusion h))
    all_goals try simp -dsimp [hmin,htk2,hcp1,hcp2,hlti,hy,hye,hwi,v1,v2,v3,v4,v5,v6,hm,hz,hs]
    all_goals try clear hs
    all_goals exact At.round ⟨(i + 1,gn + 1,false),by omega⟩ (by simp;omega) (Weak.of_drop [1,2,5,6,7,8,10,16,33,34,35,109,110,111] 5 (by simp) (by simp) (by simp [happ2]))
   ·obtain rfl:i=x.links.length:=by omega
    simp only [← hTxl,List.take_length]
    have hs:True:=trivial
    repeat' first|(with_reducible first|refine q01 ?_|refine q02 ?_|refine q03 ?_|refine q04 ?_|refine q05 ?_|refine q06 ?_|refine q11 ?_|refine q14 ?_|refine q16 ?_|refine q17 ?_)|(with_reducible refine At.fn_ret (by simp -dsimp [hlti,hs];exact rfl) ?_)|(refine CallE.thaw (c11) ?_ ?_ ?_;(focus (simp;done));(focus (simp;done));try simp -dsimp [hlti,hs])|(with_reducible refine DT_regionE [0,1,2,4,5,6,7,8,9,10,11,12,13,14,15,16,17,18,19,20,21,22,30,33,34,35,36,107,109,110,111,112,202] ?_;simp -dsimp [hlti,hs])|(refine DT_cond rfl (fun h=>?_) (fun h=>?_)<;>(try simp only [nrm] at h)<;>(try exact Bool.noConfusion h))|(with_reducible refine GStop_split ?_ ?_<;>intro h<;>have h0:=h<;>(try simp only [nrm] at h)<;>(try exact Bool.noConfusion h)<;>have h2:=h<;>(try simp at h2)<;>(replace hs:=And.intro h0 (And.intro h (And.intro h2 hs)))<;>simp -dsimp [h0,h,h2,hlti,hs])
    all_goals try simp -dsimp [hlti,hs]
    all_goals try clear hs
    all_goals first
     | exact At.round ⟨k + 1,by omega⟩ (by simp;omega) (Weak.of_drop [1,2,5,33,34,35] 1 (by simp) (by simp) (by simp [hw]))
     | (exfalso;split at hK<;>(try split at hK)<;>omega)
  ·obtain rfl:k=c.loops.length:=by omega
   have hs:True:=trivial
   repeat' first|(with_reducible first|refine q01 ?_|refine q03 ?_|refine q06 ?_|refine q11 ?_|refine q16 ?_|refine q17 ?_)|(with_reducible refine At.fn_ret (by simp -dsimp [hlt,hs];exact rfl) ?_)|(with_reducible refine DT_regionE [0,1,2,4,5,6,7,8,9,10,11,12,13,14,15,16,17,18,19,20,21,22,30,33,34,35,36,107,109,110,111,112,202] ?_;simp -dsimp [hlt,hs])|(refine DT_cond rfl (fun h=>?_) (fun h=>?_)<;>(try simp only [nrm] at h)<;>(try exact Bool.noConfusion h))
   all_goals try simp -dsimp [hlt,hs]
   all_goals try clear hs
end Go.Proofs
