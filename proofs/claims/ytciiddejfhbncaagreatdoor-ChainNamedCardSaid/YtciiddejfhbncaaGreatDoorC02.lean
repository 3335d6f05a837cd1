/- Part 30 of the proofs: laws and walks that hold without conditions beyond those that each theorem names. -/
import Derived.Test.YtciiddejfhbncaaGreatDoorA28
set_option linter.all false
set_option linter.deprecated false
namespace Go.Proofs
open Go Go.Ab
theorem wrongTo_split (c:Chains) (so:Spot→Bool) (g:Int) {k n:Nat} (h:k≤n):wrongTo c so g n=wrongTo c so g k ++ (List.range' k (n - k)).filter (badT c so g):=by
 rw [wrongTo,wrongTo,← List.filter_append]
 congr 1
 rw [List.range_eq_range',List.range_eq_range',show n=k + (n - k) by omega,← List.range'_append]
 simp
theorem wrongTo_here {c:Chains} {so:Spot→Bool} {g:Int} {k n:Nat} (h:k < n):(wrongTo c so g n)[(wrongTo c so g k).length]?=((List.range' k (n - k)).filter (badT c so g))[0]?:=by
 rw [wrongTo_split c so g (Nat.le_of_lt h),List.getElem?_append_right (Nat.le_refl _),Nat.sub_self]
theorem wrongTo_bad {c:Chains} {so:Spot→Bool} {g:Int} {k n:Nat} (h:k < n) (hb:badT c so g k=true):(wrongTo c so g n)[(wrongTo c so g k).length]?=some k:=by
 rw [wrongTo_here h,show n - k=(n - k - 1) + 1 by omega,List.range'_succ,List.filter_cons,if_pos hb];rfl
theorem wrongTo_good {c:Chains} {so:Spot→Bool} {g:Int} {k n j:Nat} (h:k < n) (hb:badT c so g k=false) (hj:(wrongTo c so g n)[(wrongTo c so g k).length]?=some j):j≠k:=by
 rw [wrongTo_here h,show n - k=(n - k - 1) + 1 by omega,List.range'_succ,List.filter_cons,if_neg (by simp [hb])] at hj
 have:=List.mem_of_getElem? hj
 simp only [List.mem_filter,List.mem_range'_1] at this
 omega
theorem wrongTo_len {c:Chains} {so:Spot→Bool} {g:Int} {k:Nat}:(wrongTo c so g (k + 1)).length=(wrongTo c so g k).length + if badT c so g k then 1 else 0:=by
 rw [wrongTo_succ,List.length_append];split<;>simp
theorem wrongTo_le (c:Chains) (so:Spot→Bool) (g:Int) (k:Nat):(wrongTo c so g k).length≤k:=by
 rw [wrongTo]
 have:=List.length_filter_le (badT c so g) (List.range k)
 simpa using this
theorem apart_sum:∀ (l:List Link) (ds:List Dim),ds.length=l.length→(ds.map fun d=>d.upper - d.lower).sum=endS l ds true - endS l ds false
 | [],[],_=>by simp [endS]
 | [],d :: ds,h=>by simp at h
 | x :: l,[],h=>by simp at h
 | x :: l,d :: ds,h=>by
   have ih:=apart_sum l ds (by simpa using h)
   rw [endS_sum,endS_sum] at ih ⊢
   simp only [endsL,List.zip_cons_cons,List.map_cons,List.sum_cons,sumZ] at ih ⊢
   rw [ih]
   generalize sumZ l ((l.zip ds).map fun p=>endN false p.1 p.2)=A at *
   generalize sumZ l ((l.zip ds).map fun p=>endN true p.1 p.2)=B at *
   unfold sgn endN
   cases x.back<;>simp<;>omega
theorem sum_take_succ {l:List Int} {i:Nat} {n:Int} (h:l[i]?=some n):(l.take (i + 1)).sum=(l.take i).sum + n:=by
 rw [List.take_add_one,h];simp
theorem sum_take_bound {l:List Int} {B:Int} (hB:0≤B) (hl:∀ n∈l,0≤n∧n≤B):∀ i:Nat,0≤(l.take i).sum∧(l.take i).sum≤B * i
 | 0=>by simp
 | i + 1=>by
   have ih:=sum_take_bound hB hl i
   have h1:B * ((i + 1:Nat):Int)=B * i + B:=by rw [Int.natCast_add,Int.mul_add];simp
   cases h:l[i]? with
   | none =>
     rw [List.take_add_one,h]
     simp only [Option.toList_none,List.append_nil]
     omega
   | some n =>
     rw [sum_take_succ h]
     have hn:=hl n (List.mem_of_getElem? h)
     omega
end Go.Proofs
namespace Go.Proofs
open Go Go.Ab
set_option linter.unusedSimpArgs false
variable {G:Nat→Option (List IC)}
attribute [simp] permL reO cutL cutE gones noLoop nilV nilX ZK
set_option maxHeartbeats 8000000 in
set_option maxRecDepth 10000 in
theorem chainNamed_c (c:Chains) (u1 u2 u3:IC) (hG:sheetG G) (hC:chainG G) (hU:unitG G u1 u2 u3) (hSF:SortFOk G) (hSG:SortGOk G) (hk:KindOk c.reg) (objs:List DObj):DCall Tryz.prog G 5 [chv c] objs (fun rr objs'=>rr=bv true∧objs'=objs):=by
 refine DCall.frame ?_ (by simp) (by simp) objs
 refine DCall_intro Tryz.func5 rfl Tryz.ntmps5 (by simp) rfl ?_
 try simp only [chv]
 have c1:=alive_c (G:=G) u1 u2 u3 hG hC hU hSF hSG
 have c2:=ready6_c (G:=G) c hk
 cases hq:readyC c
 ·rw [hq] at c2
  have hs:True:=trivial
  repeat' first|(with_reducible first|refine q01 ?_|refine q02 ?_|refine q11 ?_|refine q17 ?_)|(with_reducible refine At.fn_ret (by simp -dsimp [hs];exact rfl) ?_)|(refine CallE.pure (c1) ?_;try simp -dsimp [hs])|(refine CallE.pure (c2) ?_;try simp -dsimp [hs])|(with_reducible refine DT_regionE [0,1,2,3,4,5,6,7,8,9,10,11,12,13,14,15,16,17,19,20,21,29,37,39,40,41,42,105,106,107,108,109,124,137,164] ?_;simp -dsimp [hs])|(refine DT_cond rfl (fun h=>?_) (fun h=>?_)<;>(try simp only [nrm] at h)<;>(try exact Bool.noConfusion h))
  all_goals try simp -dsimp [hs]
  all_goals try clear hs
 ·rw [hq] at c2
  have hq':=hq
  simp only [readyC,Bool.and_eq_true,decide_eq_true_eq] at hq'
  obtain ⟨hq1,hq2⟩:=hq'
  have hg:=smallB_iff.1 hq1
  have hsm:SmallC c:=⟨⟨hg.1.1,fun x hx=>⟨(hk x hx).1,(hk x hx).2,(hg.1.2 x hx).1,(hg.1.2 x hx).2⟩⟩,hg.2⟩
  have hOk:=okC hq2
  have c0:=pWrong_c (G:=G) c hG hC hsm
  rw [hq2] at c0
  have hWe:wrongR c=(wrongTo c neverS 0 c.loops.length).map fun i:Nat=>(i:Int):=by rw [wrongR,if_pos hq2];rfl
  have hWl:(wrongR c).length=(wrongTo c neverS 0 c.loops.length).length:=by rw [hWe,List.length_map]
  have hWg:∀ i:Nat,(wrongR c)[i]?=((wrongTo c neverS 0 c.loops.length)[i]?).map fun i:Nat=>(i:Int):=fun i=>by rw [hWe,List.getElem?_map]
  clear hWe
  generalize wrongR c=W at *
  simp only [isv] at c0
  have hs:True:=trivial
  repeat' first|(with_reducible first|refine q01 ?_|refine q11 ?_|refine q12 ?_|refine q14 ?_)|(refine CallE.pure (c1) ?_;try simp -dsimp [hs])|(refine CallE.pure (c2) ?_;try simp -dsimp [hs])|(refine CallE.pure (c0) ?_;try simp -dsimp [hs])|(with_reducible refine DT_regionE [0,1,2,3,4,5,6,7,8,9,10,11,12,13,14,15,16,17,19,20,21,29,37,39,40,41,42,105,106,107,108,109,124,137,164] ?_;simp -dsimp [hs])|(refine DT_cond rfl (fun h=>?_) (fun h=>?_)<;>(try simp only [nrm] at h)<;>(try exact Bool.noConfusion h))
  all_goals try simp -dsimp [hs]
  all_goals try clear hs
  refine DT_loop (ι:={ k:Nat // k≤c.loops.length }) (fun k=>⟨173,[(1,.one (.ptr 0 0)),(3,bv true),(4,.one (.im (.sl (W.map Ab.encI)))),(6,iv ((wrongTo c neverS 0 k.1).length:Int)),(39,.one (.im (.sl (c.loops.map encLoop)))),(40,iv (c.loops.length:Int)),(41,iv (k.1:Int))],[.row [.im (.sl (c.reg.map encIssue)),.im (.sl (c.lets.map Ab.encI)),.im (rI c.of),.im (.sl (c.loops.map encLoop))]]⟩) (fun k=>c.loops.length - k.1) ⟨0,by omega⟩ (Weak.of_keep [1,3,4,6,39,40,41] (by simp [wrongTo])) ?_
  rintro ⟨k,hkl⟩
  simp only [iv,rI,bv]
  by_cases hlt:k < c.loops.length
  ·have hl6:=hOk.num
   have hw:IntKind.i64.wrap ((k:Int) + 1)=((k + 1:Nat):Int):=i64w (by omega) (by omega)
   obtain ⟨x,hx⟩:∃ x,c.loops[k]?=some x:=⟨c.loops[k],by simp [hlt]⟩
   have hxe:∀ h,c.loops[k]'h=x:=fun h=>by rw [List.getElem?_eq_getElem h] at hx;exact Option.some.inj hx
   have hxm:x∈c.loops:=List.mem_of_getElem? hx
   have hl8:=(hOk.gap x hxm).1
   have hlE:loopsE c (k:Int)=0:=by rw [loopsE,if_neg (by simp [hq2]),if_pos ⟨by omega,by omega⟩]
   have hLo:rLo c (k:Int)=endS x.links (sizesI c x) false:=by rw [rLo,if_pos hlE,loI];simp [hx]
   have hHi:rHi c (k:Int)=endS x.links (sizesI c x) true:=by rw [rHi,if_pos hlE,hiI];simp [hx]
   have hcl:closesK c (k:Int)=if x.lo≤rLo c k∧rHi c k≤x.hi then 2 else if rHi c k < x.lo∨x.hi < rLo c k then 0 else 1:=by rw [closesK,if_pos hlE,clK];simp [hx]
   have hlp:lpAt c (k:Int)=x:=by simp [lpAt,hx]
   have hwf:worstR c (k:Int) false=endsL x.links (sizesI c x) false:=by rw [worstR,if_pos hlE,hlp]
   have hwt:worstR c (k:Int) true=endsL x.links (sizesI c x) true:=by rw [worstR,if_pos hlE,hlp]
   have hws:sharesR c (k:Int)=(sizesI c x).map fun d=>d.upper - d.lower:=by rw [sharesR,if_pos hlE,hlp]
   have c4:=pCloses_c (G:=G) c k hG hC hsm okC
   have c5:=pWorst_c (G:=G) c k false hG hC hsm
   have c6:=pWorst_c (G:=G) c k true hG hC hsm
   have c3:=pShares_c (G:=G) c k hG hC hsm
   rw [hlE] at c3 c4 c5 c6
   rw [hwf] at c5
   rw [hwt] at c6
   rw [hws] at c3
   rw [hcl] at c4
   have hdsl:(sizesI c x).length=x.links.length:=by simp [sizesI]
   have hlen1:=endsL_len x.links (sizesI c x) false hdsl
   have hlen2:=endsL_len x.links (sizesI c x) true hdsl
   have hdok:∀ (i:Nat) (d:Dim),(sizesI c x)[i]?=some d→dimOk d=true:=fun i d h=>by
    simp only [sizesI,List.getElem?_map,Option.map_eq_some_iff] at h
    obtain ⟨y,hy,rfl⟩:=h
    exact (dimAt_ok hOk hxm (List.mem_of_getElem? hy)).1
   have hdat:∀ (i:Nat) (y:Link),x.links[i]?=some y→(sizesI c x)[i]?=some (dimAt c y):=fun i y h=>by simp [sizesI,h]
   have hbd:∀ (i:Nat) (d:Dim),(sizesI c x)[i]?=some d→d.lower≤d.upper∧0≤d.lower∧d.upper≤1000000000:=fun i d h=>by
    have h1:=hdok i d h
    rw [dimOk_iff] at h1
    omega
   have c7:=lawWithin_c (G:=G) c x _ hOk hsm hxm hlen1 (fun i y n hy hn=>ends_in _ _ _ i _ n (hdat i y hy) (hbd i _ (hdat i y hy)).1 hn)
   have c8:=lawWithin_c (G:=G) c x _ hOk hsm hxm hlen2 (fun i y n hy hn=>ends_in _ _ _ i _ n (hdat i y hy) (hbd i _ (hdat i y hy)).1 hn)
   have hin:∀ s:List Int,s.length=x.links.length→(∀ (i:Nat) (d:Dim) (n:Int),(sizesI c x)[i]?=some d→s[i]?=some n→d.lower≤n∧n≤d.upper)→∀ n∈s,-2000000000≤n∧n≤2000000000:=fun s hs h n hn=>by
    obtain ⟨i,hi⟩:=List.mem_iff_getElem?.1 hn
    have hil:=(List.getElem?_eq_some_iff.1 hi).1
    have hd:(sizesI c x)[i]?=some ((sizesI c x)[i]'(by omega)):=List.getElem?_eq_getElem _
    have h1:=h i _ n hd hi
    have h2:=hbd i _ hd
    omega
   have hn1:=hin _ hlen1 fun i d n hd hn=>ends_in _ _ _ i d n hd (hbd i d hd).1 hn
   have hn2:=hin _ hlen2 fun i d n hd hn=>ends_in _ _ _ i d n hd (hbd i d hd).1 hn
   have hL1:=sumTo_bound (l:=x.links) hn1 x.links.length
   have hL2:=sumTo_bound (l:=x.links) hn2 x.links.length
   have c9:=sum6_c (G:=G) x _ (by omega) hlen1 hn1
   have c10:=sum6_c (G:=G) x _ (by omega) hlen2 hn2
   rw [sumTo_all _ _ hlen1,← endS_sum,← hLo] at c9 hL1
   rw [sumTo_all _ _ hlen2,← endS_sum,← hHi] at c10 hL2
   have hS:=apart_sum x.links (sizesI c x) hdsl
   rw [← hLo,← hHi] at hS
   have hSl:((sizesI c x).map fun d=>d.upper - d.lower).length=x.links.length:=by simp [sizesI]
   have hSb:∀ n∈((sizesI c x).map fun d=>d.upper - d.lower),0≤n∧n≤1000000000:=fun n hn=>by
    obtain ⟨d,hd,rfl⟩:=List.mem_map.1 hn
    obtain ⟨i,hi⟩:=List.mem_iff_getElem?.1 hd
    have:=hbd i d hi
    omega
   have hle:rLo c (k:Int)≤rHi c (k:Int):=reach_le hlE okC
   have hcT:badT c neverS 0 k=!(decide (x.lo≤rLo c (k:Int)) && decide (rHi c (k:Int)≤x.hi)):=by
    rw [badT_at hlt,hxe hlt,closesT,loT,hiT,szT_never,← hLo,← hHi]
   generalize ((sizesI c x).map fun d=>d.upper - d.lower)=Sh at *
   generalize endsL x.links (sizesI c x) false=A1 at *
   generalize endsL x.links (sizesI c x) true=A2 at *
   generalize rLo c (k:Int)=Lo at *
   generalize rHi c (k:Int)=Hi at *
   simp only [refv,encLoop,rI,List.map_cons,List.map_nil] at c3 c7 c8 c9 c10
   have hSli:(Sh.length:Int)=(x.links.length:Int):=by omega
   have hs:True:=trivial
   repeat' first|(with_reducible first|refine q01 ?_|refine q11 ?_|refine q12 ?_|refine q14 ?_)|(refine CallE.pure (c3) ?_;try simp -dsimp [hlt,hx,hxe,hw,hSl,hSli,hs])|(refine CallE.pure (c4) ?_;try simp -dsimp [hlt,hx,hxe,hw,hSl,hSli,hs])|(refine CallE.pure (c5) ?_;try simp -dsimp [hlt,hx,hxe,hw,hSl,hSli,hs])|(refine CallE.pure (c6) ?_;try simp -dsimp [hlt,hx,hxe,hw,hSl,hSli,hs])|(refine CallE.pure (c7) ?_;try simp -dsimp [hlt,hx,hxe,hw,hSl,hSli,hs])|(refine CallE.pure (c8) ?_;try simp -dsimp [hlt,hx,hxe,hw,hSl,hSli,hs])|(with_reducible refine DT_regionE [0,1,2,3,4,5,6,7,8,9,10,11,12,13,14,15,16,17,19,20,21,29,37,39,40,41,42,105,106,107,108,109,124,137,164] ?_;simp -dsimp [hlt,hx,hxe,hw,hSl,hSli,hs])|(refine DT_cond rfl (fun h=>?_) (fun h=>?_)<;>(try simp only [nrm] at h)<;>(try exact Bool.noConfusion h))
   all_goals try simp -dsimp [hlt,hx,hxe,hw,hSl,hSli,hs]
   all_goals try clear hs
   refine DT_loop (ι:={ i:Nat // i≤x.links.length }) (fun i=>⟨173,[(1,.one (.ptr 0 0)),(3,bv true),(4,.one (.im (.sl (W.map Ab.encI)))),(6,iv ((wrongTo c neverS 0 k).length:Int)),(7,iv (k:Int)),(8,.one (.ptr 2 0)),(9,u8v (if x.lo≤Lo∧Hi≤x.hi then 2 else if Hi < x.lo∨x.hi < Lo then 0 else 1)),(11,.one (.im (.sl (A1.map Ab.encI)))),(13,.one (.im (.sl (A2.map Ab.encI)))),(17,iv (Sh.take i.1).sum),(39,.one (.im (.sl (c.loops.map encLoop)))),(40,iv (c.loops.length:Int)),(41,iv (k:Int)),(106,.one (.im (.sl (Sh.map Ab.encI)))),(107,iv (x.links.length:Int)),(108,iv (i.1:Int))],
    [.row [.im (.sl (c.reg.map encIssue)),.im (.sl (c.lets.map Ab.encI)),.im (rI c.of),.im (.sl (c.loops.map encLoop))],.vec 0 [] 0 true,.row [.im (.sl (x.links.map encLink)),.im (rI x.lo),.im (rI x.hi)]]⟩) (fun i=>x.links.length - i.1) ⟨0,by simp⟩ (Weak.of_keep [1,3,4,6,7,8,9,11,13,17,39,40,41,106,107,108] (by simp)) ?_
   rintro ⟨i,hi⟩
   simp only [iv,rI,bv,u8v]
   generalize hK:(if x.lo≤Lo∧Hi≤x.hi then (2:Int) else if Hi < x.lo∨x.hi < Lo then 0 else 1)=K at *
   by_cases hlti:i < x.links.length
   ·have hwi:IntKind.i64.wrap ((i:Int) + 1)=((i + 1:Nat):Int):=i64w (by omega) (by omega)
    obtain ⟨n,hn⟩:∃ n,Sh[i]?=some n:=⟨Sh[i]'(by omega),by rw [List.getElem?_eq_getElem]⟩
    have hne:∀ h,Sh[i]'h=n:=fun h=>by rw [List.getElem?_eq_getElem h] at hn;exact Option.some.inj hn
    have hs1:=sum_take_succ hn
    have hs2:=sum_take_bound (l:=Sh) (B:=1000000000) (by decide) hSb i
    have hs3:=hSb n (List.mem_of_getElem? hn)
    generalize hq0:(Sh.take i).sum=q at *
    have v1:IntKind.i64.wrap (q + n)=q + n:=i64w (by omega) (by omega)
    have hs:True:=trivial
    repeat' first|(with_reducible first|refine q01 ?_|refine q04 ?_|refine q11 ?_|refine q12 ?_|refine q14 ?_)|(with_reducible refine DT_regionE [0,1,2,3,4,5,6,7,8,9,10,11,12,13,14,15,16,17,19,20,21,29,37,39,40,41,42,105,106,107,108,109,124,137,164] ?_;simp -dsimp [hlti,hn,hne,hwi,v1,hs])|(refine DT_cond rfl (fun h=>?_) (fun h=>?_)<;>(try simp only [nrm] at h)<;>(try exact Bool.noConfusion h))
    all_goals try simp -dsimp [hlti,hn,hne,hwi,v1,hs]
    all_goals try clear hs
    all_goals exact At.round ⟨i + 1,by omega⟩ (by simp;omega) (Weak.of_drop [1,3,4,6,7,8,9,11,13,17,39,40,41,106,107,108] 3 (by simp) (by simp) (by simp [hs1]))
   ·obtain rfl:i=x.links.length:=by omega
    have hS':(Sh.take x.links.length).sum=Hi - Lo:=by rw [← hSl,List.take_length,hS]
    rw [hS']
    have v1:IntKind.i64.wrap (Hi - Lo)=Hi - Lo:=i64w (by omega) (by omega)
    have hal:=wrongTo_le c neverS 0 k
    have hwl:=wrongTo_len (c:=c) (so:=neverS) (g:=0) (k:=k)
    have hat:∀ m,W[(wrongTo c neverS 0 k).length]?=some m→(m=(k:Int)↔badT c neverS 0 k=true):=fun m hm=>by
     rw [hWg,Option.map_eq_some_iff] at hm
     obtain ⟨j,hj,rfl⟩:=hm
     cases hb:badT c neverS 0 k
     ·have:=wrongTo_good hlt hb hj
      simp;omega
     ·have:=wrongTo_bad (so:=neverS) (g:=0) hlt hb
      rw [hj] at this;cases this;simp
    have hin2:badT c neverS 0 k=true→(wrongTo c neverS 0 k).length < W.length:=fun hb=>by
     have:=wrongTo_bad (so:=neverS) (g:=0) hlt hb
     have:=lt_of_getElem? this
     omega
    generalize (wrongTo c neverS 0 k).length=a at *
    have v2:IntKind.i64.wrap ((a:Int) + 1)=((a + 1:Nat):Int):=i64w (by omega) (by omega)
    by_cases haW:a < W.length
    ·have haWi:(a:Int) < (W.length:Int):=by omega
     obtain ⟨m,hm⟩:∃ m,W[a]?=some m:=⟨W[a],by simp [haW]⟩
     have hme:∀ h,W[a]'h=m:=fun h=>by rw [List.getElem?_eq_getElem h] at hm;exact Option.some.inj hm
     have hat:=hat m hm
     cases hb:badT c neverS 0 k
     ·rw [hb] at hat hcT hwl
      have hmk:(m=(k:Int))=False:=by simpa using hat
      simp at hcT hwl
      have hK2:K=2:=by rw [← hK,if_pos hcT]
      subst hK2
      have n1:(Lo < x.lo)=False:=by simp;omega
      have n2:(x.hi < Hi)=False:=by simp;omega
      have hs:True:=trivial
      repeat' first|(with_reducible first|refine q01 ?_|refine q03 ?_|refine q04 ?_|refine q06 ?_|refine q11 ?_|refine q14 ?_|refine q16 ?_)|(refine QCall_pure (c9) ?_;try simp -dsimp [hlti,v1,v2,haW,haWi,hm,hme,hmk,n1,n2,hs])|(refine QCall_pure (c10) ?_;try simp -dsimp [hlti,v1,v2,haW,haWi,hm,hme,hmk,n1,n2,hs])|(refine DT_regionM (id:=23) (nt:=173) 9 [0,1,2,3,4,5,6,7,8,9,10,11,12,13,14,15,16,17,19,20,21,29,37,39,40,41,42,105,106,107,108,109,124,137,164] mixed rfl (by kernel_rfl) ?_;simp -dsimp [hlti,v1,v2,haW,haWi,hm,hme,hmk,n1,n2,hs])|(refine DT_regionM (id:=28) (nt:=173) 17 [0,1,2,3,4,5,6,7,8,9,10,11,12,13,14,15,16,17,19,20,21,29,37,39,40,41,42,105,106,107,108,109,124,137,164] mixed rfl (by kernel_rfl) ?_;simp -dsimp [hlti,v1,v2,haW,haWi,hm,hme,hmk,n1,n2,hs])|(with_reducible refine DT_regionE [0,1,2,3,4,5,6,7,8,9,10,11,12,13,14,15,16,17,19,20,21,29,37,39,40,41,42,105,106,107,108,109,124,137,164] ?_;simp -dsimp [hlti,v1,v2,haW,haWi,hm,hme,hmk,n1,n2,hs])|(refine DT_cond rfl (fun h=>?_) (fun h=>?_)<;>(try simp only [nrm] at h)<;>(try exact Bool.noConfusion h))
      all_goals try simp -dsimp [hlti,v1,v2,haW,haWi,hm,hme,hmk,n1,n2,hs]
      all_goals try clear hs
      all_goals exact At.round ⟨k + 1,by omega⟩ (by simp;omega) (Weak.of_drop [1,3,4,6,39,40,41] 1 (by simp) (by simp) (by simp [hw,hwl]))
     ·rw [hb] at hat hcT hwl
      have hmk:m=(k:Int):=by simpa using hat
      subst hmk
      simp at hcT hwl
      have hK2:¬ K=2:=by rw [← hK,if_neg (by omega)];split<;>simp
      have n1:(Lo < x.lo)∨(Lo < x.lo)=False∧x.hi < Hi:=by
       by_cases h:Lo < x.lo
       ·exact .inl h
       ·exact .inr ⟨eq_false h,by omega⟩
      rcases n1 with n1|⟨n1,n2⟩
      ·have hs:True:=trivial
       repeat' first|(with_reducible first|refine q01 ?_|refine q03 ?_|refine q04 ?_|refine q06 ?_|refine q11 ?_|refine q14 ?_|refine q16 ?_)|(refine QCall_pure (c9) ?_;try simp -dsimp [hlti,v1,v2,haW,haWi,hm,hme,n1,hK2,hs])|(refine QCall_pure (c10) ?_;try simp -dsimp [hlti,v1,v2,haW,haWi,hm,hme,n1,hK2,hs])|(refine DT_regionM (id:=23) (nt:=173) 9 [0,1,2,3,4,5,6,7,8,9,10,11,12,13,14,15,16,17,19,20,21,29,37,39,40,41,42,105,106,107,108,109,124,137,164] mixed rfl (by kernel_rfl) ?_;simp -dsimp [hlti,v1,v2,haW,haWi,hm,hme,n1,hK2,hs])|(refine DT_regionM (id:=28) (nt:=173) 17 [0,1,2,3,4,5,6,7,8,9,10,11,12,13,14,15,16,17,19,20,21,29,37,39,40,41,42,105,106,107,108,109,124,137,164] mixed rfl (by kernel_rfl) ?_;simp -dsimp [hlti,v1,v2,haW,haWi,hm,hme,n1,hK2,hs])|(with_reducible refine DT_regionE [0,1,2,3,4,5,6,7,8,9,10,11,12,13,14,15,16,17,19,20,21,29,37,39,40,41,42,105,106,107,108,109,124,137,164] ?_;simp -dsimp [hlti,v1,v2,haW,haWi,hm,hme,n1,hK2,hs])|(refine DT_cond rfl (fun h=>?_) (fun h=>?_)<;>(try simp only [nrm] at h)<;>(try exact Bool.noConfusion h))
       all_goals try simp -dsimp [hlti,v1,v2,haW,haWi,hm,hme,n1,hK2,hs]
       all_goals try clear hs
       all_goals exact At.round ⟨k + 1,by omega⟩ (by simp;omega) (Weak.of_drop [1,3,4,6,39,40,41] 1 (by simp) (by simp) (by simp [hw,hwl]))
      ·have hs:True:=trivial
       repeat' first|(with_reducible first|refine q01 ?_|refine q03 ?_|refine q04 ?_|refine q06 ?_|refine q11 ?_|refine q14 ?_|refine q16 ?_)|(refine QCall_pure (c9) ?_;try simp -dsimp [hlti,v1,v2,haW,haWi,hm,hme,n1,n2,hK2,hs])|(refine QCall_pure (c10) ?_;try simp -dsimp [hlti,v1,v2,haW,haWi,hm,hme,n1,n2,hK2,hs])|(refine DT_regionM (id:=23) (nt:=173) 9 [0,1,2,3,4,5,6,7,8,9,10,11,12,13,14,15,16,17,19,20,21,29,37,39,40,41,42,105,106,107,108,109,124,137,164] mixed rfl (by kernel_rfl) ?_;simp -dsimp [hlti,v1,v2,haW,haWi,hm,hme,n1,n2,hK2,hs])|(refine DT_regionM (id:=28) (nt:=173) 17 [0,1,2,3,4,5,6,7,8,9,10,11,12,13,14,15,16,17,19,20,21,29,37,39,40,41,42,105,106,107,108,109,124,137,164] mixed rfl (by kernel_rfl) ?_;simp -dsimp [hlti,v1,v2,haW,haWi,hm,hme,n1,n2,hK2,hs])|(with_reducible refine DT_regionE [0,1,2,3,4,5,6,7,8,9,10,11,12,13,14,15,16,17,19,20,21,29,37,39,40,41,42,105,106,107,108,109,124,137,164] ?_;simp -dsimp [hlti,v1,v2,haW,haWi,hm,hme,n1,n2,hK2,hs])|(refine DT_cond rfl (fun h=>?_) (fun h=>?_)<;>(try simp only [nrm] at h)<;>(try exact Bool.noConfusion h))
       all_goals try simp -dsimp [hlti,v1,v2,haW,haWi,hm,hme,n1,n2,hK2,hs]
       all_goals try clear hs
       all_goals exact At.round ⟨k + 1,by omega⟩ (by simp;omega) (Weak.of_drop [1,3,4,6,39,40,41] 1 (by simp) (by simp) (by simp [hw,hwl]))
    ·have haWi:¬ (a:Int) < (W.length:Int):=by omega
     have hb:badT c neverS 0 k=false:=by
      cases hb:badT c neverS 0 k
      ·rfl
      ·exact absurd (hin2 hb) haW
     rw [hb] at hcT hwl
     simp at hcT hwl
     have hK2:K=2:=by rw [← hK,if_pos hcT]
     subst hK2
     have n1:(Lo < x.lo)=False:=by simp;omega
     have n2:(x.hi < Hi)=False:=by simp;omega
     have hs:True:=trivial
     repeat' first|(with_reducible first|refine q01 ?_|refine q03 ?_|refine q04 ?_|refine q06 ?_|refine q11 ?_|refine q14 ?_|refine q16 ?_)|(refine QCall_pure (c9) ?_;try simp -dsimp [hlti,v1,v2,haW,haWi,n1,n2,hs])|(refine QCall_pure (c10) ?_;try simp -dsimp [hlti,v1,v2,haW,haWi,n1,n2,hs])|(refine DT_regionM (id:=23) (nt:=173) 9 [0,1,2,3,4,5,6,7,8,9,10,11,12,13,14,15,16,17,19,20,21,29,37,39,40,41,42,105,106,107,108,109,124,137,164] mixed rfl (by kernel_rfl) ?_;simp -dsimp [hlti,v1,v2,haW,haWi,n1,n2,hs])|(refine DT_regionM (id:=28) (nt:=173) 17 [0,1,2,3,4,5,6,7,8,9,10,11,12,13,14,15,16,17,19,20,21,29,37,39,40,41,42,105,106,107,108,109,124,137,164] mixed rfl (by kernel_rfl) ?_;simp -dsimp [hlti,v1,v2,haW,haWi,n1,n2,hs])|(with_reducible refine DT_regionE [0,1,2,3,4,5,6,7,8,9,10,11,12,13,14,15,16,17,19,20,21,29,37,39,40,41,42,105,106,107,108,109,124,137,164] ?_;simp -dsimp [hlti,v1,v2,haW,haWi,n1,n2,hs])|(refine DT_cond rfl (fun h=>?_) (fun h=>?_)<;>(try simp only [nrm] at h)<;>(try exact Bool.noConfusion h))
     all_goals try simp -dsimp [hlti,v1,v2,haW,haWi,n1,n2,hs]
     all_goals try clear hs
     all_goals exact At.round ⟨k + 1,by omega⟩ (by simp;omega) (Weak.of_drop [1,3,4,6,39,40,41] 1 (by simp) (by simp) (by simp [hw,hwl]))
  ·obtain rfl:k=c.loops.length:=by omega
   rw [← hWl]
   have hs:True:=trivial
   repeat' first|(with_reducible first|refine q01 ?_|refine q03 ?_|refine q06 ?_|refine q11 ?_|refine q16 ?_|refine q17 ?_)|(with_reducible refine At.fn_ret (by simp -dsimp [hlt,hs];exact rfl) ?_)|(with_reducible refine DT_regionE [0,1,2,3,4,5,6,7,8,9,10,11,12,13,14,15,16,17,19,20,21,29,37,39,40,41,42,105,106,107,108,109,124,137,164] ?_;simp -dsimp [hlt,hs])|(refine DT_cond rfl (fun h=>?_) (fun h=>?_)<;>(try simp only [nrm] at h)<;>(try exact Bool.noConfusion h))
   all_goals try simp -dsimp [hlt,hs]
   all_goals try clear hs
end Go.Proofs
