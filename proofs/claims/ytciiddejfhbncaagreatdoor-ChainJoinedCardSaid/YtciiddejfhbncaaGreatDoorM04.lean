/- Part 32 of the proofs: laws and walks that hold without conditions beyond those that each theorem names. -/
import Derived.Test.YtciiddejfhbncaaGreatDoorM02
import Derived.Test.YtciiddejfhbncaaGreatDoorM03
set_option linter.all false
set_option linter.deprecated false
namespace Go.Proofs
open Go Go.Ab
set_option linter.unusedSimpArgs false
variable {G:Nat→Option (List IC)}
attribute [simp] permL reO cutL cutE gones noLoop nilV nilX ZK
set_option maxHeartbeats 1000000 in
theorem twin6_c (c:Chains) (hs:SmallG c) (objs:List DObj):DCall Tryz.prog G 16 [chv c] objs (fun rr objs'=>rr=chv c∧objs'=objs):=by
 refine DCall.frame ?_ (by simp) (by simp) objs
 refine DCall_intro Tryz.func16 rfl Tryz.ntmps16 (by simp) rfl ?_
 try simp only [chv]
 have c1:=twin_c (G:=G) c.reg hs.1
 have hl:=hs.2.2.1
 have hl2:=hs.2.1
 have hs:True:=trivial
 repeat' first|(with_reducible first|refine q01 ?_|refine q11 ?_|refine q12 ?_|refine And.intro (by omega) ?_)|(refine QCall_pure (c1) ?_;try simp -dsimp [hs])|(refine DT_regionXn (id:=1) (nt:=43) 11 [] [0,1,2,3,4,5,6,7,8,9,10,11,12,13,14,19] [0,1,2,3,4,19] mixed rfl (by kernel_rfl) ?_;simp -dsimp [hs])|(with_reducible refine DT_regionE [0,1,2,3,4,19] ?_;simp -dsimp [hs])
 all_goals try simp -dsimp [hs]
 all_goals try clear hs
 refine DT_weak (Weak.nilCell 5 3 rfl rfl) ?_
 refine DT_loop (ι:={ p:Nat×Nat×Nat×Bool // p.1≤c.loops.length∧(p.2.2.1=3∨p.2.2.2=true) }) (fun p=>⟨43,[(1,.one (.ptr 0 0)),(2,.one (.ptr 4 0)),(3,.one (.ptr 5 0)),(4,iv (p.1.1:Int))],[.row ((encChains c).map .im),.vec 0 [] 0 true,.vec 0 [] 0 true,.vec 0 [] 0 true,.row [.vec 1 0 0 0,.vec 2 0 0 0,.im (rI 0),.vec 3 0 0 0],.row [.im (.sl (c.reg.map encIssue)),.im (.sl (c.lets.map Ab.encI)),.im (rI c.of),.vec 6 p.1.2.1 0 p.1.1],.vec p.1.2.2.1 (ims ((c.loops.take p.1.1).map encLoop)) p.1.2.1 p.1.2.2.2]⟩) (fun p=>c.loops.length - p.1.1) ⟨(0,0,0,true),by simp⟩ (Weak.of_keep [1,2,3,4] (by simp)) ?_
 rintro ⟨⟨k,g,sz,nl⟩,hk,hz⟩
 simp only at hk hz
 simp only [iv]
 have htk:(ims ((c.loops.map encLoop).take k)).take k=ims ((c.loops.map encLoop).take k):=List.take_of_length_le (by simp [ims_length];omega)
 by_cases hlt:k < c.loops.length
 ·have hx:c.loops[k]?=some c.loops[k]:=by simp [hlt]
  have hw:IntKind.i64.wrap ((k:Int) + 1)=((k + 1:Nat):Int):=i64w (by omega) (by omega)
  have hmin:min k c.loops.length=k:=Nat.min_eq_left (by omega)
  have hln:=hs.2.2.2 c.loops[k] (List.getElem_mem hlt)
  have hsn:(c.loops.map encLoop).take (k + 1)=(c.loops.map encLoop).take k ++ [encLoop c.loops[k]]:=by
   rw [List.take_succ];simp [hx]
  have hs:True:=trivial
  repeat' first|(with_reducible first|refine q01 ?_|refine q04 ?_|refine q11 ?_|refine q12 ?_|refine q14 ?_|refine And.intro (by omega) ?_)|(refine DT_regionM (id:=5) (nt:=43) 18 [0,1,2,3,4,19] mixed rfl (by kernel_rfl) ?_;simp -dsimp [hx,hw,hlt,hz,hmin,hs])|(with_reducible refine DT_regionE [0,1,2,3,4,19] ?_;simp -dsimp [hx,hw,hlt,hz,hmin,hs])|(refine DT_cond rfl (fun h=>?_) (fun h=>?_)<;>(try simp only [nrm] at h)<;>(try exact Bool.noConfusion h))
  all_goals try simp -dsimp [hx,hw,hlt,hz,hmin,hs]
  all_goals try clear hs
  all_goals try omega
  exact At.round ⟨(k + 1,g + 1,3,false),by simp;omega⟩ (by simp;omega) (Weak.of_drop [1,2,3,4] 7 (by simp) (by simp) (by simp [hsn,htk,ims_append]))
 ·have hkl:k=c.loops.length:=by omega
  subst hkl
  have hall:(c.loops.map encLoop).take c.loops.length=c.loops.map encLoop:=List.take_of_length_le (by simp)
  rw [hall] at htk
  have hs:True:=trivial
  repeat' first|(with_reducible first|refine q01 ?_|refine q03 ?_|refine q06 ?_|refine q11 ?_|refine q16 ?_|refine q17 ?_)|(with_reducible refine At.fn_ret (by simp -dsimp [hall,htk,hs];exact rfl) ?_)|(with_reducible refine DT_regionE [0,1,2,3,4,19] ?_;simp -dsimp [hall,htk,hs])|(refine DT_cond rfl (fun h=>?_) (fun h=>?_)<;>(try simp only [nrm] at h)<;>(try exact Bool.noConfusion h))
  all_goals try simp -dsimp [hall,htk,hs]
  all_goals try clear hs
theorem DT_freeze5 (i:Nat) {P:Program} {nt:Nat} {tmps:List (Nat×DV)} {o0 o1 o2 o3 o4 o5:DObj} {os:List DObj} {ops:Array Oper} {b:Bool} {Q:Exit→DS→Prop} (h:DT P G ⟨0,none⟩ (Code.region i ops b) (DS.drop ⟨nt,tmps,o0 :: o1 :: o2 :: o3 :: o4 :: o5 :: os⟩ 5) Q):DT P G ⟨0,none⟩ (Code.region i ops b) ⟨nt,tmps,o0 :: o1 :: o2 :: o3 :: o4 :: o5 :: os⟩ Q:=
 DT_weak (Weak.drop (by simp) (Nat.zero_le _)) h
set_option maxHeartbeats 8000000 in
set_option maxRecDepth 10000 in
theorem chainJoined_c (c:Chains) (one two:Nat) (u1 u2 u3:IC) (hG:sheetG G) (hC:chainG G) (hU:unitG G u1 u2 u3) (hSF:SortFOk G) (hSG:SortGOk G) (hk:KindOk c.reg) (ho1:one < 256) (ho2:two < 256) (objs:List DObj):DCall Tryz.prog G 10 [chv c,u8v (one:Int),u8v (two:Int)] objs (fun rr objs'=>rr=bv true∧objs'=objs):=by
 refine DCall.frame ?_ (by simp) (by simp) objs
 refine DCall_intro Tryz.func10 rfl Tryz.ntmps10 (by simp) rfl ?_
 try simp only [chv,u8v,u8v]
 have c1:=alive_c (G:=G) u1 u2 u3 hG hC hU hSF hSG
 have c2:=ready6_c (G:=G) c hk
 cases hq:readyC c
 ·rw [hq] at c2
  have hs:True:=trivial
  repeat' first|(with_reducible first|refine q01 ?_|refine q02 ?_|refine q11 ?_|refine q17 ?_)|(with_reducible refine At.fn_ret (by simp -dsimp [hs];exact rfl) ?_)|(refine CallE.pure (c1) ?_;try simp -dsimp [hs])|(refine CallE.pure (c2) ?_;try simp -dsimp [hs])|(with_reducible refine DT_regionE [0,1,2,3,6,7,8,9,10,11,12,13,14,15,16,17,18,19,20,21,22,23,31,78] ?_;simp -dsimp [hs])|(refine DT_cond rfl (fun h=>?_) (fun h=>?_)<;>(try simp only [nrm] at h)<;>(try exact Bool.noConfusion h))
  all_goals try simp -dsimp [hs]
  all_goals try clear hs
 ·rw [hq] at c2
  have hq':=hq
  simp only [readyC,Bool.and_eq_true,decide_eq_true_eq] at hq'
  obtain ⟨hq1,hq2⟩:=hq'
  have hg:=smallB_iff.1 hq1
  have hsm:SmallC c:=⟨⟨hg.1.1,fun x hx=>⟨(hk x hx).1,(hk x hx).2,(hg.1.2 x hx).1,(hg.1.2 x hx).2⟩⟩,hg.2⟩
  have hOk:=okC hq2
  have hl6:=hOk.num
  have c3:=twin6_c (G:=G) c hg
  have hnz:(c.loops=[])=False:=eq_false fun h=>by rw [h] at hl6;simp at hl6
  have hal:one % c.loops.length < c.loops.length:=Nat.mod_lt _ (by omega)
  have hbl:two % c.loops.length < c.loops.length:=Nat.mod_lt _ (by omega)
  have hma:(one:Int).tmod (c.loops.length:Int)=((one % c.loops.length:Nat):Int):=by rw [Int.tmod_eq_emod_of_nonneg (by omega)];omega
  have hmb:(two:Int).tmod (c.loops.length:Int)=((two % c.loops.length:Nat):Int):=by rw [Int.tmod_eq_emod_of_nonneg (by omega)];omega
  have v1:IntKind.i64.wrap (one:Int)=(one:Int):=i64w (by omega) (by omega)
  have v2:IntKind.i64.wrap (two:Int)=(two:Int):=i64w (by omega) (by omega)
  generalize one % c.loops.length=a at *
  generalize two % c.loops.length=b at *
  have v3:IntKind.i64.wrap (a:Int)=(a:Int):=i64w (by omega) (by omega)
  have v4:IntKind.i64.wrap (b:Int)=(b:Int):=i64w (by omega) (by omega)
  obtain ⟨x,hx⟩:∃ x,c.loops[a]?=some x:=⟨c.loops[a],by simp [hal]⟩
  have hxe:∀ h,c.loops[a]'h=x:=fun h=>by rw [List.getElem?_eq_getElem h] at hx;exact Option.some.inj hx
  obtain ⟨y,hy⟩:∃ y,c.loops[b]?=some y:=⟨c.loops[b],by simp [hbl]⟩
  have hye:∀ h,c.loops[b]'h=y:=fun h=>by rw [List.getElem?_eq_getElem h] at hy;exact Option.some.inj hy
  have hxm:=List.mem_of_getElem? hx
  have hym:=List.mem_of_getElem? hy
  have hxl:=(hOk.gap x hxm).1
  have hyl:=(hOk.gap y hym).1
  have hkJ:KindOk (joinC c x y).reg:=hk
  have c4:=ready6_c (G:=G) (joinC c x y) hkJ
  have hJv:chv (joinC c x y)=.agg [.im (.sl (c.reg.map encIssue)),.im (.sl (c.lets.map Ab.encI)),.im (rI c.of),.im (.sl [[.sl ((x.links ++ y.links).map encLink),.raw (.int .i64 x.lo),.raw (.int .i64 x.hi)]])]:=rfl
  have hlEa:loopsE c (a:Int)=0:=by rw [loopsE,if_neg (by simp [hq2]),if_pos ⟨by omega,by omega⟩]
  have hlEb:loopsE c (b:Int)=0:=by rw [loopsE,if_neg (by simp [hq2]),if_pos ⟨by omega,by omega⟩]
  have hims:ims (x.links.map encLink) ++ ims (y.links.map encLink)=ims ((x.links ++ y.links).map encLink):=by simp [ims]
  have hLl:x.links.length + y.links.length=(x.links ++ y.links).length:=by simp
  cases hr:readyC (joinC c x y)
  ·rw [hr,hJv] at c4
   generalize x.links ++ y.links=L at *
   simp only [rI] at c4
   have hs:True:=trivial
   repeat' first|(with_reducible first|refine q01 ?_|refine q02 ?_|refine q11 ?_|refine q14 ?_|refine q17 ?_|refine And.intro (by omega) ?_)|(with_reducible refine At.fn_ret (by simp -dsimp [v1,v2,v3,v4,hma,hmb,hnz,hx,hxe,hal,hy,hye,hbl,hims,hLl,hs];exact rfl) ?_)|(refine CallE.pure (c1) ?_;try simp -dsimp [v1,v2,v3,v4,hma,hmb,hnz,hx,hxe,hal,hy,hye,hbl,hims,hLl,hs])|(refine CallE.pure (c2) ?_;try simp -dsimp [v1,v2,v3,v4,hma,hmb,hnz,hx,hxe,hal,hy,hye,hbl,hims,hLl,hs])|(refine CallE.pure (c3) ?_;try simp -dsimp [v1,v2,v3,v4,hma,hmb,hnz,hx,hxe,hal,hy,hye,hbl,hims,hLl,hs])|(refine DT_freeze5 7 ?_;try simp -dsimp [v1,v2,v3,v4,hma,hmb,hnz,hx,hxe,hal,hy,hye,hbl,hims,hLl,hs])|(refine DT_freezeN 8 ?_;try simp -dsimp [v1,v2,v3,v4,hma,hmb,hnz,hx,hxe,hal,hy,hye,hbl,hims,hLl,hs])|(refine CallE.pure (c4) ?_;try simp -dsimp [v1,v2,v3,v4,hma,hmb,hnz,hx,hxe,hal,hy,hye,hbl,hims,hLl,hs])|(refine DT_regionS (id:=7) (nt:=163) 14 [0,1,2,3,6,7,8,9,10,11,12,13,14,15,16,17,18,19,20,21,22,23,31,78] mixed rfl (by kernel_rfl) ?_;simp -dsimp [v1,v2,v3,v4,hma,hmb,hnz,hx,hxe,hal,hy,hye,hbl,hims,hLl,hs])|(refine DT_regionZ (id:=6) (nt:=163) [1,2,3,4,5,6,8,9,10,11,12,13,0,7,14,15] 12 [([0,1,2,3,4,5,6,7,8,9,10,11],[0,1,2,3,6,7,8,9,10,11,12,13,14,15,16,17,18,19,20,21,22,23,31,78]),([6,7,8,9,10,11],[0,1,2,3,6,7,8,9,10,11,12,13,14,15,16,17,18,19,20,21,22,23,31,47,53,78])] [0,1,2,3,6,7,8,9,10,11,12,13,14,15,16,17,18,19,20,21,22,23,31,78] mixed rfl (by kernel_rfl) (by kernel_rfl) ?_;simp -dsimp [v1,v2,v3,v4,hma,hmb,hnz,hx,hxe,hal,hy,hye,hbl,hims,hLl,hs])|(refine DT_regionM (id:=4) (nt:=163) 14 [0,1,2,3,6,7,8,9,10,11,12,13,14,15,16,17,18,19,20,21,22,23,31,78] mixed rfl (by kernel_rfl) ?_;simp -dsimp [v1,v2,v3,v4,hma,hmb,hnz,hx,hxe,hal,hy,hye,hbl,hims,hLl,hs])|(with_reducible refine DT_regionE [0,1,2,3,6,7,8,9,10,11,12,13,14,15,16,17,18,19,20,21,22,23,31,78] ?_;simp -dsimp [v1,v2,v3,v4,hma,hmb,hnz,hx,hxe,hal,hy,hye,hbl,hims,hLl,hs])|(refine DT_cond rfl (fun h=>?_) (fun h=>?_)<;>(try simp only [nrm] at h)<;>(try exact Bool.noConfusion h))
   all_goals try simp -dsimp [v1,v2,v3,v4,hma,hmb,hnz,hx,hxe,hal,hy,hye,hbl,hims,hLl,hs]
   all_goals try clear hs
  ·have hr':=hr
   simp only [readyC,Bool.and_eq_true,decide_eq_true_eq] at hr'
   have hgJ:=smallB_iff.1 hr'.1
   have hsJ:SmallC (joinC c x y):=⟨hsm.1,hsm.2.1,hgJ.2.2⟩
   obtain ⟨j1,j2,j3,j4⟩:=join_all hr'.2
   have c5:=pReach_c (G:=G) c a hG hC hsm okC
   have c6:=pReach_c (G:=G) c b hG hC hsm okC
   have c7:=pReach_c (G:=G) (joinC c x y) 0 hG hC hsJ okC
   have c8:=pWorst_c (G:=G) c a true hG hC hsm
   have c9:=pWorst_c (G:=G) c b true hG hC hsm
   have c10:=pWorst_c (G:=G) (joinC c x y) 0 true hG hC hsJ
   have hLoa:rLo c (a:Int)=endS x.links (sizesI c x) false:=by rw [rLo,if_pos hlEa,loI];simp [hx]
   have hHia:rHi c (a:Int)=endS x.links (sizesI c x) true:=by rw [rHi,if_pos hlEa,hiI];simp [hx]
   have hLob:rLo c (b:Int)=endS y.links (sizesI c y) false:=by rw [rLo,if_pos hlEb,loI];simp [hy]
   have hHib:rHi c (b:Int)=endS y.links (sizesI c y) true:=by rw [rHi,if_pos hlEb,hiI];simp [hy]
   have hWa:worstR c (a:Int) true=endsL x.links (sizesI c x) true:=by rw [worstR,if_pos hlEa,lpAt];simp [hx]
   have hWb:worstR c (b:Int) true=endsL y.links (sizesI c y) true:=by rw [worstR,if_pos hlEb,lpAt];simp [hy]
   have bd:∀ (z:ChLoop) (hz:z∈c.loops) (hi:Bool),-20000000000≤endS z.links (sizesI c z) hi∧endS z.links (sizesI c z) hi≤20000000000:=fun z hz hi=>by
    have hl8:=(hOk.gap z hz).1
    have hlen:=endsL_len z.links (sizesI c z) hi (by simp [sizesI])
    have hin:∀ n∈endsL z.links (sizesI c z) hi,-2000000000≤n∧n≤2000000000:=fun n hn=>by
     simp only [endsL,List.mem_map] at hn
     obtain ⟨⟨l,d⟩,h1,rfl⟩:=hn
     have h2:=(List.of_mem_zip h1).2
     simp only [sizesI,List.mem_map] at h2
     obtain ⟨w,hw,rfl⟩:=h2
     have h3:=(dimAt_ok hOk hz hw).1
     have:=endN_bd (high:=hi) (x:=l) h3
     simp only;omega
    have hb:=sumTo_bound (l:=z.links) hin z.links.length
    rw [sumTo_all _ _ hlen,← endS_sum] at hb
    omega
   have b1:=bd x hxm false
   have b2:=bd x hxm true
   have b3:=bd y hym false
   have b4:=bd y hym true
   have hwl:(endsL x.links (sizesI c x) true ++ endsL y.links (sizesI c y) true).length < 1000000:=by
    rw [List.length_append,endsL_len _ _ _ (by simp [sizesI]),endsL_len _ _ _ (by simp [sizesI])];omega
   have c11:=sameInts_c (G:=G) (endsL x.links (sizesI c x) true ++ endsL y.links (sizesI c y) true) (endsL x.links (sizesI c x) true ++ endsL y.links (sizesI c y) true) hwl
   have hwl1:=endsL_len x.links (sizesI c x) true (by simp [sizesI])
   have hwl2:=endsL_len y.links (sizesI c y) true (by simp [sizesI])
   rw [hr,hJv] at c4
   rw [hlEa,hLoa,hHia] at c5
   rw [hlEb,hLob,hHib] at c6
   rw [j1,j2,j3,hJv] at c7
   rw [hlEa,hWa] at c8
   rw [hlEb,hWb] at c9
   rw [j1,j4,hJv] at c10
   simp only [decide_true] at c11
   clear bd hr' hgJ hsJ j1 j2 j3 j4 hLoa hLob hHia hHib hWa hWb hlEa hlEb
   generalize x.links ++ y.links=L at *
   generalize endS x.links (sizesI c x) false=p1 at *
   generalize endS x.links (sizesI c x) true=p2 at *
   generalize endS y.links (sizesI c y) false=p3 at *
   generalize endS y.links (sizesI c y) true=p4 at *
   generalize endsL x.links (sizesI c x) true=w1 at *
   generalize endsL y.links (sizesI c y) true=w2 at *
   have q1:IntKind.i64.wrap (p1 + p3)=p1 + p3:=i64w (by omega) (by omega)
   have q2:IntKind.i64.wrap (p2 + p4)=p2 + p4:=i64w (by omega) (by omega)
   have hwims:ims (w1.map Ab.encI) ++ ims (w2.map Ab.encI)=ims ((w1 ++ w2).map Ab.encI):=by simp [ims]
   have hwll:w1.length + w2.length=(w1 ++ w2).length:=by simp
   generalize w1 ++ w2=w3 at *
   have hL1:w1.length≤8:=by omega
   have hL2:w2.length≤8:=by omega
   simp only [refv,isv,rI] at c4 c5 c6 c7 c8 c9 c10 c11
   have hs:True:=trivial
   repeat' first|(with_reducible first|refine q01 ?_|refine q11 ?_|refine q14 ?_|refine q17 ?_|refine And.intro (by omega) ?_)|(with_reducible refine At.fn_ret (by simp -dsimp [v1,v2,v3,v4,hma,hmb,hnz,hx,hxe,hal,hy,hye,hbl,hims,hLl,q1,q2,hwims,hwll,hs];exact rfl) ?_)|(refine CallE.pure (c1) ?_;try simp -dsimp [v1,v2,v3,v4,hma,hmb,hnz,hx,hxe,hal,hy,hye,hbl,hims,hLl,q1,q2,hwims,hwll,hs])|(refine CallE.pure (c2) ?_;try simp -dsimp [v1,v2,v3,v4,hma,hmb,hnz,hx,hxe,hal,hy,hye,hbl,hims,hLl,q1,q2,hwims,hwll,hs])|(refine CallE.pure (c3) ?_;try simp -dsimp [v1,v2,v3,v4,hma,hmb,hnz,hx,hxe,hal,hy,hye,hbl,hims,hLl,q1,q2,hwims,hwll,hs])|(refine DT_freeze5 7 ?_;try simp -dsimp [v1,v2,v3,v4,hma,hmb,hnz,hx,hxe,hal,hy,hye,hbl,hims,hLl,q1,q2,hwims,hwll,hs])|(refine DT_freezeN 8 ?_;try simp -dsimp [v1,v2,v3,v4,hma,hmb,hnz,hx,hxe,hal,hy,hye,hbl,hims,hLl,q1,q2,hwims,hwll,hs])|(refine CallE.pure (c4) ?_;try simp -dsimp [v1,v2,v3,v4,hma,hmb,hnz,hx,hxe,hal,hy,hye,hbl,hims,hLl,q1,q2,hwims,hwll,hs])|(refine CallE.pure (c5) ?_;try simp -dsimp [v1,v2,v3,v4,hma,hmb,hnz,hx,hxe,hal,hy,hye,hbl,hims,hLl,q1,q2,hwims,hwll,hs])|(refine CallE.pure (c6) ?_;try simp -dsimp [v1,v2,v3,v4,hma,hmb,hnz,hx,hxe,hal,hy,hye,hbl,hims,hLl,q1,q2,hwims,hwll,hs])|(refine CallE.pure (c7) ?_;try simp -dsimp [v1,v2,v3,v4,hma,hmb,hnz,hx,hxe,hal,hy,hye,hbl,hims,hLl,q1,q2,hwims,hwll,hs])|(refine CallE.pure (c8) ?_;try simp -dsimp [v1,v2,v3,v4,hma,hmb,hnz,hx,hxe,hal,hy,hye,hbl,hims,hLl,q1,q2,hwims,hwll,hs])|(refine CallE.pure (c9) ?_;try simp -dsimp [v1,v2,v3,v4,hma,hmb,hnz,hx,hxe,hal,hy,hye,hbl,hims,hLl,q1,q2,hwims,hwll,hs])|(refine CallE.pure (c10) ?_;try simp -dsimp [v1,v2,v3,v4,hma,hmb,hnz,hx,hxe,hal,hy,hye,hbl,hims,hLl,q1,q2,hwims,hwll,hs])|(refine CallE.thaw (c11) ?_ ?_ ?_;(focus (simp;done));(focus (simp;done));try simp -dsimp [v1,v2,v3,v4,hma,hmb,hnz,hx,hxe,hal,hy,hye,hbl,hims,hLl,q1,q2,hwims,hwll,hs])|(refine DT_regionS (id:=7) (nt:=163) 14 [0,1,2,3,6,7,8,9,10,11,12,13,14,15,16,17,18,19,20,21,22,23,31,78] mixed rfl (by kernel_rfl) ?_;simp -dsimp [v1,v2,v3,v4,hma,hmb,hnz,hx,hxe,hal,hy,hye,hbl,hims,hLl,q1,q2,hwims,hwll,hs])|(refine DT_regionZ (id:=6) (nt:=163) [1,2,3,4,5,6,8,9,10,11,12,13,0,7,14,15] 12 [([0,1,2,3,4,5,6,7,8,9,10,11],[0,1,2,3,6,7,8,9,10,11,12,13,14,15,16,17,18,19,20,21,22,23,31,78]),([6,7,8,9,10,11],[0,1,2,3,6,7,8,9,10,11,12,13,14,15,16,17,18,19,20,21,22,23,31,47,53,78])] [0,1,2,3,6,7,8,9,10,11,12,13,14,15,16,17,18,19,20,21,22,23,31,78] mixed rfl (by kernel_rfl) (by kernel_rfl) ?_;simp -dsimp [v1,v2,v3,v4,hma,hmb,hnz,hx,hxe,hal,hy,hye,hbl,hims,hLl,q1,q2,hwims,hwll,hs])|(refine DT_regionM (id:=4) (nt:=163) 14 [0,1,2,3,6,7,8,9,10,11,12,13,14,15,16,17,18,19,20,21,22,23,31,78] mixed rfl (by kernel_rfl) ?_;simp -dsimp [v1,v2,v3,v4,hma,hmb,hnz,hx,hxe,hal,hy,hye,hbl,hims,hLl,q1,q2,hwims,hwll,hs])|(with_reducible refine DT_regionE [0,1,2,3,6,7,8,9,10,11,12,13,14,15,16,17,18,19,20,21,22,23,31,78] ?_;simp -dsimp [v1,v2,v3,v4,hma,hmb,hnz,hx,hxe,hal,hy,hye,hbl,hims,hLl,q1,q2,hwims,hwll,hs])|(refine DT_cond rfl (fun h=>?_) (fun h=>?_)<;>(try simp only [nrm] at h)<;>(try exact Bool.noConfusion h))
   all_goals try simp -dsimp [v1,v2,v3,v4,hma,hmb,hnz,hx,hxe,hal,hy,hye,hbl,hims,hLl,q1,q2,hwims,hwll,hs]
   all_goals try clear hs
end Go.Proofs
