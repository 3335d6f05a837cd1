/- Part 31 of the proofs: laws and walks that hold without conditions beyond those that each theorem names. -/
import Derived.Test.YtciiddejfhbncaaGreatDoorL02
set_option linter.all false
set_option linter.deprecated false
namespace Go.Proofs
open Go Go.Ab
set_option linter.unusedSimpArgs false
variable {G:Nat→Option (List IC)}
attribute [simp] permL reO cutL cutE gones noLoop nilV nilX ZK
theorem exU_mod {l:List Int} {s:Int} (h:∀ n∈l,n % s=0∧0≤n):exU l s=true:=by
 rw [exU,List.all_eq_true]
 intro n hn
 obtain ⟨a,b⟩:=h n hn
 rw [decide_eq_true_eq,Int.tmod_eq_emod_of_nonneg b,a]
theorem exK_unit {d:Dim} {n:Int} (hn:n=1∨n=2) (hd:dimOk d=true) (h:d.nominal % stU n=0∧d.lower % stU n=0∧d.upper % stU n=0):(n=1∧(exK d=1∨exK d=3))∨(n=2∧(exK d=2∨exK d=3)):=by
 rw [dimOk_iff] at hd
 have h1:exU [d.nominal,d.lower,d.upper] (stU n)=true:=exU_mod fun m hm=>by
  simp only [List.mem_cons,List.not_mem_nil,or_false] at hm
  rcases hm with rfl|rfl|rfl
  ·exact ⟨h.1,by omega⟩
  ·exact ⟨h.2.1,by omega⟩
  ·exact ⟨h.2.2,by omega⟩
 rcases hn with rfl|rfl
 ·refine .inl ⟨rfl,?_⟩
  rw [show stU 1=100 from rfl] at h1
  rw [exK,h1,if_pos rfl]
  split<;>simp
 ·refine .inr ⟨rfl,?_⟩
  rw [show stU 2=254 from rfl] at h1
  rw [exK,h1,if_pos rfl]
  split<;>simp
set_option maxHeartbeats 8000000 in
set_option maxRecDepth 10000 in
theorem chainInches_c (c:Chains) (bb:Bool) (u1 u2 u3:IC) (hG:sheetG G) (hC:chainG G) (hU:unitG G u1 u2 u3) (hSF:SortFOk G) (hSG:SortGOk G) (hk:KindOk c.reg) (objs:List DObj):DCall Tryz.prog G 12 [chv c,bv bb] objs (fun rr objs'=>rr=bv true∧objs'=objs):=by
 refine DCall.frame ?_ (by simp) (by simp) objs
 refine DCall_intro Tryz.func12 rfl Tryz.ntmps12 (by simp) rfl ?_
 try simp only [chv,bv]
 have c1:=alive_c (G:=G) u1 u2 u3 hG hC hU hSF hSG
 have c2:=ready6_c (G:=G) c hk
 cases hq:readyC c
 ·rw [hq] at c2
  have hs:True:=trivial
  repeat' first|(with_reducible first|refine q01 ?_|refine q02 ?_|refine q11 ?_|refine q17 ?_)|(with_reducible refine At.fn_ret (by simp -dsimp [hs];exact rfl) ?_)|(refine CallE.pure (c1) ?_;try simp -dsimp [hs])|(refine CallE.pure (c2) ?_;try simp -dsimp [hs])|(with_reducible refine DT_regionE [0,1,2,4,5,6,7,8,9,10,12,13,14,15,16,17,18,19,20,21,22,23,24,25,26,27,28,29,30,31,32,40,42,50,92,93,94,95,96,147,149,150,151,152,186,191,192,193,255] ?_;simp -dsimp [hs])|(refine DT_cond rfl (fun h=>?_) (fun h=>?_)<;>(try simp only [nrm] at h)<;>(try exact Bool.noConfusion h))
  all_goals try simp -dsimp [hs]
  all_goals try clear hs
 ·rw [hq] at c2
  have hq':=hq
  simp only [readyC,Bool.and_eq_true,decide_eq_true_eq] at hq'
  obtain ⟨hq1,hq2⟩:=hq'
  have hg:=smallB_iff.1 hq1
  have hsm:SmallC c:=⟨⟨hg.1.1,fun x hx=>⟨(hk x hx).1,(hk x hx).2,(hg.1.2 x hx).1,(hg.1.2 x hx).2⟩⟩,hg.2⟩
  have hOk:=okC hq2
  obtain ⟨n,hn,hbn⟩:∃ n:Int,(n=1∨n=2)∧((bb=true∧n=2)∨(bb=false∧n=1)):=by
   cases bb
   ·exact ⟨1,.inl rfl,.inr ⟨rfl,rfl⟩⟩
   ·exact ⟨2,.inr rfl,.inl ⟨rfl,rfl⟩⟩
  have c3:=pRedraw_c (G:=G) c n u1 u2 u3 hG hC hU hsm hSG (by omega) (by omega)
  have h3:=redE_three hq2 hn
  simp only [u8v] at c3
  rcases h3 with ⟨e1,e2,e3⟩|e1
  ·have hI:=inches_of hq2 hsm e2
   rw [e1,e3] at c3
   clear e1 e2 e3
   have hXk:KindOk (changedC c (rdF c n)).reg:=fun x hx=>⟨(hI.ch.small.1.2 x hx).1,(hI.ch.small.1.2 x hx).2.1⟩
   have hXr:readyC (changedC c (rdF c n))=true:=by
    simp only [readyC,Bool.and_eq_true,decide_eq_true_eq]
    exact ⟨smallB_iff.2 hI.ch.smallG,hI.ch.chE⟩
   have hX1:(changedC c (rdF c n)).of=c.of∧(changedC c (rdF c n)).loops=c.loops:=⟨rfl,rfl⟩
   have hX2:=hI.ch.nums
   have hX3:=hI.ch.reg
   have hX4:=hI.ch.lets
   have hX5:=hI.ch.letl
   have hX6:=hI.ch.small
   have hX7:=hI.ch.ok
   have hX8:=hI.dims
   have hIr:=fun (k:Nat) (x:ChLoop) (hx:c.loops[k]?=some x)=>inches_reach hq2 hI hx
   have c5:=ready6_c (G:=G) (changedC c (rdF c n)) hXk
   rw [hXr] at c5
   generalize changedC c (rdF c n)=X at *
   obtain ⟨xo,xl⟩:=hX1
   have hT:takenE c.reg c.lets c.of=0:=by simp [takenE,hOk.reg,hOk.lets,hOk.of]
   have c4:=explode_c (G:=G) c.reg c.lets c.of hG hsm.1 (by have:=hsm.2.1;omega)
   rw [hT] at c4
   have hP:=fun (p:Itm) (hp:p∈explR c.reg c.lets c.of)=>part_count hOk hp
   have hPl:=explR_len c.reg c.lets c.of
   generalize explR c.reg c.lets c.of=P at *
   have hxlI:(X.loops.length:Int)=(c.loops.length:Int):=by rw [xl]
   have hXv:chv X=.agg [.im (.sl (X.reg.map encIssue)),.im (.sl (X.lets.map Ab.encI)),.im (rI c.of),.im (.sl (c.loops.map encLoop))]:=by
    show DV.agg [.im (.sl (X.reg.map encIssue)),.im (.sl (X.lets.map Ab.encI)),.im (rI X.of),.im (.sl (X.loops.map encLoop))]=_
    rw [xo,xl]
   have c10:=fun k:Int=>pReach_c (G:=G) c k hG hC hsm okC
   have c11:=fun k:Int=>pReach_c (G:=G) X k hG hC hX6 (fun _=>hX7)
   have c12:=fun k:Int=>pCloses_c (G:=G) c k hG hC hsm okC
   have c13:=fun k:Int=>pCloses_c (G:=G) X k hG hC hX6 (fun _=>hX7)
   rw [hXv] at c3 c5
   simp only [hXv] at c11 c13
   simp only [regv,isv,rI] at c3 c4 c5 c11 c13
   have hs:True:=trivial
   rcases hbn with ⟨b1,b2⟩|⟨b1,b2⟩<;>rw [b2] at c3
   have hs:True:=trivial
   repeat' first|(with_reducible first|refine q01 ?_|refine q11 ?_|refine q12 ?_|refine q14 ?_)|(refine CallE.pure (c1) ?_;try simp -dsimp [b1,hs])|(refine CallE.pure (c2) ?_;try simp -dsimp [b1,hs])|(refine CallE.pure (c3) ?_;try simp -dsimp [b1,hs])|(refine CallE.pure (c4) ?_;try simp -dsimp [b1,hs])|(refine CallE.pure (c5) ?_;try simp -dsimp [b1,hs])|(with_reducible refine DT_regionE [0,1,2,4,5,6,7,8,9,10,12,13,14,15,16,17,18,19,20,21,22,23,24,25,26,27,28,29,30,31,32,40,42,50,92,93,94,95,96,147,149,150,151,152,186,191,192,193,255] ?_;simp -dsimp [b1,hs])|(refine DT_cond rfl (fun h=>?_) (fun h=>?_)<;>(try simp only [nrm] at h)<;>(try exact Bool.noConfusion h))
   all_goals try simp -dsimp [b1,hs]
   all_goals try clear hs
   all_goals
    refine DT_weak (Weak.drop (Nat.zero_le _) (Nat.zero_le _)) ?_
    simp -dsimp
    clear c1 c2 c3 c4 c5
    refine DT_loop (ι:={ k:Nat // k≤P.length }) (fun k=>⟨258,[(2,.one (.im (.ip [.sl (c.reg.map encIssue),.sl (c.lets.map Ab.encI),rI c.of,.sl (c.loops.map encLoop)]))),(5,bv true),(6,.one (.im (.raw (.int .u8 n)))),(7,.one (.im (.ip [.sl (X.reg.map encIssue),.sl (X.lets.map Ab.encI),rI c.of,.sl (c.loops.map encLoop)]))),(93,.one (.im (.sl (P.map encItem)))),(94,iv (P.length:Int)),(95,iv (k.1:Int))],[]⟩) (fun k=>P.length - k.1) ⟨0,by omega⟩ (Weak.of_keep [2,5,6,7,93,94,95] (by simp [b2])) ?_
    rintro ⟨k,hkl⟩
    simp only [iv,rI,bv]
    have hr80:=hsm.1.1
    by_cases hlt:k < P.length
    ·have hw:IntKind.i64.wrap ((k:Int) + 1)=((k + 1:Nat):Int):=i64w (by omega) (by omega)
     obtain ⟨p,hp⟩:∃ p,P[k]?=some p:=⟨P[k],by simp [hlt]⟩
     have hpe:∀ h,P[k]'h=p:=fun h=>by rw [List.getElem?_eq_getElem h] at hp;exact Option.some.inj hp
     obtain ⟨hpn,hpc⟩:=hP p (List.mem_of_getElem? hp)
     have hnl:(nums c.reg).length≤c.reg.length:=numsTo_length c.reg c.reg.length
     have hnd:(nums c.reg).Nodup:=(check_nums hOk.reg).1.imp fun h=>Int.ne_of_lt h
     obtain ⟨j,hj⟩:=List.mem_iff_getElem?.1 hpn
     have hjl:=lt_of_getElem? hj
     have hll:c.lets.length=(nums c.reg).length:=by
      have:=hOk.lets
      simp only [lettersI,Bool.and_eq_true,decide_eq_true_eq] at this;exact this.1
     have hjL:j < c.lets.length:=by omega
     have hjX:j < X.lets.length:=by omega
     obtain ⟨la,hla⟩:∃ la,c.lets[j]?=some la:=⟨c.lets[j],by simp [hjL]⟩
     have hlae:∀ h,c.lets[j]'h=la:=fun h=>by rw [List.getElem?_eq_getElem h] at hla;exact Option.some.inj hla
     obtain ⟨lb,hlb⟩:∃ lb,X.lets[j]?=some lb:=⟨X.lets[j],by simp [hjX]⟩
     have hlbe:∀ h,X.lets[j]'h=lb:=fun h=>by rw [List.getElem?_eq_getElem h] at hlb;exact Option.some.inj hlb
     have d1:=numbers_c (G:=G) c.reg (by omega)
     have d2:=index_c (G:=G) (nums c.reg) p.drawing (by omega)
     rw [idx_at hnd hj] at d2
     have d3:=at_c (G:=G) c.reg p.drawing la hG hsm.1
     have d4:=at_c (G:=G) X.reg p.drawing lb hG hX6.1
     obtain ⟨f1,f2⟩:=at_take hOk.reg hOk.lets hj hla
     obtain ⟨f3,f4⟩:=at_take hX3 hX4 (by rw [hX2];exact hj) hlb
     rw [f1,f2] at d3
     rw [f3,f4] at d4
     obtain ⟨g1,g2⟩:=hX8 p.drawing hpn
     have hAl:(takeI c.reg c.lets p.drawing).dims.length≤8:=(hsm.1.2 _ (take_spec hOk.reg hOk.lets hpn).1).2.2.2
     generalize takeI c.reg c.lets p.drawing=A at *
     generalize takeI X.reg X.lets p.drawing=B at *
     have g1i:(B.dims.length:Int)=(A.dims.length:Int):=by omega
     generalize hNs:nums c.reg=Ns at *
     simp only [regv,isv,refv,issv,encIssue,rI,List.map_cons,List.map_nil] at d1 d2 d3 d4
     have hs:True:=trivial
     repeat' first|(with_reducible first|refine q01 ?_|refine q11 ?_|refine q12 ?_|refine q14 ?_)|(refine QCall_pure (d1) ?_;try simp -dsimp [hlt,hp,hpe,hjL,hjX,hla,hlae,hlb,hlbe,g1i,b2,hs])|(refine QCall_pure (d2) ?_;try simp -dsimp [hlt,hp,hpe,hjL,hjX,hla,hlae,hlb,hlbe,g1i,b2,hs])|(refine QCall_pure (d3) ?_;try simp -dsimp [hlt,hp,hpe,hjL,hjX,hla,hlae,hlb,hlbe,g1i,b2,hs])|(refine QCall_pure (d4) ?_;try simp -dsimp [hlt,hp,hpe,hjL,hjX,hla,hlae,hlb,hlbe,g1i,b2,hs])|(refine DT_regionM (id:=16) (nt:=258) 7 [0,1,2,4,5,6,7,8,9,10,12,13,14,15,16,17,18,19,20,21,22,23,24,25,26,27,28,29,30,31,32,40,42,50,92,93,94,95,96,147,149,150,151,152,186,191,192,193,255] mixed rfl (by kernel_rfl) ?_;simp -dsimp [hlt,hp,hpe,hjL,hjX,hla,hlae,hlb,hlbe,g1i,b2,hs])|(refine DT_regionX (id:=17) (nt:=258) 15 [13] [0,1,2,4,5,6,7,8,9,10,12,13,14,15,16,17,18,19,20,21,22,23,24,25,26,27,28,29,30,31,32,40,42,50,92,93,94,95,96,105,106,107,108,109,110,111,112,113,114,115,116,117,147,149,150,151,152,186,191,192,193,255] [0,1,2,4,5,6,7,8,9,10,12,13,14,15,16,17,18,19,20,21,22,23,24,25,26,27,28,29,30,31,32,40,42,50,92,93,94,95,96,147,149,150,151,152,186,191,192,193,255] mixed rfl (by kernel_rfl) ?_;simp -dsimp [hlt,hp,hpe,hjL,hjX,hla,hlae,hlb,hlbe,g1i,b2,hs])|(refine DT_regionX (id:=18) (nt:=258) 15 [13] [0,1,2,4,5,6,7,8,9,10,12,13,14,15,16,17,18,19,20,21,22,23,24,25,26,27,28,29,30,31,32,40,42,50,92,93,94,95,96,119,120,121,122,123,124,125,126,127,128,129,130,131,147,149,150,151,152,186,191,192,193,255] [0,1,2,4,5,6,7,8,9,10,12,13,14,15,16,17,18,19,20,21,22,23,24,25,26,27,28,29,30,31,32,40,42,50,92,93,94,95,96,147,149,150,151,152,186,191,192,193,255] mixed rfl (by kernel_rfl) ?_;simp -dsimp [hlt,hp,hpe,hjL,hjX,hla,hlae,hlb,hlbe,g1i,b2,hs])|(with_reducible refine DT_regionE [0,1,2,4,5,6,7,8,9,10,12,13,14,15,16,17,18,19,20,21,22,23,24,25,26,27,28,29,30,31,32,40,42,50,92,93,94,95,96,147,149,150,151,152,186,191,192,193,255] ?_;simp -dsimp [hlt,hp,hpe,hjL,hjX,hla,hlae,hlb,hlbe,g1i,b2,hs])|(refine DT_cond rfl (fun h=>?_) (fun h=>?_)<;>(try simp only [nrm] at h)<;>(try exact Bool.noConfusion h))
     all_goals try simp -dsimp [hlt,hp,hpe,hjL,hjX,hla,hlae,hlb,hlbe,g1i,b2,hs]
     all_goals try clear hs
     clear d1 d2 d3 d4
     refine DT_loop (ι:={ i:Nat // i≤A.dims.length }) (fun i=>⟨258,[(2,.one (.im (.ip [.sl (c.reg.map encIssue),.sl (c.lets.map Ab.encI),rI c.of,.sl (c.loops.map encLoop)]))),(5,bv true),(6,.one (.im (.raw (.int .u8 n)))),(7,.one (.im (.ip [.sl (X.reg.map encIssue),.sl (X.lets.map Ab.encI),rI c.of,.sl (c.loops.map encLoop)]))),(14,.one (.ptr 1 0)),(93,.one (.im (.sl (P.map encItem)))),(94,iv (P.length:Int)),(95,iv (k:Int)),(149,.one (.im (.sl (B.dims.map encDim)))),(150,iv (A.dims.length:Int)),(151,iv (i.1:Int))],[.row [.im (rI p.drawing),.im (rI p.count)],.row [.im (rI A.drawing),.im (rI A.letter),.im (.raw (.int .u8 A.kind)),.im (.sl (A.items.map encItem)),.im (.sl (A.dims.map encDim))],.row [.im (rI B.drawing),.im (rI B.letter),.im (.raw (.int .u8 B.kind)),.im (.sl (B.items.map encItem)),.im (.sl (B.dims.map encDim))]]⟩) (fun i=>A.dims.length - i.1) ⟨0,by omega⟩ (Weak.of_keep [2,5,6,7,14,93,94,95,149,150,151] (by simp [b2])) ?_
     rintro ⟨i,hi⟩
     simp only [iv,rI,bv]
     by_cases hlti:i < A.dims.length
     ·have hwi:IntKind.i64.wrap ((i:Int) + 1)=((i + 1:Nat):Int):=i64w (by omega) (by omega)
      have hltB:i < B.dims.length:=by omega
      obtain ⟨da,hda⟩:∃ d,A.dims[i]?=some d:=⟨A.dims[i],by simp [hlti]⟩
      have hdae:∀ h,A.dims[i]'h=da:=fun h=>by rw [List.getElem?_eq_getElem h] at hda;exact Option.some.inj hda
      obtain ⟨db,hdb⟩:∃ d,B.dims[i]?=some d:=⟨B.dims[i],by simp [hltB]⟩
      have hdbe:∀ h,B.dims[i]'h=db:=fun h=>by rw [List.getElem?_eq_getElem h] at hdb;exact Option.some.inj hdb
      obtain ⟨k1,k2,k3,k4,k5⟩:=g2 i da db hda hdb
      have d5:=inside_c (G:=G) db da k2 k1 ⟨k3,k4⟩
      have d6:=sexact_c (G:=G) db u1 u2 u3 hU k2
      have hK:=exK_unit hn k2 (k5 hpc)
      have hb8:IntKind.u8.bits=8:=rfl
      have q1:IntKind.u8.wrap 1=1:=by decide
      have q2:IntKind.u8.wrap 2=2:=by decide
      simp only [dimv,encDim,u8v,rI,List.map_cons,List.map_nil] at d5 d6
      generalize exK db=K at *
      rcases hK with ⟨m1,m2|m2⟩|⟨m1,m2|m2⟩<;>first
       | omega
       | (rw [m2] at d6
          have hs:True:=trivial
          repeat' first|(with_reducible first|refine q01 ?_|refine q04 ?_|refine q11 ?_|refine q12 ?_|refine q14 ?_)|(refine QCall_pure (d5) ?_;try simp -dsimp [hlti,hltB,hda,hdae,hdb,hdbe,hwi,b2,hb8,q1,q2,hs])|(refine CallE.pure (d6) ?_;try simp -dsimp [hlti,hltB,hda,hdae,hdb,hdbe,hwi,b2,hb8,q1,q2,hs])|(refine DT_regionM (id:=24) (nt:=258) 12 [0,1,2,4,5,6,7,8,9,10,12,13,14,15,16,17,18,19,20,21,22,23,24,25,26,27,28,29,30,31,32,40,42,50,92,93,94,95,96,147,149,150,151,152,186,191,192,193,255] mixed rfl (by kernel_rfl) ?_;simp -dsimp [hlti,hltB,hda,hdae,hdb,hdbe,hwi,b2,hb8,q1,q2,hs])|(with_reducible refine DT_regionE [0,1,2,4,5,6,7,8,9,10,12,13,14,15,16,17,18,19,20,21,22,23,24,25,26,27,28,29,30,31,32,40,42,50,92,93,94,95,96,147,149,150,151,152,186,191,192,193,255] ?_;simp -dsimp [hlti,hltB,hda,hdae,hdb,hdbe,hwi,b2,hb8,q1,q2,hs])|(refine DT_cond rfl (fun h=>?_) (fun h=>?_)<;>(try simp only [nrm] at h)<;>(try exact Bool.noConfusion h))
          all_goals try simp -dsimp [hlti,hltB,hda,hdae,hdb,hdbe,hwi,b2,hb8,q1,q2,hs]
          all_goals try clear hs
          all_goals exact At.round ⟨i + 1,by omega⟩ (by simp;omega) (Weak.of_drop [2,5,6,7,14,93,94,95,149,150,151] 3 (by simp) (by simp) (by simp [hwi,b2])))
     ·obtain rfl:i=A.dims.length:=by omega
      have hs:True:=trivial
      repeat' first|(with_reducible first|refine q01 ?_|refine q03 ?_|refine q04 ?_|refine q06 ?_|refine q11 ?_|refine q16 ?_)|(with_reducible refine DT_regionE [0,1,2,4,5,6,7,8,9,10,12,13,14,15,16,17,18,19,20,21,22,23,24,25,26,27,28,29,30,31,32,40,42,50,92,93,94,95,96,147,149,150,151,152,186,191,192,193,255] ?_;simp -dsimp [hlti,b2,hs])|(refine DT_cond rfl (fun h=>?_) (fun h=>?_)<;>(try simp only [nrm] at h)<;>(try exact Bool.noConfusion h))
      all_goals try simp -dsimp [hlti,b2,hs]
      all_goals try clear hs
      all_goals exact At.round ⟨k + 1,by omega⟩ (by simp;omega) (Weak.of_drop [2,5,6,7,93,94,95] 0 (by simp) (by simp) (by simp [hw,b2]))
    ·obtain rfl:k=P.length:=by omega
     have hs:True:=trivial
     repeat' first|(with_reducible first|refine q01 ?_|refine q03 ?_|refine q06 ?_|refine q11 ?_|refine q12 ?_|refine q16 ?_)|(with_reducible refine DT_regionE [0,1,2,4,5,6,7,8,9,10,12,13,14,15,16,17,18,19,20,21,22,23,24,25,26,27,28,29,30,31,32,40,42,50,92,93,94,95,96,147,149,150,151,152,186,191,192,193,255] ?_;simp -dsimp [hlt,b2,hs])|(refine DT_cond rfl (fun h=>?_) (fun h=>?_)<;>(try simp only [nrm] at h)<;>(try exact Bool.noConfusion h))
     all_goals try simp -dsimp [hlt,b2,hs]
     all_goals try clear hs
     refine DT_loop (ι:={ k:Nat // k≤c.loops.length }) (fun k=>⟨258,[(2,.one (.im (.ip [.sl (c.reg.map encIssue),.sl (c.lets.map Ab.encI),rI c.of,.sl (c.loops.map encLoop)]))),(5,bv true),(7,.one (.im (.ip [.sl (X.reg.map encIssue),.sl (X.lets.map Ab.encI),rI c.of,.sl (c.loops.map encLoop)]))),(191,iv (c.loops.length:Int)),(192,iv (k.1:Int))],[]⟩) (fun k=>c.loops.length - k.1) ⟨0,by omega⟩ (Weak.of_keep [2,5,7,191,192] (by simp)) ?_
     rintro ⟨k,hkl⟩
     simp only [iv,rI,bv]
     have hl6:=hOk.num
     by_cases hlt2:k < c.loops.length
     ·have hw:IntKind.i64.wrap ((k:Int) + 1)=((k + 1:Nat):Int):=i64w (by omega) (by omega)
      obtain ⟨x,hx⟩:∃ x,c.loops[k]?=some x:=⟨c.loops[k],by simp [hlt2]⟩
      have hlE:loopsE c (k:Int)=0:=by rw [loopsE,if_neg (by simp [hq2]),if_pos ⟨by omega,by omega⟩]
      obtain ⟨x1,x2,x3,x4⟩:=hIr k x hx
      have hcl:closesK c (k:Int)=if x.lo≤rLo c k∧rHi c k≤x.hi then 2 else if rHi c k < x.lo∨x.hi < rLo c k then 0 else 1:=by rw [closesK,if_pos hlE,clK];simp [hx]
      have hcl2:closesK X (k:Int)=if x.lo≤rLo X k∧rHi X k≤x.hi then 2 else if rHi X k < x.lo∨x.hi < rLo X k then 0 else 1:=by rw [closesK,if_pos x1,clK,xl];simp [hx]
      have c10:=c10 k
      have c11:=c11 k
      have c12:=c12 k
      have c13:=c13 k
      rw [hlE] at c10 c12
      rw [x1] at c11 c13
      rw [hcl] at c12
      rw [hcl2] at c13
      clear hcl hcl2
      generalize rLo c (k:Int)=L1 at *
      generalize rHi c (k:Int)=H1 at *
      generalize rLo X (k:Int)=L2 at *
      generalize rHi X (k:Int)=H2 at *
      have m1:(L2 < L1)=False:=eq_false (by omega)
      have m2:(H1 < H2)=False:=eq_false (by omega)
      generalize hK1:(if x.lo≤L1∧H1≤x.hi then (2:Int) else if H1 < x.lo∨x.hi < L1 then 0 else 1)=K1 at *
      generalize hK2:(if x.lo≤L2∧H2≤x.hi then (2:Int) else if H2 < x.lo∨x.hi < L2 then 0 else 1)=K2 at *
      have hKK:(K1=1∧True)∨((K1=1)=False∧K1=K2):=by
       by_cases h1:K1=1
       ·exact .inl ⟨h1,trivial⟩
       ·refine .inr ⟨eq_false h1,?_⟩
        split at hK1<;>split at hK2<;>(try split at hK1)<;>(try split at hK2)<;>omega
      clear hK1 hK2
      simp only [refv,u8v] at c10 c11 c12 c13
      have hs:True:=trivial
      rcases hKK with ⟨k1,k2⟩|⟨k1,k2⟩
      have hs:True:=trivial
      repeat' first|(with_reducible first|refine q01 ?_|refine q04 ?_|refine q11 ?_|refine q12 ?_|refine q14 ?_)|(refine CallE.pure (c10) ?_;try simp -dsimp [hlt2,m1,m2,k1,k2,hs])|(refine CallE.pure (c11) ?_;try simp -dsimp [hlt2,m1,m2,k1,k2,hs])|(refine CallE.pure (c12) ?_;try simp -dsimp [hlt2,m1,m2,k1,k2,hs])|(refine CallE.pure (c13) ?_;try simp -dsimp [hlt2,m1,m2,k1,k2,hs])|(with_reducible refine DT_regionE [0,1,2,4,5,6,7,8,9,10,12,13,14,15,16,17,18,19,20,21,22,23,24,25,26,27,28,29,30,31,32,40,42,50,92,93,94,95,96,147,149,150,151,152,186,191,192,193,255] ?_;simp -dsimp [hlt2,m1,m2,k1,k2,hs])|(refine DT_cond rfl (fun h=>?_) (fun h=>?_)<;>(try simp only [nrm] at h)<;>(try exact Bool.noConfusion h))|(with_reducible refine GStop_split ?_ ?_<;>intro h<;>have h0:=h<;>(try simp only [nrm] at h)<;>(try exact Bool.noConfusion h)<;>have h2:=h<;>(try simp at h2)<;>(replace hs:=And.intro h0 (And.intro h (And.intro h2 hs)))<;>simp -dsimp [h0,h,h2,hlt2,m1,m2,k1,k2,hs])
      all_goals try simp -dsimp [hlt2,m1,m2,k1,k2,hs]
      all_goals try clear hs
      all_goals exact At.round ⟨k + 1,by omega⟩ (by simp;omega) (Weak.of_drop [2,5,7,191,192] 0 (by simp) (by simp) (by simp [hw]))
     ·obtain rfl:k=c.loops.length:=by omega
      have hs:True:=trivial
      repeat' first|(with_reducible first|refine q01 ?_|refine q03 ?_|refine q06 ?_|refine q11 ?_|refine q16 ?_|refine q17 ?_)|(with_reducible refine At.fn_ret (by simp -dsimp [hlt2,hs];exact rfl) ?_)|(with_reducible refine DT_regionE [0,1,2,4,5,6,7,8,9,10,12,13,14,15,16,17,18,19,20,21,22,23,24,25,26,27,28,29,30,31,32,40,42,50,92,93,94,95,96,147,149,150,151,152,186,191,192,193,255] ?_;simp -dsimp [hlt2,hs])|(refine DT_cond rfl (fun h=>?_) (fun h=>?_)<;>(try simp only [nrm] at h)<;>(try exact Bool.noConfusion h))
      all_goals try simp -dsimp [hlt2,hs]
      all_goals try clear hs
  ·have e1':redE c n=6∨redE c n=9:=e1
   generalize redE c n=E at *
   generalize redR c n=X at *
   have hs:True:=trivial
   rcases hbn with ⟨b1,b2⟩|⟨b1,b2⟩<;>rw [b2] at c3<;>rcases e1 with e1|e1
   have hs:True:=trivial
   repeat' first|(with_reducible first|refine q01 ?_|refine q02 ?_|refine q11 ?_|refine q14 ?_|refine q17 ?_)|(with_reducible refine At.fn_ret (by simp -dsimp [b1,e1,hs];exact rfl) ?_)|(refine CallE.pure (c1) ?_;try simp -dsimp [b1,e1,hs])|(refine CallE.pure (c2) ?_;try simp -dsimp [b1,e1,hs])|(refine CallE.pure (c3) ?_;try simp -dsimp [b1,e1,hs])|(with_reducible refine DT_regionE [0,1,2,4,5,6,7,8,9,10,12,13,14,15,16,17,18,19,20,21,22,23,24,25,26,27,28,29,30,31,32,40,42,50,92,93,94,95,96,147,149,150,151,152,186,191,192,193,255] ?_;simp -dsimp [b1,e1,hs])|(refine DT_cond rfl (fun h=>?_) (fun h=>?_)<;>(try simp only [nrm] at h)<;>(try exact Bool.noConfusion h))
   all_goals try simp -dsimp [b1,e1,hs]
   all_goals try clear hs
end Go.Proofs
