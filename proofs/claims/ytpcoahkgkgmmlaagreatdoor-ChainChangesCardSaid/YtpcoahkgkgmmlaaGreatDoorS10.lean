/- Part 10 of the proofs. -/
import Derived.Test.YtpcoahkgkgmmlaaGreatDoorS09
set_option linter.all false
set_option linter.deprecated false
set_option maxHeartbeats 100000000
namespace Go.Ab
open Go
section
variable {P:Program} {G:Es} {nt:Nat} {objs:List DObj} {ops:Array Oper}
structure Inv2 (P:Program) (G:Es) (nt:Nat) (objs:List DObj) (ops:Array Oper) (ks:List Nat) (τ:bh) (M0 Mp:MS) (al:List Nat) (base:Array Bool) (dfs:List Deferred) (f:Nat) (listed:Array Bool) (a:Act) (M:MS):Prop where
 sz:listed.size=ops.size
 cn:listed.toList.count false=f
 cl:Closed ops listed
 rel:RelF G nt objs (E3 ops ks listed τ) a M
 ext:Ext objs.length M0 M
 df:a.defers=dfs
 pd:Pd P Mp ops al listed a M
 hs:Mp.w.heap.size≤M.w.heap.size
 only:∀ i,listed.getD i false=true→base.getD i false=true∨i∈ks
 has:∀ i,base.getD i false=true→listed.getD i false=true
theorem Pd.tmps {M0 M:MS} {ks:List Nat} {listed:Array Bool} {a a':Act} (h:a'.tmps=a.tmps) (hp:Pd P M0 ops ks listed a M):Pd P M0 ops ks listed a' M:=by
 obtain⟨β',h1,h2⟩:=hp
 refine⟨β',fun i o t u hi ho hop hu hl=>?_,h2⟩
 obtain⟨z,z1,q1,q2,q3,q4,q5⟩:=h1 i o t u hi ho hop hu hl
 exact⟨z,z1,q1,q2,q3,by rw[h];exact q4,q5⟩
theorem P1 {ks:List Nat} {τ:bh} {M0 Mp:MS} {al:List Nat} {base:Array Bool} {dfs:List Deferred} {ro:Option Nat} {Q':Exit→Act→World→Prop} (hd:T1 nt ops) (hal2:∀ i∈ks,i∈al)
 (hY:∀ i∈ks,∃ o d,ops[i]?=some o∧OpS P G nt objs ops o d τ∧∀ u,o.dst=some u→τ u=some d)
 (hdep:∀ i∈ks,∀ o,ops[i]?=some o→∀ k∈ks,∀ o',ops[k]?=some o'→∀ u,o'.dst=some u→u∈o.looksAt ops→∃ e∈o.after,e.on=k∧Region.binds .any e=true)
 (hback:∀ (k:Nat) (o:Oper),ops[k]?=some o→∀ e∈o.after,Region.binds .any e=true→e.on<k)
 (hJ:∀ f listed a M,Inv2 P G nt objs ops ks τ M0 Mp al base dfs (f+1) listed a M→∀ j∈Region.ready .any ops listed,j∉ks→wpOpIn (q9 ro) 0 P ops Q' j (wpAnyIn (q9 ro) 0 P .any ops Q' f (listed.setIfInBounds j true)) a M.w)
 (hE:∀ listed a M,Inv2 P G nt objs ops ks τ M0 Mp al base dfs 0 listed a M→Q' .normal a M.w) :
 ∀ f listed a M,Inv2 P G nt objs ops ks τ M0 Mp al base dfs f listed a M→wpAnyIn (q9 ro) 0 P .any ops Q' f listed a M.w
 | 0,listed,a,M,hi=>by
   refine⟨?_,hE listed a M hi⟩
   rw[List.eq_nil_iff_forall_not_mem]
   intro j hj
   obtain⟨h0,oj,hoj,_⟩:=mem_ready.1 hj
   have hlt:j<listed.size:=by rw[hi.sz];exact(Array.getElem?_eq_some_iff.1 hoj).1
   have hnot:=List.count_eq_zero.1 hi.cn
   refine hnot ?_
   simp[hlt] at h0
   rw[← h0]
   exact Array.getElem_mem_toList hlt
 | f+1,listed,a,M,hi=>by
   refine⟨fun hnil=>?_,fun i hrd=>?_⟩
   ·exfalso
    have hmem:false∈listed.toList:=List.one_le_count_iff.1 (by rw[hi.cn];omega)
    obtain⟨k,hk,hkv⟩:=List.mem_iff_getElem.1 hmem
    have hk':k<listed.size:=by simpa using hk
    have h0:listed.getD k true=false:=by simp[hk'];simpa using hkv
    obtain⟨j,hj⟩:=gi hback hi.sz k h0
    rw[hnil] at hj
    cases hj
   ·by_cases hik:i∈ks
    ·obtain⟨o,d,ho,hop,hdst⟩:=hY i hik
     obtain⟨h0,o',ho',hall⟩:=mem_ready.1 hrd
     rw[ho] at ho';cases ho'
     have hsame:∀ t∈o.looksAt ops,E3 ops ks listed τ t=τ t:=fun t ht=>by
      unfold E3
      rw[if_pos]
      intro k hk ok hok hdk
      obtain⟨e,he,rfl,hb⟩:=hdep i hik o ho k hk ok hok t hdk ht
      exact hall e he hb
     have base1:∀ (a':Act) (M':MS),RelF G nt objs (O4 (E3 ops ks listed τ) o.dst d) a' M'→Ext objs.length M0 M'→a'.defers=dfs→Pd P Mp ops al (listed.setIfInBounds i true) a' M'→Mp.w.heap.size≤M'.w.heap.size →
      Inv2 P G nt objs ops ks τ M0 Mp al base dfs f (listed.setIfInBounds i true) a' M':=fun a' M' h1 h2 h3 h4 h5 =>
      ⟨by simpa using hi.sz,O9 h0 hi.cn,hi.cl.step hrd,h1.le (oE ho hdst),h2,h3,h4,h5,fun j hj=>by
       rcases m9 hj with rfl|hj
       ·exact .inr hik
       ·exact hi.only j hj,fun j hj=>getD_set_true (hi.has j hj)⟩
     rcases hop with⟨t,z,hal,hg,rfl,hz,hzp⟩|⟨hna,hy⟩
     ·obtain⟨v,hrun,hv⟩:=T7 (w:=M.w) hz
      have hex:(execOp a.eval o).run P M.w=.ok (.value (.pointer (some ⟨M.w.heap.size,0,none⟩))) (M.w.alloc (.cells v.cells t)):=by
       simp[execOp,hal,Instr.alloc,hrun,newVar,newRow,newObj,Sem.run]
      have hheap:(M.w.alloc (.cells v.cells t)).heap=M.w.heap.push (.cells v.cells t):=by unfold World.alloc;rfl
      have hold:∀ b,b<M.w.heap.size→(M.w.alloc (.cells v.cells t)).heap[b]?=M.w.heap[b]?:=fun b hb=>by rw[hheap,Array.getElem?_push,if_neg (Nat.ne_of_lt hb)]
      let M1:MS:={ M with w:=M.w.alloc (.cells v.cells t),F:=fun b=>M.F b∨b=M.w.heap.size }
      have he1:Ext M.objs.length M M1:=by
       refine⟨Nat.le_refl _,fun b hb=>⟨⟨?_,hb.2⟩,hold b hb.1⟩,⟨fun b hb=>.inl hb,fun b hb hF=>?_⟩,by simp[M1,hheap],fun p _ c' hc=>⟨⟨c',hc⟩,rfl⟩,fun p _ sz es g nl hv=>⟨sz,es,g,nl,hv,Nat.le_refl _,fun _=>⟨rfl,rfl,fun hn=>⟨rfl,?_⟩⟩⟩,fun p _ ks es hm=>⟨⟨ks,es,hm⟩,rfl⟩,
        fun p _ r hm=>⟨⟨r,hm⟩,rfl⟩,fun p _ d hm hi=>⟨⟨d,hm,hi⟩,rfl⟩,fun p _ r hm=>⟨⟨r,hm⟩,rfl⟩,⟨rfl,rfl,rfl,by first|exact Nat.le_refl _|exact Nat.le_succ _⟩⟩
       ·have:=hb.1;simp only[M1,hheap,Array.size_push];omega
       ·rcases hF with hF|hF
        ·exact hb.2 hF
        ·have:=hb.1.1;omega
       ·simp only[H9,M1]
        rw[hold _ (hi.rel.m.lt p _ hv (by simp[DObj.blk,hn]))]
      have hm1:RelM G M1:=by
       refine⟨fun o d ho=>(hi.rel.m.objs o d ho).ext he1 (fun _=>rfl) (fun hb=>hold _ (hi.rel.m.lt o d ho hb)),fun o d ho hb=>?_,hi.rel.m.inj,fun g l hg=>(hi.rel.m.glob g l hg).mono he1.ok,fun b hF=>?_,fun o d ho hb hF=>?_⟩
       ·have:=hi.rel.m.lt o d ho hb;simp only[M1,hheap,Array.size_push];omega
       ·simp only[M1,hheap,Array.size_push]
        rcases hF with hF|hF
        ·have:=hi.rel.m.fl b hF;omega
        ·omega
       ·rcases hF with hF|hF
        ·exact hi.rel.m.own o d ho hb hF
        ·have:=hi.rel.m.lt o d ho hb;simp only[M1] at hF;omega
      have he1':Ext objs.length M M1:=by rw[← hi.rel.ob];exact he1
      have hr1:=hi.rel.put hm1 (show M1.objs=objs from hi.rel.ob) he1' (d:=.one .dead) (v:=.pointer (some ⟨M.w.heap.size,0,none⟩)) (.one _ _ (.dead _ rfl)) (hd.1 i o ho)
      have hpd1:Pd P Mp ops al (listed.setIfInBounds i true) (a.put o.dst (.pointer (some ⟨M.w.heap.size,0,none⟩))) M1:=by
       obtain⟨β',p1,p2⟩:=hi.pd
       have hlt:∀ (j:Nat) (o':Oper) (t':TypeId),j∈al→ops[j]?=some o'→o'.op=.alloc t'→listed.getD j false=true→o'.dst.isSome=true→β' j<M.w.heap.size:=fun j o' t' hjk hj ht' hl hs=>by
        obtain⟨u,hu⟩:=Option.isSome_iff_exists.1 hs
        obtain⟨_,_,q4,_⟩:=p1 j o' t' u hjk hj ht' hu hl
        exact hi.rel.m.fl _ q4
       refine⟨fun j=>if j=i then M.w.heap.size else β' j,fun j o' t' u hjk hj ht' hu hl=>?_,fun j k o' o'' t1 t2 hjk hkk hj ht1 hlj hk ht2 hlk hs hs' hβ=>?_⟩
       ·by_cases e:j=i
        ·subst e
         rw[ho] at hj;cases hj
         rw[hal] at ht';cases ht'
         refine⟨z,hz,.inr (by simp),?_,hzp,?_,v.cells,t,?_,hv⟩
         ·simp only[if_true];exact hi.hs
         ·simp only[if_true,hu,Act.put]
          rw[Array.getElem?_setIfInBounds_self_of_lt (by rw[hi.rel.nt];exact hd.1 j o ho u hu)]
         ·simp only[if_true];exact M8
        ·have hl':listed.getD j false=true:=(m9 hl).resolve_left e
         obtain⟨z',q1,q4,q5,q2,q3,c,t'',q6,q7⟩:=p1 j o' t' u hjk hj ht' hu hl'
         refine⟨z',q1,by simp only[if_neg e];exact .inl q4,by simp only[if_neg e];exact q5,q2,?_,c,t'',by simp only[if_neg e,M1];rw[hold _ (hi.rel.m.fl _ q4)];exact q6,q7⟩
         simp only[if_neg e]
         cases hdo:o.dst with
         | none=>exact q3
         | some x =>
           have hne:x≠u:=fun e'=>by
            subst e'
            exact e (hd.2 j i o' o x hj ho hu hdo)
           simp only[Act.put]
           rw[Array.getElem?_setIfInBounds_ne hne];exact q3
       ·by_cases e1:j=i<;>by_cases e2:k=i
        ·rw[e1,e2]
        ·simp only[if_pos e1,if_neg e2] at hβ
         have:=hlt k o'' t2 hkk hk ht2 ((m9 hlk).resolve_left e2) hs'
         omega
        ·simp only[if_neg e1,if_pos e2] at hβ
         have:=hlt j o' t1 hjk hj ht1 ((m9 hlj).resolve_left e1) hs
         omega
        ·simp only[if_neg e1,if_neg e2] at hβ
         exact p2 j k o' o'' t1 t2 hjk hkk hj ht1 ((m9 hlj).resolve_left e1) hk ht2 ((m9 hlk).resolve_left e2) hs hs' hβ
      have hw:Region.wanted o (yielded ops a.tmps)=true:=by simp[Region.wanted,hg]
      unfold wpOpIn
      simp only[ho,hw,if_true]
      exact G8 hex (P1 hd hal2 hY hdep hback hJ hE f _ _ M1 (base1 _ M1 hr1 (hi.ext.trans he1') ((s9 _ _ _).trans hi.df) hpd1 (Nat.le_trans hi.hs he1.hs)))
     ·have hy':=hy.same hsame
      rcases hy' with⟨hw,hoq⟩|⟨hw,rfl⟩
      ·have hw':=N5 hi.rel hw
       unfold wpOpIn
       simp only[ho,hw',if_true]
       exact gF hi.rel hoq fun v M' h2 h3 h4 h5=>P1 hd hal2 hY hdep hback hJ hE f _ _ M' (base1 _ M' (hi.rel.put h2 h3 h4 h5 (hd.1 i o ho)) (hi.ext.trans h4) ((s9 _ _ _).trans hi.df) (hi.pd.step hd ho hna hi.rel.m h4) (Nat.le_trans hi.hs h4.hs))
      ·have hw':=N5 hi.rel hw
       unfold wpOpIn
       simp only[ho,hw',Bool.false_eq_true,if_false]
       exact⟨fun _ _=>trivial,P1 hd hal2 hY hdep hback hJ hE f _ _ M (base1 _ M (hi.rel.put hi.rel.m hi.rel.ob (by rw[← hi.rel.ob];exact Ext.refl M) (.tup _ _ rfl (fun j d v h=>by simp at h)) (hd.1 i o ho)) hi.ext ((s9 _ _ _).trans hi.df) (hi.pd.step hd ho hna hi.rel.m (Ext.refl M)) hi.hs)⟩
    ·exact hJ f listed a M hi i hrd hik
end
section
variable {P:Program} {G:Es}
theorem Cw {l:List Oper} {nt:Nat} {objs:List DObj} {Sq:DS} {ks fl kt:List Nat} {Mb M2 Mp:MS} {al:List Nat} {base listed:Array Bool} {dfs:List Deferred} {f i:Nat} {a2:Act} {oj:Oper} {ro:Option Nat} {KK:DS→Prop} {Q':Exit→Act→World→Prop}
 (hd:T1 nt l.toArray) (hnt:Sq.nt=nt) (hob:Sq.objs=objs) (hi:Inv2 P G nt objs l.toArray ks (n8 Sq.tmps) Mb Mp al base dfs (f+1) listed a2 M2)
 (hrdy:i∈Region.ready .any l.toArray listed) (hoj:l[i]?=some oj) (hg:oj.guard=none) (hfl:∀ k∈fl,k∈ks) (hik:i∉ks) (hpl:∀ k∈ks,k∉fl→listed.getD k false=true)
 (hdf:H7 ((pick l fl).map (·.dst))=true) (hnl:O5 l.toArray (pick l fl)=true) (hlt:∀ k∈ks,k<l.length) (hnoj:∀ t,oj.op≠.alloc t)
 (hkt:((pick l fl).all fun o=>match o.dst with|some u=>!kt.contains u|none=>true)=true)
 (hkq:mL P G (l.map (·.dst)) [oj] (Sq.keep kt) (fun S'=>jE P G (l.map (·.dst)) (pick l fl) S' (fun Sf=>W3 (gk (pick l fl)) Sf.tmps Sq.tmps∧KK Sf) ⟨⟩) ⟨⟩)
 (hnext:∀ (Sf:DS) (a3:Act) (M3:MS),KK Sf→Sf.nt=nt→Sf.objs=M3.objs→Ext objs.length M2 M3→(∀ k∈fl,∃ o d,l.toArray[k]?=some o∧OpS P G nt M3.objs l.toArray o d (n8 Sf.tmps)∧∀ u,o.dst=some u→n8 Sf.tmps u=some d) →
  Inv2 P G nt M3.objs l.toArray fl (n8 Sf.tmps) M3 Mp al (listed.setIfInBounds i true) dfs f (listed.setIfInBounds i true) a3 M3→wpAnyIn (q9 ro) 0 P .any l.toArray Q' f (listed.setIfInBounds i true) a3 M3.w) :
 wpOpIn (q9 ro) 0 P l.toArray Q' i (wpAnyIn (q9 ro) 0 P .any l.toArray Q' f (listed.setIfInBounds i true)) a2 M2.w:=by
 have hoj':l.toArray[i]?=some oj:=by simpa using hoj
 have hrk:Rel G (Sq.keep kt) a2 M2:=by
  refine⟨hi.rel.m,hi.rel.ob.trans hob.symm,hi.rel.nt.trans hnt.symm,hi.rel.df,fun t d ht=>hi.rel.tm t d ?_⟩
  have h1:=aF ht
  have h2:=X7 ht
  unfold E3
  rw[if_pos]
  ·exact h2
  ·intro k hk o ho hu
   by_cases hf:k∈fl
   ·have:=List.all_eq_true.1 hkt o (J1 hf (by simpa using ho))
    rw[hu] at this
    simp at this
    exact absurd h1 this
   ·exact hpl k hk hf
 obtain⟨b,hw,ht,_⟩:=I0 _ _ _ hkq
 have hbt:b=true:=by
  unfold C0 at hw
  rw[hg] at hw
  exact(Option.some.inj hw).symm
 subst hbt
 have hwant:Region.wanted oj (yielded l.toArray a2.tmps)=true:=by simp[Region.wanted,hg]
 unfold wpOpIn
 simp only[hoj',hwant,if_true]
 refine P0 (cA (ht rfl ro a2 M2 hrk)) ?_
 rintro a3 w3 ⟨⟨S3,M3,rfl,r3,e3,d3,k3⟩,v,hput⟩
 have hsz3:S3.nt=nt:=by
  rw[← r3.nt,hput,← hi.rel.nt]
  cases oj.dst<;>simp[Act.put]
 have hob3:S3.objs=M3.objs:=r3.ob.symm
 have hpm:∀ o∈pick l fl,o∈l:=fun o ho=>let ⟨k,_,hk⟩:=J2 ho;List.mem_of_getElem? hk
 have hdst:∀ o∈l,∀ u,o.dst=some u→u<nt:=fun o ho u hu=>by
  obtain⟨k,hk⟩:=List.mem_iff_getElem?.1 ho
  exact hd.1 k o (by simpa using hk) u hu
 obtain⟨Sf,⟨hsame,hkf⟩,f1,f2,f3,f4⟩:=I1 (P:=P) (G:=G) (ops:=l.toArray) (nt:=nt) (objs:=M3.objs) fl (pick l fl) S3 (ef fun k hk=>hlt k (hfl k hk)) hsz3 hob3 (fun o ho=>hdst o (hpm o ho)) (C5 hdf) hnl
  (by simpa using(show jE P G (l.map (·.dst)) (pick l fl) S3 _ ⟨⟩ from k3))
 refine hnext Sf a3 M3 hkf f1 f2 (by rw[← hi.rel.ob];exact e3) f3 ?_
 refine⟨by simpa using hi.sz,O9 (mem_ready.1 hrdy).1 hi.cn,hi.cl.step hrdy,⟨r3.m,rfl,by rw[r3.nt,hsz3],r3.df,fun t d ht=>?_⟩,Ext.refl M3,d3.trans hi.df,(hi.pd.step hd hoj' hnoj hi.rel.m e3).tmps hput,Nat.le_trans hi.hs e3.hs,fun _ h=>.inl h,fun _ h=>h⟩
 unfold E3 at ht
 split at ht
 ·rename_i hvis
  by_cases hfd:∃ k∈fl,∃ o,l.toArray[k]?=some o∧o.dst=some t
  ·obtain⟨k,hk,o,ho,hu⟩:=hfd
   have hki:k≠i:=fun e=>hik (e ▸ hfl k hk)
   have hkl:listed.getD k false=true:=(m9 (hvis k hk o ho hu)).resolve_left hki
   have h1:n8 Sf.tmps t=n8 Sq.tmps t:=R9 hsame (cT (J1 hk (by simpa using ho)) hu)
   obtain⟨x,x1,x2⟩:=hi.rel.tm t d (by
    unfold E3
    rw[if_pos]
    ·rw[← h1];exact ht
    ·intro m hm' o' ho' hu'
     have:=hd.2 k m o o' t ho ho' hu hu'
     subst this
     exact hkl)
   refine⟨x,?_,x2.ext e3⟩
   rw[hput]
   cases hdj:oj.dst with
   | none=>exact x1
   | some y =>
     have hne:y≠t:=fun e=>hki (hd.2 i k oj o t hoj' ho (by rw[hdj,e]) hu).symm
     simp only[Act.put]
     rw[Array.getElem?_setIfInBounds_ne hne];exact x1
  ·have h1:n8 Sf.tmps t=n8 S3.tmps t:=f4 t fun o ho hu=>by
    obtain⟨k,hk,hk'⟩:=J2 ho
    exact hfd ⟨k,hk,o,by simpa using hk',hu⟩
   exact r3.tm t d (by rw[← h1];exact ht)
 ·cases ht
end
section
variable (P:Program) (G:Es)
end
def nP (l:List Oper):List (List Nat×List Nat)→Nat→List Nat→Bool
 | [],i,_=>decide (0<i)&&decide (i≤l.length)&&((List.range l.length).all fun k=>decide (k<i)||(List.range i).all fun m=>((N8 l []).getD k 0).testBit m) &&
  oJ l.toArray (l.length-i) i (fr l.length (i-1))&&decide ((fr l.length (i-1)).toList.count false=l.length-i)
 | (fl,kt) :: r,i,ks=>decide (i<l.length)&&(fl.all fun k=>ks.contains k)&&H7 ((pick l fl).map (·.dst))&&O5 l.toArray (pick l fl) &&
  ((List.range i).all fun m=>fl.contains m||((N8 l []).getD i 0).testBit m)&&((List.range l.length).all fun k=>decide (k≤i)||((N8 l []).getD k 0).testBit i) &&
  ((pick l fl).all fun o=>match o.dst with|some u=>!kt.contains u|none=>true)&&(match l[i]? with|some o=>o.guard.isNone&&(eS o.op).isNone|none=>false)&&nP l r (i+1) fl
section
variable {P:Program} {G:Es}
end
section
variable {P:Program} {G:Es} {nt:Nat} {objs:List DObj} {ops:Array Oper}
theorem rU {l:List Oper} {nt:Nat} {objs:List DObj} {Sq:DS} {ks fl kt:List Nat} {Mb M2 Mp:MS} {al:List Nat} {base listed:Array Bool} {dfs:List Deferred} {f i:Nat} {a2:Act} {oj:Oper} {ro:Option Nat} {KK:DS→Prop} {Q':Exit→Act→World→Prop}
 (hd:T1 nt l.toArray) (hnt:Sq.nt=nt) (hob:Sq.objs=objs) (hi:Inv2 P G nt objs l.toArray ks (n8 Sq.tmps) Mb Mp al base dfs (f+1) listed a2 M2)
 (hrdy:i∈Region.ready .any l.toArray listed) (hoj:l[i]?=some oj) (hg:oj.guard=none) (hfl:∀ k∈fl,k∈ks) (hik:i∉ks) (hpl:∀ k∈ks,k∉fl→listed.getD k false=true)
 (hdf:H7 ((pick l fl).map (·.dst))=true) (hnl:O5 l.toArray (pick l fl)=true) (hlt:∀ k∈ks,k<l.length) (hnoj:∀ t,oj.op≠.alloc t)
 (hkt:((pick l fl).all fun o=>match o.dst with|some u=>!kt.contains u|none=>true)=true)
 (hkq:xg P G (l.map (·.dst)) [oj] (Sq.keep kt) (fun S'=>jE P G (l.map (·.dst)) (pick l fl) S' (fun Sf=>W3 (gk (pick l fl)) Sf.tmps Sq.tmps∧KK Sf) ⟨⟩) ⟨⟩)
 (hnext:∀ (Sf:DS) (a3:Act) (M3:MS),KK Sf→Sf.nt=nt→Sf.objs=M3.objs→Ext objs.length M2 M3→(∀ k∈fl,∃ o d,l.toArray[k]?=some o∧OpS P G nt M3.objs l.toArray o d (n8 Sf.tmps)∧∀ u,o.dst=some u→n8 Sf.tmps u=some d) →
  Inv2 P G nt M3.objs l.toArray fl (n8 Sf.tmps) M3 Mp al (listed.setIfInBounds i true) dfs f (listed.setIfInBounds i true) a3 M3→wpAnyIn (q9 ro) 0 P .any l.toArray Q' f (listed.setIfInBounds i true) a3 M3.w) :
 wpOpIn (q9 ro) 0 P l.toArray Q' i (wpAnyIn (q9 ro) 0 P .any l.toArray Q' f (listed.setIfInBounds i true)) a2 M2.w:=by
 have hoj':l.toArray[i]?=some oj:=by simpa using hoj
 have hrk:Rel G (Sq.keep kt) a2 M2:=by
  refine⟨hi.rel.m,hi.rel.ob.trans hob.symm,hi.rel.nt.trans hnt.symm,hi.rel.df,fun t d ht=>hi.rel.tm t d ?_⟩
  have h1:=aF ht
  have h2:=X7 ht
  unfold E3
  rw[if_pos]
  ·exact h2
  ·intro k hk o ho hu
   by_cases hf:k∈fl
   ·have:=List.all_eq_true.1 hkt o (J1 hf (by simpa using ho))
    rw[hu] at this
    simp at this
    exact absurd h1 this
   ·exact hpl k hk hf
 obtain⟨b,hw,ht,_⟩:=Z6 _ _ _ hkq
 have hbt:b=true:=by
  unfold C0 at hw
  rw[hg] at hw
  exact(Option.some.inj hw).symm
 subst hbt
 have hwant:Region.wanted oj (yielded l.toArray a2.tmps)=true:=by simp[Region.wanted,hg]
 unfold wpOpIn
 simp only[hoj',hwant,if_true]
 refine P0 (cA (ht rfl ro a2 M2 hrk)) ?_
 rintro a3 w3 ⟨⟨S3,M3,rfl,r3,e3,d3,k3⟩,v,hput⟩
 have hsz3:S3.nt=nt:=by
  rw[← r3.nt,hput,← hi.rel.nt]
  cases oj.dst<;>simp[Act.put]
 have hob3:S3.objs=M3.objs:=r3.ob.symm
 have hpm:∀ o∈pick l fl,o∈l:=fun o ho=>let ⟨k,_,hk⟩:=J2 ho;List.mem_of_getElem? hk
 have hdst:∀ o∈l,∀ u,o.dst=some u→u<nt:=fun o ho u hu=>by
  obtain⟨k,hk⟩:=List.mem_iff_getElem?.1 ho
  exact hd.1 k o (by simpa using hk) u hu
 obtain⟨Sf,⟨hsame,hkf⟩,f1,f2,f3,f4⟩:=I1 (P:=P) (G:=G) (ops:=l.toArray) (nt:=nt) (objs:=M3.objs) fl (pick l fl) S3 (ef fun k hk=>hlt k (hfl k hk)) hsz3 hob3 (fun o ho=>hdst o (hpm o ho)) (C5 hdf) hnl
  (by simpa using(show jE P G (l.map (·.dst)) (pick l fl) S3 _ ⟨⟩ from k3))
 refine hnext Sf a3 M3 hkf f1 f2 (by rw[← hi.rel.ob];exact e3) f3 ?_
 refine⟨by simpa using hi.sz,O9 (mem_ready.1 hrdy).1 hi.cn,hi.cl.step hrdy,⟨r3.m,rfl,by rw[r3.nt,hsz3],r3.df,fun t d ht=>?_⟩,Ext.refl M3,d3.trans hi.df,(hi.pd.step hd hoj' hnoj hi.rel.m e3).tmps hput,Nat.le_trans hi.hs e3.hs,fun _ h=>.inl h,fun _ h=>h⟩
 unfold E3 at ht
 split at ht
 ·rename_i hvis
  by_cases hfd:∃ k∈fl,∃ o,l.toArray[k]?=some o∧o.dst=some t
  ·obtain⟨k,hk,o,ho,hu⟩:=hfd
   have hki:k≠i:=fun e=>hik (e ▸ hfl k hk)
   have hkl:listed.getD k false=true:=(m9 (hvis k hk o ho hu)).resolve_left hki
   have h1:n8 Sf.tmps t=n8 Sq.tmps t:=R9 hsame (cT (J1 hk (by simpa using ho)) hu)
   obtain⟨x,x1,x2⟩:=hi.rel.tm t d (by
    unfold E3
    rw[if_pos]
    ·rw[← h1];exact ht
    ·intro m hm' o' ho' hu'
     have:=hd.2 k m o o' t ho ho' hu hu'
     subst this
     exact hkl)
   refine⟨x,?_,x2.ext e3⟩
   rw[hput]
   cases hdj:oj.dst with
   | none=>exact x1
   | some y =>
     have hne:y≠t:=fun e=>hki (hd.2 i k oj o t hoj' ho (by rw[hdj,e]) hu).symm
     simp only[Act.put]
     rw[Array.getElem?_setIfInBounds_ne hne];exact x1
  ·have h1:n8 Sf.tmps t=n8 S3.tmps t:=f4 t fun o ho hu=>by
    obtain⟨k,hk,hk'⟩:=J2 ho
    exact hfd ⟨k,hk,o,by simpa using hk',hu⟩
   exact r3.tm t d (by rw[← h1];exact ht)
 ·cases ht
end
section
variable (P:Program) (G:Es)
def By (j:Nat) (l:List Oper) (K:DS→Prop):List (List Nat×List Nat)→Nat→DS→Prop
 | [],i,S=>xg P G (l.map (·.dst)) (l.drop i) (cj S (R1 P (l.take j))) K ⟨⟩
 | (fl,kt) :: r,i,Sq=>xg P G (l.map (·.dst)) (pick l [i]) (Sq.keep kt) (fun S'=>jE P G (l.map (·.dst)) (pick l fl) S' (fun Sf=>W3 (gk (pick l fl)) Sf.tmps Sq.tmps∧By j l K r (i+1) Sf) ⟨⟩) ⟨⟩
end
section
variable {P:Program} {G:Es}
theorem yN {l:List Oper} {nt j:Nat} {n:Cx} {Q:Exit→DS→Prop} {kp:List Nat} {a:Act} {M:MS} {ro:Option Nat} (hd:T1 nt l.toArray) (hj:j≤l.length)
 (hdep:∀ i,i<j→∀ o,l.toArray[i]?=some o→∀ k,k<j→∀ o',l.toArray[k]?=some o'→∀ u,o'.dst=some u→u∈o.looksAt l.toArray→∃ e∈o.after,e.on=k∧Region.binds .any e=true)
 (hback:∀ (k:Nat) (o:Oper),l.toArray[k]?=some o→∀ e∈o.after,Region.binds .any e=true→e.on<k) (hmask:bg l.toArray (N8 l [])) (hAl:Al l.toArray (List.range j) (l.take j)) {Mp:MS} (hmp:RelM G Mp) (hMMp:Ext n.n M Mp) :
 ∀ (st:List (List Nat×List Nat)) (i:Nat) (ks:List Nat) (Sq:DS) (objs:List DObj) (Mb:MS) (base:Array Bool),nP l st i ks=true→(∀ k∈ks,k<j)→j≤i→Sq.nt=nt→Sq.objs=objs→n.n≤objs.length→Ext n.n Mp Mb →
  (∀ k∈ks,∃ o d,l.toArray[k]?=some o∧OpS P G nt objs l.toArray o d (n8 Sq.tmps)∧∀ u,o.dst=some u→n8 Sq.tmps u=some d) →
  (∀ k,base.getD k false=true→k<i)→(∀ k,k<i→k∉ks→base.getD k false=true)→By P G j l (fun S''=>At Q .normal ⟨⟩ (S''.keep kp)) st i Sq →
  ∀ f listed a2 M2,Inv2 P G nt objs l.toArray ks (n8 Sq.tmps) Mb Mp (List.range j) base a.defers f listed a2 M2 →
   wpAnyIn (q9 ro) 0 P .any l.toArray (fun e a' w'=>∃ S' M',M'.w=w'∧Rel G S' a' M'∧Ext n.n M M'∧NewD M a a'∧Q e S') f listed a2 M2.w:=by
 have unl:∀ {listed:Array Bool} {k:Nat},k∈Region.ready .any l.toArray listed→listed.getD k false≠true:=fun {listed k} hk e=>by
  have h0:=(mem_ready.1 hk).1
  rcases Nat.lt_or_ge k listed.size with h'|h'
  ·simp[h'] at h0 e;rw[h0] at e;cases e
  ·simp[Array.getElem?_eq_none h'] at e
 have alll:∀ {listed:Array Bool},listed.toList.count false=0→∀ m,m<listed.size→listed.getD m false=true:=fun {listed} h m hm'=>by
  have hnot:=List.count_eq_zero.1 h
  cases hv:listed[m] with
  | true=>simp[hm',hv]
  | false=>exact absurd (by rw[← hv];exact Array.getElem_mem_toList hm') hnot
 intro st
 induction st with
 | nil =>
   intro i ks Sq objs Mb base hz hks hji hnt hob hno hMb hY hb1 hb2 hK f listed a2 M2 hi
   simp only[nP,Bool.and_eq_true,decide_eq_true_eq] at hz
   obtain⟨⟨⟨⟨z0,zl⟩,z1⟩,z2⟩,z3⟩:=hz
   have fin:∀ f' listed' a4 M4,Inv2 P G nt objs l.toArray ks (n8 Sq.tmps) Mb Mp (List.range j) base a.defers f' listed' a4 M4→(∀ k∈ks,listed'.getD k false=true) →
    wpAnyIn (q9 ro) 0 P .any l.toArray (fun e a' w'=>∃ S' M',M'.w=w'∧Rel G S' a' M'∧Ext n.n M M'∧NewD M a a'∧Q e S') f' listed' a4 M4.w:=by
    intro f' listed' a4 M4 hi4 hfl4
    have hL:listed'=fr l.length (i-1):=by
     refine jh (by simpa using hi4.sz) fun k hk=>⟨fun hkl=>?_,fun hkl=>?_⟩
     ·rcases hi4.only k hkl with h1|h1
      ·have:=hb1 k h1;omega
      ·have:=hks k h1;omega
     ·by_cases hkf:k∈ks
      ·exact hfl4 k hkf
      ·exact hi4.has k (hb2 k (by omega) hkf)
    have hf':f'=(l.drop i).length:=by rw[← hi4.cn,hL,z3];simp
    have hrel:Rel G Sq a4 M4:=⟨hi4.rel.m,by rw[hi4.rel.ob,hob],by rw[hi4.rel.nt,hnt],hi4.rel.df,fun t d ht=>hi4.rel.tm t d (by
     unfold E3
     rw[if_pos]
     ·exact ht
     ·exact fun k hk _ _ _=>hfl4 k hk)⟩
    have hn4:n.n≤M4.objs.length:=by rw[hi4.rel.ob];exact hno
    have half:∀ k∈List.range j,listed'.getD k false=true:=fun k hk=>by
     have hkj:k<j:=by simpa using hk
     by_cases hkf:k∈ks
     ·exact hfl4 k hkf
     ·exact hi4.has k (hb2 k (by omega) hkf)
    obtain⟨β',p1,p2⟩:=hi4.pd
    obtain⟨bs,c1,c2,c3,_⟩:=ce (P:=P) (ops:=l.toArray) (M0:=Mp) (M:=M4) (a:=a4) (β':=β') (List.range j) (l.take j) hAl List.nodup_range
     (fun k hk o t u ho hop hu=>p1 k o t u hk ho hop hu (half k hk))
     (fun k hk m hm' o o' t t' ho ho' hop hop' hs hs' e=>p2 k m o o' t t' hk hm' ho hop (half k hk) ho' hop' (half m hm') hs hs' e)
    obtain⟨MT,t1,t2,t3,t4,_⟩:=Y9 (M0:=Mp) (n:=n.n) hmp (R1 P (l.take j)) bs Sq M4 hrel (hMb.trans (hi4.ext.weaken hno)) hn4 c1 c2 c3
    rw[hf',hL,← t4]
    refine K1 (P:=P) (G:=G) (ops:=l.toArray) (ro:=ro) n.n (fun S''=>At Q .normal ⟨⟩ (S''.keep kp)) (l.drop i) i _ (cj Sq (R1 P (l.take j))) a4 MT (fun k hk=>by simp) (by rw[List.length_drop];exact z2) t1 t3 (by simpa using Z6 _ _ _ hK) ?_
    intro S5 a5 M5 hr5 he5 hd5 hq5
    obtain⟨M6,w6,r6,e6⟩:=Weak.keep (G:=G) (n:=n) (S:=S5) (ks:=kp) (by rw[← hr5.ob];exact he5.len) a5 M5 hr5
    exact⟨_,M6,w6,r6,(hMMp.trans t2).trans (he5.trans e6),.same (hd5.trans hi4.df),hq5⟩
   refine P1 (P:=P) (G:=G) (nt:=nt) (objs:=objs) (ops:=l.toArray) (ks:=ks) (τ:=n8 Sq.tmps) (M0:=Mb) (Mp:=Mp) (al:=List.range j) (base:=base) (dfs:=a.defers) (ro:=ro) hd (fun k hk=>by have:=hks k hk;simpa using this) hY
    (fun k hk o ho m hm'=>hdep k (hks k hk) o ho m (hks m hm')) hback ?_ ?_ f listed a2 M2 hi
   ·intro f' listed' a4 M4 hi4 k hk4 hkf
    have hik:i≤k:=by
     rcases Nat.lt_or_ge k i with h|h
     ·exact absurd (hi4.has k (hb2 k h hkf)) (unl hk4)
     ·exact h
    refine(fin _ listed' a4 M4 hi4 fun m hm'=>?_).2 k hk4
    obtain⟨_,ok,hok,hall⟩:=mem_ready.1 hk4
    have h1:=List.all_eq_true.1 z1 k (by simpa using(Array.getElem?_eq_some_iff.1 hok).1)
    simp only[Bool.or_eq_true,decide_eq_true_eq] at h1
    have h2:=h1.resolve_left (by omega)
    exact hmask k m ok hok (List.all_eq_true.1 h2 m (by have:=hks m hm';simp;omega)) listed' hi4.cl hall
   ·intro listed' a4 M4 hi4
    exact(fin 0 listed' a4 M4 hi4 fun m hm'=>alll hi4.cn m (by rw[hi4.sz];have:=hks m hm';simp;omega)).2
 | cons x r ih =>
   obtain⟨fl,kt⟩:=x
   intro i ks Sq objs Mb base hz hks hji hnt hob hno hMb hY hb1 hb2 hK f listed a2 M2 hi
   simp only[nP,Bool.and_eq_true,decide_eq_true_eq] at hz
   obtain⟨⟨⟨⟨⟨⟨⟨⟨z0,z1⟩,z2⟩,z3⟩,z4⟩,z5⟩,z6⟩,z7⟩,z8⟩:=hz
   have hfl:∀ k∈fl,k∈ks:=fun k hk=>by simpa using List.all_eq_true.1 z1 k hk
   obtain⟨oi,hoi⟩:∃ o,l[i]?=some o:=⟨l[i],List.getElem?_eq_getElem z0⟩
   rw[hoi] at z7
   have hz7:oi.guard=none∧eS oi.op=none:=by simpa[Option.isNone_iff_eq_none] using z7
   have hgi:=hz7.1
   have hiks:i∉ks:=fun h=>by have:=hks i h;omega
   have hpk:pick l [i]=[oi]:=by simp[pick,hoi]
   simp only[By] at hK
   rw[hpk] at hK
   have hun:∀ {f' listed' a4 M4},Inv2 P G nt objs l.toArray ks (n8 Sq.tmps) Mb Mp (List.range j) base a.defers f' listed' a4 M4→listed'.getD i false≠true:=fun hi4 e=>by
    rcases hi4.only i e with h|h
    ·have:=hb1 i h;omega
    ·exact hiks h
   refine P1 (P:=P) (G:=G) (nt:=nt) (objs:=objs) (ops:=l.toArray) (ks:=ks) (τ:=n8 Sq.tmps) (M0:=Mb) (Mp:=Mp) (al:=List.range j) (base:=base) (dfs:=a.defers) (ro:=ro) hd (fun k hk=>by have:=hks k hk;simpa using this) hY
    (fun k hk o ho m hm'=>hdep k (hks k hk) o ho m (hks m hm')) hback ?_ ?_ f listed a2 M2 hi
   ·intro f' listed' a4 M4 hi4 k hk4 hkf
    obtain⟨_,ok,hok,hall⟩:=mem_ready.1 hk4
    have hki:k=i:=by
     rcases Nat.lt_trichotomy k i with h|h|h
     ·exact absurd (hi4.has k (hb2 k h hkf)) (unl hk4)
     ·exact h
     ·have h1:=List.all_eq_true.1 z5 k (by simpa using(Array.getElem?_eq_some_iff.1 hok).1)
      simp only[Bool.or_eq_true,decide_eq_true_eq] at h1
      exact absurd (hmask k i ok hok (h1.resolve_left (by omega)) listed' hi4.cl hall) (hun hi4)
    subst hki
    have hpl:∀ m,m<k→m∉fl→listed'.getD m false=true:=fun m hm' hmf=>by
     have h1:=List.all_eq_true.1 z4 m (by simpa using hm')
     simp only[Bool.or_eq_true,List.contains_iff_mem] at h1
     exact hmask k m ok hok (h1.resolve_left hmf) listed' hi4.cl hall
    refine rU (fl:=fl) (kt:=kt) hd hnt hob hi4 hk4 hoi hgi hfl hkf (fun m hm'=>hpl m (by have:=hks m hm';omega)) z2 z3 (fun m hm'=>by have:=hks m hm';omega) (fun t=>S8 hz7.2 t) z6 hK ?_
    intro Sf a3 M3 hkf' f1 f2 e3 f3 hi3
    refine ih (k+1) fl Sf M3.objs M3 (listed'.setIfInBounds k true) z8 (fun m hm'=>hks m (hfl m hm')) (by omega) f1 f2 (Nat.le_trans hno e3.len) ((hMb.trans (hi4.ext.weaken hno)).trans (e3.weaken hno)) f3 (fun m hm'=>?_) (fun m hm' hmf=>?_) hkf' f' _ a3 M3 hi3
    ·rcases m9 hm' with rfl|h1
     ·omega
     ·rcases hi4.only m h1 with h2|h2
      ·have:=hb1 m h2;omega
      ·have:=hks m h2;omega
    ·rcases Nat.eq_or_lt_of_le (Nat.le_of_lt_succ hm') with rfl|hlt
     ·have:m<listed'.size:=by rw[hi4.sz];simpa using z0
      simp[this]
     ·exact getD_set_true (hpl m hlt hmf)
   ·intro listed' a4 M4 hi4
    exact absurd (alll hi4.cn i (by rw[hi4.sz];simpa using z0)) (hun hi4)
end
inductive ZT where
 | leaf:ZT
 | stop:ZT
 | cand (i:Nat) (fl kt:List Nat) (t e:ZT):ZT
def ZT.tail:ZT→Bool
 | .leaf=>false
 | _=>true
section
variable (P:Program) (G:Es)
def Bg (j i0:Nat) (l:List Oper) (K:DS→Prop):ZT→DS→Prop
 | .leaf,S=>xg P G (l.map (·.dst)) (l.drop i0) (cj S (R1 P (l.take j))) K ⟨⟩
 | .stop,_=>True
 | .cand i fl kt t e,Sq=>xg P G (l.map (·.dst)) (pick l [i]) (Sq.keep kt) (fun S'=>jE P G (l.map (·.dst)) (pick l fl) S' (fun Sf=>W3 (gk (pick l fl)) Sf.tmps Sq.tmps∧Bg j i0 l K t Sf) ⟨⟩) ⟨⟩∧Bg j i0 l K e Sq
end
def pR (l:List Oper) (i0:Nat):ZT→List Nat→List Nat→List Nat→Bool
 | .leaf,ks,rest,_=>rest.isEmpty&&nP l [] i0 ks
 | .stop,_,rest,cov=>!cov.isEmpty&&(List.range l.length).all fun k=>cov.contains k||(!(rest.contains k)&&decide (k<i0))||rest.any fun m=>decide (m≠k)&&((N8 l []).getD k 0).testBit m
 | .cand i fl kt t e,ks,rest,cov=>rest.contains i&&decide (i<l.length)&&(fl.all fun k=>ks.contains k)&&H7 ((pick l fl).map (·.dst))&&O5 l.toArray (pick l fl) &&
  (ks.all fun m=>fl.contains m||((N8 l []).getD i 0).testBit m)&&((pick l fl).all fun o=>match o.dst with|some u=>!kt.contains u|none=>true)&&(match l[i]? with|some o=>o.guard.isNone&&(eS o.op).isNone|none=>false) &&
  e.tail&&pR l i0 t fl (rest.erase i) []&&pR l i0 e ks rest (i :: cov)
section
variable {P:Program} {G:Es}
theorem Bf {l:List Oper} {nt j i0:Nat} {n:Cx} {Q:Exit→DS→Prop} {kp:List Nat} {a:Act} {M:MS} {ro:Option Nat} (hd:T1 nt l.toArray) (hj:j≤l.length)
 (hdep:∀ i,i<j→∀ o,l.toArray[i]?=some o→∀ k,k<j→∀ o',l.toArray[k]?=some o'→∀ u,o'.dst=some u→u∈o.looksAt l.toArray→∃ e∈o.after,e.on=k∧Region.binds .any e=true)
 (hback:∀ (k:Nat) (o:Oper),l.toArray[k]?=some o→∀ e∈o.after,Region.binds .any e=true→e.on<k) (hmask:bg l.toArray (N8 l [])) (hAl:Al l.toArray (List.range j) (l.take j)) {Mp:MS} (hmp:RelM G Mp) (hMMp:Ext n.n M Mp) (hj0:j≤i0) :
 ∀ (st:ZT) (cov ks rest:List Nat) (Sq:DS) (objs:List DObj) (Mb:MS) (base:Array Bool),pR l i0 st ks rest cov=true→(∀ k∈ks,k<j)→(∀ k∈rest,j≤k∧k<i0)→rest.Nodup→Sq.nt=nt→Sq.objs=objs→n.n≤objs.length→Ext n.n Mp Mb →
  (∀ k∈ks,∃ o d,l.toArray[k]?=some o∧OpS P G nt objs l.toArray o d (n8 Sq.tmps)∧∀ u,o.dst=some u→n8 Sq.tmps u=some d) →
  (∀ k,base.getD k false=true→k∉rest∧k<i0)→(∀ k,k<i0→k∉ks→k∉rest→base.getD k false=true)→Bg P G j i0 l (fun S''=>At Q .normal ⟨⟩ (S''.keep kp)) st Sq →
  (cov=[]→∀ f listed a2 M2,Inv2 P G nt objs l.toArray ks (n8 Sq.tmps) Mb Mp (List.range j) base a.defers f listed a2 M2 →
   wpAnyIn (q9 ro) 0 P .any l.toArray (fun e a' w'=>∃ S' M',M'.w=w'∧Rel G S' a' M'∧Ext n.n M M'∧NewD M a a'∧Q e S') f listed a2 M2.w) ∧
  (st.tail=true→∀ f listed a2 M2,Inv2 P G nt objs l.toArray ks (n8 Sq.tmps) Mb Mp (List.range j) base a.defers (f+1) listed a2 M2→∀ k∈Region.ready .any l.toArray listed,k∉ks→k∉cov →
   wpOpIn (q9 ro) 0 P l.toArray (fun e a' w'=>∃ S' M',M'.w=w'∧Rel G S' a' M'∧Ext n.n M M'∧NewD M a a'∧Q e S') k (wpAnyIn (q9 ro) 0 P .any l.toArray (fun e a' w'=>∃ S' M',M'.w=w'∧Rel G S' a' M'∧Ext n.n M M'∧NewD M a a'∧Q e S') f (listed.setIfInBounds k true)) a2 M2.w):=by
 have unl:∀ {listed:Array Bool} {k:Nat},k∈Region.ready .any l.toArray listed→listed.getD k false≠true:=fun {listed k} hk e=>by
  have h0:=(mem_ready.1 hk).1
  rcases Nat.lt_or_ge k listed.size with h'|h'
  ·simp[h'] at h0 e;rw[h0] at e;cases e
  ·simp[Array.getElem?_eq_none h'] at e
 have alll:∀ {listed:Array Bool},listed.toList.count false=0→∀ m,m<listed.size→listed.getD m false=true:=fun {listed} h m hm'=>by
  have hnot:=List.count_eq_zero.1 h
  cases hv:listed[m] with
  | true=>simp[hm',hv]
  | false=>exact absurd (by rw[← hv];exact Array.getElem_mem_toList hm') hnot
 intro st
 induction st with
 | leaf =>
   intro cov ks rest Sq objs Mb base hz hks hrs hnd hnt hob hno hMb hY hb1 hb2 hK
   simp only[pR,Bool.and_eq_true,List.isEmpty_iff] at hz
   obtain⟨rfl,hz⟩:=hz
   refine⟨fun _=>?_,fun h=>by cases h⟩
   exact yN hd hj hdep hback hmask hAl hmp hMMp [] i0 ks Sq objs Mb base hz hks hj0 hnt hob hno hMb hY (fun k hk=>(hb1 k hk).2) (fun k hk hk'=>hb2 k hk hk' (by simp)) hK
 | stop =>
   intro cov ks rest Sq objs Mb base hz hks hrs hnd hnt hob hno hMb hY hb1 hb2 hK
   simp only[pR,Bool.and_eq_true,Bool.not_eq_true',List.isEmpty_eq_false_iff] at hz
   obtain⟨hc,hz⟩:=hz
   refine⟨fun h=>absurd h hc,fun _ f listed a2 M2 hi k hk hkk hkc=>?_⟩
   exfalso
   obtain⟨_,ok,hok,hall⟩:=mem_ready.1 hk
   have h1:=List.all_eq_true.1 hz k (by simpa using(Array.getElem?_eq_some_iff.1 hok).1)
   simp only[Bool.or_eq_true,Bool.and_eq_true,Bool.not_eq_true',decide_eq_true_eq,List.any_eq_true,List.contains_iff_mem] at h1
   rcases h1 with (h1|⟨h1,h2⟩)|⟨m,hm,_,h2⟩
   ·exact hkc h1
   ·have h1':k∉rest:=fun h=>by
     have:rest.contains k=true:=by simpa using h
     rw[h1] at this;cases this
    exact unl hk (hi.has k (hb2 k h2 hkk h1'))
   ·have h3:=hmask k m ok hok h2 listed hi.cl hall
    rcases hi.only m h3 with h4|h4
    ·exact(hb1 m h4).1 hm
    ·have:=hks m h4;have:=hrs m hm;omega
 | cand i fl kt t e iht ihe =>
   intro cov ks rest Sq objs Mb base hz hks hrs hnd hnt hob hno hMb hY hb1 hb2 hK
   simp only[pR,Bool.and_eq_true,decide_eq_true_eq,List.contains_iff_mem] at hz
   obtain⟨⟨⟨⟨⟨⟨⟨⟨⟨⟨z0,z1⟩,z2⟩,z3⟩,z4⟩,z5⟩,z6⟩,z7⟩,ze⟩,z8⟩,z9⟩:=hz
   have hfl:∀ k∈fl,k∈ks:=fun k hk=>by simpa using List.all_eq_true.1 z2 k hk
   obtain⟨oi,hoi⟩:∃ o,l[i]?=some o:=⟨l[i],List.getElem?_eq_getElem z1⟩
   rw[hoi] at z7
   have hz7:oi.guard=none∧eS oi.op=none:=by simpa[Option.isNone_iff_eq_none] using z7
   have hiks:i∉ks:=fun h=>by have:=hks i h;have:=hrs i z0;omega
   have hpk:pick l [i]=[oi]:=by simp[pick,hoi]
   simp only[Bg] at hK
   rw[hpk] at hK
   obtain⟨hK1,hK2⟩:=hK
   have hun:∀ {f' listed' a4 M4},Inv2 P G nt objs l.toArray ks (n8 Sq.tmps) Mb Mp (List.range j) base a.defers f' listed' a4 M4→listed'.getD i false≠true:=fun hi4 e=>by
    rcases hi4.only i e with h|h
    ·exact(hb1 i h).1 z0
    ·exact hiks h
   have B:∀ f listed a2 M2,Inv2 P G nt objs l.toArray ks (n8 Sq.tmps) Mb Mp (List.range j) base a.defers (f+1) listed a2 M2→∀ k∈Region.ready .any l.toArray listed,k∉ks→k∉cov →
    wpOpIn (q9 ro) 0 P l.toArray (fun e a' w'=>∃ S' M',M'.w=w'∧Rel G S' a' M'∧Ext n.n M M'∧NewD M a a'∧Q e S') k (wpAnyIn (q9 ro) 0 P .any l.toArray (fun e a' w'=>∃ S' M',M'.w=w'∧Rel G S' a' M'∧Ext n.n M M'∧NewD M a a'∧Q e S') f (listed.setIfInBounds k true)) a2 M2.w:=by
    intro f' listed' a4 M4 hi4 k hk4 hkf hkc
    by_cases hki:k=i
    ·subst hki
     obtain⟨_,ok,hok,hall⟩:=mem_ready.1 hk4
     have hpl:∀ m∈ks,m∉fl→listed'.getD m false=true:=fun m hm' hmf=>by
      have h1:=List.all_eq_true.1 z5 m hm'
      simp only[Bool.or_eq_true,List.contains_iff_mem] at h1
      exact hmask k m ok hok (h1.resolve_left hmf) listed' hi4.cl hall
     refine rU (fl:=fl) (kt:=kt) hd hnt hob hi4 hk4 hoi hz7.1 hfl hkf hpl z3 z4 (fun m hm'=>by have:=hks m hm';omega) (fun t=>S8 hz7.2 t) z6 hK1 ?_
     intro Sf a3 M3 hkf' f1 f2 e3 f3 hi3
     refine(iht [] fl (rest.erase k) Sf M3.objs M3 (listed'.setIfInBounds k true) z8 (fun m hm'=>hks m (hfl m hm')) (fun m hm'=>hrs m (List.mem_of_mem_erase hm')) (hnd.erase k) f1 f2 (Nat.le_trans hno e3.len) ((hMb.trans (hi4.ext.weaken hno)).trans (e3.weaken hno)) f3 (fun m hm'=>?_) (fun m hm' hmf hmr=>?_) hkf').1 rfl f' _ a3 M3 hi3
     ·rcases m9 hm' with rfl|h1
      ·exact⟨fun h=>(List.Nodup.mem_erase_iff hnd).1 h |>.1 rfl,(hrs m z0).2⟩
      ·rcases hi4.only m h1 with h2|h2
       ·exact⟨fun h=>(hb1 m h2).1 (List.mem_of_mem_erase h),(hb1 m h2).2⟩
       ·have h3:=hks m h2
        exact⟨fun h=>by have:=hrs m (List.mem_of_mem_erase h);omega,by omega⟩
     ·by_cases hmk:m=k
      ·subst hmk
       have:m<listed'.size:=by rw[hi4.sz];simpa using z1
       simp[this]
      ·refine getD_set_true ?_
       by_cases hmks:m∈ks
       ·exact hpl m hmks hmf
       ·exact hi4.has m (hb2 m hm' hmks fun h=>hmr ((List.Nodup.mem_erase_iff hnd).2 ⟨hmk,h⟩))
    ·exact(ihe (i :: cov) ks rest Sq objs Mb base z9 hks hrs hnd hnt hob hno hMb hY hb1 hb2 hK2).2 ze f' listed' a4 M4 hi4 k hk4 hkf (fun h=>by
      rcases List.mem_cons.1 h with h|h
      ·exact hki h
      ·exact hkc h)
   refine⟨fun hc f listed a2 M2 hi=>?_,fun _=>B⟩
   subst hc
   refine P1 (P:=P) (G:=G) (nt:=nt) (objs:=objs) (ops:=l.toArray) (ks:=ks) (τ:=n8 Sq.tmps) (M0:=Mb) (Mp:=Mp) (al:=List.range j) (base:=base) (dfs:=a.defers) (ro:=ro) hd (fun k hk=>by have:=hks k hk;simpa using this) hY
    (fun k hk o ho m hm'=>hdep k (hks k hk) o ho m (hks m hm')) hback ?_ ?_ f listed a2 M2 hi
   ·intro f' listed' a4 M4 hi4 k hk4 hkf
    exact B f' listed' a4 M4 hi4 k hk4 hkf (by simp)
   ·intro listed' a4 M4 hi4
    exact absurd (alll hi4.cn i (by rw[hi4.sz];simpa using z1)) (hun hi4)
def mX (nt j i0:Nat) (st:ZT) (l:List Oper):Bool:=
 decide (j≤l.length)&&decide (j≤i0)&&(l.all fun o=>match o.dst with|some t=>decide (t<nt)|none=>true)&&H7 (l.map (·.dst)) &&
 ((List.range l.length).all fun k=>match l[k]? with|some o=>o.after.toList.all fun e=>!Region.binds .any e||decide (e.on<k)|none=>true) &&
 ((List.range j).all fun i=>(List.range j).all fun k=>match l[i]?,l[k]? with
   | some o,some o'=>match o'.dst with|some u=>!(o.looksAt l.toArray).contains u||o.after.toList.any fun e=>decide (e.on=k)&&Region.binds .any e|none=>true
   | _,_=>true) &&
 O5 l.toArray (l.take j)&&pR l i0 st (List.range j) (List.range' j (i0-j)) []
theorem Dp {nt:Nat} {n:Cx} {l:List Oper} {S:DS} {Q:Exit→DS→Prop} (j i0:Nat) (st:ZT) (kp:List Nat) (hnt:S.nt=nt) (hB:mX nt j i0 st l=true)
 (h:jE P G (l.map (·.dst)) (l.take j) S (fun Sq=>Bg P G j i0 l (fun S''=>At Q .normal ⟨⟩ (S''.keep kp)) st Sq) ⟨⟩):n.n≤S.objs.length→∀ (a:Act) (M:MS),Rel G S a M →
 wpAnyIn (q9 (n.rd.map M.β)) 0 P .any l.toArray (fun e a' w'=>∃ S' M',M'.w=w'∧Rel G S' a' M'∧Ext n.n M M'∧NewD M a a'∧Q e S') l.length (Array.replicate l.length false) a { M.w with drawn:=M.w.drawn+1 }:=by
 intro hn a M hr
 simp only[mX,Bool.and_eq_true,decide_eq_true_eq] at hB
 obtain⟨⟨⟨⟨⟨⟨⟨b1,b0⟩,b4⟩,b5⟩,b6⟩,b7⟩,b8⟩,bz⟩:=hB
 subst hnt
 have hdst:∀ o∈l,∀ u,o.dst=some u→u<S.nt:=fun o ho u hu=>by
  have:=List.all_eq_true.1 b4 o ho
  simpa[hu] using this
 have hpw:=C5 b5
 have hd:T1 S.nt l.toArray:=by
  refine⟨fun i o ho u hu=>hdst o (by simpa using Array.mem_of_getElem? ho) u hu,fun i k o o' u ho ho' hu hu'=>?_⟩
  have hi:l[i]?=some o:=by simpa using ho
  have hk:l[k]?=some o':=by simpa using ho'
  obtain⟨hil,hi'⟩:=List.getElem?_eq_some_iff.1 hi
  obtain⟨hkl,hk'⟩:=List.getElem?_eq_some_iff.1 hk
  rw[List.pairwise_iff_getElem] at hpw
  rcases Nat.lt_trichotomy i k with hlt|he|hlt
  ·exact absurd (show (l.map (·.dst))[i]'(by simpa using hil)=(l.map (·.dst))[k]'(by simpa using hkl) by simp[hi',hk',hu,hu']) (hpw i k (by simpa using hil) (by simpa using hkl) hlt (by simp[hi',hu]))
  ·exact he
  ·exact absurd (show (l.map (·.dst))[k]'(by simpa using hkl)=(l.map (·.dst))[i]'(by simpa using hil) by simp[hi',hk',hu,hu']) (hpw k i (by simpa using hkl) (by simpa using hil) hlt (by simp[hk',hu']))
 have hback:∀ (k:Nat) (o:Oper),l.toArray[k]?=some o→∀ e∈o.after,Region.binds .any e=true→e.on<k:=fun k o ho e he hb=>by
  have hk:l[k]?=some o:=by simpa using ho
  have:=List.all_eq_true.1 b6 k (by simpa using(List.getElem?_eq_some_iff.1 hk).1)
  rw[hk] at this
  have:=List.all_eq_true.1 this e (by simpa using he)
  simpa[hb] using this
 have hdep:∀ i,i<j→∀ o,l.toArray[i]?=some o→∀ k,k<j→∀ o',l.toArray[k]?=some o'→∀ u,o'.dst=some u→u∈o.looksAt l.toArray→∃ e∈o.after,e.on=k∧Region.binds .any e=true:=fun i hi o ho k hk o' ho' u hu hl=>by
  have h1:=List.all_eq_true.1 (List.all_eq_true.1 b7 i (by simpa using hi)) k (by simpa using hk)
  rw[show l[i]?=some o by simpa using ho,show l[k]?=some o' by simpa using ho'] at h1
  simp only[hu,Bool.or_eq_true,Bool.not_eq_true',List.any_eq_true,Bool.and_eq_true,decide_eq_true_eq] at h1
  rcases h1 with h1|⟨e,he,h2,h3⟩
  ·have:(o.looksAt l.toArray).contains u=true:=by simpa using hl
   rw[h1] at this;cases this
  ·exact⟨e,by simpa using he,h2,h3⟩
 have hmask:bg l.toArray (N8 l []):=T2 l [] (fun j _=>by simp) (fun j i oj _ h=>by simp at h)
 obtain⟨hm1,he1⟩:=RelM.same (w':={ M.w with drawn:=M.w.drawn+1 }) hr.m rfl ⟨rfl,rfl,rfl,by first|exact Nat.le_refl _|exact Nat.le_succ _⟩
 have hAl:Al l.toArray (List.range j) (l.take j):=by
  have gen:∀ (m k:Nat),k+m≤l.length→Al l.toArray (List.range' k m) ((l.drop k).take m):=by
   intro m
   induction m with
   | zero=>intro k _;simp[Al,List.range']
   | succ m ih =>
     intro k hk
     have hk':k<l.length:=by omega
     rw[List.range'_succ,List.drop_eq_getElem_cons hk',List.take_succ_cons]
     exact⟨by simp,ih (k+1) (by omega)⟩
  have:=gen j 0 (by omega)
  rwa [List.drop_zero,← List.range_eq_range'] at this
 obtain⟨Sq,hkq,q1,q2,q3,q4⟩:=I1 (P:=P) (G:=G) (ops:=l.toArray) (nt:=S.nt) (objs:=S.objs) (List.range j) (l.take j) S hAl rfl rfl (fun o ho=>hdst o (List.mem_of_mem_take ho))
  (by rw[List.map_take];exact hpw.take) b8 (by simpa using h)
 let Md:MS:={ M with w:={ M.w with drawn:=M.w.drawn+1 } }
 have hobs:M.objs.length=S.objs.length:=by rw[hr.ob]
 refine(Bf (n:=n) (Q:=Q) (kp:=kp) (M:=M) hd b1 hdep hback hmask hAl (Mp:=Md) hm1 (he1.weaken (by rw[hobs];exact hn)) b0 st [] (List.range j) (List.range' j (i0-j)) Sq S.objs Md (Array.replicate l.length false) bz (fun k hk=>by simpa using hk) (fun k hk=>by rw[List.mem_range'_1] at hk;omega) (List.nodup_range' ..) q1 q2 hn ((Ext.refl Md).weaken (by show n.n≤M.objs.length;rw[hobs];exact hn)) q3
  (fun k hk=>by rw[m7] at hk;cases hk) (fun k hk hk' hk2=>absurd (by rw[List.mem_range'_1];have:¬ k<j:=fun h=>hk' (by simpa using h);omega) hk2) hkq).1 rfl l.length _ a Md ?_
 refine⟨by simp,by simp,fun k o _ hk=>?_,⟨hm1,hr.ob,hr.nt,hr.df,fun t d ht=>?_⟩,by rw[← hr.ob];exact Ext.refl Md,rfl,⟨fun _=>0,fun k o t u _ _ _ _ hk=>?_,fun k m o o' t t' _ _ _ _ hk=>?_⟩,Nat.le_refl _,fun k hk=>?_,fun _ h=>h⟩
 ·rw[m7] at hk;cases hk
 ·unfold E3 at ht
  split at ht
  ·rename_i hvis
   have h4:n8 Sq.tmps t=n8 S.tmps t:=q4 t fun o ho hu=>by
    obtain⟨k,hk⟩:=List.mem_iff_getElem?.1 ho
    have hkj:k<j:=by
     have:=(List.getElem?_eq_some_iff.1 hk).1
     simp at this;omega
    rw[List.getElem?_take_of_lt hkj] at hk
    have:=hvis k (by simpa using hkj) o (by simpa using hk) hu
    rw[m7] at this;cases this
   obtain⟨v,h1,h2⟩:=hr.tm t d (by rw[← h4];exact ht)
   exact⟨v,h1,h2.ext he1⟩
  ·cases ht
 ·rw[m7] at hk;cases hk
 ·rw[m7] at hk;cases hk
 ·rw[m7] at hk;cases hk
end
theorem rL {P:Program} {G:Es} {id nt:Nat} {n:Cx} {l:List Oper} {S:DS} {Q:Exit→DS→Prop} (p:List Nat) (j i0:Nat) (st:ZT) (ks:List Nat) (hm:P.follows .mixedOrders=true) (hnt:S.nt=nt) (hP:kg p l=true) (hB:mX nt j i0 st (r5 p l p)=true)
 (h:jE P G ((r5 p l p).map (·.dst)) ((r5 p l p).take j) S (fun Sq=>Bg P G j i0 (r5 p l p) (fun S''=>At Q .normal ⟨⟩ (S''.keep ks)) st Sq) ⟨⟩):DT P G n (.region id l.toArray true) S Q:=
 fun hn _ a M hr=>wpIn_region_any hm (by
  have hp:=cS hP
  have hl:(r5 p l p).length=l.length:=by rw[Z3 hp.lt,hp.len]
  have h1:=Dp j i0 st ks hnt hB h hn a M hr
  rw[hl] at h1
  refine eH hp _ _ _ _ _ (by simp) (by simp) (fun i k hi=>?_) h1
  have hi1:i<l.length:=by rw[← hp.len];exact g9 hi
  have hk1:=hp.lt k (List.mem_of_getElem? hi)
  simp[hi1,hk1])
end Go.Ab
