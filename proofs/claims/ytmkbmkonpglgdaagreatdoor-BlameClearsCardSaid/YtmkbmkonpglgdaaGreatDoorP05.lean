/- Part 5 of the proofs: laws and walks that hold without conditions beyond those that each theorem names. -/
import Derived.Test.YtmkbmkonpglgdaaGreatDoorP04
set_option linter.all false
set_option linter.deprecated false
namespace Go.Ab
open Go
def putAll (S:DS):List Tmp→List DV→DS
 | t :: ts,d :: ds=>putAll (S.put (some t) d) ts ds
 | _,_=>S
def setLp (objs:List DObj) (o:Nat) (st:LoopState) (pend:Option Code):List DObj:=match objs[o]? with
 | some (.loop r)=>objs.set o (.loop { r with st:=st,pend:=pend })
 | _=>objs
def YieldQ (o:Nat) (C:DV→List DObj→Prop):Exit→DS→Prop
 | .normal,S=>C (.one (.im (.raw (.bool true)))) (setLp S.objs o .ready none)
 | .ret,S=>C (.one (.im (.raw (.bool false)))) (setLp S.objs o .done (some .ret))
 | .exit id,S=>C (.one (.im (.raw (.bool false)))) (setLp S.objs o .done (some (.exit id)))
 | _,_=>False
section
variable {P:Program} {G:Nat→Option (List IC)} {n:Cx} {S:DS} {Q:Exit→DS→Prop}
theorem At.yield_end {o:Nat} {C:DV→List DObj→Prop} (h:C (.one (.im (.raw (.bool true)))) (setLp S.objs o .ready none)):At (YieldQ o C) .normal ⟨⟩ S:=h
theorem At.yield_ret {o:Nat} {C:DV→List DObj→Prop} (h:C (.one (.im (.raw (.bool false)))) (setLp S.objs o .done (some .ret))):At (YieldQ o C) .ret ⟨⟩ S:=h
def Busy (P:Program) (G:Nat→Option (List IC)) (o m:Nat) (body:Code) (C:DV→List DObj→Prop) (S:DS):Prop:=
 DT P G ⟨m,some o⟩ body { S with objs:=setLp S.objs o .busy none } (YieldQ o C)
def YieldR (P:Program) (G:Nat→Option (List IC)) (o:Nat) (as:List DV) (objs:List DObj) (C:DV→List DObj→Prop):Option DObj→Prop
 | some (.loop r)=>r.st=.ready∧r.pend=none∧as.length=r.ps.size ∧
  DT P G ⟨objs.length,some o⟩ r.asg (putAll ⟨r.nt,r.tm,objs⟩ r.ps.toList as) (thenQ (fun S'=>(∃ r',S'.objs[o]?=some (.loop r')∧r'.st=.ready∧r'.pend=none)∧Busy P G o objs.length r.body C S') (fun _ _=>False))
 | _=>False
def YieldE (P:Program) (G:Nat→Option (List IC)) (o:Nat) (as:List DV) (objs:List DObj) (C:DV→List DObj→Prop) (_t:Tok C):Prop:=YieldR P G o as objs C objs[o]?
theorem RelM.lpTurn {M:MS} (hm:RelM G M) {o:Nat} {r:LoopD} (ho:M.objs[o]?=some (.loop r)) {R:Loop} (hR:M.w.heap[M.β o]?=some (.loop R)) (st:LoopState) (pend:Option Code) :
 RelM G { M with w:=M.w.putObj (M.β o) (.loop { R with state:=st,pending:=pend }),objs:=setLp M.objs o st pend } ∧
 Ext M.objs.length M { M with w:=M.w.putObj (M.β o) (.loop { R with state:=st,pending:=pend }),objs:=setLp M.objs o st pend }:=by
 have hset:setLp M.objs o st pend=M.objs.set o (.loop { r with st:=st,pend:=pend }):=by simp [Ab.setLp,ho]
 have hw:M.w.putObj (M.β o) (.loop { R with state:=st,pending:=pend })={ M.w with heap:=M.w.heap.setIfInBounds (M.β o) (.loop { R with state:=st,pending:=pend }) }:=rfl
 have he:Ext M.objs.length M (M.turn o (.loop { R with state:=st,pending:=pend }) (.loop { r with st:=st,pend:=pend })):=Ext.turn ho rfl trivial hR rfl
 have hrel:RelO (M.turn o (.loop { R with state:=st,pending:=pend }) (.loop { r with st:=st,pend:=pend })) o (.loop { r with st:=st,pend:=pend }):=by
  obtain ⟨fn,tmps,D,h1,h2,h3⟩:=hm.objs o _ ho
  rw [hR] at h1
  cases h1
  refine ⟨fn,tmps,D,?_,h2,fun t d ht=>?_⟩
  ·simp only [MS.turn]
   rw [Array.getElem?_setIfInBounds_self_of_lt (hm.lt o _ ho rfl)]
  ·obtain ⟨v,e1,e2⟩:=h3 t d ht
   exact ⟨v,e1,e2.ext he⟩
 have:=hm.turn (x:=.loop { R with state:=st,pending:=pend }) (d':=.loop { r with st:=st,pend:=pend }) ho rfl trivial hR rfl hrel
 rw [hset]
 exact ⟨this,he⟩
theorem putAll_rel {M:MS}:∀ (ts:List Tmp) (ds:List DV) (vs:List Value) (S:DS) (a:Act),Rel G S a M→ds.length=vs.length→(∀ (j:Nat) (d:DV) (v:Value),ds[j]?=some d→vs[j]?=some v→RepV M d v) →
 Rel G (putAll S ts ds) { a with tmps:=(ts.zip vs).foldl (fun t (p:Tmp×Value)=>t.setIfInBounds p.1 p.2) a.tmps } M∧(putAll S ts ds).objs=S.objs
 | [],ds,vs,S,a,hr,_,_=>by cases ds<;>exact ⟨hr,rfl⟩
 | t :: ts,[],[],S,a,hr,_,_=>⟨hr,rfl⟩
 | t :: ts,[],_ :: _,S,a,hr,h,_=>by simp at h
 | t :: ts,_ :: _,[],S,a,hr,h,_=>by simp at h
 | t :: ts,d :: ds,v :: vs,S,a,hr,hl,h=>by
   have hp:=hr.put hr.m (Ext.refl M) (h 0 d v rfl rfl) (some t)
   rw [show ({ S with objs:=M.objs }:DS)=S from by rw [hr.ob]] at hp
   have:=putAll_rel ts ds vs _ _ hp (by simpa using hl) (fun j d v h1 h2=>h (j + 1) d v (by simpa using h1) (by simpa using h2))
   refine ⟨this.1,this.2.trans ?_⟩
   simp only [DS.put]
   split<;>rfl
theorem zip_toList {α β:Type} (x:Array α) (y:Array β):(x.zip y).toList=x.toList.zip y.toList:=by simp
theorem OpT_yield {o:Oper} {K:DS→Prop} {x:Operand} {xs:Array Operand} {ts:Array TypeId} {l:Nat} {as:List DV} (ho:o.op=.call { callee:=.value x,args:=xs,argTypes:=ts })
 (hx:evalG G S x=some (.one (.yld l))) (ha:evals G S xs.toList=some as)
 (h:YieldE P G l as S.objs (fun d objs'=>K ({ S with objs:=objs' }.put o.dst d)) ⟨⟩):OpT P G o S K:=by
 intro ro a M hr
 have hp:=evalG_sound hr hx
 obtain ⟨hl,hrep⟩:=evals_sound hr _ _ ha
 unfold YieldE at h
 generalize hob:S.objs[l]?=ob at h
 unfold YieldR at h
 split at h
 ·rename_i r
  obtain ⟨hst,hpe,hal,hb⟩:=h
  have hMob:M.objs[l]?=some (.loop r):=by rw [hr.ob];exact hob
  obtain ⟨fn,tmps,D,g1,g2,g3⟩:=hr.m.objs l _ hMob
  generalize hv:a.eval x=v at hp
  cases hp with
  | one _ _ hp=>cases hp with
    | yld _ _ h1 h2 h3 =>
      obtain rfl:=h3 r hMob
      have hsz:(xs.map a.eval).size=r.ps.size:=by rw [← hal,hl];simp
      have hyr:=run_yield (P:=P) (args:=xs.map a.eval) g1 hsz
      have hrun:(execOp a.eval o).run P M.w=.ok (.round (M.β l) fn ((r.ps.zip (xs.map a.eval)).foldl (fun t (p,v)=>t.setIfInBounds p v) tmps) r.asg r.body) M.w:=by
       simp only [execOp,ho,Sem.run_bind,resolve,hv,Deferred.ofValue,Sem.run_pure,Result.andThen_ok,invoke,Array.empty_append]
       exact hyr
      refine ⟨fun _ _=>trivial,?_⟩
      rw [semAt_run _ hrun (by simp)]
      refine ⟨fun h=>absurd h (by simp [fenceR,Fence.wide]),?_⟩
      refine RoundIn.mono (R:=fun e w'=>∃ v,e=.returned v∧∃ S' M',M'.w=w'∧Rel G S' (a.put o.dst v) M'∧Ext M.objs.length M M'∧K S') (roundIn_of_wpIn trivial ?_) ?_
      ·
       obtain ⟨hrel0,hob0⟩:=putAll_rel (G:=G) (M:=M) r.ps.toList as (xs.map a.eval).toList ⟨r.nt,r.tm,S.objs⟩ { tmps:=tmps,defers:=[] } ⟨hr.m,hr.ob,g2,⟨[],rfl,by simp,by simp⟩,g3⟩ (by simp [hl]) (fun j d v h4 h5=>by
        refine hrep j d v h4 ?_
        rw [← h5];simp)
       have hfold:(r.ps.zip (xs.map a.eval)).foldl (fun t (p,v)=>t.setIfInBounds p v) tmps=(r.ps.toList.zip (xs.map a.eval).toList).foldl (fun t (p:Tmp×Value)=>t.setIfInBounds p.1 p.2) tmps:=by
        rw [← Array.foldl_toList,zip_toList]
       rw [hfold]
       have hRd:RdOk ⟨S.objs.length,some l⟩ (putAll ⟨r.nt,r.tm,S.objs⟩ r.ps.toList as):=fun o' e=>by
        cases e
        exact ⟨lt_of_getElem? hob,r,by rw [hob0];exact hob⟩
       have hw:=hb (by rw [hob0];exact Nat.le_refl _) hRd _ M hrel0
       have hfn:(Cx.mk S.objs.length (some l)).fence M=(fenceR ro).inRound (M.β l):=rfl
       rw [hfn] at hw
       refine wpIn_mono hw ?_
       rintro e a1 w1 ⟨S1,M1,rfl,hr1,he1,hn1,hq⟩
       cases e with
       | normal =>
         obtain ⟨⟨r1,hr1o,hst1,hpe1⟩,hq⟩:=hq
         have hM1:M1.objs[l]?=some (.loop r1):=by rw [hr1.ob];exact hr1o
         obtain ⟨fn1,tmps1,D1,k1,k2,k3⟩:=hr1.m.objs l _ hM1
         have hβ1:M1.β l=M.β l:=(he1.lp l (lt_of_getElem? hob) r1 hM1).2
         rw [hβ1] at k1
         have hbg:=run_beginRound (P:=P) k1 hst1
         refine ⟨_,hbg,?_⟩
         obtain ⟨hm2,he2⟩:=hr1.m.lpTurn hM1 (R:={ state:=r1.st,pending:=r1.pend,fn:=fn1,tmps:=tmps1,params:=r1.ps,assign:=r1.asg,body:=r1.body,defers:=D1 }) (by rw [hβ1];exact k1) .busy none
         have hpe1':({ state:=.busy,pending:=r1.pend,fn:=fn1,tmps:=tmps1,params:=r1.ps,assign:=r1.asg,body:=r1.body,defers:=D1 }:Loop)={ state:=.busy,pending:=none,fn:=fn1,tmps:=tmps1,params:=r1.ps,assign:=r1.asg,body:=r1.body,defers:=D1 }:=by rw [hpe1]
         rw [hpe1']
         rw [hβ1] at hm2 he2
         have hr2:Rel G { S1 with objs:=setLp S1.objs l .busy none } a1 { M1 with w:=M1.w.putObj (M.β l) (.loop { state:=.busy,pending:=none,fn:=fn1,tmps:=tmps1,params:=r1.ps,assign:=r1.asg,body:=r1.body,defers:=D1 }),objs:=setLp M1.objs l .busy none }:=
          ⟨hm2,by rw [hr1.ob],hr1.nt,df_ext hr1.m he2 hr1.df,fun t d ht=>by
           obtain ⟨v,e1,e2⟩:=hr1.tm t d ht
           exact ⟨v,e1,e2.ext he2⟩⟩
         have hlen1:S.objs.length≤S1.objs.length:=by rw [← hr1.ob];exact he1.len
         have hRd2:RdOk ⟨S.objs.length,some l⟩ { S1 with objs:=setLp S1.objs l .busy none }:=fun o' e=>by
          cases e
          refine ⟨lt_of_getElem? hob,{ r1 with st:=.busy,pend:=none },?_⟩
          simp [setLp,hr1o,List.getElem?_set_self (lt_of_getElem? hr1o)]
         have hq2:=hq (by simp only [setLp,hr1o,List.length_set];exact hlen1) hRd2 a1 _ hr2
         have hfn2:(Cx.mk S.objs.length (some l)).fence { M1 with w:=M1.w.putObj (M.β l) (.loop { state:=.busy,pending:=none,fn:=fn1,tmps:=tmps1,params:=r1.ps,assign:=r1.asg,body:=r1.body,defers:=D1 }),objs:=setLp M1.objs l .busy none }=(fenceR ro).inRound (M.β l):=by
          simp only [Cx.fence,Option.map_some,hβ1];rfl
         rw [hfn2] at hq2
         refine wpIn_mono hq2 ?_
         rintro e2 a2 w2 ⟨S2,M2,rfl,hr3,he3,hn3,hq3⟩
         obtain ⟨⟨r2,hM2⟩,hβ2⟩:=he3.lp' l (lt_of_getElem? hob) { r1 with st:=.busy,pend:=none } (by simp [setLp,hM1,List.getElem?_set_self (lt_of_getElem? hM1)])
         simp only at hβ2
         rw [hβ1] at hβ2
         obtain ⟨fn2,tmps2,D2,j1,j2,j3⟩:=hr3.m.objs l _ hM2
         rw [hβ2] at j1
         have hall:Ext S.objs.length M M2:=by
          refine (he1.trans ?_).trans he3
          exact he2.weaken (by rw [hr1.ob];exact hlen1)
         have hro:Rel G { S with objs:=S2.objs } a M2:=⟨hr3.m,hr3.ob,hr.nt,df_ext hr.m hall hr.df,fun t d ht=>by
          obtain ⟨v,e1,e2⟩:=hr.tm t d ht
          exact ⟨v,e1,e2.ext (by rw [hr.ob];exact hall)⟩⟩
         have fin:∀ (jump:Option Code) (b:Bool) (st:LoopState),jump.isNone=b→(if jump.isNone then LoopState.ready else .done)=st→K ({ S with objs:=setLp S2.objs l st jump }.put o.dst (.one (.im (.raw (.bool b))))) →
          ∃ v w',(Instr.endRound (M.β l) jump).run P M2.w=.ok v w'∧∃ v',Ending.returned v=.returned v'∧∃ S' M',M'.w=w'∧Rel G S' (a.put o.dst v') M'∧Ext M.objs.length M M'∧K S':=by
          intro jump b st hb hstj hk
          have hend:=run_endRound (P:=P) jump j1
          obtain ⟨hm4,he4⟩:=hr3.m.lpTurn hM2 (R:={ state:=r2.st,pending:=r2.pend,fn:=fn2,tmps:=tmps2,params:=r2.ps,assign:=r2.asg,body:=r2.body,defers:=D2 }) (by rw [hβ2];exact j1) st jump
          rw [hβ2] at hm4 he4
          rw [hstj,hb] at hend
          refine ⟨_,_,hend,_,rfl,_,{ M2 with w:=M2.w.putObj (M.β l) (.loop { state:=st,pending:=jump,fn:=fn2,tmps:=tmps2,params:=r2.ps,assign:=r2.asg,body:=r2.body,defers:=D2 }),objs:=setLp M2.objs l st jump },rfl,?_,?_,hk⟩
          ·have hro2:=hro.put hm4 he4 (d:=.one (.im (.raw (.bool b)))) (v:=.bool b) (.one _ _ (.im _ _ (.raw _ rfl))) o.dst
           have e:({ S with objs:=setLp M2.objs l st jump }:DS)={ S with objs:=setLp S2.objs l st jump }:=by rw [hr3.ob]
           rw [e] at hro2
           exact hro2
          ·rw [hr.ob]
           exact hall.trans (he4.weaken (by rw [← hr.ob] at hall;rw [← hr.ob];exact hall.len))
         cases e2 with
         | normal=>exact fin none true .ready rfl rfl hq3
         | ret=>exact fin (some .ret) false .done rfl rfl hq3
         | exit id=>exact fin (some (.exit id)) false .done rfl rfl hq3
         | goto t=>exact hq3.elim
         | panic c=>exact hq3.elim
         | outgrown=>exact hq3.elim
       | exit id=>exact hq.elim
       | goto t=>exact hq.elim
       | ret=>exact hq.elim
       | panic c=>exact hq.elim
       | outgrown=>exact hq.elim
      ·rintro e w' ⟨v,rfl,S',M',h4,h5,h6,h7⟩
       exact ⟨S',M',h4,h5,h6,put_defers _ _ _,h7⟩
 ·exact h.elim
def LoopR (P:Program) (G:Nat→Option (List IC)) (n:Cx) (S:DS) (Q:Exit→DS→Prop) (o:Nat) (objs:List DObj):Option DObj→Prop
 | some (.loop r)=>r.st≠.busy∧match r.pend with
   | none=>At Q .normal ⟨⟩ { S with objs:=setLp objs o .exhausted none }
   | some c=>DT P G n c { S with objs:=setLp objs o .exhausted (some c) } Q
 | _=>False
theorem DT_rangeFunc {g:Operand} {ps:Array Tmp} {asg body:Code} {d:DV} {f:FuncId} {caps:List DV} (hg:evalG G S g=some d) (hc:dcallee d=some (f,caps)) (hok:∀ args w,(callFunc f args).run P w=.ok (.enter f args) w)
 (h:DCall P G f (.one (.yld S.objs.length) :: caps) (S.objs ++ [.loop { st:=.ready,pend:=none,nt:=S.nt,tm:=S.tmps,ps:=ps,asg:=asg,body:=body }]) (fun _ objs'=>LoopR P G n S Q S.objs.length objs' objs'[S.objs.length]?)) :
 DT P G n (.rangeFunc g ps asg body) S Q:=by
 intro hn hRd a M hr
 have hp:=evalG_sound hr hg
 have hgv:∃ lb,a.eval g=.func (.func f) #[] lb∧lb.size=caps.length∧∀ (j:Nat) (d:DV) (u:Value),caps[j]?=some d→lb[j]?=some u→RepV M d u:=by
  generalize a.eval g=v at hp
  unfold dcallee at hc
  split at hc
  ·cases hc
   cases hp with
   | one _ _ hp=>cases hp with
     | im _ _ hp=>cases hp with
       | fn _ _ vs h1 h2 =>
         refine ⟨vs,rfl,by simp [h1],fun j d u hj hu=>?_⟩
         rw [List.getElem?_map,Option.map_eq_some_iff] at hj
         obtain ⟨c,hc,rfl⟩:=hj
         exact .one _ _ (.im _ _ (h2 j c u hc hu))
  ·cases hc
   cases hp with
   | one _ _ hp=>cases hp with
     | fn _ _ vs h1 h2 =>
       refine ⟨vs,rfl,by simp [h1],fun j d u hj hu=>?_⟩
       rw [List.getElem?_map,Option.map_eq_some_iff] at hj
       obtain ⟨c,hc,rfl⟩:=hj
       exact .one _ _ (h2 j c u hc hu)
  ·cases hc
 obtain ⟨lb,hgv,hls,hlr⟩:=hgv
 refine wpIn_rangeFunc fun fn _=>?_
 have enter:∃ (l:Nat) (mk:List Deferred) (w1:World) (M1:MS),(Instr.enterLoop fn a.tmps ps asg body (n.fence M).round).run P M.w=.ok (l,mk) w1∧M1.w=w1∧RelM G M1 ∧
  M1.objs=S.objs ++ [.loop { st:=.ready,pend:=none,nt:=S.nt,tm:=S.tmps,ps:=ps,asg:=asg,body:=body }]∧M1.β S.objs.length=l∧Ext M.objs.length M M1 ∧
  (∃ ds:List Nat,mk ++ a.defers=ds.map mark∧ds.Nodup∧∀ D∈ds,M1.F D∧M1.w.heap[D]?=some (.deferred (some [])))∧(∀ d∈mk,∃ D,d=mark D∧M.w.heap.size≤D):=by
  cases hrd:n.rd with
  | none =>
    have hro:(n.fence M).round=none:=by simp [Cx.fence,fenceR,hrd]
    rw [hro]
    have hrun:=run_enterLoop_outer (P:=P) (w:=M.w) fn a.tmps ps asg body
    have hheap0:(M.w.alloc (.deferred (some []))).heap=M.w.heap.push (.deferred (some [])):=by unfold World.alloc;rfl
    have hold:∀ b,b < M.w.heap.size→(M.w.alloc (.deferred (some []))).heap[b]?=M.w.heap[b]?:=fun b hb=>by rw [hheap0,Array.getElem?_push,if_neg (Nat.ne_of_lt hb)]
    let M0:MS:={ M with w:=M.w.alloc (.deferred (some [])),F:=fun b=>M.F b∨b=M.w.heap.size }
    have he0:Ext M.objs.length M M0:=by
     refine ⟨Nat.le_refl _,fun b hb=>⟨⟨?_,hb.2⟩,hold b hb.1⟩,⟨fun b hb=>.inl hb,fun b hb hF=>?_⟩,by simp [M0,hheap0],fun p _ c' hc=>⟨⟨c',hc⟩,rfl⟩,fun p _ sz es g nl hv=>⟨sz,es,g,nl,hv,Nat.le_refl _,fun _=>⟨rfl,rfl,fun hn=>⟨rfl,?_⟩⟩⟩,fun p _ ks es hm=>⟨⟨ks,es,hm⟩,rfl⟩,
      fun p _ r hm=>⟨⟨r,hm⟩,rfl⟩,fun p _ d hm hi=>⟨⟨d,hm,hi⟩,rfl⟩,fun p _ r hm=>⟨⟨r,hm⟩,rfl⟩,⟨rfl,rfl,rfl,by first|exact Nat.le_refl _|exact Nat.le_succ _⟩⟩
     ·have:=hb.1;simp only [M0,hheap0,Array.size_push];omega
     ·rcases hF with hF|hF
      ·exact hb.2 hF
      ·have:=hb.1.1;omega
     ·simp only [bsize,M0]
      rw [hold _ (hr.m.lt p _ hv (by simp [DObj.blk,hn]))]
    have hm0:RelM G M0:=by
     refine ⟨fun o d ho=>(hr.m.objs o d ho).ext he0 (fun _=>rfl) (fun hb=>hold _ (hr.m.lt o d ho hb)),fun o d ho hb=>?_,hr.m.inj,fun g l hg=>(hr.m.glob g l hg).mono he0.ok,fun b hF=>?_,fun o d ho hb hF=>?_⟩
     ·have:=hr.m.lt o d ho hb;simp only [M0,hheap0,Array.size_push];omega
     ·simp only [M0,hheap0,Array.size_push]
      rcases hF with hF|hF
      ·have:=hr.m.fl b hF;omega
      ·omega
     ·rcases hF with hF|hF
      ·exact hr.m.own o d ho hb hF
      ·have:=hr.m.lt o d ho hb;simp only [M0] at hF;omega
    let x1:Obj:=.loop { state:=.ready,pending:=none,fn:=fn,tmps:=a.tmps,params:=ps,assign:=asg,body:=body,defers:=M.w.heap.size }
    let d1:DObj:=.loop { st:=.ready,pend:=none,nt:=S.nt,tm:=S.tmps,ps:=ps,asg:=asg,body:=body }
    have he1:=Ext.push (M:=M0) x1 d1 hm0.lt
    have hβ:(M0.push x1 d1).β M0.objs.length=M.w.heap.size + 1:=by simp [MS.push,M0,hheap0]
    have hm1:RelM G (M0.push x1 d1):=hm0.push rfl ⟨fn,a.tmps,M.w.heap.size,by
     rw [hβ]
     have:(M0.w.alloc x1).heap[M0.w.heap.size]?=some x1:=alloc_new
     simpa [M0,hheap0,MS.push] using this,hr.nt,fun t d ht=>by
     obtain ⟨v,e1,e2⟩:=hr.tm t d ht
     exact ⟨v,e1,(e2.ext he0).ext he1⟩⟩
    refine ⟨_,_,_,M0.push x1 d1,hrun,rfl,hm1,by simp [MS.push,M0,d1,hr.ob],?_,he0.trans he1,?_,?_⟩
    ·rw [← hr.ob];exact hβ
    ·obtain ⟨ds,q1,q2,q3⟩:=hr.df
     refine ⟨M.w.heap.size :: ds,by simp [q1,mark],?_,fun D hD=>?_⟩
     ·refine List.nodup_cons.2 ⟨fun hD=>?_,q2⟩
      have:=(Array.getElem?_eq_some_iff.1 (q3 _ hD).2).1
      omega
     ·rcases List.mem_cons.1 hD with rfl|hD
      ·refine ⟨.inr rfl,?_⟩
       have h1:(M0.w.alloc x1).heap[M.w.heap.size]?=M0.w.heap[M.w.heap.size]?:=alloc_heap (by simp [M0,hheap0])
       have h2:M0.w.heap[M.w.heap.size]?=some (.deferred (some [])):=by simp [M0,hheap0]
       exact h1.trans h2
      ·have:=df_ext hm0 he1 (df_ext hr.m he0 (a:={ a with defers:=[mark D] }) ⟨[D],rfl,by simp,fun D' hD'=>by simp at hD';subst hD';exact q3 _ hD⟩)
       obtain ⟨ds',z1,z2,z3⟩:=this
       cases ds' with
       | nil=>simp at z1
       | cons y r =>
         simp only [List.map_cons,List.cons.injEq,mark,Deferred.mk.injEq,Target.collected.injEq,and_true] at z1
         obtain ⟨rfl,_⟩:=z1
         exact z3 _ (by simp)
    ·intro d hd
     simp only [List.mem_singleton] at hd
     exact ⟨M.w.heap.size,hd,Nat.le_refl _⟩
  | some l0 =>
    obtain ⟨q1,r0,q2⟩:=hRd l0 hrd
    have hro:(n.fence M).round=some (M.β l0):=by simp [Cx.fence,fenceR,hrd]
    rw [hro]
    obtain ⟨fn0,tmps0,D0,k1,k2,k3⟩:=hr.m.objs l0 _ (by rw [hr.ob];exact q2)
    have hrun:(Instr.enterLoop fn a.tmps ps asg body (some (M.β l0))).run P M.w =
     .ok (M.w.heap.size,[]) (M.w.alloc (.loop { state:=.ready,pending:=none,fn,tmps:=a.tmps,params:=ps,assign:=asg,body,defers:=D0 })):=by
     unfold Instr.enterLoop
     simp only [Sem.run_bind,run_getLoop k1,run_newObj_alloc,Result.andThen,Sem.run_pure]
    let x1:Obj:=.loop { state:=.ready,pending:=none,fn:=fn,tmps:=a.tmps,params:=ps,assign:=asg,body:=body,defers:=D0 }
    let d1:DObj:=.loop { st:=.ready,pend:=none,nt:=S.nt,tm:=S.tmps,ps:=ps,asg:=asg,body:=body }
    have he1:=Ext.push (M:=M) x1 d1 hr.m.lt
    have hβ:(M.push x1 d1).β M.objs.length=M.w.heap.size:=by simp [MS.push]
    have hm1:RelM G (M.push x1 d1):=hr.m.push rfl ⟨fn,a.tmps,D0,by
     rw [hβ];exact alloc_new,hr.nt,fun t d ht=>by
     obtain ⟨v,e1,e2⟩:=hr.tm t d ht
     exact ⟨v,e1,e2.ext he1⟩⟩
    refine ⟨_,_,_,M.push x1 d1,hrun,rfl,hm1,by simp [MS.push,d1,hr.ob],by rw [← hr.ob];exact hβ,he1,?_,by simp⟩
    simpa using df_ext hr.m he1 hr.df
 obtain ⟨l,mk,w1,M1,hrun,rfl,hm1,hob1,hβ1,he1,hdf1,hmk⟩:=enter
 have hb1:(DObj.loop { st:=.ready,pend:=none,nt:=S.nt,tm:=S.tmps,ps:=ps,asg:=asg,body:=body }).blk=true:=rfl
 refine ⟨l,mk,M1.w,{ target:=.fn (.func f) lb,args:=#[.func (.yield l) #[] #[]] },M1.w,f,#[.func (.yield l) #[] #[]] ++ lb,M1.w,hrun,?_,fun _ _=>trivial,?_,fun h=>absurd h (by simp [Cx.fence,fenceR,Fence.wide]),?_⟩
 ·simp only [resolve,hgv]
  simp [go_sem]
 ·simp [invoke,go_sem,hok]
 ·have hcall:=h M1 (#[.func (.yield l) #[] #[]] ++ lb) hm1 hob1 (by simp [hls];omega) (fun j e u he hu=>?_)
  ·refine CallsIn.mono (F:=n.fence M) (callsIn_wide.2 hcall) ?_
   rintro e w' ⟨v,dv,M2,rfl,rfl,hm2,_,he2,hq⟩
   unfold LoopR at hq
   split at hq
   ·rename_i r hr2
    obtain ⟨hbusy,hq⟩:=hq
    obtain ⟨fn2,tmps2,D2,j1,j2,j3⟩:=hm2.objs _ _ hr2
    have hβ2:M2.β S.objs.length=l:=by
     have:=(he2.lp _ (by simp) r hr2).2
     rw [this];exact hβ1
    rw [hβ2] at j1
    have hend:=run_endLoop (P:=P) j1 hbusy
    have hoL:M.objs.length=S.objs.length:=by rw [hr.ob]
    obtain ⟨hm3,he3⟩:=hm2.lpTurn hr2 (R:={ state:=r.st,pending:=r.pend,fn:=fn2,tmps:=tmps2,params:=r.ps,assign:=r.asg,body:=r.body,defers:=D2 }) (by rw [hβ2];exact j1) .exhausted r.pend
    rw [hβ2] at hm3 he3
    have hE12:Ext M.objs.length M M2:=by
     refine he1.trans (he2.weaken ?_)
     simp [hoL]
    have hE:Ext M.objs.length M { M2 with w:=M2.w.putObj l (.loop { state:=.exhausted,pending:=r.pend,fn:=fn2,tmps:=tmps2,params:=r.ps,assign:=r.asg,body:=r.body,defers:=D2 }),objs:=setLp M2.objs S.objs.length .exhausted r.pend }:=
     hE12.trans (he3.weaken (Nat.le_trans hE12.len (Nat.le_refl _)))
    have hrel:Rel G { S with objs:=setLp M2.objs S.objs.length .exhausted r.pend } { a with defers:=mk ++ a.defers } { M2 with w:=M2.w.putObj l (.loop { state:=.exhausted,pending:=r.pend,fn:=fn2,tmps:=tmps2,params:=r.ps,assign:=r.asg,body:=r.body,defers:=D2 }),objs:=setLp M2.objs S.objs.length .exhausted r.pend }:=
     ⟨hm3,rfl,hr.nt,df_ext (a:={ a with defers:=mk ++ a.defers }) hm2 he3 (df_ext (a:={ a with defers:=mk ++ a.defers }) hm1 he2 hdf1),fun t d ht=>by
      obtain ⟨v,e1,e2⟩:=hr.tm t d ht
      exact ⟨v,e1,e2.ext hE⟩⟩
    have hnd:NewD M a { a with defers:=mk ++ a.defers }:=fun d hd=>by
     rcases List.mem_append.1 hd with hd|hd
     ·exact .inr (hmk d hd)
     ·exact .inl hd
    have hEn:Ext n.n M _:=hE.weaken (by rw [hoL];exact hn)
    refine ⟨r.pend,_,hend,?_⟩
    generalize hpe:r.pend=pe at hq hrel hE hEn
    cases pe with
    | none=>exact ⟨_,_,rfl,hrel,hEn,hnd,hq⟩
    | some c =>
      simp only at hq ⊢
      have hRd3:=hRd.ext hr.ob hrel.ob hEn
      have hd:=hq (by rw [← hrel.ob];exact hEn.len) hRd3 _ _ hrel
      rw [fence_ext hRd hr.ob hEn] at hd
      refine wpIn_mono hd ?_
      rintro e a2 w2 ⟨S3,M3,hw3,hr3,he4,hn3,hq3⟩
      exact ⟨S3,M3,hw3,hr3,hEn.trans he4,hnd.trans hEn.hs hn3,hq3⟩
   ·exact hq.elim
  ·cases j with
   | zero =>
     have hu0:u=.func (.yield l) #[] #[]:=by
      rw [Array.getElem?_append_left (by simp)] at hu
      simpa using hu.symm
     simp at he
     subst he;subst hu0
     refine .one _ _ (.yld _ _ rfl (by rw [hob1];simp) fun r hr'=>by rw [hβ1])
   | succ j =>
     have hu':lb[j]?=some u:=by
      rw [Array.getElem?_append_right (by simp)] at hu
      simpa using hu
     refine (hlr j e u (by simpa using he) hu').ext he1
end
end Go.Ab
namespace Go.Ab
open Go
section
variable {P:Program} {w:World}
theorem run_eqArr (d:Nat) {e:TypeId} {k:IntKind} (he:P.underlying e=some (.int k)) (xs ys:Array Value) :
 ∀ (m i:Nat),shapeOk (List.replicate m (.int k)) ((xs.toList.drop i).take m)=true→shapeOk (List.replicate m (.int k)) ((ys.toList.drop i).take m)=true →
 (forIn (m:=Sem) (List.range' i m 1) ((none,()):Option Bool×PUnit) fun i _=>do
  if !(← Op.equalIn (d + 1) e (← part e xs (i * 1)) (← part e ys (i * 1))) then pure (ForInStep.done (some false,())) else pure (ForInStep.yield (none,()))).run P w
  = .ok (if beqs ((xs.toList.drop i).take m) ((ys.toList.drop i).take m) then (none,()) else (some false,())) w:=by
 intro m
 induction m with
 | zero=>intro i _ _;simp [beqs]
 | succ m ih =>
   intro i hx hy
   have get:∀ (zs:Array Value),shapeOk (List.replicate (m + 1) (.int k)) ((zs.toList.drop i).take (m + 1))=true→∃ a,zs[i]?=some (.int k a)∧(zs.toList.drop i).take (m + 1)=.int k a :: (zs.toList.drop (i + 1)).take m∧shapeOk (List.replicate m (.int k)) ((zs.toList.drop (i + 1)).take m)=true:=fun zs hz=>by
    cases hh:zs.toList.drop i with
    | nil=>rw [hh] at hz;simp [List.replicate_succ,shapeOk] at hz
    | cons v r =>
      have h1:zs.toList[i]?=some v:=by
       have:=congrArg (fun l=>l[0]?) hh
       simpa using this
      have h2:zs.toList.drop (i + 1)=r:=by
       have:=congrArg (List.drop 1) hh
       rw [List.drop_drop] at this
       simpa using this
      rw [hh,List.replicate_succ,List.take_succ_cons] at hz
      cases v<;>simp [shapeOk] at hz
      obtain ⟨rfl,hz⟩:=hz
      exact ⟨_,by simpa using h1,by rw [h2];rfl,by rw [h2];exact hz⟩
   obtain ⟨a,ha,ea,sa⟩:=get xs hx
   obtain ⟨b,hb,eb,sb⟩:=get ys hy
   have hagg:(isAgg e).run P w=.ok false w:=runIsAgg (by simp [tag,he])
   have hpart:∀ (zs:Array Value) v,zs[i]?=some v→(part e zs (i * 1)).run P w=.ok v w:=fun zs v hz=>by
    simp [part,hagg,hz]
   have h1:(Op.equalIn (d + 1) e (.int k a) (.int k b)).run P w=.ok (a == b) w:=by
    simp only [Op.equalIn,Sem.run_bind,runUnderlying he,Result.andThen_ok,if_true]
    rfl
   rw [List.range'_succ,List.forIn_cons]
   simp only [Sem.run_bind,hpart xs _ ha,hpart ys _ hb,Result.andThen_ok,h1,ea,eb,beqs]
   cases hab:(a == b)
   ·simp
   ·have:=ih (i + 1) sa sb
    simp only [Bool.not_true,Bool.false_eq_true,if_false,Bool.true_and]
    simpa using this
theorem run_equal_array {t e:TypeId} {n:Nat} {k:IntKind} (ht:P.underlying t=some (.array n e)) (he:P.underlying e=some (.int k)) (hs:tsz P e=some 1) {xs ys:Array Value}
 (hx:shapeOk (List.replicate n (.int k)) xs.toList=true) (hy:shapeOk (List.replicate n (.int k)) ys.toList=true):(Op.equal t (.agg xs) (.agg ys)).run P w=.ok (beqs xs.toList ys.toList) w:=by
 have hlen:∀ (ks:List CK) (l:List Value),shapeOk ks l=true→l.length=ks.length:=by
  intro ks
  induction ks with
  | nil=>intro l hl;cases l<;>simp [shapeOk] at hl ⊢
  | cons c ks ih =>
    intro l hl
    cases l with
    | nil=>cases c<;>simp [shapeOk] at hl
    | cons v l =>
      cases c<;>cases v<;>simp [shapeOk] at hl
      ·simp [ih _ hl.2]
      ·simp [ih _ hl]
 have lx:=hlen _ _ hx
 have ly:=hlen _ _ hy
 simp only [List.length_replicate] at lx ly
 have tk:∀ (zs:Array Value),zs.toList.length=n→(zs.toList.drop 0).take n=zs.toList:=fun zs hz=>by rw [List.drop_zero,← hz,List.take_length]
 have key:∀ d,(Op.equalIn (d + 1 + 1) t (.agg xs) (.agg ys)).run P w=.ok (beqs xs.toList ys.toList) w:=fun d=>by
  have key:=run_eqArr (P:=P) (w:=w) d he xs ys n 0 (by rw [tk xs lx];exact hx) (by rw [tk ys ly];exact hy)
  rw [tk xs lx,tk ys ly] at key
  rw [Op.equalIn]
  simp only [Sem.run_bind,runUnderlying ht,Result.andThen_ok,runSizeOf hs]
  rw [Std.Legacy.Range.forIn_eq_forIn_range']
  have e0:List.range' [:n].start [:n].size [:n].step=List.range' 0 n 1:=by simp [Std.Legacy.Range.size]
  rw [e0,key]
  cases beqs xs.toList ys.toList<;>rfl
 exact key 9998
def keyShape (P:Program) (t:TypeId):Option (List CK):=match P.underlying t with
 | some (.int k)=>some [.int k]
 | some .bool=>some [.bool]
 | some (.struct _)=>match eqShape P t with
   | some ks=>if ks.length=1 then none else some ks
   | none=>none
 | some (.array n e)=>match P.underlying e with
   | some (.int k)=>if tsz P e=some 1∧n≠1 then some (List.replicate n (.int k)) else none
   | _=>none
 | _=>none
theorem shape_len:∀ {ks:List CK} {l:List Value},shapeOk ks l=true→l.length=ks.length
 | [],[],_=>rfl
 | [],_ :: _,h=>by simp [shapeOk] at h
 | c :: ks,[],h=>by cases c<;>simp [shapeOk] at h
 | c :: ks,v :: l,h=>by
   cases c<;>cases v<;>simp [shapeOk] at h
   ·simp [shape_len h.2]
   ·simp [shape_len h]
theorem keyV_agg {l:List Value} (h:l.length≠1):keyV l=.agg l.toArray:=by
 match l,h with
 | [],_=>rfl
 | [v],h=>simp at h
 | _ :: _ :: _,_=>rfl
theorem run_equal_key {t:TypeId} {ks:List CK} (h:keyShape P t=some ks) {x y:List Value} (hx:shapeOk ks x=true) (hy:shapeOk ks y=true):(Op.equal t (keyV x) (keyV y)).run P w=.ok (beqs x y) w:=by
 have lx:=shape_len hx
 have ly:=shape_len hy
 unfold keyShape at h
 split at h
 ·rename_i k hu
  cases h
  match x,y,lx,ly with
  | [a],[b],_,_ =>
    cases a<;>simp [shapeOk] at hx
    cases b<;>simp [shapeOk] at hy
    subst hx;subst hy
    show (Op.equalIn (9999 + 1) t _ _).run P w=_
    have:∀ d k a b,(P.underlying t=some (.int k))→(Op.equalIn (d + 1) t (.int k a) (.int k b)).run P w=.ok (a == b) w:=fun d k a b hu=>by
     simp only [Op.equalIn,Sem.run_bind,runUnderlying hu,Result.andThen_ok,if_true];rfl
    simp only [keyV]
    rw [this 9999 _ _ _ hu]
    simp [beqs]
 ·rename_i hu
  cases h
  match x,y,lx,ly with
  | [a],[b],_,_ =>
    cases a<;>simp [shapeOk] at hx
    cases b<;>simp [shapeOk] at hy
    show (Op.equalIn (9999 + 1) t _ _).run P w=_
    have:∀ d a b,(Op.equalIn (d + 1) t (.bool a) (.bool b)).run P w=.ok (a == b) w:=fun d a b=>by
     simp only [Op.equalIn,Sem.run_bind,runUnderlying hu,Result.andThen_ok];rfl
    simp only [keyV]
    rw [this 9999]
    simp [beqs]
 ·rename_i fs hu
  split at h
  ·rename_i ks' he
   split at h
   ·cases h
   ·rename_i hne
    cases h
    rw [keyV_agg (by rw [lx];exact hne),keyV_agg (by rw [ly];exact hne)]
    exact run_equal_struct he (by simpa using hx) (by simpa using hy) w
  ·cases h
 ·rename_i n e hu
  split at h
  ·rename_i k he
   split at h
   ·rename_i hc
    cases h
    simp only [List.length_replicate] at lx ly
    rw [keyV_agg (by rw [lx];exact hc.2),keyV_agg (by rw [ly];exact hc.2)]
    exact run_equal_array hu he hc.1 (by simpa using hx) (by simpa using hy)
   ·cases h
  ·cases h
 ·cases h
theorem run_checkFields (em:Bool) (n:Nat) (xs:Array Value):∀ (fs:List Field) (i:Nat) (ks:List CK),fieldsCK P fs i=some ks→shapeOk ks (xs.toList.drop i)=true →
 (forIn (m:=Sem) fs PUnit.unit fun f _=>do
  if f.name ≠ "_" then Instr.checkKey em (n + 1) f.type (← part f.type xs f.offset)
  pure (ForInStep.yield PUnit.unit)).run P w=.ok PUnit.unit w
 | [],i,ks,h,hx=>by simp
 | f :: fs,i,ks,h,hx=>by
   simp only [fieldsCK] at h
   split at h
   ·rename_i hoff
    split at h
    ·rename_i k l hk hl
     cases h
     have ih:=run_checkFields em n xs fs (i + 1) l hl
     unfold fieldCK at hk
     split at hk
     ·cases hk
     ·rename_i hname
      cases hh:xs.toList.drop i with
      | nil=>rw [hh] at hx;cases k<;>simp [shapeOk] at hx
      | cons v r =>
        have h1:xs.toList[i]?=some v:=by
         have:=congrArg (fun l=>l[0]?) hh
         simpa using this
        have h2:xs.toList.drop (i + 1)=r:=by
         have:=congrArg (List.drop 1) hh
         rw [List.drop_drop] at this
         simpa using this
        rw [hh] at hx
        have hx2:shapeOk l r=true:=by cases k<;>cases v<;>simp [shapeOk] at hx<;>first|exact hx.2|exact hx
        rw [← h2] at hx2
        have hagg:(isAgg f.type).run P w=.ok false w:=by
         split at hk
         ·rename_i hu;exact runIsAgg (by simp [tag,hu])
         ·rename_i hu;exact runIsAgg (by simp [tag,hu])
         ·cases hk
        have hpart:(part f.type xs f.offset).run P w=.ok v w:=by
         have h3:xs[i]?=some v:=by simpa using h1
         simp [part,hagg,hoff,h3]
        have hck:(Instr.checkKey em (n + 1) f.type v).run P w=.ok () w:=by
         split at hk
         ·rename_i hu;simp only [Instr.checkKey,Sem.run_bind,runUnderlying hu,Result.andThen_ok];rfl
         ·rename_i hu;simp only [Instr.checkKey,Sem.run_bind,runUnderlying hu,Result.andThen_ok];rfl
         ·cases hk
        rw [List.forIn_cons]
        have ih':=ih hx2
        simp only [ne_eq] at ih' hname ⊢
        simp only [hname,not_false_eq_true,if_true,Sem.run_bind,hpart,hck,Result.andThen_ok]
        simpa using ih'
    ·cases h
   ·cases h
theorem run_checkArr (em:Bool) (n:Nat) {e:TypeId} {k:IntKind} (he:P.underlying e=some (.int k)) (hs:tsz P e=some 1) (xs:Array Value):∀ (m i:Nat),i + m≤xs.size →
 (forIn (m:=Sem) (List.range' i m 1) PUnit.unit fun i _=>do
  Instr.checkKey em (n + 1) e (← part e xs (i * (← sizeOf e)))
  pure (ForInStep.yield PUnit.unit)).run P w=.ok PUnit.unit w
 | 0,i,_=>by simp
 | m + 1,i,h=>by
   have ih:=run_checkArr em n he hs xs m (i + 1) (by omega)
   have h3:xs[i]?=some xs[i]:=by simp [show i < xs.size by omega]
   have hagg:(isAgg e).run P w=.ok false w:=runIsAgg (by simp [tag,he])
   have hpart:(part e xs (i * 1)).run P w=.ok xs[i] w:=by simp [part,hagg,h3]
   have hck:∀ v,(Instr.checkKey em (n + 1) e v).run P w=.ok () w:=fun v=>by
    simp only [Instr.checkKey,Sem.run_bind,runUnderlying he,Result.andThen_ok];rfl
   rw [List.range'_succ,List.forIn_cons]
   simp only [Sem.run_bind,runSizeOf hs,hpart,hck,Result.andThen_ok]
   simpa using ih
theorem run_checkKey_ {t:TypeId} {ks:List CK} (h:keyShape P t=some ks) {x:List Value} (hx:shapeOk ks x=true) (em:Bool):(Instr.checkKey em 10000 t (keyV x)).run P w=.ok () w:=by
 have lx:=shape_len hx
 have key:∀ d,(Instr.checkKey em (d + 1 + 1) t (keyV x)).run P w=.ok () w:=fun d=>by
  unfold keyShape at h
  split at h
  ·rename_i k hu
   rw [Instr.checkKey]
   simp only [Sem.run_bind,runUnderlying hu,Result.andThen_ok];rfl
  ·rename_i hu
   rw [Instr.checkKey]
   simp only [Sem.run_bind,runUnderlying hu,Result.andThen_ok];rfl
  ·rename_i fs hu
   split at h
   ·rename_i ks' he
    split at h
    ·cases h
    ·rename_i hne
     cases h
     rw [keyV_agg (by rw [lx];exact hne)]
     rw [Instr.checkKey]
     simp only [Sem.run_bind,runUnderlying hu,Result.andThen_ok]
     unfold eqShape at he
     split at he
     ·split at he
      ·rename_i fs' hu'
       rw [hu] at hu';cases hu'
       rw [← Array.forIn_toList]
       have:=run_checkFields (P:=P) (w:=w) em d x.toArray fs.toList 0 ks he (by simpa using hx)
       simp at this ⊢
       rw [this];rfl
      ·cases he
     ·cases he
   ·cases h
  ·rename_i n e hu
   split at h
   ·rename_i k he
    split at h
    ·rename_i hc
     cases h
     simp only [List.length_replicate] at lx
     rw [keyV_agg (by rw [lx];exact hc.2)]
     rw [Instr.checkKey]
     simp only [Sem.run_bind,runUnderlying hu,Result.andThen_ok]
     rw [Std.Legacy.Range.forIn_eq_forIn_range']
     have e0:List.range' [:n].start [:n].size [:n].step=List.range' 0 n 1:=by simp [Std.Legacy.Range.size]
     rw [e0]
     have:=run_checkArr (P:=P) (w:=w) em d he hc.1 x.toArray n 0 (by simp [lx])
     simp at this ⊢
     rw [this];rfl
    ·cases h
   ·cases h
  ·cases h
 exact key 9998
end
end Go.Ab
