/- Part 7 of the proofs. -/
import Derived.Test.YtlmlkkoapahmjaaGreatDoorS06
set_option linter.all false
set_option maxHeartbeats 100000000
namespace Go.Ab
open Go
abbrev bw:=Nat->Option DV
def P4 (τ:bw) (dst:Option Tmp) (d:DV):bw:=
 match dst with
 | some t=>λu=>if u=t then some d else τ u
 | none=>τ
theorem mj {τ:bw} {x y:Option Tmp} {d e:DV} (h:∀ t,x=some t->y≠some t):P4 (P4 τ x d) y e=P4 (P4 τ y e) x d:=by
 cases x with
 | none=>rfl
 | some t =>
   cases y with
   | none=>rfl
   | some u =>
     have hne:u≠t:=λe=>h t rfl (by rw[e]);funext v;simp only[P4];by_cases h1:v=u<;>by_cases h2:v=t
     ·exact absurd (h1.symm.trans h2) hne
     ·simp[h1,hne]
     ·simp[h2,Ne.symm hne]
     ·simp[h1,h2]
theorem bK {τ:bw} {x:Option Tmp} {d:DV} {t:Nat} (h:∀ u,x=some u->t≠u):P4 τ x d t=τ t:=by
 cases x with
 | none=>rfl
 | some u=>simp[P4,h u rfl]
structure RelF (G:Hn) (nt:Nat) (objs:List DObj) (τ:bw) (a:Act) (M:MS):Prop where
 m:RelM G M
 ob:M.objs=objs
 nt:a.tmps.size=nt
 df:∃ ds:List Nat,a.defers=ds.map mark/\ds.Nodup/\∀ D∈ds,M.F D/\M.w.heap[D]?=some (.deferred (some []))
 tm:∀ t d,τ t=some d->∃ v,a.tmps[t]?=some v/\RepV M d v
section
variable {P:Program} {G:Hn} {nt:Nat} {objs:List DObj} {ops:Array Oper}
def OpQ (P:Program) (G:Hn) (nt:Nat) (objs:List DObj) (ops:Array Oper) (o:Oper) (τ:bw) (d:DV):Prop:=
 ∀ ro a M,RelF G nt objs (λt=>if t∈o.looksAt ops then τ t else none) a M ->
  o.wpIn (u9 ro) 0 P a M.w (λa' w'=>∃ v M',a'=a.put o.dst v/\M'.w=w'/\RelM G M'/\M'.objs=objs/\Ext objs.length M M'/\RepV M' d v) (λ_ _ _=>False)
theorem OpQ.of_same {o:Oper} {τ τ':bw} {d:DV} (h:OpQ P G nt objs ops o τ d) (hs:∀ t∈o.looksAt ops,τ' t=τ t):OpQ P G nt objs ops o τ' d:=by
 have e:(λt=>if t∈o.looksAt ops then τ' t else none)=(λt=>if t∈o.looksAt ops then τ t else none):=by
  funext t;split
  ·rename_i ht;exact hs t ht
  ·rfl
 intro ro a M hr;rw[e] at hr;exact h ro a M hr
def P6 (ops:Array Oper) (o:Oper) (τ:bw):Option Bool:=
 match o.guard with
 | none=>some true
 | some (j,want)=>match (ops[j]?).bind (·.dst) with
   | some t=>match τ t with
     | some (.one (.im (.raw (.bool b))))=>some (b==want)
     | some (.tup _)=>some false
     | _=>none
   | none=>none
theorem aJ {τ:bw} {a:Act} {M:MS} (hr:RelF G nt objs τ a M) {o:Oper} {b:Bool} (h:P6 ops o τ=some b):Region.wanted o (yielded ops a.tmps)=b:=by
 unfold P6 at h;unfold Region.wanted;split at h
 ·rename_i hg;cases h;simp[hg]
 ·rename_i j want hg;simp only[hg];split at h
  ·rename_i t hd;split at h
   ·rename_i b' hget;cases h;obtain⟨v,h1,h2⟩:=hr.tm t _ hget;cases h2 with
    | one _ _ h2=>cases h2 with
      | im _ _ h2 => cases h2
                     simp only[yielded,hd,Option.bind_some,h1];cases b'<;>cases want<;>rfl
   ·rename_i l hget;cases h;obtain⟨v,h1,h2⟩:=hr.tm t _ hget;cases h2;simp only[yielded,hd,Option.bind_some,h1];rfl
   ·cases h
  ·cases h
theorem fD {o:Oper} {τ τ':bw} (hs:∀ t∈o.looksAt ops,τ' t=τ t):P6 ops o τ'=P6 ops o τ:=by
 unfold P6;cases hg:o.guard with
 | none=>rfl
 | some g =>
   obtain⟨j,want⟩:=g;simp only;cases hd:(ops[j]?).bind (·.dst) with
   | none=>rfl
   | some t =>
     simp only;rw[hs t (by simp[Oper.looksAt,hg,hd])]
def aOp (P:Program) (G:Hn) (nt:Nat) (objs:List DObj) (ops:Array Oper) (i:Nat) (K:bw->Prop) (τ:bw):Prop:=
 match ops[i]? with
 | none=>False
 | some o=>∃ b,P6 ops o τ=some b/\(b=true->∃ d,OpQ P G nt objs ops o τ d/\K (P4 τ o.dst d))/\(b=false->K (P4 τ o.dst (.tup [])))
theorem yK {i:Nat} {K K':bw->Prop} {τ:bw} (h:∀ τ,K τ->K' τ) (hh:aOp P G nt objs ops i K τ):aOp P G nt objs ops i K' τ:=by
 unfold aOp at *;split at hh
 ·exact hh
 ·obtain⟨b,h1,h2,h3⟩:=hh;exact⟨b,h1,λe=>let ⟨d,h4,h5⟩:=h2 e;⟨d,h4,h _ h5⟩,λe=>h _ (h3 e)⟩
def vO (P:Program) (G:Hn) (nt:Nat) (objs:List DObj) (ops:Array Oper) (Q:Array Bool->bw->Prop):Nat->Array Bool->bw->Prop
 | 0,listed,τ=>Q listed τ
 | f+1,listed,τ=>Region.ready .any ops listed≠[]/\∀ i∈Region.ready .any ops listed,aOp P G nt objs ops i (vO P G nt objs ops Q f (listed.setIfInBounds i true)) τ
def YA (P:Program) (G:Hn) (nt:Nat) (objs:List DObj) (ops:Array Oper) (o:Oper) (d:DV) (τ:bw):Prop:=
 (P6 ops o τ=some true/\OpQ P G nt objs ops o τ d)\/(P6 ops o τ=some false/\d=.tup [])
theorem YA.same {o:Oper} {d:DV} {τ τ':bw} (h:YA P G nt objs ops o d τ) (hs:∀ t∈o.looksAt ops,τ' t=τ t):YA P G nt objs ops o d τ':=by
 unfold YA at *;rw[fD hs];exact h.imp (λh=>⟨h.1,h.2.of_same hs⟩) id
theorem YA.aOp {i:Nat} {o:Oper} {d:DV} {τ:bw} (hi:ops[i]?=some o) (h:YA P G nt objs ops o d τ) {K:bw->Prop} (hk:K (P4 τ o.dst d)):aOp P G nt objs ops i K τ:=by
 unfold Ab.aOp;simp only[hi];rcases h with⟨h1,h2⟩|⟨h1,rfl⟩
 ·exact⟨true,h1,λ_=>⟨d,h2,hk⟩,(λe=>by cases e)⟩
 ·exact⟨false,h1,(λe=>by cases e),λ_=>hk⟩
theorem Bk {j:Nat} {oi oj:Oper} {d:DV} (hj:ops[j]?=some oj) (hap:oi.apart ops oj=true) {K:bw->Prop} {τ:bw} (hy:YA P G nt objs ops oi d τ)
 (h:aOp P G nt objs ops j K (P4 τ oi.dst d)):aOp P G nt objs ops j (λτ'=>YA P G nt objs ops oi d τ'/\K (P4 τ' oi.dst d)) τ:=by
 obtain⟨h1,h2,h3⟩:=Oper.apart_spec hap;have s1:∀ t∈oj.looksAt ops,τ t=P4 τ oi.dst d t:=λt ht=>(bK λu hu e=>h1 u hu (e ▸ ht)).symm;have keep:∀ e,YA P G nt objs ops oi d (P4 τ oj.dst e):=λe=>hy.same λt ht=>bK λu hu e=>h3 u hu (e ▸ ht);unfold aOp at *;simp only[hj] at *;obtain⟨b,hw,ht,hf⟩:=h;refine⟨b,by rw[<- hw];exact fD s1,λe=>?_,λe=>?_⟩
 ·obtain⟨u,hu,hk⟩:=ht e;exact⟨u,hu.of_same s1,keep u,by rw[<- mj h2];exact hk⟩
 ·exact⟨keep _,by rw[<- mj h2];exact hf e⟩
def Closed (ops:Array Oper) (listed:Array Bool):Prop:=∀ (k:Nat) (o:Oper),ops[k]?=some o->listed.getD k false=true->∀ e∈o.after,Region.binds .any e=true->listed.getD e.on false=true
theorem Closed.step {listed:Array Bool} {j:Nat} (h:Closed ops listed) (hj:j∈Region.ready .any ops listed):Closed ops (listed.setIfInBounds j true):=by
 obtain⟨_,oj,hoj,hall⟩:=mem_ready.1 hj;intro k o ho hk e he hb;by_cases hkj:k=j
 ·subst hkj;rw[hoj] at ho;cases ho;exact getD_set_true (hall e he hb)
 ·rw[getD_set_ne false (Ne.symm hkj)] at hk;exact getD_set_true (h k o ho hk e he hb)
def mP (acc:List Nat):List Edge->Nat
 | []=>0
 | e :: r=>if Region.binds .any e=true then mP acc r ||| (2 ^ e.on ||| acc.getD e.on 0) else mP acc r
def br:List Oper->List Nat->List Nat
 | [],acc=>acc
 | o :: l,acc=>br l (acc++[mP acc o.after.toList])
theorem fm {acc:List Nat} {i:Nat}:∀ {l:List Edge},(mP acc l).testBit i=true->∃ e∈l,Region.binds .any e=true/\(e.on=i\/(acc.getD e.on 0).testBit i=true)
 | [],h=>by simp[mP] at h
 | e :: r,h=>by
   simp only[mP] at h;split at h
   ·rename_i hb;simp only[Nat.testBit_or,Bool.or_eq_true,Nat.testBit_two_pow,decide_eq_true_eq] at h;rcases h with h|h|h
    ·obtain⟨e',h1,h2⟩:=fm h;exact⟨e',by simp[h1],h2⟩
    ·exact⟨e,by simp,hb,.inl h⟩
    ·exact⟨e,by simp,hb,.inr h⟩
   ·obtain⟨e',h1,h2⟩:=fm h;exact⟨e',by simp[h1],h2⟩
def fx (ops:Array Oper) (acc:List Nat):Prop:=∀ (j i:Nat) (oj:Oper),ops[j]?=some oj->(acc.getD j 0).testBit i=true->∀ listed,Closed ops listed->(∀ e∈oj.after,Region.binds .any e=true->listed.getD e.on false=true)->listed.getD i false=true
theorem af:∀ (l:List Oper) (acc:List Nat),(∀ j,j<l.length->l[j]?=ops[acc.length+j]?)->fx ops acc->fx ops (br l acc)
 | [],acc,_,h=>h
 | o :: l,acc,hl,h=>by
   refine af l _ (λj hj=>by have:=hl (j+1) (by simp;omega);simpa[Nat.add_assoc,Nat.add_comm 1 j] using this) ?_;have h0:ops[acc.length]?=some o:=by simpa using(hl 0 (by simp)).symm
   intro j i oj hoj hb listed hc hall;by_cases hj:j<acc.length
   ·rw[List.getD_eq_getElem?_getD,List.getElem?_append_left hj,<- List.getD_eq_getElem?_getD] at hb;exact h j i oj hoj hb listed hc hall
   ·by_cases hje:j=acc.length
    ·subst hje;rw[h0] at hoj;cases hoj;simp only[List.getD_eq_getElem?_getD,List.getElem?_append_right (Nat.le_refl _),Nat.sub_self,List.getElem?_cons_zero,Option.getD_some] at hb;obtain⟨e,he,hbe,hor⟩:=fm hb;have hl1:=hall e (by simpa using he) hbe;rcases hor with rfl|hor
     ·exact hl1
     ·cases hoe:ops[e.on]? with
      | none =>
        exfalso;have hbig:ops.size<=e.on:=Array.getElem?_eq_none_iff.1 hoe;have hlt:acc.length<ops.size:=(Array.getElem?_eq_some_iff.1 h0).1;rw[List.getD_eq_getElem?_getD,List.getElem?_eq_none (by omega)] at hor;simp at hor
      | some oe=>exact h e.on i oe hoe hor listed hc λe' he' hb'=>hc e.on oe hoe hl1 e' he' hb'
    ·rw[List.getD_eq_getElem?_getD,List.getElem?_eq_none (by simp;omega)] at hb;simp at hb
theorem sA {Q:Array Bool->bw->Prop} {nq:Nat} (hQ:∀ listed τ,Q listed τ->∀ j∈Region.ready .any ops listed,nq<=j)
 (hwait:∀ (j i:Nat) (listed:Array Bool),nq<=j->i<nq->Closed ops listed->j∈Region.ready .any ops listed->listed.getD i false=true)
 {i:Nat} {oi:Oper} {d:DV} (hi:ops[i]?=some oi) (hiq:i<nq) :
 ∀ (f:Nat) (listed:Array Bool) (τ:bw),Closed ops listed ->
  (∀ j oj,ops[j]?=some oj->j≠i->listed.getD j true=false->(∀ e∈oj.after,Region.binds .any e=true->e.on≠i)->oi.apart ops oj=true) ->
  i∈Region.ready .any ops listed->YA P G nt objs ops oi d τ ->
  vO P G nt objs ops Q f (listed.setIfInBounds i true) (P4 τ oi.dst d)->vO P G nt objs ops Q (f+1) listed τ:=by
 intro f;have low:∀ (listed:Array Bool) (j:Nat),Closed ops listed->i∈Region.ready .any ops listed->j∈Region.ready .any ops listed->j<nq:=λlisted j hcl hr hj=>by
  rcases Nat.lt_or_ge j nq with h|h
  ·exact h
  ·have h1:=hwait j i listed h hiq hcl hj;have h0:=(mem_ready.1 hr).1;rcases Nat.lt_or_ge i listed.size with h'|h'
   ·simp[h'] at h0 h1;rw[h0] at h1;cases h1
   ·simp[Array.getElem?_eq_none h'] at h1
 induction f with
 | zero =>
   intro listed τ hcl _ hr hy H;refine⟨(λh=>by rw[h] at hr;cases hr),λj hj=>?_⟩;by_cases hji:j=i
   ·subst hji;exact hy.aOp hi H
   ·have h1:=ready_mono hj hji;have h2:=hQ _ _ H j h1;have h3:=low listed j hcl hr hj;omega
 | succ f ih =>
   intro listed τ hcl hfree hr hy H;refine⟨(λh=>by rw[h] at hr;cases hr),λj hj=>?_⟩;by_cases hji:j=i
   ·subst hji;exact hy.aOp hi H
   ·have h1:=H.2 j (ready_mono hj hji);obtain⟨hjun,oj,hoj,hall⟩:=mem_ready.1 hj;have hnot:∀ e∈oj.after,Region.binds .any e=true->e.on≠i:=λe he hb heq=>by
     have h1:=hall e he hb;have h0:=(mem_ready.1 hr).1;rw[heq] at h1;rcases Nat.lt_or_ge i listed.size with h'|h'
     ·simp[h'] at h0 h1;rw[h0] at h1;cases h1
     ·simp[Array.getElem?_eq_none h'] at h1
    have h2:=Bk hoj (hfree j oj hoj hji hjun hnot) hy h1
    have hfree':∀ k ok,ops[k]?=some ok->k≠i->(listed.setIfInBounds j true).getD k true=false ->
     (∀ e∈ok.after,Region.binds .any e=true->e.on≠i)->oi.apart ops ok=true:=λk ok hk hki hun hno=>by
     refine hfree k ok hk hki ?_ hno;by_cases hjk:j=k
     ·subst hjk;exact hjun
     ·rw[getD_set_ne true hjk] at hun;exact hun
    refine yK (λτ' h3=>ih (listed.setIfInBounds j true) τ' (hcl.step hj) hfree' (ready_mono hr (Ne.symm hji)) h3.1 ?_) h2;rw[Array.setIfInBounds_comm _ _ hji];exact h3.2
def Ao (ops:Array Oper):Nat->Nat->Array Bool->Bool
 | 0,_,_=>true
 | f+1,k,listed=>(Region.ready .any ops listed).contains k&&Region.free .any ops listed k&&Ao ops f (k+1) (listed.setIfInBounds k true)
def vN (P:Program) (G:Hn) (nt:Nat) (objs:List DObj) (ops:Array Oper) (K:bw->Prop):List Oper->bw->Prop
 | [],τ=>K τ
 | o :: l,τ=>∃ b,P6 ops o τ=some b/\(b=true->∃ d,OpQ P G nt objs ops o τ d/\vN P G nt objs ops K l (P4 τ o.dst d))/\(b=false->vN P G nt objs ops K l (P4 τ o.dst (.tup [])))
def mu (k:Nat):Nat->Array Bool->Array Bool
 | 0,l=>l
 | f+1,l=>mu (k+1) f (l.setIfInBounds k true)
theorem qb {nq:Nat} {K:bw->Prop} {Lq:Array Bool} (hQ:∀ j∈Region.ready .any ops Lq,nq<=j)
 (hwait:∀ (j i:Nat) (listed:Array Bool),nq<=j->i<nq->Closed ops listed->j∈Region.ready .any ops listed->listed.getD i false=true) :
 ∀ (l:List Oper) (k:Nat) (listed:Array Bool) (τ:bw),Closed ops listed->(∀ j,j<l.length->l[j]?=ops[k+j]?)->k+l.length=nq->mu k l.length listed=Lq->Ao ops l.length k listed=true ->
  vN P G nt objs ops K l τ->vO P G nt objs ops (λL τ=>L=Lq/\K τ) l.length listed τ
 | [],k,listed,τ,_,_,_,hL,_,h=>⟨hL,h⟩
 | o :: l,k,listed,τ,hcl,hl,hk,hL,hB,h=>by
   have h0:ops[k]?=some o:=by simpa using(hl 0 (by simp)).symm
   simp only[List.length_cons,Ao,Bool.and_eq_true] at hB;obtain⟨⟨hr,hf⟩,hB'⟩:=hB;have step:∀ d,YA P G nt objs ops o d τ->vN P G nt objs ops K l (P4 τ o.dst d)->vO P G nt objs ops (λL τ=>L=Lq/\K τ) (l.length+1) listed τ:=λd hy hK =>
    sA (nq:=nq) (Q:=λL τ=>L=Lq/\K τ) (λL τ hq j hj=>hQ j (hq.1 ▸ hj)) hwait h0 (by simp at hk;omega) l.length listed τ hcl (Region.free_spec h0 hf) (by simpa using hr) hy
     (qb hQ hwait l (k+1) _ _ (hcl.step (by simpa using hr)) (λj hj=>by have:=hl (j+1) (by simp;omega);simpa[Nat.add_assoc,Nat.add_comm 1 j] using this) (by simp at hk;omega) hL hB' hK)
   obtain⟨b,hw,ht,hff⟩:=h;cases b with
   | true =>
     obtain⟨d,hd,hK⟩:=ht rfl;exact step d (.inl ⟨hw,hd⟩) hK
   | false=>exact step (.tup []) (.inr ⟨hw,rfl⟩) (hff rfl)
theorem RelF.put {τ:bw} {a:Act} {M M':MS} (hr:RelF G nt objs τ a M) (hm:RelM G M') (ho:M'.objs=objs) (he:Ext objs.length M M') {d:DV} {v:Value} (hv:RepV M' d v) {t:Option Tmp} (hlt:∀ u,t=some u->u<nt) :
 RelF G nt objs (P4 τ t d) (a.put t v) M':=by
 have he':Ext M.objs.length M M':=by rw[hr.ob];exact he
 cases t with
 | none=>exact⟨hm,ho,hr.nt,W5 hr.m he' hr.df,λu e hu=>by
  obtain⟨x,h1,h2⟩:=hr.tm u e hu;exact⟨x,h1,h2.ext he'⟩⟩
 | some t =>
   refine⟨hm,ho,by simpa[Act.put] using hr.nt,W5 hr.m he' hr.df,λu e hu=>?_⟩;simp only[P4] at hu;simp only[Act.put];split at hu
   ·rename_i hut;subst hut;cases hu;exact⟨v,by simp[Array.getElem?_setIfInBounds_self_of_lt (show u<a.tmps.size by rw[hr.nt];exact hlt u rfl)],hv⟩
   ·rename_i hut;obtain⟨x,h1,h2⟩:=hr.tm u e hu;exact⟨x,by rw[Array.getElem?_setIfInBounds_ne (Ne.symm hut)];exact h1,h2.ext he'⟩
theorem lX {ro:Option Nat} {o:Oper} {τ:bw} {d:DV} {a:Act} {M:MS} (hr:RelF G nt objs τ a M) (h:OpQ P G nt objs ops o τ d) {K:Act->World->Prop} {Q:Exit->Act->World->Prop}
 (hK:∀ v M',RelM G M'->M'.objs=objs->Ext objs.length M M'->RepV M' d v->K (a.put o.dst v) M'.w):o.wpIn (u9 ro) 0 P a M.w K Q:=by
 have h1:=h ro a M ⟨hr.m,hr.ob,hr.nt,hr.df,λt e ht=>by
  split at ht
  ·exact hr.tm t e ht
  ·cases ht⟩
 refine Y5 h1 ?_;rintro a' w' ⟨v,M',rfl,rfl,h2,h3,h4,h5⟩;exact hK v M' h2 h3 h4 h5
theorem aH {ro:Option Nat} {dfs:List Deferred} {Q:Array Bool->bw->Prop} {Q':Exit->Act->World->Prop} {M0:MS} {tail:Nat} (hdst:∀ (i:Nat) (o:Oper),ops[i]?=some o->∀ u,o.dst=some u->u<nt)
 (hQ:∀ listed τ a M,RelF G nt objs τ a M->Ext objs.length M0 M->a.defers=dfs->Q listed τ->wpAnyIn (u9 ro) 0 P .any ops Q' tail listed a M.w) :
 ∀ (f:Nat) (listed:Array Bool) (τ:bw) (a:Act) (M:MS),RelF G nt objs τ a M->Ext objs.length M0 M->a.defers=dfs->vO P G nt objs ops Q f listed τ->wpAnyIn (u9 ro) 0 P .any ops Q' (f+tail) listed a M.w
 | 0,listed,τ,a,M,hr,he,hd,h=>by rw[Nat.zero_add];exact hQ listed τ a M hr he hd h
 | f+1,listed,τ,a,M,hr,he,hde,h=>by
   rw[Nat.add_right_comm];refine⟨λh0=>absurd h0 h.1,λi hi=>?_⟩;have h1:=h.2 i hi;unfold aOp at h1;unfold wpOpIn;split at h1
   ·exact h1.elim
   ·rename_i o ho;obtain⟨b,hw,ht,hf⟩:=h1;simp only[ho];rw[aJ hr hw];have undefR:∀ M,RepV M (.tup []) undef:=λM=>.tup _ _ rfl (λj d v h=>by simp at h);cases b with
    | true =>
      simp only[if_true];obtain⟨d,hd,hk⟩:=ht rfl;exact lX hr hd λv M' h2 h3 h4 h5=>aH hdst hQ f _ _ _ M' (hr.put h2 h3 h4 h5 (hdst i o ho)) (he.trans h4) ((r5 _ _ _).trans hde) hk
    | false =>
      simp only[Bool.false_eq_true,if_false];exact⟨λ_ _=>trivial,aH hdst hQ f _ _ _ M (hr.put hr.m hr.ob (by rw[<- hr.ob];exact Ext.refl M) (undefR M) (hdst i o ho)) he ((r5 _ _ _).trans hde) (hf rfl)⟩
def qU (ops:Array Oper):Nat->Nat->Array Bool->Bool
 | 0,_,listed=>(Region.ready .any ops listed).isEmpty
 | f+1,k,listed=>(Region.ready .any ops listed==[k])&&qU ops f (k+1) (listed.setIfInBounds k true)
theorem O3 {ro:Option Nat} {Q':Exit->Act->World->Prop} (n:Nat) (K:DS->Prop):∀ (l:List Oper) (k:Nat) (listed:Array Bool) (S:DS) (a:Act) (M:MS),(∀ j,j<l.length->l[j]?=ops[k+j]?)->qU ops l.length k listed=true ->
 Rel G S a M->n<=M.objs.length->RT P G (ops.toList.map (·.dst)) l S K->(∀ S' a' M',Rel G S' a' M'->Ext n M M'->a'.defers=a.defers->K S'->Q' .normal a' M'.w)->wpAnyIn (u9 ro) 0 P .any ops Q' l.length listed a M.w
 | [],k,listed,S,a,M,_,hB,hr,hn,h,hq=>⟨by simpa[qU] using hB,hq S a M hr ((Ext.refl M).weaken hn) rfl h⟩
 | o :: l,k,listed,S,a,M,hl,hB,hr,hn,h,hq=>by
   have h0:ops[k]?=some o:=by simpa using(hl 0 (by simp)).symm
   simp only[List.length_cons,qU,Bool.and_eq_true,beq_iff_eq] at hB;obtain⟨hrd,hB'⟩:=hB;have hl':∀ j,j<l.length->l[j]?=ops[k+1+j]?:=λj hj=>by have:=hl (j+1) (by simp;omega);simpa[Nat.add_assoc,Nat.add_comm 1 j] using this
   refine⟨(λe=>by rw[hrd] at e;cases e),λi hi=>?_⟩;rw[hrd] at hi;simp only[List.mem_singleton] at hi;subst hi;obtain⟨b,hw,ht,hf⟩:=h;have hw':=eq hr hw;unfold wpOpIn;simp only[h0,hw'];cases b with
   | true =>
     simp only[if_true];refine Y5 (ht rfl ro a M hr) ?_;rintro a' w' ⟨S',M',rfl,hr',he,hd,hrt⟩;exact O3 n K l (i+1) _ S' a' M' hl' hB' hr' (Nat.le_trans hn he.len) hrt λS2 a2 M2 hr2 he2 hd2 hk2=>hq S2 a2 M2 hr2 ((he.weaken hn).trans he2) (hd2.trans hd) hk2
   | false =>
     simp only[Bool.false_eq_true,if_false];have hp:=hr.put (d:=.tup []) (v:=undef) hr.m (Ext.refl M) (.tup _ _ rfl (λj d v h=>by simp at h)) o.dst;rw[show ({ S with objs:=M.objs }:DS)=S from by rw[hr.ob]] at hp;exact⟨λ_ _=>trivial,O3 n K l (i+1) _ _ _ M hl' hB' hp hn (hf rfl) λS2 a2 M2 hr2 he2 hd2 hk2=>hq S2 a2 M2 hr2 he2 (hd2.trans (r5 _ _ _)) hk2⟩
def P9 (op:Op):List Nat:=op.operands.toList.filterMap fun|.tmp t=>some t|_=>none
def QCall (P:Program) (G:Hn) (f:FuncId) (args:List DV) (objs:List DObj) (K:DV->Prop) (_t:Tok K):Prop:=
 ∃ d,DCall P G f args objs (λd' objs'=>d'=d/\objs'=objs)/\K d
theorem cb {f:FuncId} {args:List DV} {objs:List DObj} {K:DV->Prop} {d:DV} (h:∀ objs,DCall P G f args objs (λd' objs'=>d'=d/\objs'=objs)) (hk:K d) {t:Tok K}:QCall P G f args objs K t:=⟨d,h objs,hk⟩
def mY (P:Program) (G:Hn) (objs:List DObj) (x:Out) (C:DV->Prop) (_t:Tok C):Prop:=match x with
 | .val d objs'=>objs'=objs/\C d
 | .call f as=>D9 P f/\QCall P G f as objs C ⟨⟩
 | .cond p d objs'=>p/\objs'=objs/\C d
 | .yield _ _=>False
 | .iter _ _=>False
 | .nilq _ _=>False
 | .gen _=>False
 | .bad=>False
section
variable (P:Program) (G:Hn) (objs:List DObj) (C:DV->Prop) (t:Tok C)
theorem vM (d:DV) (objs':List DObj):mY P G objs (.val d objs') C t=(objs'=objs/\C d):=rfl
theorem sr (f:FuncId) (as:List DV):mY P G objs (.call f as) C t=(D9 P f/\QCall P G f as objs C ⟨⟩):=rfl
end
theorem sq {P:Program} {G:Hn} {objs:List DObj} {C:DV->Prop} {t:Tok C} (p:Prop) (d:DV) (objs':List DObj):mY P G objs (.cond p d objs') C t=(p/\objs'=objs/\C d):=rfl
attribute [simp] vM sr sq
inductive KindQ where
 | e0 (t:TypeId)
 | app0 (t:TypeId) (x y:Operand)
 | frz
 | plain
def gh (op:Op):KindQ:=match op with
 | .buildSlice t n ps=>if n=0/\ps.toList=[] then .e0 t else .frz
 | .box _ _=>.frz
 | op=>match H2 op with
   | .append t x y=>.app0 t x y
   | _=>.plain
def xM (n:Nat):Out->Out
 | .val d objs'=>.val (fB n objs' d) (R9 n objs')
 | .call f as=>.call f as
 | .cond _ _ _=>.bad
 | .yield _ _=>.bad
 | .iter _ _=>.bad
 | .nilq _ _=>.bad
 | .gen _=>.bad
 | .bad=>.bad
def xd:Out->Out
 | .val d objs'=>.val d objs'
 | .call f as=>.call f as
 | .cond _ _ _=>.bad
 | .yield _ _=>.bad
 | .iter _ _=>.bad
 | .nilq _ _=>.bad
 | .gen _=>.bad
 | .bad=>.bad
def jX (P:Program) (S:DS) (t:TypeId):Out:=match ar P t with
 | some e=>match aW P e,E5 P e with
   | some _,some _=>.val (.one (.im .e0)) S.objs
   | _,_=>.bad
 | none=>.bad
def cI (P:Program) (G:Hn) (S:DS) (t:TypeId) (x y:Operand):Out:=match j5 G S x,j5 G S y,ar P t with
 | some (.one (.im .e0)),some (.one (.im (.sl l))),some e=>match aW P e,aL P e,E5 P e with
   | some sz,some bytes,some z=>.cond (0<sz/\z.length=sz/\(∀ e∈l,e.length=sz)/\l.length*bytes<=140737488355328/\l.length<=9223372036854775807) (.one (.im (.sl l))) S.objs
   | _,_,_=>.bad
 | _,_,_=>.bad
def P7 (P:Program) (G:Hn) (S:DS) (op:Op) (ty:TypeId):KindQ->Out
 | .e0 t=>jX P S t
 | .app0 t x y=>cI P G S t x y
 | .frz=>xM S.objs.length (U9 P G S op ty)
 | .plain=>xd (U9 P G S op ty)
def cg (P:Program) (G:Hn) (S:DS) (op:Op) (ty:TypeId):Out:=P7 P G S op ty (gh op)
attribute [simp] gh xM xd jX cI P7 cg
theorem xq {op:Op} {t:TypeId} (h:gh op=.e0 t):op=.buildSlice t 0 #[]:=by
 unfold gh at h;split at h
 ·split at h
  ·rename_i hc;cases h;rw[hc.1,show _=#[] from Array.toList_inj.1 (hc.2.trans (List.toList_toArray (as:=[])).symm)]
  ·cases h
 ·cases h
 ·split at h<;>cases h
theorem qZ {op:Op} {t:TypeId} {x y:Operand} (h:gh op=.app0 t x y):H2 op=.append t x y:=by
 unfold gh at h;split at h
 ·split at h<;>cases h
 ·cases h
 ·split at h
  ·rename_i hk;cases h;exact hk
  ·cases h
theorem me {S:DS} {o:Oper} {d:DV} {objs':List DObj} (h:U9 P G S o.op o.type=.val d objs'):OpV P G o S d objs':=by
 unfold U9 at h;generalize hk:H2 o.op=k at h;cases k with
 | call x xs =>
   simp only[J7,cH] at h;split at h
   ·cases h
   ·cases h
   ·rename_i dd as _ _ hd has;generalize F2 dd=c at h;cases c<;>cases h
   ·cases h
 | append t x y =>
   simp only[J7,Z1] at h;split at h
   ·split at h
    ·rename_i s _ _ _ _ _ sz _ _ xs _ _ _ _ _ _;generalize bU S.objs _ xs sz=r at h;cases r<;>cases h
    ·cases h
   ·cases h
 | makeSlice t x y =>
   simp only[J7,cG] at h;split at h
   ·split at h<;>cases h
   ·cases h
 | next it =>
   simp only[J7,cF] at h;split at h
   ·split at h
    ·cases h
    ·split at h<;>cases h
    ·cases h
   ·cases h
 | rng t x =>
   simp only[J7,fF] at h;split at h
   ·split at h
    ·split at h<;>cases h
    ·cases h
   ·generalize hd:Z9 P G S o.op o.type=r at h;cases r with
    | none=>cases h
    | some p=>cases h;exact P0 hd
 | eqNil b t x u =>
   simp only[J7,fG] at h;split at h
   ·cases h
   ·generalize hd:Z9 P G S o.op o.type=r at h;cases r with
    | none=>cases h
    | some p=>cases h;exact P0 hd
 | plain =>
   simp only[J7] at h;generalize hd:Z9 P G S o.op o.type=r at h;cases r with
   | none=>cases h
   | some p=>cases h;exact P0 hd
theorem jW {S:DS} {o:Oper} {f:FuncId} {as':List DV} (h:U9 P G S o.op o.type=.call f as') :
 ∃ x ys ts d as caps,o.op=.call { callee:=.value x,args:=ys,argTypes:=ts }/\j5 G S x=some d/\X1 G S ys.toList=some as/\F2 d=some (f,caps)/\as'=as++caps:=by
 unfold U9 at h;generalize hk:H2 o.op=k at h;cases k with
 | call x xs =>
   simp only[J7,cH] at h;split at h
   ·cases h
   ·cases h
   ·rename_i dd as _ _ hd has;generalize hc:F2 dd=c at h;cases c with
    | none=>cases h
    | some p =>
      cases h;obtain⟨ys,ts,ho,rfl⟩:=V6 hk;exact⟨x,ys,ts,dd,as,p.2,ho,hd,has,hc,rfl⟩
   ·cases h
 | append t x y =>
   simp only[J7,Z1] at h;split at h
   ·split at h
    ·rename_i s _ _ _ _ _ sz _ _ xs _ _ _ _ _ _;generalize bU S.objs _ xs sz=r at h;cases r<;>cases h
    ·cases h
   ·cases h
 | makeSlice t x y =>
   simp only[J7,cG] at h;split at h
   ·split at h<;>cases h
   ·cases h
 | next it =>
   simp only[J7,cF] at h;split at h
   ·split at h
    ·cases h
    ·split at h<;>cases h
    ·cases h
   ·cases h
 | rng t x =>
   simp only[J7,fF] at h;split at h
   ·split at h
    ·split at h<;>cases h
    ·cases h
   ·generalize Z9 P G S o.op o.type=r at h;cases r<;>cases h
 | eqNil b t x u =>
   simp only[J7,fG] at h;split at h
   ·cases h
   ·generalize Z9 P G S o.op o.type=r at h;cases r<;>cases h
 | plain =>
   simp only[J7] at h;generalize hd:Z9 P G S o.op o.type=r at h;cases r<;>cases h
theorem OpV.frz {S:DS} {o:Oper} {d:DV} {objs':List DObj} (h:OpV P G o S d objs'):OpV P G o S (fB S.objs.length objs' d) (R9 S.objs.length objs'):=by
 intro a M hr;obtain⟨v,M',hrun,hm,ho,he,hv⟩:=h a M hr;have hl:S.objs.length<=M'.objs.length:=by rw[<- hr.ob];exact he.len
 refine⟨v,M'.drop S.objs.length,hrun,hm.drop hl,by simp[MS.drop,ho],?_,by rw[<- ho];exact hv.drop hm hl⟩;rw[hr.ob] at he ⊢;exact he.trans (Ext.drop hl)
theorem gV {S:DS} {o:Oper} {d:DV} {objs':List DObj} (h:cg P G S o.op o.type=.val d objs'):OpV P G o S d objs':=by
 unfold cg at h;generalize hk:gh o.op=k at h;cases k with
 | e0 t =>
   simp only[P7,jX] at h;split at h
   ·rename_i e he;split at h
    ·rename_i h1 h2;cases h;exact ju (xq hk) (G1 he) h1 h2
    ·cases h
   ·cases h
 | app0 t x y =>
   simp only[P7,cI] at h;split at h
   ·split at h<;>cases h
   ·cases h
 | frz =>
   simp only[P7] at h;generalize hs:U9 P G S o.op o.type=r at h;cases r with
   | val d0 objs0=>cases h;exact(me hs).frz
   | call=>cases h
   | cond=>cases h
   | yield=>cases h
   | iter=>cases h
   | nilq=>cases h
   | gen=>cases h
   | bad=>cases h
 | plain =>
   simp only[P7] at h;generalize hs:U9 P G S o.op o.type=r at h;cases r with
   | val d0 objs0=>cases h;exact me hs
   | call=>cases h
   | cond=>cases h
   | yield=>cases h
   | iter=>cases h
   | nilq=>cases h
   | gen=>cases h
   | bad=>cases h
theorem eN {S:DS} {o:Oper} {p:Prop} {d:DV} {objs':List DObj} (h:cg P G S o.op o.type=.cond p d objs') (hp:p):OpV P G o S d objs':=by
 unfold cg at h;generalize hk:gh o.op=k at h;cases k with
 | e0 t =>
   simp only[P7,jX] at h;split at h
   ·split at h<;>cases h
   ·cases h
 | app0 t x y =>
   simp only[P7,cI] at h;split at h
   ·rename_i l e h1 h2 he;split at h
    ·rename_i sz bytes z h3 h4 h5;cases h;obtain⟨a1,a2,a3,a4,a5⟩:=hp;exact pV (eC (qZ hk)) (G1 he) h3 a1 h4 h5 a2 h1 h2 rfl a3 a4 a5
    ·cases h
   ·cases h
 | frz =>
   simp only[P7] at h;generalize hs:U9 P G S o.op o.type=r at h;cases r<;>cases h
 | plain =>
   simp only[P7] at h;generalize hs:U9 P G S o.op o.type=r at h;cases r<;>cases h
theorem eO {S:DS} {o:Oper} {f:FuncId} {as':List DV} (h:cg P G S o.op o.type=.call f as') :
 ∃ x ys ts d as caps,o.op=.call { callee:=.value x,args:=ys,argTypes:=ts }/\j5 G S x=some d/\X1 G S ys.toList=some as/\F2 d=some (f,caps)/\as'=as++caps:=by
 unfold cg at h;generalize hk:gh o.op=k at h;cases k with
 | e0 t =>
   simp only[P7,jX] at h;split at h
   ·split at h<;>cases h
   ·cases h
 | app0 t x y =>
   simp only[P7,cI] at h;split at h
   ·split at h<;>cases h
   ·cases h
 | frz =>
   simp only[P7] at h;generalize hs:U9 P G S o.op o.type=r at h;cases r with
   | val d0 objs0=>cases h
   | call=>cases h;exact jW hs
   | cond=>cases h
   | yield=>cases h
   | iter=>cases h
   | nilq=>cases h
   | gen=>cases h
   | bad=>cases h
 | plain =>
   simp only[P7] at h;generalize hs:U9 P G S o.op o.type=r at h;cases r with
   | val d0 objs0=>cases h
   | call=>cases h;exact jW hs
   | cond=>cases h
   | yield=>cases h
   | iter=>cases h
   | nilq=>cases h
   | gen=>cases h
   | bad=>cases h
def Bo (P:Program) (G:Hn) (dsts:List (Option Tmp)):List Oper->DS->(K:DS->Prop)->Tok K->Prop
 | [],S,K,_=>K S
 | o :: l,S,K,tk=>lT (C2 dsts S o)
  (mY P G S.objs (cg P G (S.keep (P9 o.op)) o.op o.type) (λd=>Bo P G dsts l (S.put o.dst d) K tk) ⟨⟩)
  (Bo P G dsts l (S.put o.dst (.tup [])) K tk) ⟨⟩
theorem dG {l:List (Nat×DV)}:∀ {ks:List Nat} {t:Nat} {d:DV},m8 (yY l ks) t=some d->t∈ks
 | [],t,d,h=>by simp[yY,m8] at h
 | k :: r,t,d,h=>by
   simp only[yY] at h;split at h
   ·simp only[m8] at h;split at h
    ·rename_i hk;subst hk;simp
    ·exact List.mem_cons_of_mem _ (dG h)
   ·exact List.mem_cons_of_mem _ (dG h)
theorem oz {S:DS} {o:Oper} {a:Act} {M:MS} (hr:RelF G S.nt S.objs (λt=>if t∈o.looksAt ops then m8 S.tmps t else none) a M):Rel G (S.keep (P9 o.op)) a M:=
 ⟨hr.m,hr.ob,hr.nt,hr.df,λt d ht=>by
  have h1:=dG ht;have h2:=bH ht;refine hr.tm t d ?_;have:t∈o.looksAt ops:=List.mem_append_left _ h1;simp only[if_pos this];exact h2⟩
theorem T8 {S:DS} {o:Oper} {d:DV} (h:OpV P G o (S.keep (P9 o.op)) d S.objs):OpQ P G S.nt S.objs ops o (m8 S.tmps) d:=by
 intro ro a M hr;obtain⟨v,M',hrun,hm,ho,he,hv⟩:=h a M (oz hr);rw[hr.ob] at he;rcases hrun with hrun|⟨hrun,rfl⟩
 ·exact H7 hrun ⟨v,M',rfl,rfl,hm,ho,he,hv⟩
 ·exact jP hrun ⟨undef,M',rfl,rfl,hm,ho,he,hv⟩
theorem dB {S:DS} {o:Oper} {x:Operand} {xs:Array Operand} {ts:Array TypeId} {d d0:DV} {f:FuncId} {caps as:List DV} (ho:o.op=.call { callee:=.value x,args:=xs,argTypes:=ts })
 (hx:j5 G (S.keep (P9 o.op)) x=some d) (hc:F2 d=some (f,caps)) (ha:X1 G (S.keep (P9 o.op)) xs.toList=some as) (hcall:D9 P f)
 (h:DCall P G f (as++caps) S.objs (λd' objs'=>d'=d0/\objs'=S.objs)):OpQ P G S.nt S.objs ops o (m8 S.tmps) d0:=by
 intro ro a M hr;have hr':=oz hr;have hp:=i9 hr' hx;obtain⟨hl,hrep⟩:=F8 hr' _ _ ha;generalize hv:a.eval x=v at hp
 have key:∀ (vs:Array Value),v=.func (.func f) #[] vs->vs.size=caps.length->(∀ (j:Nat) (d:DV) (u:Value),caps[j]?=some d->vs[j]?=some u->RepV M d u) ->
  o.wpIn (u9 ro) 0 P a M.w (λa' w'=>∃ v M',a'=a.put o.dst v/\M'.w=w'/\RelM G M'/\M'.objs=S.objs/\Ext S.objs.length M M'/\RepV M' d0 v) (λ_ _ _=>False):=by
  rintro vs rfl hvs hcr;have hrun:(execOp a.eval o).run P M.w=.ok (.enter f ((xs.map a.eval)++vs)) M.w:=by
   simp only[execOp,ho,Sem.run_bind,resolve,hv,Deferred.ofValue,Sem.run_pure,Result.andThen_ok,invoke,Array.empty_append];exact hcall _ _
  refine bx hrun ?_;refine(h M _ hr.m hr.ob (by simp[hl,hvs]) λj e u he hu=>?_).mono ?_
  ·have hsz:(xs.map a.eval).size=as.length:=by simp[hl]
   by_cases hj:j<as.length
   ·rw[List.getElem?_append_left hj] at he;rw[Array.getElem?_append_left (by omega)] at hu;refine hrep j e u he ?_;rw[<- hu,<- Array.toList_map,Array.getElem?_toList]
   ·rw[List.getElem?_append_right (by omega)] at he;rw[Array.getElem?_append_right (by omega),hsz] at hu;exact hcr _ e u he hu
  ·rintro e w' ⟨v,d,M',rfl,rfl,hm,hd,he,rfl,hob⟩;exact⟨v,rfl,v,M',rfl,rfl,hm,hob,he,hd⟩
 unfold F2 at hc;split at hc
 ·cases hc;cases hp with
  | one _ _ hp=>cases hp with
    | im _ _ hp=>cases hp with
      | fn _ _ vs h1 h2 =>
        refine key vs rfl (by simp[h1]) λj d u hj hu=>?_;rw[List.getElem?_map,Option.map_eq_some_iff] at hj;obtain⟨c,hc,rfl⟩:=hj;exact .one _ _ (.im _ _ (h2 j c u hc hu))
 ·cases hc;cases hp with
  | one _ _ hp=>cases hp with
    | fn _ _ vs h1 h2 =>
      refine key vs rfl (by simp[h1]) λj d u hj hu=>?_;rw[List.getElem?_map,Option.map_eq_some_iff] at hj;obtain⟨c,hc,rfl⟩:=hj;exact .one _ _ (h2 j c u hc hu)
 ·cases hc
theorem L7 {S:DS} {o:Oper} {b:Bool} (h:C2 (ops.toList.map (·.dst)) S o=some b):P6 ops o (m8 S.tmps)=some b:=by
 unfold C2 at h;unfold P6;split at h
 ·rename_i hg;simp[hg];exact(Option.some.inj h).symm
 ·rename_i j want hg;simp only[hg];split at h
  ·rename_i t hd;have hd':(ops[j]?).bind (·.dst)=some t:=by
    rw[List.getElem?_map,Array.getElem?_toList] at hd;cases ho:ops[j]? with
    | none=>simp[ho] at hd
    | some x=>simp[ho] at hd;simp[hd]
   simp only[hd'];exact h
  ·cases h
theorem ki {S:DS} {dst:Option Tmp} {d:DV} (hlt:∀ u,dst=some u->u<S.nt):m8 (S.put dst d).tmps=P4 (m8 S.tmps) dst d:=by
 cases dst with
 | none=>rfl
 | some t =>
   funext u;have:t<S.nt:=hlt t rfl;simp only[DS.put,if_pos this,m8,P4];by_cases h:t=u
   ·simp[h]
   ·simp[h,Ne.symm h]
theorem put_objs {S:DS} {dst:Option Tmp} {d:DV}:(S.put dst d).objs=S.objs/\(S.put dst d).nt=S.nt:=by
 cases dst with
 | none=>exact⟨rfl,rfl⟩
 | some t=>simp only[DS.put];split<;>exact⟨rfl,rfl⟩
theorem jk {K:DS->Prop}:∀ (l:List Oper) (S:DS) (nt:Nat) (objs:List DObj),S.nt=nt->S.objs=objs->(∀ o∈l,∀ u,o.dst=some u->u<nt)->Bo P G (ops.toList.map (·.dst)) l S K ⟨⟩ ->
 vN P G nt objs ops (λτ=>∃ S',S'.nt=nt/\S'.objs=objs/\m8 S'.tmps=τ/\K S') l (m8 S.tmps)
 | [],S,_,_,h1,h2,_,h=>⟨S,h1,h2,rfl,h⟩
 | o :: l,S,_,_,h1,h2,hd,h=>by
   subst h1;subst h2;rw[Bo] at h;have hd0:∀ u,o.dst=some u->u<S.nt:=hd o (by simp);have rest:∀ d,Bo P G (ops.toList.map (·.dst)) l (S.put o.dst d) K ⟨⟩->vN P G S.nt S.objs ops (λτ=>∃ S',S'.nt=S.nt/\S'.objs=S.objs/\m8 S'.tmps=τ/\K S') l (P4 (m8 S.tmps) o.dst d):=λd hk=>by
    have:=jk l (S.put o.dst d) S.nt S.objs put_objs.2 put_objs.1 (λo ho=>hd o (by simp[ho])) hk;rwa [ki hd0] at this
   generalize hb:C2 (ops.toList.map (·.dst)) S o=r at h;cases r with
   | none=>exact h.elim
   | some b =>
     refine⟨b,L7 hb,λe=>?_,λe=>rest _ (h.2 e)⟩;have h3:=h.1 e;generalize hx:cg P G (S.keep (P9 o.op)) o.op o.type=x at h3;cases x with
     | val d objs' =>
       obtain⟨rfl,hkk⟩:=h3;exact⟨d,T8 (gV hx),rest _ hkk⟩
     | call f as =>
       obtain⟨x,ys,ts,d,as,caps,ho,hxv,has,hc,rfl⟩:=eO hx;obtain⟨hok,d0,hcall,hkk⟩:=h3;exact⟨d0,dB ho hxv hc has hok hcall,rest _ hkk⟩
     | cond p d objs' =>
       obtain⟨hp,rfl,hkk⟩:=h3;exact⟨d,T8 (eN hx hp),rest _ hkk⟩
     | yield l as=>exact h3.elim
     | iter o l=>exact h3.elim
     | nilq l b=>exact h3.elim
     | gen p=>exact h3.elim
     | bad=>exact h3.elim
def fT (nt nq:Nat) (l:List Oper):Bool:=
 Ao l.toArray nq 0 (Array.replicate l.length false)&&qU l.toArray (l.length-nq) nq (mu 0 nq (Array.replicate l.length false)) &&
 (Region.ready .any l.toArray (mu 0 nq (Array.replicate l.length false))).all (λj=>decide (nq<=j)) &&
 ((List.range l.length).all λj=>decide (j<nq)||(List.range nq).all λi=>((br l []).getD j 0).testBit i) &&
 (l.all λo=>match o.dst with|some t=>decide (t<nt)|none=>true)&&decide (nq<=l.length)
theorem sv {id:Nat} {n:Cx} {l:List Oper} {S:DS} {Q:Exit->DS->Prop} (nq:Nat) (ks:List Nat) (hm:P.follows .mixedOrders=true) (hB:fT S.nt nq l=true)
 (h:Bo P G (l.map (·.dst)) (l.take nq) S (λS'=>nX P G (l.map (·.dst)) (l.drop nq) S' (λS''=>At Q .normal ⟨⟩ (S''.keep ks)) ⟨⟩) ⟨⟩):DT P G n (.region id l.toArray true) S Q:=by
 intro hn hrd a M hr;simp only[fT,Bool.and_eq_true,decide_eq_true_eq] at hB;obtain⟨⟨⟨⟨⟨b1,b2⟩,b3⟩,b4⟩,b5⟩,b6⟩:=hB;have hdst:∀ o∈l,∀ u,o.dst=some u->u<S.nt:=λo ho u hu=>by
  have:=List.all_eq_true.1 b5 o ho;simpa[hu] using this
 have htl:(l.take nq).length=nq:=by simp;omega
 have hmask:fx l.toArray (br l []):=af l [] (λj _=>by simp) (λj i oj _ h=>by simp at h);have hwait:∀ (j i:Nat) (listed:Array Bool),nq<=j->i<nq->Closed l.toArray listed->j∈Region.ready .any l.toArray listed->listed.getD i false=true:=λj i listed hj hi hcl hr=>by
  obtain⟨_,oj,hoj,hall⟩:=mem_ready.1 hr;have hlt:j<l.length:=by simpa using(Array.getElem?_eq_some_iff.1 hoj).1
  have h1:=List.all_eq_true.1 b4 j (by simpa using hlt);simp only[Bool.or_eq_true,decide_eq_true_eq,List.all_eq_true,List.mem_range] at h1;rcases h1 with h1|h1
  ·omega
  ·exact hmask j i oj hoj (h1 i hi) listed hcl hall
 have hcl0:Closed l.toArray (Array.replicate l.length false):=λk o _ hk=>by
  rw[Array.getD_eq_getD_getElem?,Array.getElem?_replicate] at hk;split at hk<;>simp at hk
 obtain⟨hm1,he1⟩:=RelM.same (w':={ M.w with drawn:=M.w.drawn+1 }) hr.m rfl ⟨rfl,rfl,rfl,by first|exact Nat.le_refl _|exact Nat.le_succ _⟩;have hlex:=jk (P:=P) (G:=G) (ops:=l.toArray) (l.take nq) S S.nt S.objs rfl rfl (λo ho=>hdst o (List.mem_of_mem_take ho)) (by simpa using h)
 have hany:=qb (P:=P) (G:=G) (ops:=l.toArray) (nq:=nq) (Lq:=mu 0 nq (Array.replicate l.length false)) (λj hj=>by simpa using List.all_eq_true.1 b3 j hj) hwait (l.take nq) 0 (Array.replicate l.length false) (m8 S.tmps) hcl0
  (λj hj=>by rw[htl] at hj;simp[hj]) (by omega) (by rw[htl]) (by rw[htl];exact b1) hlex
 rw[htl] at hany;refine wpIn_region_any hm ?_;have hsz:l.toArray.size=nq+(l.length-nq):=by simp;omega
 rw[hsz]
 have hwp:=aH (P:=P) (G:=G) (nt:=S.nt) (objs:=S.objs) (ops:=l.toArray) (tail:=l.length-nq) (M0:={ M with w:={ M.w with drawn:=M.w.drawn+1 } }) (ro:=n.rd.map M.β) (dfs:=a.defers)
  (Q':=λe a' w'=>∃ S' M',M'.w=w'/\Rel G S' a' M'/\Ext n.n M M'/\NewD M a a'/\Q e S') (λi o ho u hu=>hdst o (by simpa using Array.mem_of_getElem? ho) u hu)
  (Q:=λL τ=>L=mu 0 nq (Array.replicate l.length false)/\∃ S',S'.nt=S.nt/\S'.objs=S.objs/\m8 S'.tmps=τ/\nX P G (l.map (·.dst)) (l.drop nq) S' (λS''=>At Q .normal ⟨⟩ (S''.keep ks)) ⟨⟩) (by
  rintro listed τ a2 M2 hr2 he2 hd2 ⟨rfl,S',e1,e2,rfl,hk⟩;have hrel:Rel G S' a2 M2:=⟨hr2.m,by rw[e2];exact hr2.ob,by rw[e1];exact hr2.nt,hr2.df,hr2.tm⟩
  have hn2:n.n<=M2.objs.length:=by rw[hr2.ob];exact hn
  have hdl:(l.drop nq).length=l.length-nq:=by simp
  have:=O3 (P:=P) (G:=G) (ops:=l.toArray) (ro:=n.rd.map M.β) (Q':=λe a' w'=>∃ S' M',M'.w=w'/\Rel G S' a' M'/\Ext n.n M M'/\NewD M a a'/\Q e S') n.n (λS''=>At Q .normal ⟨⟩ (S''.keep ks)) (l.drop nq) nq _ S' a2 M2 (λj hj=>by simp) (by rw[hdl];exact b2) hrel hn2 (by simpa using J0 _ _ _ hk)
   (λS3 a3 M3 hr3 he3 hd3 hq3=>by
    obtain⟨M4,w4,r4,e4⟩:=Weak.keep (G:=G) (n:=n) (S:=S3) (ks:=ks) (by rw[<- hr3.ob];exact he3.len) a3 M3 hr3;have hobs:M.objs.length=S.objs.length:=by rw[hr.ob]
    refine⟨_,M4,w4,r4,?_,.same (hd3.trans hd2),hq3⟩;exact((he1.weaken (by rw[hobs];exact hn)).trans (he2.weaken hn)).trans (he3.trans e4))
  rw[hdl] at this;exact this) nq (Array.replicate l.length false) (m8 S.tmps) a { M with w:={ M.w with drawn:=M.w.drawn+1 } } ⟨hm1,hr.ob,hr.nt,hr.df,λt d ht=>by
   obtain⟨v,h1,h2⟩:=hr.tm t d ht;exact⟨v,h1,h2.ext he1⟩⟩ (by rw[<- hr.ob];exact Ext.refl { M with w:={ M.w with drawn:=M.w.drawn+1 } }) rfl hany
 have hrep:Array.replicate (nq+(l.length-nq)) false=Array.replicate l.length false:=by congr 1;omega
 rw[hrep];exact hwp
theorem lA {id nt:Nat} {n:Cx} {l:List Oper} {S:DS} {Q:Exit->DS->Prop} (nq:Nat) (ks:List Nat) (hm:P.follows .mixedOrders=true) (hnt:S.nt=nt) (hB:fT nt nq l=true)
 (h:Bo P G (l.map (·.dst)) (l.take nq) S (λS'=>nX P G (l.map (·.dst)) (l.drop nq) S' (λS''=>At Q .normal ⟨⟩ (S''.keep ks)) ⟨⟩) ⟨⟩):DT P G n (.region id l.toArray true) S Q:=
 sv nq ks hm (by rw[hnt];exact hB) h
end
def MS.adopt (M:MS) (b:Nat) (d:DObj):MS:={ w:=M.w,β:=λo=>if o=M.objs.length then b else M.β o,objs:=M.objs++[d],F:=λx=>M.F x/\x≠b }
structure Grow (M M':MS):Prop where
 ok:∀ b,M.ok b->M'.ok b
 w:M'.w=M.w
 old:∀ o,o<M.objs.length->M'.objs[o]?=M.objs[o]?/\M'.β o=M.β o
 len:M.objs.length<=M'.objs.length
theorem RepC.grow {M M':MS} (h:Grow M M') {d:DC} {v:Value} (r:RepC M d v):RepC M' d v:=by
 induction r with
 | im c v hi=>exact .im c v (hi.mono λb hb=>⟨h.ok b hb,by rw[h.w]⟩)
 | ptr o off v h1 ho hc=>exact .ptr o off v h1 (Nat.lt_of_lt_of_le ho h.len) (by rw[(h.old o ho).1,(h.old o ho).2];exact hc)
 | ept o gen idx off v h1 ho hc=>exact .ept o gen idx off v h1 (Nat.lt_of_lt_of_le ho h.len) (by rw[(h.old o ho).1,(h.old o ho).2];exact hc)
 | vec o gen off len v h1 ho hc=>exact .vec o gen off len v h1 (Nat.lt_of_lt_of_le ho h.len) (by rw[(h.old o ho).1,(h.old o ho).2,h.w];exact hc)
 | fn f caps vs hl _ ih=>exact .fn f caps vs hl ih
 | map o v h1 ho hc=>exact .map o v h1 (Nat.lt_of_lt_of_le ho h.len) (by rw[(h.old o ho).1,(h.old o ho).2];exact hc)
 | yld o v h1 ho hc=>exact .yld o v h1 (Nat.lt_of_lt_of_le ho h.len) (by rw[(h.old o ho).1,(h.old o ho).2];exact hc)
 | itr o v h1 ho hc=>exact .itr o v h1 (Nat.lt_of_lt_of_le ho h.len) (by rw[(h.old o ho).1,(h.old o ho).2];exact hc)
 | dead v h1=>exact .dead v h1
theorem RepV.grow {M M':MS} (h:Grow M M') {d:DV} {v:Value} (r:RepV M d v):RepV M' d v:=by
 induction r with
 | one c v hc=>exact .one c v (hc.grow h)
 | agg l cs hl hc=>exact .agg l cs hl λj c v h1 h2=>(hc j c v h1 h2).grow h
 | tup l vs hl _ ih=>exact .tup l vs hl ih
theorem RelO.grow {M M':MS} (h:Grow M M') {o:Nat} (ho:o<M.objs.length) {d:DObj} (r:RelO M o d):RelO M' o d:=by
 have hβ:=(h.old o ho).2;cases d with
 | row cells =>
   obtain⟨c,T,h1,h2,h3⟩:=r;exact⟨c,T,by rw[hβ,h.w];exact h1,h2,λj d v hd hv=>(h3 j d v hd hv).grow h⟩
 | vec sz es g nl =>
   obtain⟨hn,hf⟩:=r;refine⟨hn,λhnl=>?_⟩;obtain⟨h0,c,T,h1,h2,h3,h4⟩:=hf hnl;exact⟨h0,c,T,by rw[hβ,h.w];exact h1,h2,h3,λi x j d v hx hd hv=>(h4 i x j d v hx hd hv).grow h⟩
 | map ks es =>
   obtain⟨ents,clock,h1,hst,hsh,h2,h3⟩:=r;refine⟨ents,clock,by rw[hβ,h.w];exact h1,by rw[hβ];exact hst,hsh,h2,λi x e hx he=>?_⟩;obtain⟨a1,a2,a3⟩:=h3 i x e hx he;exact⟨a1,a2,a3.grow h⟩
 | loop lr =>
   obtain⟨fn,tmps,D,h1,h2,h3⟩:=r;refine⟨fn,tmps,D,by rw[hβ,h.w];exact h1,h2,λt d ht=>?_⟩;obtain⟨v,e1,e2⟩:=h3 t d ht;exact⟨v,e1,e2.grow h⟩
 | iter left cur =>
   obtain⟨bm,seen,ents,clock,h1,h2,h3,h4,h5,h6,h7⟩:=r;refine⟨bm,seen,ents,clock,by rw[hβ,h.w];exact h1,h.ok _ h2,by rw[h.w];exact h3,h4,h5,λi x e hx he=>?_,λx hx=>?_⟩
   ·obtain⟨a1,a2,a3⟩:=h6 i x e hx he;exact⟨a1,a2,a3.grow h⟩
   ·obtain⟨e,a0,a1,a2,a3,a4⟩:=h7 x hx;exact⟨e,a0,a1,a2,a3,a4.grow h⟩
 | liter b seen c=>show M'.w.heap[M'.β o]?=_;rw[hβ,h.w];exact r
 | gone=>trivial
section
variable {P:Program} {G:Hn}
theorem ln {M:MS} {b x:Nat} {d:DObj} (hd:d.blk=true):(M.adopt b d).live x↔M.live x\/x=b:=by
 constructor
 ·rintro⟨o,d',ho,hb,hβ⟩;rcases j6 ho with⟨h1,h2⟩|⟨rfl,rfl⟩
  ·exact .inl ⟨o,d',h2,hb,by simpa[MS.adopt,Nat.ne_of_lt h1] using hβ⟩
  ·exact .inr (by simpa[MS.adopt] using hβ.symm)
 ·rintro (⟨o,d',ho,hb,hβ⟩|rfl)
  ·have hlt:o<M.objs.length:=(List.getElem?_eq_some_iff.1 ho).1;exact⟨o,d',by simp[MS.adopt,List.getElem?_append_left hlt,ho],hb,by simpa[MS.adopt,Nat.ne_of_lt hlt] using hβ⟩
  ·exact⟨M.objs.length,d,by simp[MS.adopt],hd,by simp[MS.adopt]⟩
theorem yH {M:MS} {b x:Nat} {d:DObj} (hd:d.blk=true) (hF:M.F b):M.ok x->(M.adopt b d).ok x:=by
 rintro⟨⟨h1,h2⟩,h3⟩;have hne:x≠b:=λe=>h3 (e ▸ hF);refine⟨⟨h1,λhl=>?_⟩,λh=>h3 h.1⟩;rcases (ln hd).1 hl with h|h
 ·exact h2 h
 ·exact hne h
theorem Grow.adopt {M:MS} {b:Nat} {d:DObj} (hd:d.blk=true) (hF:M.F b):Grow M (M.adopt b d):=
 ⟨λ_ h=>yH hd hF h,rfl,λo ho=>⟨by simp[MS.adopt,List.getElem?_append_left ho],by simp[MS.adopt,Nat.ne_of_lt ho]⟩,by simp[MS.adopt]⟩
theorem RelM.adopt {M:MS} (hm:RelM G M) {b:Nat} (hF:M.F b) {c:Array Value} {t:TypeId} (hh:M.w.heap[b]?=some (.cells c t (0,0))) {z:List Value} (hc:c.toList=z) (hz:z.all v7=true) :
 RelM G (M.adopt b (.row (z.map an))):=by
 have hd:(DObj.row (z.map an)).blk=true:=rfl;have hg:=Grow.adopt (M:=M) (b:=b) hd hF;refine⟨λo d ho=>?_,λo d ho hb=>?_,λo o' d1 d2 ho ho' hb hb' hβ=>?_,λg l hgl=>(hm.glob g l hgl).mono λb hb=>⟨hg.ok b hb,rfl⟩,λb' hb=>hm.fl b' hb.1,λo d ho hb=>?_⟩
 ·rcases j6 ho with⟨h1,h2⟩|⟨rfl,rfl⟩
  ·exact(hm.objs o d h2).grow hg h1
  ·refine⟨c,t,by simp[MS.adopt,hh],?_,λj d v hj hv=>?_⟩
   ·rw[List.length_map,<- hc];simp
   ·rw[<- Array.getElem?_toList,hc] at hv;rw[List.getElem?_map,hv,Option.map_some] at hj;cases hj;exact Y4 (List.all_eq_true.1 hz v (List.mem_of_getElem? hv))
 ·rcases j6 ho with⟨h1,h2⟩|⟨rfl,rfl⟩
  ·simpa[MS.adopt,Nat.ne_of_lt h1] using hm.lt o d h2 hb
  ·simpa[MS.adopt] using hm.fl b hF
 ·rcases j6 ho with⟨h1,h2⟩|⟨rfl,rfl⟩<;>rcases j6 ho' with⟨h3,h4⟩|⟨rfl,rfl⟩
  ·exact hm.inj o o' d1 d2 h2 h4 hb hb' (by simpa[MS.adopt,Nat.ne_of_lt h1,Nat.ne_of_lt h3] using hβ)
  ·exfalso;refine hm.own o d1 h2 hb ?_;have:M.β o=b:=by simpa[MS.adopt,Nat.ne_of_lt h1] using hβ
   rw[this];exact hF
  ·exfalso;refine hm.own o' d2 h4 hb' ?_;have:b=M.β o':=by simpa[MS.adopt,Nat.ne_of_lt h3] using hβ
   rw[<- this];exact hF
  ·rfl
 ·rcases j6 ho with⟨h1,h2⟩|⟨rfl,rfl⟩
  ·intro hx;exact hm.own o d h2 hb (by simpa[MS.adopt,Nat.ne_of_lt h1] using hx.1)
  ·intro hx;exact hx.2 (by simp[MS.adopt])
theorem Ext.adopt {M0 M:MS} {n:Nat} (he:Ext n M0 M) (hm0:RelM G M0) {b:Nat} {c:List DC} (hb0:M0.w.heap.size<=b) (hn:n<=M.objs.length):Ext n M0 (M.adopt b (.row c)):=by
 have hd:(DObj.row c).blk=true:=rfl;have lo:∀ o,o<n->(M.adopt b (.row c)).objs[o]?=M.objs[o]?/\(M.adopt b (.row c)).β o=M.β o:=λo ho =>
  ⟨by simp[MS.adopt,List.getElem?_append_left (Nat.lt_of_lt_of_le ho hn)],by simp[MS.adopt,Nat.ne_of_lt (Nat.lt_of_lt_of_le ho hn)]⟩
 refine⟨by simp[MS.adopt];have:=he.len;omega,λx hx=>?_,⟨λx hx=>⟨he.other.1 x hx,λe=>?_⟩,λx hx hF=>he.other.2 x hx hF.1⟩,he.hs,λo ho=>?_,λo ho=>?_,λo ho=>?_,λo ho=>?_,λo ho=>?_,λo ho=>?_,he.io⟩
 ·obtain⟨h1,h2⟩:=he.free x hx;refine⟨⟨h1.1,λhl=>?_⟩,h2⟩;rcases (ln hd).1 hl with h|h
  ·exact h1.2 h
  ·have:=hx.1;omega
 ·have:=hm0.fl x hx;omega
 ·rw[(lo o ho).1,(lo o ho).2];exact he.row o ho
 ·rw[(lo o ho).1,(lo o ho).2];exact he.vec o ho
 ·rw[(lo o ho).1,(lo o ho).2];exact he.map o ho
 ·rw[(lo o ho).1,(lo o ho).2];exact he.lp o ho
 ·rw[(lo o ho).1,(lo o ho).2];exact he.it o ho
 ·rw[(lo o ho).1,(lo o ho).2];exact he.lp' o ho
def iP (S:DS) (x:Nat×List Value):DS:={ S with tmps:=(x.1,.one (.ptr S.objs.length 0)) :: S.tmps,objs:=S.objs++[.row (x.2.map an)] }
def iO (S:DS) (l:List (Nat×List Value)):DS:=match l with
 | []=>S
 | x :: r=>iO (iP S x) r
structure Hid (M0:MS) (a:Act) (M:MS) (x:Nat×List Value) (b:Nat):Prop where
 F:M.F b
 lo:M0.w.heap.size<=b
 z:x.2.all v7=true
 slot:a.tmps[x.1]?=some (.pointer (some ⟨b,0,none⟩))
 cells:∃ c t,M.w.heap[b]?=some (.cells c t (0,0))/\c.toList=x.2
theorem bZ {M0:MS} {n:Nat} (hm0:RelM G M0) {a:Act}:∀ (l:List (Nat×List Value)) (bs:List Nat) (S:DS) (M:MS),Rel G S a M->Ext n M0 M->n<=M.objs.length->l.length=bs.length ->
 (∀ (i:Nat) (x:Nat×List Value) (b:Nat),l[i]?=some x->bs[i]?=some b->Hid M0 a M x b)->bs.Nodup->∃ M',Rel G (iO S l) a M'/\Ext n M0 M'/\n<=M'.objs.length/\M'.w=M.w/\∀ d v,RepV M d v->RepV M' d v
 | [],[],S,M,hr,he,hn,_,_,_=>⟨M,hr,he,hn,rfl,λ_ _ h=>h⟩
 | x :: l,b :: bs,S,M,hr,he,hn,hl,hx,hnd=>by
   obtain⟨hF,hlo,hz,hslot,c,t,hh,hc⟩:=hx 0 x b rfl rfl;have hd:(DObj.row (x.2.map an)).blk=true:=rfl;have hg:=Grow.adopt (M:=M) (b:=b) hd hF;have hm:=hr.m.adopt hF hh hc hz;rw[List.nodup_cons] at hnd;have hr1:Rel G (iP S x) a (M.adopt b (.row (x.2.map an))):=by
    refine⟨hm,by simp[iP,MS.adopt,hr.ob],hr.nt,?_,λu d hu=>?_⟩
    ·obtain⟨ds,h1,h2,h3⟩:=hr.df;refine⟨ds,h1,h2,λD hD=>⟨⟨(h3 D hD).1,λe=>?_⟩,(h3 D hD).2⟩⟩;have h4:=(h3 D hD).2;rw[e,hh] at h4;cases h4
    ·simp only[iP,m8] at hu;split at hu
     ·rename_i hxu;subst hxu;cases hu;refine⟨_,hslot,.one _ _ (.ptr _ _ _ rfl (by simp[MS.adopt,hr.ob]) λc' _=>?_)⟩;simp[MS.adopt,hr.ob]
     ·obtain⟨v,h1,h2⟩:=hr.tm u d hu;exact⟨v,h1,h2.grow hg⟩
   obtain⟨M',e1,e2,e3,e4,e5⟩:=bZ hm0 l bs (iP S x) (M.adopt b (.row (x.2.map an))) hr1 (he.adopt hm0 hlo hn) (by simp[MS.adopt];omega) (by simpa using hl)
    (λi y b' hy hb'=>by
     obtain⟨q1,q2,q3,q4,q5⟩:=hx (i+1) y b' (by simpa using hy) (by simpa using hb');exact⟨⟨q1,λe=>hnd.1 (by rw[<- e];exact List.mem_of_getElem? hb')⟩,q2,q3,q4,q5⟩) hnd.2
   exact⟨M',e1,e2,e3,e4,λd v h=>e5 d v (h.grow hg)⟩
 | [],_ :: _,_,_,_,_,_,h,_,_=>by simp at h
 | _ :: _,[],_,_,_,_,_,h,_,_=>by simp at h
end
section
variable {P:Program} {G:Hn} {nt:Nat} {objs:List DObj} {ops:Array Oper}
def OpS (P:Program) (G:Hn) (nt:Nat) (objs:List DObj) (ops:Array Oper) (o:Oper) (d:DV) (τ:bw):Prop:=
 (∃ t z,o.op=.alloc t/\o.guard=none/\d=.one .dead/\E5 P t=some z/\z.all v7=true)\/((∀ t,o.op≠.alloc t)/\YA P G nt objs ops o d τ)
theorem OpS.same {o:Oper} {d:DV} {τ τ':bw} (h:OpS P G nt objs ops o d τ) (hs:∀ t∈o.looksAt ops,τ' t=τ t):OpS P G nt objs ops o d τ':=
 h.imp id λh=>⟨h.1,h.2.same hs⟩
def fi (nt:Nat) (ops:Array Oper):Prop:=
 (∀ (i:Nat) (o:Oper),ops[i]?=some o->∀ u,o.dst=some u->u<nt) /\
 (∀ (i j:Nat) (o o':Oper) (u:Nat),ops[i]?=some o->ops[j]?=some o'->o.dst=some u->o'.dst=some u->i=j)
def GQ (ops:Array Oper) (ks:List Nat) (listed:Array Bool) (t:Nat):Prop:=∀ i∈ks,∀ o,ops[i]?=some o->o.dst=some t->listed.getD i false=true
open Classical in
noncomputable def K8 (ops:Array Oper) (ks:List Nat) (listed:Array Bool) (τ:bw):bw:=λt=>if GQ ops ks listed t then τ t else none
theorem o9 {l:Array Bool} {i j:Nat} (h:(l.setIfInBounds i true).getD j false=true):j=i\/l.getD j false=true:=by
 by_cases e:i=j
 ·exact .inl e.symm
 ·rw[getD_set_ne false e] at h;exact .inr h
def Pd (P:Program) (M0:MS) (ops:Array Oper) (ks:List Nat) (listed:Array Bool) (a:Act) (M:MS):Prop:=
 ∃ β':Nat->Nat,(∀ (i:Nat) (o:Oper) (t:TypeId) (u:Nat),i∈ks->ops[i]?=some o->o.op=.alloc t->o.dst=some u->listed.getD i false=true ->
  ∃ z,E5 P t=some z/\Hid M0 a M (u,z) (β' i)) /\
  ∀ (i j:Nat) (o o':Oper) (t t':TypeId),i∈ks->j∈ks->ops[i]?=some o->o.op=.alloc t->listed.getD i false=true->ops[j]?=some o'->o'.op=.alloc t'->listed.getD j false=true->o.dst.isSome=true->o'.dst.isSome=true->β' i=β' j->i=j
theorem Pd.step {M0 M M':MS} {ks:List Nat} {listed:Array Bool} {a:Act} {i:Nat} {o:Oper} {v:Value} {n:Nat} (hd:fi nt ops) (hi:ops[i]?=some o) (hna:∀ t,o.op≠.alloc t) (hm:RelM G M) (he:Ext n M M') (h:Pd P M0 ops ks listed a M) :
 Pd P M0 ops ks (listed.setIfInBounds i true) (a.put o.dst v) M':=by
 obtain⟨β',h1,h2⟩:=h;have back:∀ {j:Nat} {o':Oper} {t:TypeId},ops[j]?=some o'->o'.op=.alloc t->(listed.setIfInBounds i true).getD j false=true->listed.getD j false=true:=λ{j o' t} hj ht hl=>by
  rcases o9 hl with rfl|hl
  ·rw[hi] at hj;cases hj;exact absurd ht (hna t)
  ·exact hl
 refine⟨β',λj o' t u hk hj ht hu hl=>?_,λj k o' o'' t t' hkj hkk hj ht hlj hk ht' hlk hs hs' hβ=>h2 j k o' o'' t t' hkj hkk hj ht (back hj ht hlj) hk ht' (back hk ht' hlk) hs hs' hβ⟩;obtain⟨z,z1,z4,z5,z2,z3,c,t',z6,z7⟩:=h1 j o' t u hk hj ht hu (back hj ht hl);refine⟨z,z1,he.other.1 _ z4,z5,z2,?_,c,t',by rw[(he.free _ (hm.F_free z4)).2];exact z6,z7⟩;cases hdst:o.dst with
 | none=>exact z3
 | some x =>
   have hne:x≠u:=λe=>by
    subst e;have:=hd.2 i j o o' x hi hj hdst hu;subst this;rw[hi] at hj;cases hj;exact hna t ht
   simp only[Act.put];rw[Array.getElem?_setIfInBounds_ne hne];exact z3
structure Inv (P:Program) (G:Hn) (nt:Nat) (objs:List DObj) (ops:Array Oper) (ks:List Nat) (τ:bw) (M0:MS) (base:Array Bool) (dfs:List Deferred) (f:Nat) (listed:Array Bool) (a:Act) (M:MS):Prop where
 sz:listed.size=ops.size
 cn:listed.toList.count false=f
 cl:Closed ops listed
 rel:RelF G nt objs (K8 ops ks listed τ) a M
 ext:Ext objs.length M0 M
 df:a.defers=dfs
 pd:Pd P M0 ops ks listed a M
 only:∀ i,listed.getD i false=true->base.getD i false=true\/i∈ks
 has:∀ i,base.getD i false=true->listed.getD i false=true
theorem bV {listed:Array Bool} {i f:Nat} (h0:listed.getD i true=false) (hc:listed.toList.count false=f+1):(listed.setIfInBounds i true).toList.count false=f:=by
 have hlt:i<listed.size:=by
  rcases Nat.lt_or_ge i listed.size with h|h
  ·exact h
  ·simp[Array.getElem?_eq_none h] at h0
 have hv:listed.toList[i]'(by simpa using hlt)=false:=by
  simp[hlt] at h0;simpa using h0
 rw[Array.toList_setIfInBounds,List.count_set (by simpa using hlt),hv,hc];simp
theorem nG (hback:∀ (k:Nat) (o:Oper),ops[k]?=some o->∀ e∈o.after,Region.binds .any e=true->e.on<k) {listed:Array Bool} (hs:listed.size=ops.size):∀ (k:Nat),listed.getD k true=false->∃ j,j∈Region.ready .any ops listed:=by
 intro k;induction k using Nat.strongRecOn with
 | ind k ih =>
   intro hk;by_cases h:∃ m,m<k/\listed.getD m true=false
   ·obtain⟨m,h1,h2⟩:=h;exact ih m h1 h2
   ·have hlt:k<listed.size:=by
     rcases Nat.lt_or_ge k listed.size with h|h
     ·exact h
     ·simp[Array.getElem?_eq_none h] at hk
    obtain⟨o,ho⟩:∃ o,ops[k]?=some o:=⟨ops[k]'(by omega),by simp⟩
    refine⟨k,mem_ready.2 ⟨hk,o,ho,λe he hb=>?_⟩⟩;have h1:=hback k o ho e he hb;have h2:e.on<listed.size:=by omega
    have h3:¬ listed.getD e.on true=false:=λh4=>h ⟨_,h1,h4⟩;simp[h2] at h3 ⊢;exact h3
theorem xi {ks:List Nat} {listed:Array Bool} {τ:bw} {i:Nat} {o:Oper} {d:DV} (hi:ops[i]?=some o) (hv:∀ u,o.dst=some u->τ u=some d) (t:Nat) (e:DV) :
 K8 ops ks (listed.setIfInBounds i true) τ t=some e->P4 (K8 ops ks listed τ) o.dst d t=some e:=by
 intro h;unfold K8 at h;split at h
 ·rename_i hvis;by_cases hdt:o.dst=some t
  ·rw[hv t hdt] at h;rw[hdt];simpa[P4] using h
  ·rw[bK (λu hu e=>hdt (by rw[hu,e]))];unfold K8;rw[if_pos]
   ·exact h
   ·intro j hj oj hoj hdj;rcases o9 (hvis j hj oj hoj hdj) with rfl|h
    ·rw[hi] at hoj;cases hoj;exact absurd hdj hdt
    ·exact h
 ·cases h
theorem RelF.le {τ τ':bw} {a:Act} {M:MS} (h:RelF G nt objs τ a M) (hl:∀ t d,τ' t=some d->τ t=some d):RelF G nt objs τ' a M:=
 ⟨h.m,h.ob,h.nt,h.df,λt d ht=>h.tm t d (hl t d ht)⟩
theorem H8 {ks:List Nat} {τ:bw} {M0:MS} {base:Array Bool} {dfs:List Deferred} {ro:Option Nat} {Q':Exit->Act->World->Prop} (hd:fi nt ops)
 (hY:∀ i∈ks,∃ o d,ops[i]?=some o/\OpS P G nt objs ops o d τ/\∀ u,o.dst=some u->τ u=some d)
 (hdep:∀ i∈ks,∀ o,ops[i]?=some o->∀ k∈ks,∀ o',ops[k]?=some o'->∀ u,o'.dst=some u->u∈o.looksAt ops->∃ e∈o.after,e.on=k/\Region.binds .any e=true)
 (hback:∀ (k:Nat) (o:Oper),ops[k]?=some o->∀ e∈o.after,Region.binds .any e=true->e.on<k)
 (hJ:∀ f listed a M,Inv P G nt objs ops ks τ M0 base dfs (f+1) listed a M->∀ j∈Region.ready .any ops listed,j∉ks->wpOpIn (u9 ro) 0 P ops Q' j (wpAnyIn (u9 ro) 0 P .any ops Q' f (listed.setIfInBounds j true)) a M.w)
 (hE:∀ listed a M,Inv P G nt objs ops ks τ M0 base dfs 0 listed a M->Q' .normal a M.w) :
 ∀ f listed a M,Inv P G nt objs ops ks τ M0 base dfs f listed a M->wpAnyIn (u9 ro) 0 P .any ops Q' f listed a M.w
 | 0,listed,a,M,hi=>by
   refine⟨?_,hE listed a M hi⟩;rw[List.eq_nil_iff_forall_not_mem];intro j hj;obtain⟨h0,oj,hoj,_⟩:=mem_ready.1 hj;have hlt:j<listed.size:=by rw[hi.sz];exact(Array.getElem?_eq_some_iff.1 hoj).1
   have hnot:=List.count_eq_zero.1 hi.cn;refine hnot ?_;simp[hlt] at h0;rw[<- h0];exact Array.getElem_mem_toList hlt
 | f+1,listed,a,M,hi=>by
   refine⟨λhnil=>?_,λi hrd=>?_⟩
   ·exfalso;have hmem:false∈listed.toList:=List.one_le_count_iff.1 (by rw[hi.cn];omega);obtain⟨k,hk,hkv⟩:=List.mem_iff_getElem.1 hmem;have hk':k<listed.size:=by simpa using hk
    have h0:listed.getD k true=false:=by simp[hk'];simpa using hkv
    obtain⟨j,hj⟩:=nG hback hi.sz k h0;rw[hnil] at hj;cases hj
   ·by_cases hik:i∈ks
    ·obtain⟨o,d,ho,hop,hdst⟩:=hY i hik;obtain⟨h0,o',ho',hall⟩:=mem_ready.1 hrd;rw[ho] at ho';cases ho';have hsame:∀ t∈o.looksAt ops,K8 ops ks listed τ t=τ t:=λt ht=>by
      unfold K8;rw[if_pos];intro k hk ok hok hdk;obtain⟨e,he,rfl,hb⟩:=hdep i hik o ho k hk ok hok t hdk ht;exact hall e he hb
     have base1:∀ (a':Act) (M':MS),RelF G nt objs (P4 (K8 ops ks listed τ) o.dst d) a' M'->Ext objs.length M0 M'->a'.defers=dfs->Pd P M0 ops ks (listed.setIfInBounds i true) a' M' ->
      Inv P G nt objs ops ks τ M0 base dfs f (listed.setIfInBounds i true) a' M':=λa' M' h1 h2 h3 h4 =>
      ⟨by simpa using hi.sz,bV h0 hi.cn,hi.cl.step hrd,h1.le (xi ho hdst),h2,h3,h4,λj hj=>by
       rcases o9 hj with rfl|hj
       ·exact .inr hik
       ·exact hi.only j hj,λj hj=>getD_set_true (hi.has j hj)⟩
     rcases hop with⟨t,z,hal,hg,rfl,hz,hzp⟩|⟨hna,hy⟩
     ·obtain⟨v,hrun,hv⟩:=X7 (w:=M.w) hz;have hex:(execOp a.eval o).run P M.w=.ok (.value (.pointer (some ⟨M.w.heap.size,0,none⟩))) (M.w.alloc (.cells v.cells t)):=by
       simp[execOp,hal,Instr.alloc,hrun,newVar,newRow,newObj,Sem.run]
      have hheap:(M.w.alloc (.cells v.cells t)).heap=M.w.heap.push (.cells v.cells t):=by unfold World.alloc;rfl
      have hold:∀ b,b<M.w.heap.size->(M.w.alloc (.cells v.cells t)).heap[b]?=M.w.heap[b]?:=λb hb=>by rw[hheap,Array.getElem?_push,if_neg (Nat.ne_of_lt hb)]
      let M1:MS:={ M with w:=M.w.alloc (.cells v.cells t),F:=λb=>M.F b\/b=M.w.heap.size }
      have he1:Ext M.objs.length M M1:=by
       refine⟨Nat.le_refl _,λb hb=>⟨⟨?_,hb.2⟩,hold b hb.1⟩,⟨λb hb=>.inl hb,λb hb hF=>?_⟩,by simp[M1,hheap],λp _ c' hc=>⟨⟨c',hc⟩,rfl⟩,λp _ sz es g nl hv=>⟨sz,es,g,nl,hv,Nat.le_refl _,λ_=>⟨rfl,rfl,λhn=>⟨rfl,?_⟩⟩⟩,λp _ ks es hm=>⟨⟨ks,es,hm⟩,rfl⟩,
        λp _ r hm=>⟨⟨r,hm⟩,rfl⟩,λp _ d hm hi=>⟨⟨d,hm,hi⟩,rfl⟩,λp _ r hm=>⟨⟨r,hm⟩,rfl⟩,⟨rfl,rfl,rfl,by first|exact Nat.le_refl _|exact Nat.le_succ _⟩⟩
       ·have:=hb.1;simp only[M1,hheap,Array.size_push];omega
       ·rcases hF with hF|hF
        ·exact hb.2 hF
        ·have:=hb.1.1;omega
       ·simp only[H3,M1];rw[hold _ (hi.rel.m.lt p _ hv (by simp[DObj.blk,hn]))]
      have hm1:RelM G M1:=by
       refine⟨λo d ho=>(hi.rel.m.objs o d ho).ext he1 (λ_=>rfl) (λhb=>hold _ (hi.rel.m.lt o d ho hb)),λo d ho hb=>?_,hi.rel.m.inj,λg l hg=>(hi.rel.m.glob g l hg).mono he1.ok,λb hF=>?_,λo d ho hb hF=>?_⟩
       ·have:=hi.rel.m.lt o d ho hb;simp only[M1,hheap,Array.size_push];omega
       ·simp only[M1,hheap,Array.size_push];rcases hF with hF|hF
        ·have:=hi.rel.m.fl b hF;omega
        ·omega
       ·rcases hF with hF|hF
        ·exact hi.rel.m.own o d ho hb hF
        ·have:=hi.rel.m.lt o d ho hb;simp only[M1] at hF;omega
      have he1':Ext objs.length M M1:=by rw[<- hi.rel.ob];exact he1
      have hr1:=hi.rel.put hm1 (show M1.objs=objs from hi.rel.ob) he1' (d:=.one .dead) (v:=.pointer (some ⟨M.w.heap.size,0,none⟩)) (.one _ _ (.dead _ rfl)) (hd.1 i o ho);have hpd1:Pd P M0 ops ks (listed.setIfInBounds i true) (a.put o.dst (.pointer (some ⟨M.w.heap.size,0,none⟩))) M1:=by
       obtain⟨β',p1,p2⟩:=hi.pd;have hlt:∀ (j:Nat) (o':Oper) (t':TypeId),j∈ks->ops[j]?=some o'->o'.op=.alloc t'->listed.getD j false=true->o'.dst.isSome=true->β' j<M.w.heap.size:=λj o' t' hjk hj ht' hl hs=>by
        obtain⟨u,hu⟩:=Option.isSome_iff_exists.1 hs;obtain⟨_,_,q4,_⟩:=p1 j o' t' u hjk hj ht' hu hl;exact hi.rel.m.fl _ q4
       refine⟨λj=>if j=i then M.w.heap.size else β' j,λj o' t' u hjk hj ht' hu hl=>?_,λj k o' o'' t1 t2 hjk hkk hj ht1 hlj hk ht2 hlk hs hs' hβ=>?_⟩
       ·by_cases e:j=i
        ·subst e;rw[ho] at hj;cases hj;rw[hal] at ht';cases ht';refine⟨z,hz,.inr (by simp),?_,hzp,?_,v.cells,t,?_,hv⟩
         ·simp only[if_true];exact hi.ext.hs
         ·simp only[if_true,hu,Act.put];rw[Array.getElem?_setIfInBounds_self_of_lt (by rw[hi.rel.nt];exact hd.1 j o ho u hu)]
         ·simp only[if_true];exact P1
        ·have hl':listed.getD j false=true:=(o9 hl).resolve_left e;obtain⟨z',q1,q4,q5,q2,q3,c,t'',q6,q7⟩:=p1 j o' t' u hjk hj ht' hu hl';refine⟨z',q1,by simp only[if_neg e];exact .inl q4,by simp only[if_neg e];exact q5,q2,?_,c,t'',by simp only[if_neg e,M1];rw[hold _ (hi.rel.m.fl _ q4)];exact q6,q7⟩;simp only[if_neg e];cases hdo:o.dst with
         | none=>exact q3
         | some x =>
           have hne:x≠u:=λe'=>by
            subst e';exact e (hd.2 j i o' o x hj ho hu hdo)
           simp only[Act.put];rw[Array.getElem?_setIfInBounds_ne hne];exact q3
       ·by_cases e1:j=i<;>by_cases e2:k=i
        ·rw[e1,e2]
        ·simp only[if_pos e1,if_neg e2] at hβ;have:=hlt k o'' t2 hkk hk ht2 ((o9 hlk).resolve_left e2) hs';omega
        ·simp only[if_neg e1,if_pos e2] at hβ;have:=hlt j o' t1 hjk hj ht1 ((o9 hlj).resolve_left e1) hs;omega
        ·simp only[if_neg e1,if_neg e2] at hβ;exact p2 j k o' o'' t1 t2 hjk hkk hj ht1 ((o9 hlj).resolve_left e1) hk ht2 ((o9 hlk).resolve_left e2) hs hs' hβ
      have hw:Region.wanted o (yielded ops a.tmps)=true:=by simp[Region.wanted,hg]
      unfold wpOpIn;simp only[ho,hw,if_true];exact H7 hex (H8 hd hY hdep hback hJ hE f _ _ M1 (base1 _ M1 hr1 (hi.ext.trans he1') ((r5 _ _ _).trans hi.df) hpd1))
     ·have hy':=hy.same hsame;rcases hy' with⟨hw,hoq⟩|⟨hw,rfl⟩
      ·have hw':=aJ hi.rel hw;unfold wpOpIn;simp only[ho,hw',if_true];exact lX hi.rel hoq λv M' h2 h3 h4 h5=>H8 hd hY hdep hback hJ hE f _ _ M' (base1 _ M' (hi.rel.put h2 h3 h4 h5 (hd.1 i o ho)) (hi.ext.trans h4) ((r5 _ _ _).trans hi.df) (hi.pd.step hd ho hna hi.rel.m h4))
      ·have hw':=aJ hi.rel hw;unfold wpOpIn;simp only[ho,hw',Bool.false_eq_true,if_false];exact⟨λ_ _=>trivial,H8 hd hY hdep hback hJ hE f _ _ M (base1 _ M (hi.rel.put hi.rel.m hi.rel.ob (by rw[<- hi.rel.ob];exact Ext.refl M) (.tup _ _ rfl (λj d v h=>by simp at h)) (hd.1 i o ho)) hi.ext ((r5 _ _ _).trans hi.df) (hi.pd.step hd ho hna hi.rel.m (Ext.refl M)))⟩
    ·exact hJ f listed a M hi i hrd hik
end
section
variable {P:Program} {G:Hn} {nt:Nat} {objs:List DObj} {ops:Array Oper}
def kL:Op->Option TypeId
 | .alloc t=>some t
 | _=>none
def DJ (P:Program) (t:TypeId):Bool:=match E5 P t with
 | some z=>z.all v7
 | none=>false
theorem iA {op:Op} {t:TypeId} (h:kL op=some t):op=.alloc t:=by
 cases op<;>simp[kL] at h;subst h;rfl
theorem bj {op:Op} (h:kL op=none) (t:TypeId):op≠.alloc t:=by
 rintro rfl;cases h
def yL (P:Program) (G:Hn) (dsts:List (Option Tmp)) (S:DS) (o:Oper) (R:DV->Prop) (_t:Tok R):Option TypeId->Prop
 | some t=>(o.guard=none/\DJ P t=true)/\R (.one .dead)
 | none=>lT (C2 dsts S o) (mY P G S.objs (cg P G (S.keep (P9 o.op)) o.op o.type) R ⟨⟩) (R (.tup [])) ⟨⟩
def rX (P:Program) (G:Hn) (dsts:List (Option Tmp)):List Oper->DS->(K:DS->Prop)->Tok K->Prop
 | [],S,K,_=>K S
 | o :: l,S,K,tk=>yL P G dsts S o (λd=>rX P G dsts l (S.put o.dst d) K tk) ⟨⟩ (kL o.op)
def cO:List Nat->List (Nat×DV)->List (Nat×DV)->Prop
 | [],_,_=>True
 | t :: r,a,b=>m8 a t=m8 b t/\cO r a b
theorem bI {a b:List (Nat×DV)}:∀ {l:List Nat} {t:Nat},cO l a b->t∈l->m8 a t=m8 b t
 | x :: l,t,h,ht=>by
   rcases List.mem_cons.1 ht with rfl|ht
   ·exact h.1
   ·exact bI h.2 ht
def Al (ops:Array Oper):List Nat->List Oper->Prop
 | [],[]=>True
 | i :: is,o :: l=>ops[i]?=some o/\Al ops is l
 | _,_=>False
def aP (ops:Array Oper):List Oper->Bool
 | []=>true
 | o :: l=>((o :: l).all λo'=>match o'.dst with|some u=>!(o.looksAt ops).contains u|none=>true)&&aP ops l
theorem V1 {K:DS->Prop}:∀ (is:List Nat) (l:List Oper) (S:DS),Al ops is l->S.nt=nt->S.objs=objs->(∀ o∈l,∀ u,o.dst=some u->u<nt)->(l.map (·.dst)).Pairwise (λx y=>x.isSome=true->x≠y)->aP ops l=true ->
 rX P G (ops.toList.map (·.dst)) l S K ⟨⟩ ->
 ∃ Sq:DS,K Sq/\Sq.nt=nt/\Sq.objs=objs/\(∀ i∈is,∃ o d,ops[i]?=some o/\OpS P G nt objs ops o d (m8 Sq.tmps)/\∀ u,o.dst=some u->m8 Sq.tmps u=some d) /\
  ∀ t,(∀ o∈l,o.dst≠some t)->m8 Sq.tmps t=m8 S.tmps t
 | [],[],S,_,h1,h2,_,_,_,h=>⟨S,h,h1,h2,(λi hi=>by cases hi),λ_ _=>rfl⟩
 | i :: is,o :: l,S,ha,h1,h2,hd,hp,hn,h=>by
   obtain⟨ho,ha⟩:=ha;simp only[aP,Bool.and_eq_true] at hn;obtain⟨hn1,hn2⟩:=hn;rw[List.map_cons,List.pairwise_cons] at hp;have hd0:∀ u,o.dst=some u->u<S.nt:=λu hu=>by rw[h1];exact hd o (by simp) u hu
   have first:∃ d,OpS P G nt objs ops o d (m8 S.tmps)/\rX P G (ops.toList.map (·.dst)) l (S.put o.dst d) K ⟨⟩:=by
    rw[rX] at h;generalize hal:kL o.op=x at h;cases x with
    | some t =>
      obtain⟨⟨hg,hz⟩,hk⟩:=h;unfold DJ at hz;split at hz
      ·rename_i z hz';exact⟨_,.inl ⟨t,z,iA hal,hg,rfl,hz',hz⟩,hk⟩
      ·cases hz
    | none =>
      have hna:=bj hal;subst h1;subst h2;simp only[yL] at h;generalize hb:C2 (ops.toList.map (·.dst)) S o=r at h;cases r with
      | none=>exact h.elim
      | some b =>
        cases b with
        | false=>exact⟨_,.inr ⟨hna,.inr ⟨L7 hb,rfl⟩⟩,h.2 rfl⟩
        | true =>
          have h3:=h.1 rfl;generalize hx:cg P G (S.keep (P9 o.op)) o.op o.type=x at h3;cases x with
          | val d objs' =>
            obtain⟨rfl,hkk⟩:=h3;exact⟨d,.inr ⟨hna,.inl ⟨L7 hb,T8 (gV hx)⟩⟩,hkk⟩
          | call f as =>
            obtain⟨x,ys,ts,d,as,caps,hoc,hxv,has,hc,rfl⟩:=eO hx;obtain⟨hok,d0,hcall,hkk⟩:=h3;exact⟨d0,.inr ⟨hna,.inl ⟨L7 hb,dB hoc hxv hc has hok hcall⟩⟩,hkk⟩
          | cond p d objs' =>
            obtain⟨hp,rfl,hkk⟩:=h3;exact⟨d,.inr ⟨hna,.inl ⟨L7 hb,T8 (eN hx hp)⟩⟩,hkk⟩
          | yield l as=>exact h3.elim
          | iter o l=>exact h3.elim
          | nilq l b=>exact h3.elim
          | gen p=>exact h3.elim
          | bad=>exact h3.elim
   obtain⟨d,hs,hk⟩:=first
   obtain⟨Sq,k1,k2,k3,k4,k5⟩:=V1 is l (S.put o.dst d) ha (put_objs.2.trans h1) (put_objs.1.trans h2) (λo ho=>hd o (by simp[ho])) hp.2 hn2 hk;have hput:∀ t,(∀ o'∈l,o'.dst≠some t)->m8 Sq.tmps t=P4 (m8 S.tmps) o.dst d t:=λt ht=>by rw[k5 t ht,ki hd0]
   refine⟨Sq,k1,k2,k3,λj hj=>?_,λt ht=>?_⟩
   ·rcases List.mem_cons.1 hj with rfl|hj
    ·refine⟨o,d,ho,hs.same λt ht=>?_,λu hu=>?_⟩
     ·have hno:∀ o'∈o :: l,o'.dst≠some t:=λo' ho' e=>by
       have:=List.all_eq_true.1 hn1 o' ho';rw[e] at this;simp at this;exact this ht
      rw[hput t λo' ho'=>hno o' (by simp[ho'])];exact bK λu hu e=>hno o (by simp) (by rw[hu,e])
     ·rw[hput u λo' ho' e=>hp.1 _ (List.mem_map_of_mem ho') (by simp[hu]) (by rw[hu,e]),hu];simp[P4]
    ·exact k4 j hj
   ·rw[hput t λo' ho'=>ht o' (by simp[ho'])];exact bK λu hu e=>ht o (by simp) (by rw[hu,e])
 | [],_ :: _,_,h,_,_,_,_,_,_=>h.elim
 | _ :: _,[],_,h,_,_,_,_,_,_=>h.elim
theorem jQ {F:Fence} {n:Nat} {o:Oper} {a:Act} {w:World} {K:Act->World->Prop} (h:o.wpIn F n P a w K (λ_ _ _=>False)) :
 o.wpIn F n P a w (λa' w'=>K a' w'/\∃ v,a'.tmps=(a.put o.dst v).tmps) (λ_ _ _=>False):=by
 have dp:∀ (a:Act) (ds:List Deferred) (v:Value),({ a with defers:=ds }.put o.dst v).tmps=(a.put o.dst v).tmps:=λa ds v=>by cases o.dst<;>rfl
 unfold Oper.wpIn at *;refine⟨h.1,?_⟩;have hh:=h.2;generalize (o.semAt F.round a.eval).run P w=r at *;cases r with
 | ok x w' =>
   cases x with
   | enter f args =>
     simp only[Oper.uponIn] at hh ⊢;exact⟨hh.1,hh.2.mono λe w'' hR=>by
      cases e with
      | returned v=>exact⟨hR,v,rfl⟩
      | panicked c=>exact hR.elim
      | outgrown=>exact(U8 hR).elim⟩
   | round l f tmps asg body =>
     simp only[Oper.uponIn] at hh ⊢;exact⟨hh.1,hh.2.mono λe w'' hR=>by
      cases e with
      | returned v=>exact⟨hR,v,rfl⟩
      | panicked c=>exact hR.elim
      | outgrown=>exact(U8 hR).elim⟩
   | row r args =>
     simp only[Oper.uponIn] at hh ⊢;exact⟨hh.1,hh.2.mono λv w'' hR=>⟨hR,v,rfl⟩⟩
   | value v=>exact⟨hh,v,rfl⟩
   | skip=>exact⟨hh,undef,rfl⟩
   | defer d=>exact⟨hh,undef,dp a _ undef⟩
   | _=>exact absurd hh (by simp[Oper.uponIn])
 | halt x w'=>exact absurd hh (by cases x<;>simp[Oper.uponIn])
end
end Go.Ab
