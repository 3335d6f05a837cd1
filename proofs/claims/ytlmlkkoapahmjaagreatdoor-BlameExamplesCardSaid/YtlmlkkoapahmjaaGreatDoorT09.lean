/- Part 9 of the proofs. -/
import Derived.Test.YtlmlkkoapahmjaaGreatDoorT08
set_option linter.all false
set_option maxHeartbeats 100000000
namespace Go.Ab
open Go
section
variable {P:Program} {G:IK}
theorem CU {l:List Oper} {nt:Nat} {objs:List DObj} {Sq:DS} {ks fl kt:List Nat} {Mb M2:MS} {base listed:Array Bool} {dfs:List Deferred} {f i:Nat} {a2:Act} {oj:Oper} {ro:Option Nat} {KK:DS->Prop} {Q':Exit->Act->World->Prop}
 (hd:gZ nt l.toArray) (hnt:Sq.nt=nt) (hob:Sq.objs=objs) (hi:Inv P G nt objs l.toArray ks (n9 Sq.tmps) Mb base dfs (f+1) listed a2 M2)
 (hrdy:i∈Region.ready .any l.toArray listed) (hoj:l[i]?=some oj) (hg:oj.guard=none) (hfl:∀ k∈fl,k∈ks) (hik:i∉ks) (hpl:∀ k∈ks,k∉fl->listed.getD k false=true)
 (hdf:U3 ((pick l fl).map (·.dst))=true) (hnl:cN l.toArray (pick l fl)=true) (hlt:∀ k∈ks,k<l.length) (hnoal:∀ k∈ks,∀ o,l.toArray[k]?=some o->∀ t,o.op≠.alloc t)
 (hkt:((pick l fl).all λo=>match o.dst with|some u=>!kt.contains u|none=>true)=true)
 (hkq:qo P G (l.map (·.dst)) [oj] (Sq.keep kt) (λS'=>qE P G (l.map (·.dst)) (pick l fl) S' (λSf=>eH (nP (pick l fl)) Sf.tmps Sq.tmps/\KK Sf) ⟨⟩) ⟨⟩)
 (hnext:∀ (Sf:DS) (a3:Act) (M3:MS),KK Sf->Sf.nt=nt->Sf.objs=M3.objs->Ext objs.length M2 M3->(∀ k∈fl,∃ o d,l.toArray[k]?=some o/\OpS P G nt M3.objs l.toArray o d (n9 Sf.tmps)/\∀ u,o.dst=some u->n9 Sf.tmps u=some d) ->
  Inv P G nt M3.objs l.toArray fl (n9 Sf.tmps) M3 (listed.setIfInBounds i true) dfs f (listed.setIfInBounds i true) a3 M3->wpAnyIn (w7 ro) 0 P .any l.toArray Q' f (listed.setIfInBounds i true) a3 M3.w) :
 wpOpIn (w7 ro) 0 P l.toArray Q' i (wpAnyIn (w7 ro) 0 P .any l.toArray Q' f (listed.setIfInBounds i true)) a2 M2.w:=by
 have hoj':l.toArray[i]?=some oj:=by simpa using hoj
 have hrk:Rel G (Sq.keep kt) a2 M2:=by
  refine⟨hi.rel.m,hi.rel.ob.trans hob.symm,hi.rel.nt.trans hnt.symm,hi.rel.df,λt d ht=>hi.rel.tm t d ?_⟩;have h1:=fx ht;have h2:=dA ht;unfold O8;rw[if_pos]
  ·exact h2
  ·intro k hk o ho hu;by_cases hf:k∈fl
   ·have:=List.all_eq_true.1 hkt o (cK hf (by simpa using ho));rw[hu] at this;simp at this;exact absurd h1 this
   ·exact hpl k hk hf
 obtain⟨b,hw,ht,_⟩:=N9 _ _ _ hkq;have hbt:b=true:=by
  unfold C0 at hw;rw[hg] at hw;exact(Option.some.inj hw).symm
 subst hbt;have hwant:Region.wanted oj (yielded l.toArray a2.tmps)=true:=by simp[Region.wanted,hg]
 unfold wpOpIn;simp only[hoj',hwant,if_true];refine aH (ow (ht rfl ro a2 M2 hrk)) ?_;rintro a3 w3 ⟨⟨S3,M3,rfl,r3,e3,d3,k3⟩,v,hput⟩;have hsz3:S3.nt=nt:=by
  rw[<- r3.nt,hput,<- hi.rel.nt];cases oj.dst<;>simp[Act.put]
 have hob3:S3.objs=M3.objs:=r3.ob.symm;have hpm:∀ o∈pick l fl,o∈l:=λo ho=>let ⟨k,_,hk⟩:=aS ho;List.mem_of_getElem? hk
 have hdst:∀ o∈l,∀ u,o.dst=some u->u<nt:=λo ho u hu=>by
  obtain⟨k,hk⟩:=List.mem_iff_getElem?.1 ho;exact hd.1 k o (by simpa using hk) u hu
 obtain⟨Sf,⟨hsame,hkf⟩,f1,f2,f3,f4⟩:=T3 (P:=P) (G:=G) (ops:=l.toArray) (nt:=nt) (objs:=M3.objs) fl (pick l fl) S3 (oq λk hk=>hlt k (hfl k hk)) hsz3 hob3 (λo ho=>hdst o (hpm o ho)) (K3 hdf) hnl
  (by simpa using(show qE P G (l.map (·.dst)) (pick l fl) S3 _ ⟨⟩ from k3))
 refine hnext Sf a3 M3 hkf f1 f2 (by rw[<- hi.rel.ob];exact e3) f3 ?_;refine⟨by simpa using hi.sz,fa (mem_ready.1 hrdy).1 hi.cn,hi.cl.step hrdy,⟨r3.m,rfl,by rw[r3.nt,hsz3],r3.df,λt d ht=>?_⟩,Ext.refl M3,d3.trans hi.df,⟨λ_=>0,λk o t u hk ho hop=>absurd hop (hnoal k (hfl k hk) o ho t),λk m o o' t t' hk _ ho hop=>absurd hop (hnoal k (hfl k hk) o ho t)⟩,λ_ h=>.inl h,λ_ h=>h⟩;unfold O8 at ht;split at ht
 ·rename_i hvis;by_cases hfd:∃ k∈fl,∃ o,l.toArray[k]?=some o/\o.dst=some t
  ·obtain⟨k,hk,o,ho,hu⟩:=hfd;have hki:k≠i:=λe=>hik (e ▸ hfl k hk);have hkl:listed.getD k false=true:=(p9 (hvis k hk o ho hu)).resolve_left hki;have h1:n9 Sf.tmps t=n9 Sq.tmps t:=eG hsame (pf (cK hk (by simpa using ho)) hu);obtain⟨x,x1,x2⟩:=hi.rel.tm t d (by
    unfold O8;rw[if_pos]
    ·rw[<- h1];exact ht
    ·intro m hm' o' ho' hu';have:=hd.2 k m o o' t ho ho' hu hu';subst this;exact hkl)
   refine⟨x,?_,x2.ext e3⟩;rw[hput];cases hdj:oj.dst with
   | none=>exact x1
   | some y =>
     have hne:y≠t:=λe=>hki (hd.2 i k oj o t hoj' ho (by rw[hdj,e]) hu).symm;simp only[Act.put];rw[Array.getElem?_setIfInBounds_ne hne];exact x1
  ·have h1:n9 Sf.tmps t=n9 S3.tmps t:=f4 t λo ho hu=>by
    obtain⟨k,hk,hk'⟩:=aS ho;exact hfd ⟨k,hk,o,by simpa using hk',hu⟩
   exact r3.tm t d (by rw[<- h1];exact ht)
 ·cases ht
end
section
variable (P:Program) (G:IK)
def ZK (l:List Oper) (K:DS->Prop):List (List Nat×List Nat)->Nat->DS->Prop
 | [],i,S=>qo P G (l.map (·.dst)) (l.drop i) S K ⟨⟩
 | (fl,kt) :: r,i,Sq=>qo P G (l.map (·.dst)) (pick l [i]) (Sq.keep kt) (λS'=>qE P G (l.map (·.dst)) (pick l fl) S' (λSf=>eH (nP (pick l fl)) Sf.tmps Sq.tmps/\ZK l K r (i+1) Sf) ⟨⟩) ⟨⟩
end
def wP (l:List Oper):List (List Nat×List Nat)->Nat->List Nat->Bool
 | [],i,_=>decide (0<i)&&decide (i<=l.length)&&((List.range l.length).all λk=>decide (k<i)||(List.range i).all λm=>((cm l []).getD k 0).testBit m) &&
  rA l.toArray (l.length-i) i (lq l.length (i-1))&&decide ((lq l.length (i-1)).toList.count false=l.length-i)
 | (fl,kt) :: r,i,ks=>decide (i<l.length)&&(fl.all λk=>ks.contains k)&&U3 ((pick l fl).map (·.dst))&&cN l.toArray (pick l fl) &&
  ((List.range i).all λm=>fl.contains m||((cm l []).getD i 0).testBit m)&&((List.range l.length).all λk=>decide (k<=i)||((cm l []).getD k 0).testBit i) &&
  ((pick l fl).all λo=>match o.dst with|some u=>!kt.contains u|none=>true)&&(match l[i]? with|some o=>o.guard.isNone|none=>false)&&wP l r (i+1) fl
section
variable {P:Program} {G:IK}
theorem Ep {l:List Oper} {nt j:Nat} {n:Cx} {Q:Exit->DS->Prop} {kp:List Nat} {a:Act} {M:MS} {ro:Option Nat} (hd:gZ nt l.toArray) (hj:j<=l.length)
 (hdep:∀ i,i<j->∀ o,l.toArray[i]?=some o->∀ k,k<j->∀ o',l.toArray[k]?=some o'->∀ u,o'.dst=some u->u∈o.looksAt l.toArray->∃ e∈o.after,e.on=k/\Region.binds .any e=true)
 (hback:∀ (k:Nat) (o:Oper),l.toArray[k]?=some o->∀ e∈o.after,Region.binds .any e=true->e.on<k) (hmask:iw l.toArray (cm l [])) (hnoal:∀ i,i<j->∀ o,l.toArray[i]?=some o->∀ t,o.op≠.alloc t) :
 ∀ (st:List (List Nat×List Nat)) (i:Nat) (ks:List Nat) (Sq:DS) (objs:List DObj) (Mb:MS) (base:Array Bool),wP l st i ks=true->(∀ k∈ks,k<j)->j<=i->Sq.nt=nt->Sq.objs=objs->n.n<=objs.length->Ext n.n M Mb ->
  (∀ k∈ks,∃ o d,l.toArray[k]?=some o/\OpS P G nt objs l.toArray o d (n9 Sq.tmps)/\∀ u,o.dst=some u->n9 Sq.tmps u=some d) ->
  (∀ k,base.getD k false=true->k<i)->(∀ k,k<i->k∉ks->base.getD k false=true)->ZK P G l (λS''=>At Q .normal ⟨⟩ (S''.keep kp)) st i Sq ->
  ∀ f listed a2 M2,Inv P G nt objs l.toArray ks (n9 Sq.tmps) Mb base a.defers f listed a2 M2 ->
   wpAnyIn (w7 ro) 0 P .any l.toArray (λe a' w'=>∃ S' M',M'.w=w'/\Rel G S' a' M'/\Ext n.n M M'/\NewD M a a'/\Q e S') f listed a2 M2.w:=by
 have unl:∀ {listed:Array Bool} {k:Nat},k∈Region.ready .any l.toArray listed->listed.getD k false≠true:=λ{listed k} hk e=>by
  have h0:=(mem_ready.1 hk).1;rcases Nat.lt_or_ge k listed.size with h'|h'
  ·simp[h'] at h0 e;rw[h0] at e;cases e
  ·simp[Array.getElem?_eq_none h'] at e
 have alll:∀ {listed:Array Bool},listed.toList.count false=0->∀ m,m<listed.size->listed.getD m false=true:=λ{listed} h m hm'=>by
  have hnot:=List.count_eq_zero.1 h;cases hv:listed[m] with
  | true=>simp[hm',hv]
  | false=>exact absurd (by rw[<- hv];exact Array.getElem_mem_toList hm') hnot
 intro st;induction st with
 | nil =>
   intro i ks Sq objs Mb base hz hks hji hnt hob hno hMb hY hb1 hb2 hK f listed a2 M2 hi;simp only[wP,Bool.and_eq_true,decide_eq_true_eq] at hz;obtain⟨⟨⟨⟨z0,zl⟩,z1⟩,z2⟩,z3⟩:=hz
   have fin:∀ f' listed' a4 M4,Inv P G nt objs l.toArray ks (n9 Sq.tmps) Mb base a.defers f' listed' a4 M4->(∀ k∈ks,listed'.getD k false=true) ->
    wpAnyIn (w7 ro) 0 P .any l.toArray (λe a' w'=>∃ S' M',M'.w=w'/\Rel G S' a' M'/\Ext n.n M M'/\NewD M a a'/\Q e S') f' listed' a4 M4.w:=by
    intro f' listed' a4 M4 hi4 hfl4;have hL:listed'=lq l.length (i-1):=by
     refine tt (by simpa using hi4.sz) λk hk=>⟨λhkl=>?_,λhkl=>?_⟩
     ·rcases hi4.only k hkl with h1|h1
      ·have:=hb1 k h1;omega
      ·have:=hks k h1;omega
     ·by_cases hkf:k∈ks
      ·exact hfl4 k hkf
      ·exact hi4.has k (hb2 k (by omega) hkf)
    have hf':f'=(l.drop i).length:=by rw[<- hi4.cn,hL,z3];simp
    have hrel:Rel G Sq a4 M4:=⟨hi4.rel.m,by rw[hi4.rel.ob,hob],by rw[hi4.rel.nt,hnt],hi4.rel.df,λt d ht=>hi4.rel.tm t d (by
     unfold O8;rw[if_pos]
     ·exact ht
     ·exact λk hk _ _ _=>hfl4 k hk)⟩
    have hn4:n.n<=M4.objs.length:=by rw[hi4.rel.ob];exact hno
    have eM4:Ext n.n M M4:=hMb.trans (hi4.ext.weaken hno);rw[hf',hL];refine T0 (P:=P) (G:=G) (ops:=l.toArray) (ro:=ro) n.n (λS''=>At Q .normal ⟨⟩ (S''.keep kp)) (l.drop i) i _ Sq a4 M4 (λk hk=>by simp) (by rw[List.length_drop];exact z2) hrel hn4 (by simpa using N9 _ _ _ hK) ?_;intro S5 a5 M5 hr5 he5 hd5 hq5;obtain⟨M6,w6,r6,e6⟩:=Weak.keep (G:=G) (n:=n) (S:=S5) (ks:=kp) (by rw[<- hr5.ob];exact he5.len) a5 M5 hr5;exact⟨_,M6,w6,r6,eM4.trans (he5.trans e6),.same (hd5.trans hi4.df),hq5⟩
   refine L5 (P:=P) (G:=G) (nt:=nt) (objs:=objs) (ops:=l.toArray) (ks:=ks) (τ:=n9 Sq.tmps) (M0:=Mb) (base:=base) (dfs:=a.defers) (ro:=ro) hd hY
    (λk hk o ho m hm'=>hdep k (hks k hk) o ho m (hks m hm')) hback ?_ ?_ f listed a2 M2 hi
   ·intro f' listed' a4 M4 hi4 k hk4 hkf;have hik:i<=k:=by
     rcases Nat.lt_or_ge k i with h|h
     ·exact absurd (hi4.has k (hb2 k h hkf)) (unl hk4)
     ·exact h
    refine(fin _ listed' a4 M4 hi4 λm hm'=>?_).2 k hk4;obtain⟨_,ok,hok,hall⟩:=mem_ready.1 hk4;have h1:=List.all_eq_true.1 z1 k (by simpa using(Array.getElem?_eq_some_iff.1 hok).1);simp only[Bool.or_eq_true,decide_eq_true_eq] at h1;have h2:=h1.resolve_left (by omega);exact hmask k m ok hok (List.all_eq_true.1 h2 m (by have:=hks m hm';simp;omega)) listed' hi4.cl hall
   ·intro listed' a4 M4 hi4;exact(fin 0 listed' a4 M4 hi4 λm hm'=>alll hi4.cn m (by rw[hi4.sz];have:=hks m hm';simp;omega)).2
 | cons x r ih =>
   obtain⟨fl,kt⟩:=x;intro i ks Sq objs Mb base hz hks hji hnt hob hno hMb hY hb1 hb2 hK f listed a2 M2 hi;simp only[wP,Bool.and_eq_true,decide_eq_true_eq] at hz;obtain⟨⟨⟨⟨⟨⟨⟨⟨z0,z1⟩,z2⟩,z3⟩,z4⟩,z5⟩,z6⟩,z7⟩,z8⟩:=hz;have hfl:∀ k∈fl,k∈ks:=λk hk=>by simpa using List.all_eq_true.1 z1 k hk
   obtain⟨oi,hoi⟩:∃ o,l[i]?=some o:=⟨l[i],List.getElem?_eq_getElem z0⟩
   rw[hoi] at z7;have hgi:oi.guard=none:=by simpa[Option.isNone_iff_eq_none] using z7
   have hiks:i∉ks:=λh=>by have:=hks i h;omega
   have hpk:pick l [i]=[oi]:=by simp[pick,hoi]
   simp only[ZK] at hK;rw[hpk] at hK;have hun:∀ {f' listed' a4 M4},Inv P G nt objs l.toArray ks (n9 Sq.tmps) Mb base a.defers f' listed' a4 M4->listed'.getD i false≠true:=λhi4 e=>by
    rcases hi4.only i e with h|h
    ·have:=hb1 i h;omega
    ·exact hiks h
   refine L5 (P:=P) (G:=G) (nt:=nt) (objs:=objs) (ops:=l.toArray) (ks:=ks) (τ:=n9 Sq.tmps) (M0:=Mb) (base:=base) (dfs:=a.defers) (ro:=ro) hd hY
    (λk hk o ho m hm'=>hdep k (hks k hk) o ho m (hks m hm')) hback ?_ ?_ f listed a2 M2 hi
   ·intro f' listed' a4 M4 hi4 k hk4 hkf;obtain⟨_,ok,hok,hall⟩:=mem_ready.1 hk4;have hki:k=i:=by
     rcases Nat.lt_trichotomy k i with h|h|h
     ·exact absurd (hi4.has k (hb2 k h hkf)) (unl hk4)
     ·exact h
     ·have h1:=List.all_eq_true.1 z5 k (by simpa using(Array.getElem?_eq_some_iff.1 hok).1);simp only[Bool.or_eq_true,decide_eq_true_eq] at h1;exact absurd (hmask k i ok hok (h1.resolve_left (by omega)) listed' hi4.cl hall) (hun hi4)
    subst hki;have hpl:∀ m,m<k->m∉fl->listed'.getD m false=true:=λm hm' hmf=>by
     have h1:=List.all_eq_true.1 z4 m (by simpa using hm');simp only[Bool.or_eq_true,List.contains_iff_mem] at h1;exact hmask k m ok hok (h1.resolve_left hmf) listed' hi4.cl hall
    refine CU (fl:=fl) (kt:=kt) hd hnt hob hi4 hk4 hoi hgi hfl hkf (λm hm'=>hpl m (by have:=hks m hm';omega)) z2 z3 (λm hm'=>by have:=hks m hm';omega) (λm hm'=>hnoal m (hks m hm')) z6 hK ?_;intro Sf a3 M3 hkf' f1 f2 e3 f3 hi3;refine ih (k+1) fl Sf M3.objs M3 (listed'.setIfInBounds k true) z8 (λm hm'=>hks m (hfl m hm')) (by omega) f1 f2 (Nat.le_trans hno e3.len) ((hMb.trans (hi4.ext.weaken hno)).trans (e3.weaken hno)) f3 (λm hm'=>?_) (λm hm' hmf=>?_) hkf' f' _ a3 M3 hi3
    ·rcases p9 hm' with rfl|h1
     ·omega
     ·rcases hi4.only m h1 with h2|h2
      ·have:=hb1 m h2;omega
      ·have:=hks m h2;omega
    ·rcases Nat.eq_or_lt_of_le (Nat.le_of_lt_succ hm') with rfl|hlt
     ·have:m<listed'.size:=by rw[hi4.sz];simpa using z0
      simp[this]
     ·exact getD_set_true (hpl m hlt hmf)
   ·intro listed' a4 M4 hi4;exact absurd (alll hi4.cn i (by rw[hi4.sz];simpa using z0)) (hun hi4)
def jq (nt j:Nat) (st:List (List Nat×List Nat)) (l:List Oper):Bool:=
 decide (j<=l.length)&&(l.all λo=>match o.dst with|some t=>decide (t<nt)|none=>true)&&U3 (l.map (·.dst)) &&
 ((List.range l.length).all λk=>match l[k]? with|some o=>o.after.toList.all λe=>!Region.binds .any e||decide (e.on<k)|none=>true) &&
 ((List.range j).all λi=>(List.range j).all λk=>match l[i]?,l[k]? with
   | some o,some o'=>match o'.dst with|some u=>!(o.looksAt l.toArray).contains u||o.after.toList.any λe=>decide (e.on=k)&&Region.binds .any e|none=>true
   | _,_=>true) &&
 cN l.toArray (l.take j)&&((l.take j).all λo=>(lC o.op).isNone)&&wP l st j (List.range j)
theorem GH {nt:Nat} {n:Cx} {l:List Oper} {S:DS} {Q:Exit->DS->Prop} (j:Nat) (st:List (List Nat×List Nat)) (kp:List Nat) (hnt:S.nt=nt) (hB:jq nt j st l=true)
 (h:qE P G (l.map (·.dst)) (l.take j) S (λSq=>ZK P G l (λS''=>At Q .normal ⟨⟩ (S''.keep kp)) st j Sq) ⟨⟩):n.n<=S.objs.length->∀ (a:Act) (M:MS),Rel G S a M ->
 wpAnyIn (w7 (n.rd.map M.β)) 0 P .any l.toArray (λe a' w'=>∃ S' M',M'.w=w'/\Rel G S' a' M'/\Ext n.n M M'/\NewD M a a'/\Q e S') l.length (Array.replicate l.length false) a { M.w with drawn:=M.w.drawn+1 }:=by
 intro hn a M hr;simp only[jq,Bool.and_eq_true,decide_eq_true_eq] at hB;obtain⟨⟨⟨⟨⟨⟨⟨b1,b4⟩,b5⟩,b6⟩,b7⟩,b8⟩,b13⟩,bz⟩:=hB;subst hnt;have hdst:∀ o∈l,∀ u,o.dst=some u->u<S.nt:=λo ho u hu=>by
  have:=List.all_eq_true.1 b4 o ho;simpa[hu] using this
 have hpw:=K3 b5;have hd:gZ S.nt l.toArray:=by
  refine⟨λi o ho u hu=>hdst o (by simpa using Array.mem_of_getElem? ho) u hu,λi k o o' u ho ho' hu hu'=>?_⟩;have hi:l[i]?=some o:=by simpa using ho
  have hk:l[k]?=some o':=by simpa using ho'
  obtain⟨hil,hi'⟩:=List.getElem?_eq_some_iff.1 hi;obtain⟨hkl,hk'⟩:=List.getElem?_eq_some_iff.1 hk;rw[List.pairwise_iff_getElem] at hpw;rcases Nat.lt_trichotomy i k with hlt|he|hlt
  ·exact absurd (show (l.map (·.dst))[i]'(by simpa using hil)=(l.map (·.dst))[k]'(by simpa using hkl) by simp[hi',hk',hu,hu']) (hpw i k (by simpa using hil) (by simpa using hkl) hlt (by simp[hi',hu]))
  ·exact he
  ·exact absurd (show (l.map (·.dst))[k]'(by simpa using hkl)=(l.map (·.dst))[i]'(by simpa using hil) by simp[hi',hk',hu,hu']) (hpw k i (by simpa using hkl) (by simpa using hil) hlt (by simp[hk',hu']))
 have hback:∀ (k:Nat) (o:Oper),l.toArray[k]?=some o->∀ e∈o.after,Region.binds .any e=true->e.on<k:=λk o ho e he hb=>by
  have hk:l[k]?=some o:=by simpa using ho
  have:=List.all_eq_true.1 b6 k (by simpa using(List.getElem?_eq_some_iff.1 hk).1);rw[hk] at this;have:=List.all_eq_true.1 this e (by simpa using he);simpa[hb] using this
 have hdep:∀ i,i<j->∀ o,l.toArray[i]?=some o->∀ k,k<j->∀ o',l.toArray[k]?=some o'->∀ u,o'.dst=some u->u∈o.looksAt l.toArray->∃ e∈o.after,e.on=k/\Region.binds .any e=true:=λi hi o ho k hk o' ho' u hu hl=>by
  have h1:=List.all_eq_true.1 (List.all_eq_true.1 b7 i (by simpa using hi)) k (by simpa using hk);rw[show l[i]?=some o by simpa using ho,show l[k]?=some o' by simpa using ho'] at h1;simp only[hu,Bool.or_eq_true,Bool.not_eq_true',List.any_eq_true,Bool.and_eq_true,decide_eq_true_eq] at h1;rcases h1 with h1|⟨e,he,h2,h3⟩
  ·have:(o.looksAt l.toArray).contains u=true:=by simpa using hl
   rw[h1] at this;cases this
  ·exact⟨e,by simpa using he,h2,h3⟩
 have hmask:iw l.toArray (cm l []):=bM l [] (λj _=>by simp) (λj i oj _ h=>by simp at h);have hnoal:∀ i,i<j->∀ o,l.toArray[i]?=some o->∀ t,o.op≠.alloc t:=λi hi o ho t=>by
  have:=List.all_eq_true.1 b13 o (List.mem_of_getElem? (i:=i) (by rw[List.getElem?_take_of_lt hi];simpa using ho));exact gT (by simpa[Option.isNone_iff_eq_none] using this) t
 obtain⟨hm1,he1⟩:=RelM.same (w':={ M.w with drawn:=M.w.drawn+1 }) hr.m rfl ⟨rfl,rfl,rfl,by first|exact Nat.le_refl _|exact Nat.le_succ _⟩;have hAl:Al l.toArray (List.range j) (l.take j):=by
  have gen:∀ (m k:Nat),k+m<=l.length->Al l.toArray (List.range' k m) ((l.drop k).take m):=by
   intro m;induction m with
   | zero=>intro k _;simp[Al,List.range']
   | succ m ih =>
     intro k hk;have hk':k<l.length:=by omega
     rw[List.range'_succ,List.drop_eq_getElem_cons hk',List.take_succ_cons];exact⟨by simp,ih (k+1) (by omega)⟩
  have:=gen j 0 (by omega);rwa [List.drop_zero,<- List.range_eq_range'] at this
 obtain⟨Sq,hkq,q1,q2,q3,q4⟩:=T3 (P:=P) (G:=G) (ops:=l.toArray) (nt:=S.nt) (objs:=S.objs) (List.range j) (l.take j) S hAl rfl rfl (λo ho=>hdst o (List.mem_of_mem_take ho))
  (by rw[List.map_take];exact hpw.take) b8 (by simpa using h)
 let Md:MS:={ M with w:={ M.w with drawn:=M.w.drawn+1 } }
 have hobs:M.objs.length=S.objs.length:=by rw[hr.ob]
 refine Ep (n:=n) (Q:=Q) (kp:=kp) (M:=M) hd b1 hdep hback hmask hnoal st j (List.range j) Sq S.objs Md (Array.replicate l.length false) bz (λk hk=>by simpa using hk) (Nat.le_refl _) q1 q2 hn (he1.weaken (by rw[hobs];exact hn)) q3
  (λk hk=>by rw[o5] at hk;cases hk) (λk hk hk'=>absurd (by simpa using hk) hk') hkq l.length _ a Md ?_
 refine⟨by simp,by simp,λk o _ hk=>?_,⟨hm1,hr.ob,hr.nt,hr.df,λt d ht=>?_⟩,by rw[<- hr.ob];exact Ext.refl Md,rfl,⟨λ_=>0,λk o t u _ _ _ _ hk=>?_,λk m o o' t t' _ _ _ _ hk=>?_⟩,λk hk=>?_,λ_ h=>h⟩
 ·rw[o5] at hk;cases hk
 ·unfold O8 at ht;split at ht
  ·rename_i hvis;have h4:n9 Sq.tmps t=n9 S.tmps t:=q4 t λo ho hu=>by
    obtain⟨k,hk⟩:=List.mem_iff_getElem?.1 ho;have hkj:k<j:=by
     have:=(List.getElem?_eq_some_iff.1 hk).1;simp at this;omega
    rw[List.getElem?_take_of_lt hkj] at hk;have:=hvis k (by simpa using hkj) o (by simpa using hk) hu;rw[o5] at this;cases this
   obtain⟨v,h1,h2⟩:=hr.tm t d (by rw[<- h4];exact ht);exact⟨v,h1,h2.ext he1⟩
  ·cases ht
 ·rw[o5] at hk;cases hk
 ·rw[o5] at hk;cases hk
 ·rw[o5] at hk;cases hk
end
theorem fk {P:Program} {G:IK} {id nt:Nat} {n:Cx} {l:List Oper} {S:DS} {Q:Exit->DS->Prop} (p:List Nat) (j:Nat) (st:List (List Nat×List Nat)) (ks:List Nat) (hm:P.follows .mixedOrders=true) (hnt:S.nt=nt) (hP:nv p l=true) (hB:jq nt j st (p5 p l p)=true)
 (h:qE P G ((p5 p l p).map (·.dst)) ((p5 p l p).take j) S (λSq=>ZK P G (p5 p l p) (λS''=>At Q .normal ⟨⟩ (S''.keep ks)) st j Sq) ⟨⟩):DT P G n (.region id l.toArray true) S Q:=
 λhn _ a M hr=>wpIn_region_any hm (by
  have hp:=iC hP;have hl:(p5 p l p).length=l.length:=by rw[aP hp.lt,hp.len]
  have h1:=GH j st ks hnt hB h hn a M hr;rw[hl] at h1;refine jG hp _ _ _ _ _ (by simp) (by simp) (λi k hi=>?_) h1;have hi1:i<l.length:=by rw[<- hp.len];exact e7 hi
  have hk1:=hp.lt k (List.mem_of_getElem? hi);simp[hi1,hk1])
section
variable {P:Program} {G:IK}
theorem DCall.last {f:FuncId} {args:List DV} {Q:Nat->Nat->Nat->List (List IC)->Bool->Prop}
 (h:DCall P G f args [] (λd o=>∃ k g len sz es nl,d=.one (.vec k g 0 len)/\o[k]?=some (.vec sz (l6 es) g nl)/\Q g len sz es nl)) :
 DCall P G f args [] (λd o=>∃ g len sz es nl,d=.one (.vec 0 g 0 len)/\o=[.vec sz (l6 es) g nl]/\Q g len sz es nl):=by
 intro M vs h1 h2 h3 h4;refine(h M vs h1 h2 h3 h4).mono ?_;rintro e w' ⟨v,d,M',rfl,rfl,hm,hv,he,k,g,len,sz,es,nl,rfl,ho,hq⟩;have hlt:k<M'.objs.length:=e7 ho;let M'':MS:={ w:=M'.w,β:=λ_=>M'.β k,objs:=[.vec sz (l6 es) g nl],F:=M'.F }
 have hlive:∀ b,M''.live b->M'.live b:=by
  rintro b ⟨o,d,h5,h6,h7⟩;have h8:=e7 h5;have:o=0:=by simp[M''] at h8;exact h8
  subst this;simp only[M'',List.getElem?_cons_zero,Option.some.injEq] at h5;subst h5;exact⟨k,_,ho,h6,h7⟩
 have hfree:∀ b,M'.free b->M''.free b:=λb hb=>⟨hb.1,λhl=>hb.2 (hlive b hl)⟩
 have hok:∀ b,M'.ok b->M''.ok b/\M''.w.heap[b]?=M'.w.heap[b]?:=λb hb=>⟨⟨hfree b hb.1,hb.2⟩,rfl⟩
 have hel:∀ (i:Nat) (x:List DC),(l6 es)[i]?=some x->∀ (j:Nat) (d:DC) (v:Value),x[j]?=some d->RepC M' d v->RepC M'' d v:=λi x hx j d v hd r=>by
  rw[Bu,Option.map_eq_some_iff] at hx;obtain⟨y,_,rfl⟩:=hx;rw[List.getElem?_map,Option.map_eq_some_iff] at hd;obtain⟨c,_,rfl⟩:=hd;cases r with
  | im _ _ r=>exact .im _ _ (r.mono hok)
 have hone:∀ {o:Nat} {d:DObj},M''.objs[o]?=some d->o=0/\d=.vec sz (l6 es) g nl:=λ{o d} h=>by
  have h8:=e7 h;have:o=0:=by simp[M''] at h8;exact h8
  subst this;simp only[M'',List.getElem?_cons_zero,Option.some.injEq] at h;exact⟨rfl,h.symm⟩
 have hR:RelO M'' 0 (.vec sz (l6 es) g nl):=by
  obtain⟨a1,a2⟩:=hm.objs k _ ho;refine⟨a1,λhn=>?_⟩;obtain⟨b0,c,T,b1,b2,b3,b4⟩:=a2 hn;exact⟨b0,c,T,b1,b2,b3,λi x j d v hx hd hcv=>hel i x hx j d v hd (b4 i x j d v hx hd hcv)⟩
 refine⟨v,.one (.vec 0 g 0 len),M'',rfl,rfl,⟨λo d h=>?_,λo d h hb=>?_,λo o' d d' h h' _ _ _=>?_,λg' l hg=>(hm.glob g' l hg).mono hok,hm.fl,λo d h hb=>?_⟩,?_,?_,g,len,sz,es,nl,rfl,rfl,hq⟩
 ·obtain⟨rfl,rfl⟩:=hone h;exact hR
 ·obtain⟨rfl,rfl⟩:=hone h;exact hm.lt k _ ho hb
 ·obtain⟨rfl,rfl⟩:=hone h;obtain⟨rfl,rfl⟩:=hone h';rfl
 ·obtain⟨rfl,rfl⟩:=hone h;exact hm.own k _ ho hb
 ·cases hv with
  | one _ _ hc=>cases hc with
    | vec _ _ _ _ _ c1 c2 c3 =>
      refine .one _ _ (.vec _ _ _ _ _ c1 (by simp[M'']) λsz1 es1 g1 nl1 h5=>?_);simp only[M'',List.getElem?_cons_zero,Option.some.injEq] at h5;injection h5 with e1 e2 e3 e4
      subst e1;subst e2;subst e3;subst e4;exact c3 _ _ _ _ ho
 ·refine⟨by simp,λb hb=>⟨hfree b (he.free b hb).1,(he.free b hb).2⟩,he.other,he.hs,λo h=>by simp at h,λo h=>by simp at h,λo h=>by simp at h,λo h=>by simp at h,λo h=>by simp at h,λo h=>by simp at h,he.io⟩
end
section
variable {P:Program} {G:IK} {n:Cx} {S:DS} {Q:Exit->DS->Prop}
def tL (G:IK) (S:DS):Operand->Option DV
 | .const (.slice none 0 0)=>some (.one (.im (.raw (.slice none 0 0))))
 | x=>j0 G S x
def gX (G:IK) (S:DS):List Operand->Option (List DV)
 | []=>some []
 | x :: r=>match tL G S x,gX G S r with
   | some d,some l=>some (d :: l)
   | _,_=>none
theorem pD {a:Act} {M:MS} (hr:Rel G S a M) {x:Operand} {d:DV} (h:tL G S x=some d):RepV M d (a.eval x):=by
 unfold tL at h;split at h
 ·cases h;exact .one _ _ (.im _ _ (.raw _ rfl))
 ·exact i6 hr h
theorem gf {a:Act} {M:MS} (hr:Rel G S a M):∀ (l:List Operand) (ds:List DV),gX G S l=some ds->l.length=ds.length/\∀ (j:Nat) (d:DV) (v:Value),ds[j]?=some d->(l.map a.eval)[j]?=some v->RepV M d v
 | [],ds,h=>by
   cases h;exact⟨rfl,λj d v h=>by simp at h⟩
 | x :: r,ds,h=>by
   simp only[gX] at h;split at h
   ·rename_i d l hd hl;cases h;obtain⟨h1,h2⟩:=gf hr r l hl;refine⟨by simp[h1],λj e v he hv=>?_⟩;cases j with
    | zero=>simp at he hv;subst he;subst hv;exact pD hr hd
    | succ j=>exact h2 j e v (by simpa using he) (by simpa using hv)
   ·cases h
theorem wA {o:Oper} {K:DS->Prop} {x:Operand} {xs:Array Operand} {ts:Array TypeId} {d:DV} {f:FuncId} {caps as:List DV} (ho:o.op=.call { callee:=.value x,args:=xs,argTypes:=ts })
 (hx:j0 G S x=some d) (hc:E5 d=some (f,caps)) (ha:gX G S xs.toList=some as) (hcall:∀ args w,(callFunc f args).run P w=.ok (.enter f args) w)
 (h:DCall P G f (as++caps) S.objs (λd objs'=>K ({ S with objs:=objs' }.put o.dst d))):OpT P G o S K:=by
 intro ro a M hr;have hp:=i6 hr hx;obtain⟨hl,hrep⟩:=gf hr _ _ ha;generalize hv:a.eval x=v at hp
 have key:∀ (vs:Array Value),v=.func (.func f) #[] vs->vs.size=caps.length->(∀ (j:Nat) (d:DV) (u:Value),caps[j]?=some d->vs[j]?=some u->RepV M d u) ->
  o.wpIn (w7 ro) 0 P a M.w (λa' w'=>∃ S' M',M'.w=w'/\Rel G S' a' M'/\Ext M.objs.length M M'/\a'.defers=a.defers/\K S') (λ_ _ _=>False):=by
  rintro vs rfl hvs hcr;have hrun:(execOp a.eval o).run P M.w=.ok (.enter f ((xs.map a.eval)++vs)) M.w:=by
   simp only[execOp,ho,Sem.run_bind,resolve,hv,Deferred.ofValue,Sem.run_pure,Result.andThen_ok,invoke,Array.empty_append,hcall]
  refine bk hrun ?_;have hsz:(xs.map a.eval).size=as.length:=by simp[<- hl]
  refine(h M _ hr.m hr.ob (by simp[<- hl,hvs]) λj e u he hu=>?_).mono ?_
  ·by_cases hj:j<as.length
   ·rw[List.getElem?_append_left hj] at he;rw[Array.getElem?_append_left (by omega)] at hu;refine hrep j e u he ?_;rw[<- hu,<- Array.toList_map,Array.getElem?_toList]
   ·rw[List.getElem?_append_right (by omega)] at he;rw[Array.getElem?_append_right (by omega),hsz] at hu;exact hcr _ e u he hu
  ·rintro e w' ⟨v,d,M',rfl,rfl,hm,hd,he,hk⟩;have he':Ext M.objs.length M M':=by rw[hr.ob];exact he
   exact⟨v,rfl,_,M',rfl,hr.put hm he' hd o.dst,he',p8 _ _ _,hk⟩
 unfold E5 at hc;split at hc
 ·cases hc;cases hp with
  | one _ _ hp=>cases hp with
    | im _ _ hp=>cases hp with
      | fn _ _ vs h1 h2 =>
        refine key vs rfl (by simp[h1]) λj d u hj hu=>?_;rw[List.getElem?_map,Option.map_eq_some_iff] at hj;obtain⟨c,hc,rfl⟩:=hj;exact .one _ _ (.im _ _ (h2 j c u hc hu))
 ·cases hc;cases hp with
  | one _ _ hp=>cases hp with
    | fn _ _ vs h1 h2 =>
      refine key vs rfl (by simp[h1]) λj d u hj hu=>?_;rw[List.getElem?_map,Option.map_eq_some_iff] at hj;obtain⟨c,hc,rfl⟩:=hj;exact .one _ _ (h2 j c u hc hu)
 ·cases hc
def tw (P:Program) (G:IK) (S:DS) (op:Op) (ty:TypeId):Out:=match F5 op with
 | .call x xs=>match j0 G S x,gX G S xs with
   | some d,some as=>Dj (E5 d) as
   | _,_=>.bad
 | k=>H5 P G S op ty k
def EU (P:Program) (G:IK) (dsts:List (Option Tmp)):List Oper->DS->(K:DS->Prop)->Tok K->Prop
 | [],S,K,_=>K S
 | o :: l,S,K,tk=>ld (C0 dsts S o)
  (Next P G S.objs (tw P G S o.op o.type) (λd objs'=>EU P G dsts l (DS.put { S with objs:=objs' } o.dst d) K tk) ⟨⟩)
  (EU P G dsts l (S.put o.dst (.tup [])) K tk) ⟨⟩
theorem qw {dsts:List (Option Tmp)} {l:List Oper} {o:Oper} {K:DS->Prop} {C:DV->List DObj->Prop}
 (hC:∀ d objs',C d objs'->RT P G dsts l (DS.put { S with objs:=objs' } o.dst d) K) (h1:Next P G S.objs (tw P G S o.op o.type) C ⟨⟩):OpT P G o S (λS'=>RT P G dsts l S' K):=by
 unfold tw at h1;split at h1
 ·rename_i x xs hk;split at h1
  ·rename_i d as hd has;generalize hc:E5 d=c at h1;cases c with
   | none=>exact h1.elim
   | some p =>
     obtain⟨f,caps⟩:=p;obtain⟨ys,ts,ho,rfl⟩:=T9 hk;exact wA ho hd hc has h1.1 (DCall.mono h1.2 λd objs' hk=>hC _ _ hk)
  ·exact h1.elim
 ·exact fh hC h1
theorem iu {dsts:List (Option Tmp)}:∀ (l:List Oper) (S:DS) (K:DS->Prop),EU P G dsts l S K ⟨⟩->RT P G dsts l S K
 | [],S,K,h=>h
 | o :: l,S,K,h=>by
   rw[EU] at h;generalize hb:C0 dsts S o=r at h;cases r with
   | none=>exact h.elim
   | some b=>exact⟨b,hb,λe=>qw (λd objs' hk=>iu l _ K hk) (h.1 e),λe=>iu l _ K (h.2 e)⟩
theorem tj {id:Nat} {l:List Oper} (ks:List Nat) (h:EU P G (l.map (·.dst)) l S (λS'=>At Q .normal ⟨⟩ (S'.keep ks)) ⟨⟩):DT P G n (.region id l.toArray false) S Q:=by
 have h1:=iy (id:=id) (n:=n) (Q:=λe S'=>e=.normal/\Q .normal (S'.keep ks)) (gC (iu l S _ h) (λS' h=>⟨rfl,h⟩));intro hn hd a M hr;refine wpIn_mono (h1 hn hd a M hr) ?_;rintro e a' w' ⟨S',M',rfl,hr',he,hnd,rfl,hq⟩;obtain⟨M2,w2,r2,e2⟩:=Weak.keep (G:=G) (n:=n) (S:=S') (ks:=ks) (by rw[<- hr'.ob];exact he.len) a' M' hr';exact⟨_,M2,w2,r2,he.trans e2,hnd,hq⟩
end
attribute [simp] EU tw tL gX
def ic (ks:List Nat) (o:Oper):Oper:={ dst:=o.dst,op:=o.op,type:=o.type,pos:=o.pos,after:=o.after.filter λe=>ks.contains e.on,guard:=o.guard }
def K4:List (Option (List Nat))->List Oper->List Oper
 | some ks :: cs,o :: r=>ic ks o :: K4 cs r
 | none :: cs,o :: r=>o :: K4 cs r
 | [],l=>l
 | _,[]=>[]
def kT (l:List Oper):Bool:=
 (l.all λo=>o.guard.isNone)&&((List.range l.length).all λk=>match l[k]? with|some o=>o.after.toList.all λe=>!Region.binds .any e||decide (e.on<k)|none=>true)
theorem U4:∀ (cs:List (Option (List Nat))) (l:List Oper),(K4 cs l).length=l.length
 | some ks :: cs,o :: r=>by simp[K4,U4 cs r]
 | none :: cs,o :: r=>by simp[K4,U4 cs r]
 | [],l=>by simp[K4]
 | some _ :: _,[]=>by simp[K4]
 | none :: _,[]=>by simp[K4]
theorem gr:∀ (cs:List (Option (List Nat))) (l:List Oper) (k:Nat) (o:Oper),l[k]?=some o->∃ ks,(K4 cs l)[k]?=some o\/(K4 cs l)[k]?=some (ic ks o)
 | some ks :: cs,o :: r,0,o',h=>⟨ks,.inr (by simp at h;subst h;simp[K4])⟩
 | none :: cs,o :: r,0,o',h=>⟨[],.inl (by simp at h;subst h;simp[K4])⟩
 | some ks :: cs,o :: r,k+1,o',h=>by simpa[K4] using gr cs r k o' (by simpa using h)
 | none :: cs,o :: r,k+1,o',h=>by simpa[K4] using gr cs r k o' (by simpa using h)
 | [],l,k,o',h=>⟨[],.inl (by simpa[K4] using h)⟩
 | some _ :: _,[],k,o',h=>by simp at h
 | none :: _,[],k,o',h=>by simp at h
section
variable {P:Program} {l:List Oper} {cs:List (Option (List Nat))} {F:Fence} {n:Nat} {Q:Exit->Act->World->Prop}
theorem lZ {L:Array Bool} {k:Nat} (h:k∈Region.ready .any l.toArray L):k∈Region.ready .any (K4 cs l).toArray L:=by
 obtain⟨h0,ok,hok,hall⟩:=mem_ready.1 h;have hok':l[k]?=some ok:=by simpa using hok
 obtain⟨ks,h1|h1⟩:=gr cs l k ok hok'
 ·exact mem_ready.2 ⟨h0,ok,by simpa using h1,hall⟩
 ·exact mem_ready.2 ⟨h0,ic ks ok,by simpa using h1,λe he hb=>hall e (by
   simp only[ic,Array.mem_filter] at he;exact he.1) hb⟩
theorem qZ (hb:kT l=true) {L:Array Bool} (hL:L.size=l.length) (h:Region.ready .any l.toArray L=[]):∀ k,k<l.length->L.getD k false=true:=by
 intro k;induction k using Nat.strongRecOn with
 | _ k ih =>
   intro hk;simp only[kT,Bool.and_eq_true] at hb;cases hv:L.getD k false with
   | true=>rfl
   | false =>
     have h1:=List.all_eq_true.1 hb.2 k (by simpa using hk);have hok:l[k]?=some l[k]:=List.getElem?_eq_getElem hk;rw[hok] at h1;have:k∈Region.ready .any l.toArray L:=mem_ready.2 ⟨by rw[dG (by rw[hL];exact hk)];exact hv,l[k],by simpa using hok,λe he hbe=>by
      have h2:=List.all_eq_true.1 h1 e (by simpa using he);simp only[hbe,Bool.not_true,Bool.false_or,decide_eq_true_eq] at h2;exact ih e.on h2 (by omega)⟩
     rw[h] at this;cases this
theorem tZ (hb:kT l=true):∀ (f:Nat) (L:Array Bool) (a:Act) (w:World),L.size=l.length ->
 wpAnyIn F n P .any (K4 cs l).toArray Q f L a w->wpAnyIn F n P .any l.toArray Q f L a w:=by
 intro f;induction f with
 | zero =>
   intro L a w hL h;refine⟨?_,h.2⟩;rw[List.eq_nil_iff_forall_not_mem];intro k hk;have:=lZ (cs:=cs) hk;rw[h.1] at this;cases this
 | succ f ih =>
   intro L a w hL h;refine⟨λh0=>h.1 ?_,λk hk=>?_⟩
   ·rw[List.eq_nil_iff_forall_not_mem];intro k hk;obtain⟨h1,o,ho,_⟩:=mem_ready.1 hk;have hkl:k<l.length:=by
     have:=(Array.getElem?_eq_some_iff.1 ho).1;simpa[U4] using this
    rw[dG (by rw[hL];exact hkl),qZ hb hL h0 k hkl] at h1;cases h1
   ·have h1:=h.2 k (lZ hk);obtain⟨_,ok,hok,_⟩:=mem_ready.1 hk;have hok':l[k]?=some ok:=by simpa using hok
    have hg:ok.guard=none:=by
     simp only[kT,Bool.and_eq_true] at hb;simpa[Option.isNone_iff_eq_none] using List.all_eq_true.1 hb.1 ok (List.mem_of_getElem? hok')
    have hw:∀ o y,o.guard=none->Region.wanted o y=true:=λo y h=>by simp[Region.wanted,h]
    unfold wpOpIn at h1 ⊢;simp only[List.getElem?_toArray,hok',hw _ _ hg,if_true];obtain⟨ks,e1|e1⟩:=gr cs l k ok hok'
    ·simp only[List.getElem?_toArray,e1,hw _ _ hg,if_true] at h1;exact Oper.wpIn_mono (λa w hh=>ih _ a w (by simpa using hL) hh) h1
    ·simp only[List.getElem?_toArray,e1,hw (ic ks ok) _ hg,if_true] at h1;have h2:ok.wpIn F n P a w (wpAnyIn F n P .any (K4 cs l).toArray Q f (L.setIfInBounds k true)) Q:=h1;exact Oper.wpIn_mono (λa w hh=>ih _ a w (by simpa using hL) hh) h2
end
theorem U7 {P:Program} {G:IK} {id nt:Nat} {n:Cx} {l:List Oper} {S:DS} {Q:Exit->DS->Prop} (cs:List (Option (List Nat))) (p:List Nat) (j:Nat) (st:List (List Nat×List Nat)) (ks:List Nat) (hm:P.follows .mixedOrders=true) (hnt:S.nt=nt)
 (hC:kT l=true) (hP:nv p (K4 cs l)=true) (hB:jq nt j st (p5 p (K4 cs l) p)=true)
 (h:qE P G ((p5 p (K4 cs l) p).map (·.dst)) ((p5 p (K4 cs l) p).take j) S (λSq=>ZK P G (p5 p (K4 cs l) p) (λS''=>At Q .normal ⟨⟩ (S''.keep ks)) st j Sq) ⟨⟩):DT P G n (.region id l.toArray true) S Q:=
 λhn _ a M hr=>wpIn_region_any hm (by
  have hp:=iC hP;have hl:(p5 p (K4 cs l) p).length=l.length:=by rw[aP hp.lt,hp.len,U4]
  have h1:=GH j st ks hnt hB h hn a M hr;rw[hl] at h1;have h2:=jG hp l.length (Array.replicate l.length false) (Array.replicate l.length false) _ _ (by simp[U4]) (by simp[U4]) (λi k hi=>by
   have hi1:i<l.length:=by rw[<- U4 cs l,<- hp.len];exact e7 hi
   have hk1:=hp.lt k (List.mem_of_getElem? hi);rw[U4] at hk1;simp[hi1,hk1]) h1
  exact tZ (cs:=cs) hC l.length (Array.replicate l.length false) _ _ (by simp) h2)
section
variable {P:Program} {G:IK} {S:DS}
def Gd:Op->Option (TypeId×Operand)
 | .slice t x none (some (.const (.int _ a))) (some (.const (.int _ b)))=>if a=0/\b=0 then some (t,x) else none
 | _=>none
def stepS (P:Program) (G:IK) (S:DS) (op:Op) (ty:TypeId):Out:=match Gd op with
 | some (t,x)=>match j0 G S x,X3 P t with
   | some (.one (.im (.sl l))),some e=>match aq P e with
     | some _=>if l=[] then .bad else .val (.one (.im .e0)) S.objs
     | none=>.bad
   | _,_=>.bad
 | none=>aJ P G S op ty
def HL (P:Program) (G:IK) (dsts:List (Option Tmp)):List Oper->DS->(K:DS->Prop)->Tok K->Prop
 | [],S,K,_=>K S
 | o :: l,S,K,tk=>ld (C0 dsts S o)
  (lj P G S.objs (stepS P G (S.keep (O4 o.op)) o.op o.type) (λd=>HL P G dsts l (S.put o.dst d) K tk) ⟨⟩)
  (HL P G dsts l (S.put o.dst (.tup [])) K tk) ⟨⟩
end
section
variable {P:Program} {G:IK} {ops:Array Oper}
end
attribute [simp] HL stepS Gd
section
variable {P:Program} {G:IK} {nt:Nat} {objs:List DObj} {ops:Array Oper}
structure Inv2 (P:Program) (G:IK) (nt:Nat) (objs:List DObj) (ops:Array Oper) (ks:List Nat) (τ:bj) (M0 Mp:MS) (al:List Nat) (base:Array Bool) (dfs:List Deferred) (f:Nat) (listed:Array Bool) (a:Act) (M:MS):Prop where
 sz:listed.size=ops.size
 cn:listed.toList.count false=f
 cl:Closed ops listed
 rel:RelF G nt objs (O8 ops ks listed τ) a M
 ext:Ext objs.length M0 M
 df:a.defers=dfs
 pd:Pd P Mp ops al listed a M
 hs:Mp.w.heap.size<=M.w.heap.size
 only:∀ i,listed.getD i false=true->base.getD i false=true\/i∈ks
 has:∀ i,base.getD i false=true->listed.getD i false=true
theorem Pd.tmps {M0 M:MS} {ks:List Nat} {listed:Array Bool} {a a':Act} (h:a'.tmps=a.tmps) (hp:Pd P M0 ops ks listed a M):Pd P M0 ops ks listed a' M:=by
 obtain⟨β',h1,h2⟩:=hp;refine⟨β',λi o t u hi ho hop hu hl=>?_,h2⟩;obtain⟨z,z1,q1,q2,q3,q4,q5⟩:=h1 i o t u hi ho hop hu hl;exact⟨z,z1,q1,q2,q3,by rw[h];exact q4,q5⟩
end
section
variable {P:Program} {G:IK}
end
section
variable (P:Program) (G:IK)
end
section
variable {P:Program} {G:IK}
end
end Go.Ab
