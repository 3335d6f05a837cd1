/- Part 9 of the proofs. -/
import Derived.Test.YtpcoahkgkgmmlaaGreatDoorR08
set_option linter.all false
set_option linter.deprecated false
set_option maxHeartbeats 100000000
namespace Go.Ab
open Go
section
variable {P:Program} {G:Cr}
theorem yu {l:List Oper} {nt:Nat} {objs:List DObj} {Sq:DS} {ks fl kt:List Nat} {Mb M2:MS} {base listed:Array Bool} {dfs:List Deferred} {f i:Nat} {a2:Act} {oj:Oper} {ro:Option Nat} {KK:DS→Prop} {Q':Exit→Act→World→Prop}
 (hd:W3 nt l.toArray) (hnt:Sq.nt=nt) (hob:Sq.objs=objs) (hi:Inv P G nt objs l.toArray ks (m7 Sq.tmps) Mb base dfs (f+1) listed a2 M2)
 (hrdy:i∈Region.ready .any l.toArray listed) (hoj:l[i]?=some oj) (hg:oj.guard=none) (hfl:∀ k∈fl,k∈ks) (hik:i∉ks) (hpl:∀ k∈ks,k∉fl→listed.getD k false=true)
 (hdf:G9 ((pick l fl).map (·.dst))=true) (hnl:S4 l.toArray (pick l fl)=true) (hlt:∀ k∈ks,k<l.length) (hnoal:∀ k∈ks,∀ o,l.toArray[k]?=some o→∀ t,o.op≠.alloc t)
 (hkt:((pick l fl).all fun o=>match o.dst with|some u=>!kt.contains u|none=>true)=true)
 (hkq:mW P G (l.map (·.dst)) [oj] (Sq.keep kt) (fun S'=>jY P G (l.map (·.dst)) (pick l fl) S' (fun Sf=>Z4 (gM (pick l fl)) Sf.tmps Sq.tmps∧KK Sf) ⟨⟩) ⟨⟩)
 (hnext:∀ (Sf:DS) (a3:Act) (M3:MS),KK Sf→Sf.nt=nt→Sf.objs=M3.objs→Ext objs.length M2 M3→(∀ k∈fl,∃ o d,l.toArray[k]?=some o∧OpS P G nt M3.objs l.toArray o d (m7 Sf.tmps)∧∀ u,o.dst=some u→m7 Sf.tmps u=some d) →
  Inv P G nt M3.objs l.toArray fl (m7 Sf.tmps) M3 (listed.setIfInBounds i true) dfs f (listed.setIfInBounds i true) a3 M3→wpAnyIn (o4 ro) 0 P .any l.toArray Q' f (listed.setIfInBounds i true) a3 M3.w) :
 wpOpIn (o4 ro) 0 P l.toArray Q' i (wpAnyIn (o4 ro) 0 P .any l.toArray Q' f (listed.setIfInBounds i true)) a2 M2.w:=by
 have hoj':l.toArray[i]?=some oj:=by simpa using hoj
 have hrk:Rel G (Sq.keep kt) a2 M2:=by
  refine⟨hi.rel.m,hi.rel.ob.trans hob.symm,hi.rel.nt.trans hnt.symm,hi.rel.df,fun t d ht=>hi.rel.tm t d ?_⟩
  have h1:=aN ht
  have h2:=X7 ht
  unfold D8
  rw[if_pos]
  ·exact h2
  ·intro k hk o ho hu
   by_cases hf:k∈fl
   ·have:=List.all_eq_true.1 hkt o (N4 hf (by simpa using ho))
    rw[hu] at this
    simp at this
    exact absurd h1 this
   ·exact hpl k hk hf
 obtain⟨b,hw,ht,_⟩:=J8 _ _ _ hkq
 have hbt:b=true:=by
  unfold A8 at hw
  rw[hg] at hw
  exact(Option.some.inj hw).symm
 subst hbt
 have hwant:Region.wanted oj (yielded l.toArray a2.tmps)=true:=by simp[Region.wanted,hg]
 unfold wpOpIn
 simp only[hoj',hwant,if_true]
 refine O7 (dR (ht rfl ro a2 M2 hrk)) ?_
 rintro a3 w3 ⟨⟨S3,M3,rfl,r3,e3,d3,k3⟩,v,hput⟩
 have hsz3:S3.nt=nt:=by
  rw[← r3.nt,hput,← hi.rel.nt]
  cases oj.dst<;>simp[Act.put]
 have hob3:S3.objs=M3.objs:=r3.ob.symm
 have hpm:∀ o∈pick l fl,o∈l:=fun o ho=>let ⟨k,_,hk⟩:=K3 ho;List.mem_of_getElem? hk
 have hdst:∀ o∈l,∀ u,o.dst=some u→u<nt:=fun o ho u hu=>by
  obtain⟨k,hk⟩:=List.mem_iff_getElem?.1 ho
  exact hd.1 k o (by simpa using hk) u hu
 obtain⟨Sf,⟨hsame,hkf⟩,f1,f2,f3,f4⟩:=G3 (P:=P) (G:=G) (ops:=l.toArray) (nt:=nt) (objs:=M3.objs) fl (pick l fl) S3 (fm fun k hk=>hlt k (hfl k hk)) hsz3 hob3 (fun o ho=>hdst o (hpm o ho)) (C7 hdf) hnl
  (by simpa using(show jY P G (l.map (·.dst)) (pick l fl) S3 _ ⟨⟩ from k3))
 refine hnext Sf a3 M3 hkf f1 f2 (by rw[← hi.rel.ob];exact e3) f3 ?_
 refine⟨by simpa using hi.sz,P2 (mem_ready.1 hrdy).1 hi.cn,hi.cl.step hrdy,⟨r3.m,rfl,by rw[r3.nt,hsz3],r3.df,fun t d ht=>?_⟩,Ext.refl M3,d3.trans hi.df,⟨fun _=>0,fun k o t u hk ho hop=>absurd hop (hnoal k (hfl k hk) o ho t),fun k m o o' t t' hk _ ho hop=>absurd hop (hnoal k (hfl k hk) o ho t)⟩,fun _ h=>.inl h,fun _ h=>h⟩
 unfold D8 at ht
 split at ht
 ·rename_i hvis
  by_cases hfd:∃ k∈fl,∃ o,l.toArray[k]?=some o∧o.dst=some t
  ·obtain⟨k,hk,o,ho,hu⟩:=hfd
   have hki:k≠i:=fun e=>hik (e ▸ hfl k hk)
   have hkl:listed.getD k false=true:=(l7 (hvis k hk o ho hu)).resolve_left hki
   have h1:m7 Sf.tmps t=m7 Sq.tmps t:=V3 hsame (eu (N4 hk (by simpa using ho)) hu)
   obtain⟨x,x1,x2⟩:=hi.rel.tm t d (by
    unfold D8
    rw[if_pos]
    ·rw[← h1];exact ht
    ·intro m hm' o' ho' hu'
     have:=hd.2 k m o o' t ho ho' hu hu'
     subst this
     exact hkl)
   refine⟨x,?_,x2.ext e3⟩
   rw[hput]
   cases hdj:oj.dst with
   | none=>exact x1
   | some y =>
     have hne:y≠t:=fun e=>hki (hd.2 i k oj o t hoj' ho (by rw[hdj,e]) hu).symm
     simp only[Act.put]
     rw[Array.getElem?_setIfInBounds_ne hne];exact x1
  ·have h1:m7 Sf.tmps t=m7 S3.tmps t:=f4 t fun o ho hu=>by
    obtain⟨k,hk,hk'⟩:=K3 ho
    exact hfd ⟨k,hk,o,by simpa using hk',hu⟩
   exact r3.tm t d (by rw[← h1];exact ht)
 ·cases ht
end
section
variable (P:Program) (G:Cr)
def ZK (l:List Oper) (K:DS→Prop):List (List Nat×List Nat)→Nat→DS→Prop
 | [],i,S=>mW P G (l.map (·.dst)) (l.drop i) S K ⟨⟩
 | (fl,kt) :: r,i,Sq=>mW P G (l.map (·.dst)) (pick l [i]) (Sq.keep kt) (fun S'=>jY P G (l.map (·.dst)) (pick l fl) S' (fun Sf=>Z4 (gM (pick l fl)) Sf.tmps Sq.tmps∧ZK l K r (i+1) Sf) ⟨⟩) ⟨⟩
end
def ua (l:List Oper):List (List Nat×List Nat)→Nat→List Nat→Bool
 | [],i,_=>decide (0<i)&&decide (i≤l.length)&&((List.range l.length).all fun k=>decide (k<i)||(List.range i).all fun m=>((R6 l []).getD k 0).testBit m) &&
  nK l.toArray (l.length-i) i (fq l.length (i-1))&&decide ((fq l.length (i-1)).toList.count false=l.length-i)
 | (fl,kt) :: r,i,ks=>decide (i<l.length)&&(fl.all fun k=>ks.contains k)&&G9 ((pick l fl).map (·.dst))&&S4 l.toArray (pick l fl) &&
  ((List.range i).all fun m=>fl.contains m||((R6 l []).getD i 0).testBit m)&&((List.range l.length).all fun k=>decide (k≤i)||((R6 l []).getD k 0).testBit i) &&
  ((pick l fl).all fun o=>match o.dst with|some u=>!kt.contains u|none=>true)&&(match l[i]? with|some o=>o.guard.isNone|none=>false)&&ua l r (i+1) fl
section
variable {P:Program} {G:Cr}
theorem zG {l:List Oper} {nt j:Nat} {n:Cx} {Q:Exit→DS→Prop} {kp:List Nat} {a:Act} {M:MS} {ro:Option Nat} (hd:W3 nt l.toArray) (hj:j≤l.length)
 (hdep:∀ i,i<j→∀ o,l.toArray[i]?=some o→∀ k,k<j→∀ o',l.toArray[k]?=some o'→∀ u,o'.dst=some u→u∈o.looksAt l.toArray→∃ e∈o.after,e.on=k∧Region.binds .any e=true)
 (hback:∀ (k:Nat) (o:Oper),l.toArray[k]?=some o→∀ e∈o.after,Region.binds .any e=true→e.on<k) (hmask:ck l.toArray (R6 l [])) (hnoal:∀ i,i<j→∀ o,l.toArray[i]?=some o→∀ t,o.op≠.alloc t) :
 ∀ (st:List (List Nat×List Nat)) (i:Nat) (ks:List Nat) (Sq:DS) (objs:List DObj) (Mb:MS) (base:Array Bool),ua l st i ks=true→(∀ k∈ks,k<j)→j≤i→Sq.nt=nt→Sq.objs=objs→n.n≤objs.length→Ext n.n M Mb →
  (∀ k∈ks,∃ o d,l.toArray[k]?=some o∧OpS P G nt objs l.toArray o d (m7 Sq.tmps)∧∀ u,o.dst=some u→m7 Sq.tmps u=some d) →
  (∀ k,base.getD k false=true→k<i)→(∀ k,k<i→k∉ks→base.getD k false=true)→ZK P G l (fun S''=>At Q .normal ⟨⟩ (S''.keep kp)) st i Sq →
  ∀ f listed a2 M2,Inv P G nt objs l.toArray ks (m7 Sq.tmps) Mb base a.defers f listed a2 M2 →
   wpAnyIn (o4 ro) 0 P .any l.toArray (fun e a' w'=>∃ S' M',M'.w=w'∧Rel G S' a' M'∧Ext n.n M M'∧NewD M a a'∧Q e S') f listed a2 M2.w:=by
 have unl:∀ {listed:Array Bool} {k:Nat},k∈Region.ready .any l.toArray listed→listed.getD k false≠true:=fun {listed k} hk e=>by
  have h0:=(mem_ready.1 hk).1
  rcases Nat.lt_or_ge k listed.size with h'|h'
  ·simp[h'] at h0 e;rw[h0] at e;cases e
  ·simp[Array.getElem?_eq_none h'] at e
 have alll:∀ {listed:Array Bool},listed.toList.count false=0→∀ m,m<listed.size→listed.getD m false=true:=fun {listed} h m hm'=>by
  have hnot:=List.count_eq_zero.1 h
  cases hv:listed[m] with
  | true=>simp[hm',hv]
  | false=>exact absurd (by rw[← hv];exact Array.getElem_mem_toList hm') hnot
 intro st
 induction st with
 | nil =>
   intro i ks Sq objs Mb base hz hks hji hnt hob hno hMb hY hb1 hb2 hK f listed a2 M2 hi
   simp only[ua,Bool.and_eq_true,decide_eq_true_eq] at hz
   obtain⟨⟨⟨⟨z0,zl⟩,z1⟩,z2⟩,z3⟩:=hz
   have fin:∀ f' listed' a4 M4,Inv P G nt objs l.toArray ks (m7 Sq.tmps) Mb base a.defers f' listed' a4 M4→(∀ k∈ks,listed'.getD k false=true) →
    wpAnyIn (o4 ro) 0 P .any l.toArray (fun e a' w'=>∃ S' M',M'.w=w'∧Rel G S' a' M'∧Ext n.n M M'∧NewD M a a'∧Q e S') f' listed' a4 M4.w:=by
    intro f' listed' a4 M4 hi4 hfl4
    have hL:listed'=fq l.length (i-1):=by
     refine lP (by simpa using hi4.sz) fun k hk=>⟨fun hkl=>?_,fun hkl=>?_⟩
     ·rcases hi4.only k hkl with h1|h1
      ·have:=hb1 k h1;omega
      ·have:=hks k h1;omega
     ·by_cases hkf:k∈ks
      ·exact hfl4 k hkf
      ·exact hi4.has k (hb2 k (by omega) hkf)
    have hf':f'=(l.drop i).length:=by rw[← hi4.cn,hL,z3];simp
    have hrel:Rel G Sq a4 M4:=⟨hi4.rel.m,by rw[hi4.rel.ob,hob],by rw[hi4.rel.nt,hnt],hi4.rel.df,fun t d ht=>hi4.rel.tm t d (by
     unfold D8
     rw[if_pos]
     ·exact ht
     ·exact fun k hk _ _ _=>hfl4 k hk)⟩
    have hn4:n.n≤M4.objs.length:=by rw[hi4.rel.ob];exact hno
    have eM4:Ext n.n M M4:=hMb.trans (hi4.ext.weaken hno)
    rw[hf',hL]
    refine L2 (P:=P) (G:=G) (ops:=l.toArray) (ro:=ro) n.n (fun S''=>At Q .normal ⟨⟩ (S''.keep kp)) (l.drop i) i _ Sq a4 M4 (fun k hk=>by simp) (by rw[List.length_drop];exact z2) hrel hn4 (by simpa using J8 _ _ _ hK) ?_
    intro S5 a5 M5 hr5 he5 hd5 hq5
    obtain⟨M6,w6,r6,e6⟩:=Weak.keep (G:=G) (n:=n) (S:=S5) (ks:=kp) (by rw[← hr5.ob];exact he5.len) a5 M5 hr5
    exact⟨_,M6,w6,r6,eM4.trans (he5.trans e6),.same (hd5.trans hi4.df),hq5⟩
   refine L0 (P:=P) (G:=G) (nt:=nt) (objs:=objs) (ops:=l.toArray) (ks:=ks) (τ:=m7 Sq.tmps) (M0:=Mb) (base:=base) (dfs:=a.defers) (ro:=ro) hd hY
    (fun k hk o ho m hm'=>hdep k (hks k hk) o ho m (hks m hm')) hback ?_ ?_ f listed a2 M2 hi
   ·intro f' listed' a4 M4 hi4 k hk4 hkf
    have hik:i≤k:=by
     rcases Nat.lt_or_ge k i with h|h
     ·exact absurd (hi4.has k (hb2 k h hkf)) (unl hk4)
     ·exact h
    refine(fin _ listed' a4 M4 hi4 fun m hm'=>?_).2 k hk4
    obtain⟨_,ok,hok,hall⟩:=mem_ready.1 hk4
    have h1:=List.all_eq_true.1 z1 k (by simpa using(Array.getElem?_eq_some_iff.1 hok).1)
    simp only[Bool.or_eq_true,decide_eq_true_eq] at h1
    have h2:=h1.resolve_left (by omega)
    exact hmask k m ok hok (List.all_eq_true.1 h2 m (by have:=hks m hm';simp;omega)) listed' hi4.cl hall
   ·intro listed' a4 M4 hi4
    exact(fin 0 listed' a4 M4 hi4 fun m hm'=>alll hi4.cn m (by rw[hi4.sz];have:=hks m hm';simp;omega)).2
 | cons x r ih =>
   obtain⟨fl,kt⟩:=x
   intro i ks Sq objs Mb base hz hks hji hnt hob hno hMb hY hb1 hb2 hK f listed a2 M2 hi
   simp only[ua,Bool.and_eq_true,decide_eq_true_eq] at hz
   obtain⟨⟨⟨⟨⟨⟨⟨⟨z0,z1⟩,z2⟩,z3⟩,z4⟩,z5⟩,z6⟩,z7⟩,z8⟩:=hz
   have hfl:∀ k∈fl,k∈ks:=fun k hk=>by simpa using List.all_eq_true.1 z1 k hk
   obtain⟨oi,hoi⟩:∃ o,l[i]?=some o:=⟨l[i],List.getElem?_eq_getElem z0⟩
   rw[hoi] at z7
   have hgi:oi.guard=none:=by simpa[Option.isNone_iff_eq_none] using z7
   have hiks:i∉ks:=fun h=>by have:=hks i h;omega
   have hpk:pick l [i]=[oi]:=by simp[pick,hoi]
   simp only[ZK] at hK
   rw[hpk] at hK
   have hun:∀ {f' listed' a4 M4},Inv P G nt objs l.toArray ks (m7 Sq.tmps) Mb base a.defers f' listed' a4 M4→listed'.getD i false≠true:=fun hi4 e=>by
    rcases hi4.only i e with h|h
    ·have:=hb1 i h;omega
    ·exact hiks h
   refine L0 (P:=P) (G:=G) (nt:=nt) (objs:=objs) (ops:=l.toArray) (ks:=ks) (τ:=m7 Sq.tmps) (M0:=Mb) (base:=base) (dfs:=a.defers) (ro:=ro) hd hY
    (fun k hk o ho m hm'=>hdep k (hks k hk) o ho m (hks m hm')) hback ?_ ?_ f listed a2 M2 hi
   ·intro f' listed' a4 M4 hi4 k hk4 hkf
    obtain⟨_,ok,hok,hall⟩:=mem_ready.1 hk4
    have hki:k=i:=by
     rcases Nat.lt_trichotomy k i with h|h|h
     ·exact absurd (hi4.has k (hb2 k h hkf)) (unl hk4)
     ·exact h
     ·have h1:=List.all_eq_true.1 z5 k (by simpa using(Array.getElem?_eq_some_iff.1 hok).1)
      simp only[Bool.or_eq_true,decide_eq_true_eq] at h1
      exact absurd (hmask k i ok hok (h1.resolve_left (by omega)) listed' hi4.cl hall) (hun hi4)
    subst hki
    have hpl:∀ m,m<k→m∉fl→listed'.getD m false=true:=fun m hm' hmf=>by
     have h1:=List.all_eq_true.1 z4 m (by simpa using hm')
     simp only[Bool.or_eq_true,List.contains_iff_mem] at h1
     exact hmask k m ok hok (h1.resolve_left hmf) listed' hi4.cl hall
    refine yu (fl:=fl) (kt:=kt) hd hnt hob hi4 hk4 hoi hgi hfl hkf (fun m hm'=>hpl m (by have:=hks m hm';omega)) z2 z3 (fun m hm'=>by have:=hks m hm';omega) (fun m hm'=>hnoal m (hks m hm')) z6 hK ?_
    intro Sf a3 M3 hkf' f1 f2 e3 f3 hi3
    refine ih (k+1) fl Sf M3.objs M3 (listed'.setIfInBounds k true) z8 (fun m hm'=>hks m (hfl m hm')) (by omega) f1 f2 (Nat.le_trans hno e3.len) ((hMb.trans (hi4.ext.weaken hno)).trans (e3.weaken hno)) f3 (fun m hm'=>?_) (fun m hm' hmf=>?_) hkf' f' _ a3 M3 hi3
    ·rcases l7 hm' with rfl|h1
     ·omega
     ·rcases hi4.only m h1 with h2|h2
      ·have:=hb1 m h2;omega
      ·have:=hks m h2;omega
    ·rcases Nat.eq_or_lt_of_le (Nat.le_of_lt_succ hm') with rfl|hlt
     ·have:m<listed'.size:=by rw[hi4.sz];simpa using z0
      simp[this]
     ·exact getD_set_true (hpl m hlt hmf)
   ·intro listed' a4 M4 hi4
    exact absurd (alll hi4.cn i (by rw[hi4.sz];simpa using z0)) (hun hi4)
def ma (nt j:Nat) (st:List (List Nat×List Nat)) (l:List Oper):Bool:=
 decide (j≤l.length)&&(l.all fun o=>match o.dst with|some t=>decide (t<nt)|none=>true)&&G9 (l.map (·.dst)) &&
 ((List.range l.length).all fun k=>match l[k]? with|some o=>o.after.toList.all fun e=>!Region.binds .any e||decide (e.on<k)|none=>true) &&
 ((List.range j).all fun i=>(List.range j).all fun k=>match l[i]?,l[k]? with
   | some o,some o'=>match o'.dst with|some u=>!(o.looksAt l.toArray).contains u||o.after.toList.any fun e=>decide (e.on=k)&&Region.binds .any e|none=>true
   | _,_=>true) &&
 S4 l.toArray (l.take j)&&((l.take j).all fun o=>(gK o.op).isNone)&&ua l st j (List.range j)
theorem BD {nt:Nat} {n:Cx} {l:List Oper} {S:DS} {Q:Exit→DS→Prop} (j:Nat) (st:List (List Nat×List Nat)) (kp:List Nat) (hnt:S.nt=nt) (hB:ma nt j st l=true)
 (h:jY P G (l.map (·.dst)) (l.take j) S (fun Sq=>ZK P G l (fun S''=>At Q .normal ⟨⟩ (S''.keep kp)) st j Sq) ⟨⟩):n.n≤S.objs.length→∀ (a:Act) (M:MS),Rel G S a M →
 wpAnyIn (o4 (n.rd.map M.β)) 0 P .any l.toArray (fun e a' w'=>∃ S' M',M'.w=w'∧Rel G S' a' M'∧Ext n.n M M'∧NewD M a a'∧Q e S') l.length (Array.replicate l.length false) a { M.w with drawn:=M.w.drawn+1 }:=by
 intro hn a M hr
 simp only[ma,Bool.and_eq_true,decide_eq_true_eq] at hB
 obtain⟨⟨⟨⟨⟨⟨⟨b1,b4⟩,b5⟩,b6⟩,b7⟩,b8⟩,b13⟩,bz⟩:=hB
 subst hnt
 have hdst:∀ o∈l,∀ u,o.dst=some u→u<S.nt:=fun o ho u hu=>by
  have:=List.all_eq_true.1 b4 o ho
  simpa[hu] using this
 have hpw:=C7 b5
 have hd:W3 S.nt l.toArray:=by
  refine⟨fun i o ho u hu=>hdst o (by simpa using Array.mem_of_getElem? ho) u hu,fun i k o o' u ho ho' hu hu'=>?_⟩
  have hi:l[i]?=some o:=by simpa using ho
  have hk:l[k]?=some o':=by simpa using ho'
  obtain⟨hil,hi'⟩:=List.getElem?_eq_some_iff.1 hi
  obtain⟨hkl,hk'⟩:=List.getElem?_eq_some_iff.1 hk
  rw[List.pairwise_iff_getElem] at hpw
  rcases Nat.lt_trichotomy i k with hlt|he|hlt
  ·exact absurd (show (l.map (·.dst))[i]'(by simpa using hil)=(l.map (·.dst))[k]'(by simpa using hkl) by simp[hi',hk',hu,hu']) (hpw i k (by simpa using hil) (by simpa using hkl) hlt (by simp[hi',hu]))
  ·exact he
  ·exact absurd (show (l.map (·.dst))[k]'(by simpa using hkl)=(l.map (·.dst))[i]'(by simpa using hil) by simp[hi',hk',hu,hu']) (hpw k i (by simpa using hkl) (by simpa using hil) hlt (by simp[hk',hu']))
 have hback:∀ (k:Nat) (o:Oper),l.toArray[k]?=some o→∀ e∈o.after,Region.binds .any e=true→e.on<k:=fun k o ho e he hb=>by
  have hk:l[k]?=some o:=by simpa using ho
  have:=List.all_eq_true.1 b6 k (by simpa using(List.getElem?_eq_some_iff.1 hk).1)
  rw[hk] at this
  have:=List.all_eq_true.1 this e (by simpa using he)
  simpa[hb] using this
 have hdep:∀ i,i<j→∀ o,l.toArray[i]?=some o→∀ k,k<j→∀ o',l.toArray[k]?=some o'→∀ u,o'.dst=some u→u∈o.looksAt l.toArray→∃ e∈o.after,e.on=k∧Region.binds .any e=true:=fun i hi o ho k hk o' ho' u hu hl=>by
  have h1:=List.all_eq_true.1 (List.all_eq_true.1 b7 i (by simpa using hi)) k (by simpa using hk)
  rw[show l[i]?=some o by simpa using ho,show l[k]?=some o' by simpa using ho'] at h1
  simp only[hu,Bool.or_eq_true,Bool.not_eq_true',List.any_eq_true,Bool.and_eq_true,decide_eq_true_eq] at h1
  rcases h1 with h1|⟨e,he,h2,h3⟩
  ·have:(o.looksAt l.toArray).contains u=true:=by simpa using hl
   rw[h1] at this;cases this
  ·exact⟨e,by simpa using he,h2,h3⟩
 have hmask:ck l.toArray (R6 l []):=W7 l [] (fun j _=>by simp) (fun j i oj _ h=>by simp at h)
 have hnoal:∀ i,i<j→∀ o,l.toArray[i]?=some o→∀ t,o.op≠.alloc t:=fun i hi o ho t=>by
  have:=List.all_eq_true.1 b13 o (List.mem_of_getElem? (i:=i) (by rw[List.getElem?_take_of_lt hi];simpa using ho))
  exact cC (by simpa[Option.isNone_iff_eq_none] using this) t
 obtain⟨hm1,he1⟩:=RelM.same (w':={ M.w with drawn:=M.w.drawn+1 }) hr.m rfl ⟨rfl,rfl,rfl,by first|exact Nat.le_refl _|exact Nat.le_succ _⟩
 have hAl:Al l.toArray (List.range j) (l.take j):=by
  have gen:∀ (m k:Nat),k+m≤l.length→Al l.toArray (List.range' k m) ((l.drop k).take m):=by
   intro m
   induction m with
   | zero=>intro k _;simp[Al,List.range']
   | succ m ih =>
     intro k hk
     have hk':k<l.length:=by omega
     rw[List.range'_succ,List.drop_eq_getElem_cons hk',List.take_succ_cons]
     exact⟨by simp,ih (k+1) (by omega)⟩
  have:=gen j 0 (by omega)
  rwa [List.drop_zero,← List.range_eq_range'] at this
 obtain⟨Sq,hkq,q1,q2,q3,q4⟩:=G3 (P:=P) (G:=G) (ops:=l.toArray) (nt:=S.nt) (objs:=S.objs) (List.range j) (l.take j) S hAl rfl rfl (fun o ho=>hdst o (List.mem_of_mem_take ho))
  (by rw[List.map_take];exact hpw.take) b8 (by simpa using h)
 let Md:MS:={ M with w:={ M.w with drawn:=M.w.drawn+1 } }
 have hobs:M.objs.length=S.objs.length:=by rw[hr.ob]
 refine zG (n:=n) (Q:=Q) (kp:=kp) (M:=M) hd b1 hdep hback hmask hnoal st j (List.range j) Sq S.objs Md (Array.replicate l.length false) bz (fun k hk=>by simpa using hk) (Nat.le_refl _) q1 q2 hn (he1.weaken (by rw[hobs];exact hn)) q3
  (fun k hk=>by rw[m6] at hk;cases hk) (fun k hk hk'=>absurd (by simpa using hk) hk') hkq l.length _ a Md ?_
 refine⟨by simp,by simp,fun k o _ hk=>?_,⟨hm1,hr.ob,hr.nt,hr.df,fun t d ht=>?_⟩,by rw[← hr.ob];exact Ext.refl Md,rfl,⟨fun _=>0,fun k o t u _ _ _ _ hk=>?_,fun k m o o' t t' _ _ _ _ hk=>?_⟩,fun k hk=>?_,fun _ h=>h⟩
 ·rw[m6] at hk;cases hk
 ·unfold D8 at ht
  split at ht
  ·rename_i hvis
   have h4:m7 Sq.tmps t=m7 S.tmps t:=q4 t fun o ho hu=>by
    obtain⟨k,hk⟩:=List.mem_iff_getElem?.1 ho
    have hkj:k<j:=by
     have:=(List.getElem?_eq_some_iff.1 hk).1
     simp at this;omega
    rw[List.getElem?_take_of_lt hkj] at hk
    have:=hvis k (by simpa using hkj) o (by simpa using hk) hu
    rw[m6] at this;cases this
   obtain⟨v,h1,h2⟩:=hr.tm t d (by rw[← h4];exact ht)
   exact⟨v,h1,h2.ext he1⟩
  ·cases ht
 ·rw[m6] at hk;cases hk
 ·rw[m6] at hk;cases hk
 ·rw[m6] at hk;cases hk
end
section
variable {P:Program} {G:Cr}
theorem DCall.last {f:FuncId} {args:List DV} {Q:Nat→Nat→Nat→List (List IC)→Bool→Prop}
 (h:DCall P G f args [] (fun d o=>∃ k g len sz es nl,d=.one (.vec k g 0 len)∧o[k]?=some (.vec sz (p6 es) g nl)∧Q g len sz es nl)) :
 DCall P G f args [] (fun d o=>∃ g len sz es nl,d=.one (.vec 0 g 0 len)∧o=[.vec sz (p6 es) g nl]∧Q g len sz es nl):=by
 intro M vs h1 h2 h3 h4
 refine(h M vs h1 h2 h3 h4).mono ?_
 rintro e w' ⟨v,d,M',rfl,rfl,hm,hv,he,k,g,len,sz,es,nl,rfl,ho,hq⟩
 have hlt:k<M'.objs.length:=e7 ho
 let M'':MS:={ w:=M'.w,β:=fun _=>M'.β k,objs:=[.vec sz (p6 es) g nl],F:=M'.F }
 have hlive:∀ b,M''.live b→M'.live b:=by
  rintro b ⟨o,d,h5,h6,h7⟩
  have h8:=e7 h5
  have:o=0:=by simp[M''] at h8;exact h8
  subst this
  simp only[M'',List.getElem?_cons_zero,Option.some.injEq] at h5
  subst h5
  exact⟨k,_,ho,h6,h7⟩
 have hfree:∀ b,M'.free b→M''.free b:=fun b hb=>⟨hb.1,fun hl=>hb.2 (hlive b hl)⟩
 have hok:∀ b,M'.ok b→M''.ok b∧M''.w.heap[b]?=M'.w.heap[b]?:=fun b hb=>⟨⟨hfree b hb.1,hb.2⟩,rfl⟩
 have hel:∀ (i:Nat) (x:List DC),(p6 es)[i]?=some x→∀ (j:Nat) (d:DC) (v:Value),x[j]?=some d→RepC M' d v→RepC M'' d v:=fun i x hx j d v hd r=>by
  rw[xe,Option.map_eq_some_iff] at hx
  obtain⟨y,_,rfl⟩:=hx
  rw[List.getElem?_map,Option.map_eq_some_iff] at hd
  obtain⟨c,_,rfl⟩:=hd
  cases r with
  | im _ _ r=>exact .im _ _ (r.mono hok)
 have hone:∀ {o:Nat} {d:DObj},M''.objs[o]?=some d→o=0∧d=.vec sz (p6 es) g nl:=fun {o d} h=>by
  have h8:=e7 h
  have:o=0:=by simp[M''] at h8;exact h8
  subst this
  simp only[M'',List.getElem?_cons_zero,Option.some.injEq] at h
  exact⟨rfl,h.symm⟩
 have hR:RelO M'' 0 (.vec sz (p6 es) g nl):=by
  obtain⟨a1,a2⟩:=hm.objs k _ ho
  refine⟨a1,fun hn=>?_⟩
  obtain⟨b0,c,T,b1,b2,b3,b4⟩:=a2 hn
  exact⟨b0,c,T,b1,b2,b3,fun i x j d v hx hd hcv=>hel i x hx j d v hd (b4 i x j d v hx hd hcv)⟩
 refine⟨v,.one (.vec 0 g 0 len),M'',rfl,rfl,⟨fun o d h=>?_,fun o d h hb=>?_,fun o o' d d' h h' _ _ _=>?_,fun g' l hg=>(hm.glob g' l hg).mono hok,hm.fl,fun o d h hb=>?_⟩,?_,?_,g,len,sz,es,nl,rfl,rfl,hq⟩
 ·obtain⟨rfl,rfl⟩:=hone h;exact hR
 ·obtain⟨rfl,rfl⟩:=hone h;exact hm.lt k _ ho hb
 ·obtain⟨rfl,rfl⟩:=hone h;obtain⟨rfl,rfl⟩:=hone h';rfl
 ·obtain⟨rfl,rfl⟩:=hone h;exact hm.own k _ ho hb
 ·cases hv with
  | one _ _ hc=>cases hc with
    | vec _ _ _ _ _ c1 c2 c3 =>
      refine .one _ _ (.vec _ _ _ _ _ c1 (by simp[M'']) fun sz1 es1 g1 nl1 h5=>?_)
      simp only[M'',List.getElem?_cons_zero,Option.some.injEq] at h5
      injection h5 with e1 e2 e3 e4
      subst e1;subst e2;subst e3;subst e4
      exact c3 _ _ _ _ ho
 ·refine⟨by simp,fun b hb=>⟨hfree b (he.free b hb).1,(he.free b hb).2⟩,he.other,he.hs,fun o h=>by simp at h,fun o h=>by simp at h,fun o h=>by simp at h,fun o h=>by simp at h,fun o h=>by simp at h,fun o h=>by simp at h,he.io⟩
end
section
variable {P:Program} {G:Cr} {n:Cx} {S:DS} {Q:Exit→DS→Prop}
def rc (G:Cr) (S:DS):Operand→Option DV
 | .const (.slice none 0 0)=>some (.one (.im (.raw (.slice none 0 0))))
 | x=>j4 G S x
def fX (G:Cr) (S:DS):List Operand→Option (List DV)
 | []=>some []
 | x :: r=>match rc G S x,fX G S r with
   | some d,some l=>some (d :: l)
   | _,_=>none
theorem nW {a:Act} {M:MS} (hr:Rel G S a M) {x:Operand} {d:DV} (h:rc G S x=some d):RepV M d (a.eval x):=by
 unfold rc at h
 split at h
 ·cases h;exact .one _ _ (.im _ _ (.raw _ rfl))
 ·exact h9 hr h
theorem eP {a:Act} {M:MS} (hr:Rel G S a M):∀ (l:List Operand) (ds:List DV),fX G S l=some ds→l.length=ds.length∧∀ (j:Nat) (d:DV) (v:Value),ds[j]?=some d→(l.map a.eval)[j]?=some v→RepV M d v
 | [],ds,h=>by
   cases h
   exact⟨rfl,fun j d v h=>by simp at h⟩
 | x :: r,ds,h=>by
   simp only[fX] at h
   split at h
   ·rename_i d l hd hl
    cases h
    obtain⟨h1,h2⟩:=eP hr r l hl
    refine⟨by simp[h1],fun j e v he hv=>?_⟩
    cases j with
    | zero=>simp at he hv;subst he;subst hv;exact nW hr hd
    | succ j=>exact h2 j e v (by simpa using he) (by simpa using hv)
   ·cases h
theorem tO {o:Oper} {K:DS→Prop} {x:Operand} {xs:Array Operand} {ts:Array TypeId} {d:DV} {f:FuncId} {caps as:List DV} (ho:o.op=.call { callee:=.value x,args:=xs,argTypes:=ts })
 (hx:j4 G S x=some d) (hc:E3 d=some (f,caps)) (ha:fX G S xs.toList=some as) (hcall:∀ args w,(callFunc f args).run P w=.ok (.enter f args) w)
 (h:DCall P G f (as++caps) S.objs (fun d objs'=>K ({ S with objs:=objs' }.put o.dst d))):OpT P G o S K:=by
 intro ro a M hr
 have hp:=h9 hr hx
 obtain⟨hl,hrep⟩:=eP hr _ _ ha
 generalize hv:a.eval x=v at hp
 have key:∀ (vs:Array Value),v=.func (.func f) #[] vs→vs.size=caps.length→(∀ (j:Nat) (d:DV) (u:Value),caps[j]?=some d→vs[j]?=some u→RepV M d u) →
  o.wpIn (o4 ro) 0 P a M.w (fun a' w'=>∃ S' M',M'.w=w'∧Rel G S' a' M'∧Ext M.objs.length M M'∧a'.defers=a.defers∧K S') (fun _ _ _=>False):=by
  rintro vs rfl hvs hcr
  have hrun:(execOp a.eval o).run P M.w=.ok (.enter f ((xs.map a.eval)++vs)) M.w:=by
   simp only[execOp,ho,Sem.run_bind,resolve,hv,Deferred.ofValue,Sem.run_pure,Result.andThen_ok,invoke,Array.empty_append,hcall]
  refine aJ hrun ?_
  have hsz:(xs.map a.eval).size=as.length:=by simp[← hl]
  refine(h M _ hr.m hr.ob (by simp[← hl,hvs]) fun j e u he hu=>?_).mono ?_
  ·by_cases hj:j<as.length
   ·rw[List.getElem?_append_left hj] at he
    rw[Array.getElem?_append_left (by omega)] at hu
    refine hrep j e u he ?_
    rw[← hu,← Array.toList_map,Array.getElem?_toList]
   ·rw[List.getElem?_append_right (by omega)] at he
    rw[Array.getElem?_append_right (by omega),hsz] at hu
    exact hcr _ e u he hu
  ·rintro e w' ⟨v,d,M',rfl,rfl,hm,hd,he,hk⟩
   have he':Ext M.objs.length M M':=by rw[hr.ob];exact he
   exact⟨v,rfl,_,M',rfl,hr.put hm he' hd o.dst,he',o2 _ _ _,hk⟩
 unfold E3 at hc
 split at hc
 ·cases hc
  cases hp with
  | one _ _ hp=>cases hp with
    | im _ _ hp=>cases hp with
      | fn _ _ vs h1 h2 =>
        refine key vs rfl (by simp[h1]) fun j d u hj hu=>?_
        rw[List.getElem?_map,Option.map_eq_some_iff] at hj
        obtain⟨c,hc,rfl⟩:=hj
        exact .one _ _ (.im _ _ (h2 j c u hc hu))
 ·cases hc
  cases hp with
  | one _ _ hp=>cases hp with
    | fn _ _ vs h1 h2 =>
      refine key vs rfl (by simp[h1]) fun j d u hj hu=>?_
      rw[List.getElem?_map,Option.map_eq_some_iff] at hj
      obtain⟨c,hc,rfl⟩:=hj
      exact .one _ _ (h2 j c u hc hu)
 ·cases hc
def qE (P:Program) (G:Cr) (S:DS) (op:Op) (ty:TypeId):Out:=match F6 op with
 | .call x xs=>match j4 G S x,fX G S xs with
   | some d,some as=>yD (E3 d) as
   | _,_=>.bad
 | k=>H3 P G S op ty k
def Ac (P:Program) (G:Cr) (dsts:List (Option Tmp)):List Oper→DS→(K:DS→Prop)→Tok K→Prop
 | [],S,K,_=>K S
 | o :: l,S,K,tk=>jR (A8 dsts S o)
  (Next P G S.objs (qE P G S o.op o.type) (fun d objs'=>Ac P G dsts l (DS.put { S with objs:=objs' } o.dst d) K tk) ⟨⟩)
  (Ac P G dsts l (S.put o.dst (.tup [])) K tk) ⟨⟩
theorem oG {dsts:List (Option Tmp)} {l:List Oper} {o:Oper} {K:DS→Prop} {C:DV→List DObj→Prop}
 (hC:∀ d objs',C d objs'→RT P G dsts l (DS.put { S with objs:=objs' } o.dst d) K) (h1:Next P G S.objs (qE P G S o.op o.type) C ⟨⟩):OpT P G o S (fun S'=>RT P G dsts l S' K):=by
 unfold qE at h1
 split at h1
 ·rename_i x xs hk
  split at h1
  ·rename_i d as hd has
   generalize hc:E3 d=c at h1
   cases c with
   | none=>exact h1.elim
   | some p =>
     obtain⟨f,caps⟩:=p
     obtain⟨ys,ts,ho,rfl⟩:=R2 hk
     exact tO ho hd hc has h1.1 (DCall.mono h1.2 fun d objs' hk=>hC _ _ hk)
  ·exact h1.elim
 ·exact dJ hC h1
theorem gi {dsts:List (Option Tmp)}:∀ (l:List Oper) (S:DS) (K:DS→Prop),Ac P G dsts l S K ⟨⟩→RT P G dsts l S K
 | [],S,K,h=>h
 | o :: l,S,K,h=>by
   rw[Ac] at h
   generalize hb:A8 dsts S o=r at h
   cases r with
   | none=>exact h.elim
   | some b=>exact⟨b,hb,fun e=>oG (fun d objs' hk=>gi l _ K hk) (h.1 e),fun e=>gi l _ K (h.2 e)⟩
theorem qv {id:Nat} {l:List Oper} (ks:List Nat) (h:Ac P G (l.map (·.dst)) l S (fun S'=>At Q .normal ⟨⟩ (S'.keep ks)) ⟨⟩):DT P G n (.region id l.toArray false) S Q:=by
 have h1:=gj (id:=id) (n:=n) (Q:=fun e S'=>e=.normal∧Q .normal (S'.keep ks)) (fk (gi l S _ h) (fun S' h=>⟨rfl,h⟩))
 intro hn hd a M hr
 refine wpIn_mono (h1 hn hd a M hr) ?_
 rintro e a' w' ⟨S',M',rfl,hr',he,hnd,rfl,hq⟩
 obtain⟨M2,w2,r2,e2⟩:=Weak.keep (G:=G) (n:=n) (S:=S') (ks:=ks) (by rw[← hr'.ob];exact he.len) a' M' hr'
 exact⟨_,M2,w2,r2,he.trans e2,hnd,hq⟩
end
attribute [simp] Ac qE rc fX
def AV (G:Cr) (n:Cx) (S0:DS) (e:Exit) (S:DS):Prop:=e=.normal∧Weak G n S S0
theorem ya {P:Program} {G:Cr} {n:Cx} {id:Nat} {c y:Code} {S:DS} {Q1 Q2:Exit→DS→Prop} (S0:DS) (h1:DT P G n c S (P3 id (AV G n S0))) (h2:DT P G n y S0 Q1) :
 DT P G n c S (P3 id (Q6 (fun S'=>DT P G n y S' Q1) Q2)):=by
 refine h1.mono fun e S' hq=>?_
 cases e with
 | normal=>exact Y8 hq.2 h2
 | exit id' =>
   simp only[P3] at hq ⊢
   split
   ·rename_i hid
    rw[if_pos hid] at hq
    exact Y8 hq.2 h2
   ·rename_i hid
    rw[if_neg hid] at hq
    exact absurd hq.1 (by simp)
 | goto l=>exact absurd hq.1 (by simp)
 | ret=>exact absurd hq.1 (by simp)
 | panic ch=>exact absurd hq.1 (by simp)
 | outgrown=>exact absurd hq.1 (by simp)
def U3 (ks:List Nat) (o:Oper):Oper:={ dst:=o.dst,op:=o.op,type:=o.type,pos:=o.pos,after:=o.after.filter fun e=>ks.contains e.on,guard:=o.guard }
def F1:List (Option (List Nat))→List Oper→List Oper
 | some ks :: cs,o :: r=>U3 ks o :: F1 cs r
 | none :: cs,o :: r=>o :: F1 cs r
 | [],l=>l
 | _,[]=>[]
def jO (l:List Oper):Bool:=
 (l.all fun o=>o.guard.isNone)&&((List.range l.length).all fun k=>match l[k]? with|some o=>o.after.toList.all fun e=>!Region.binds .any e||decide (e.on<k)|none=>true)
theorem R5:∀ (cs:List (Option (List Nat))) (l:List Oper),(F1 cs l).length=l.length
 | some ks :: cs,o :: r=>by simp[F1,R5 cs r]
 | none :: cs,o :: r=>by simp[F1,R5 cs r]
 | [],l=>by simp[F1]
 | some _ :: _,[]=>by simp[F1]
 | none :: _,[]=>by simp[F1]
theorem eZ:∀ (cs:List (Option (List Nat))) (l:List Oper) (k:Nat) (o:Oper),l[k]?=some o→∃ ks,(F1 cs l)[k]?=some o∨(F1 cs l)[k]?=some (U3 ks o)
 | some ks :: cs,o :: r,0,o',h=>⟨ks,.inr (by simp at h;subst h;simp[F1])⟩
 | none :: cs,o :: r,0,o',h=>⟨[],.inl (by simp at h;subst h;simp[F1])⟩
 | some ks :: cs,o :: r,k+1,o',h=>by simpa[F1] using eZ cs r k o' (by simpa using h)
 | none :: cs,o :: r,k+1,o',h=>by simpa[F1] using eZ cs r k o' (by simpa using h)
 | [],l,k,o',h=>⟨[],.inl (by simpa[F1] using h)⟩
 | some _ :: _,[],k,o',h=>by simp at h
 | none :: _,[],k,o',h=>by simp at h
section
variable {P:Program} {l:List Oper} {cs:List (Option (List Nat))} {F:Fence} {n:Nat} {Q:Exit→Act→World→Prop}
theorem kM {L:Array Bool} {k:Nat} (h:k∈Region.ready .any l.toArray L):k∈Region.ready .any (F1 cs l).toArray L:=by
 obtain⟨h0,ok,hok,hall⟩:=mem_ready.1 h
 have hok':l[k]?=some ok:=by simpa using hok
 obtain⟨ks,h1|h1⟩:=eZ cs l k ok hok'
 ·exact mem_ready.2 ⟨h0,ok,by simpa using h1,hall⟩
 ·exact mem_ready.2 ⟨h0,U3 ks ok,by simpa using h1,fun e he hb=>hall e (by
   simp only[U3,Array.mem_filter] at he
   exact he.1) hb⟩
theorem pn (hb:jO l=true) {L:Array Bool} (hL:L.size=l.length) (h:Region.ready .any l.toArray L=[]):∀ k,k<l.length→L.getD k false=true:=by
 intro k
 induction k using Nat.strongRecOn with
 | _ k ih =>
   intro hk
   simp only[jO,Bool.and_eq_true] at hb
   cases hv:L.getD k false with
   | true=>rfl
   | false =>
     have h1:=List.all_eq_true.1 hb.2 k (by simpa using hk)
     have hok:l[k]?=some l[k]:=List.getElem?_eq_getElem hk
     rw[hok] at h1
     have:k∈Region.ready .any l.toArray L:=mem_ready.2 ⟨by rw[cE (by rw[hL];exact hk)];exact hv,l[k],by simpa using hok,fun e he hbe=>by
      have h2:=List.all_eq_true.1 h1 e (by simpa using he)
      simp only[hbe,Bool.not_true,Bool.false_or,decide_eq_true_eq] at h2
      exact ih e.on h2 (by omega)⟩
     rw[h] at this;cases this
theorem rq (hb:jO l=true):∀ (f:Nat) (L:Array Bool) (a:Act) (w:World),L.size=l.length →
 wpAnyIn F n P .any (F1 cs l).toArray Q f L a w→wpAnyIn F n P .any l.toArray Q f L a w:=by
 intro f
 induction f with
 | zero =>
   intro L a w hL h
   refine⟨?_,h.2⟩
   rw[List.eq_nil_iff_forall_not_mem]
   intro k hk
   have:=kM (cs:=cs) hk
   rw[h.1] at this;cases this
 | succ f ih =>
   intro L a w hL h
   refine⟨fun h0=>h.1 ?_,fun k hk=>?_⟩
   ·rw[List.eq_nil_iff_forall_not_mem]
    intro k hk
    obtain⟨h1,o,ho,_⟩:=mem_ready.1 hk
    have hkl:k<l.length:=by
     have:=(Array.getElem?_eq_some_iff.1 ho).1
     simpa[R5] using this
    rw[cE (by rw[hL];exact hkl),pn hb hL h0 k hkl] at h1
    cases h1
   ·have h1:=h.2 k (kM hk)
    obtain⟨_,ok,hok,_⟩:=mem_ready.1 hk
    have hok':l[k]?=some ok:=by simpa using hok
    have hg:ok.guard=none:=by
     simp only[jO,Bool.and_eq_true] at hb
     simpa[Option.isNone_iff_eq_none] using List.all_eq_true.1 hb.1 ok (List.mem_of_getElem? hok')
    have hw:∀ o y,o.guard=none→Region.wanted o y=true:=fun o y h=>by simp[Region.wanted,h]
    unfold wpOpIn at h1 ⊢
    simp only[List.getElem?_toArray,hok',hw _ _ hg,if_true]
    obtain⟨ks,e1|e1⟩:=eZ cs l k ok hok'
    ·simp only[List.getElem?_toArray,e1,hw _ _ hg,if_true] at h1
     exact Oper.wpIn_mono (fun a w hh=>ih _ a w (by simpa using hL) hh) h1
    ·simp only[List.getElem?_toArray,e1,hw (U3 ks ok) _ hg,if_true] at h1
     have h2:ok.wpIn F n P a w (wpAnyIn F n P .any (F1 cs l).toArray Q f (L.setIfInBounds k true)) Q:=h1
     exact Oper.wpIn_mono (fun a w hh=>ih _ a w (by simpa using hL) hh) h2
end
theorem Y9 {P:Program} {G:Cr} {id nt:Nat} {n:Cx} {l:List Oper} {S:DS} {Q:Exit→DS→Prop} (cs:List (Option (List Nat))) (p:List Nat) (j:Nat) (st:List (List Nat×List Nat)) (ks:List Nat) (hm:P.follows .mixedOrders=true) (hnt:S.nt=nt)
 (hC:jO l=true) (hP:me p (F1 cs l)=true) (hB:ma nt j st (p9 p (F1 cs l) p)=true)
 (h:jY P G ((p9 p (F1 cs l) p).map (·.dst)) ((p9 p (F1 cs l) p).take j) S (fun Sq=>ZK P G (p9 p (F1 cs l) p) (fun S''=>At Q .normal ⟨⟩ (S''.keep ks)) st j Sq) ⟨⟩):DT P G n (.region id l.toArray true) S Q:=
 fun hn _ a M hr=>wpIn_region_any hm (by
  have hp:=gt hP
  have hl:(p9 p (F1 cs l) p).length=l.length:=by rw[au hp.lt,hp.len,R5]
  have h1:=BD j st ks hnt hB h hn a M hr
  rw[hl] at h1
  have h2:=iB hp l.length (Array.replicate l.length false) (Array.replicate l.length false) _ _ (by simp[R5]) (by simp[R5]) (fun i k hi=>by
   have hi1:i<l.length:=by rw[← R5 cs l,← hp.len];exact e7 hi
   have hk1:=hp.lt k (List.mem_of_getElem? hi)
   rw[R5] at hk1
   simp[hi1,hk1]) h1
  exact rq (cs:=cs) hC l.length (Array.replicate l.length false) _ _ (by simp) h2)
section
variable {P:Program} {G:Cr} {S:DS}
def AB:Op→Option (TypeId×Operand)
 | .slice t x none (some (.const (.int _ a))) (some (.const (.int _ b)))=>if a=0∧b=0 then some (t,x) else none
 | _=>none
def yc (P:Program) (G:Cr) (S:DS) (op:Op) (ty:TypeId):Out:=match AB op with
 | some (t,x)=>match j4 G S x,Q7 P t with
   | some (.one (.im (.sl l))),some e=>match X1 P e with
     | some _=>if l=[] then .bad else .val (.one (.im .e0)) S.objs
     | none=>.bad
   | _,_=>.bad
 | none=>am P G S op ty
def BG (P:Program) (G:Cr) (dsts:List (Option Tmp)):List Oper→DS→(K:DS→Prop)→Tok K→Prop
 | [],S,K,_=>K S
 | o :: l,S,K,tk=>jR (A8 dsts S o)
  (jU P G S.objs (yc P G (S.keep (N2 o.op)) o.op o.type) (fun d=>BG P G dsts l (S.put o.dst d) K tk) ⟨⟩)
  (BG P G dsts l (S.put o.dst (.tup [])) K tk) ⟨⟩
end
section
variable {P:Program} {G:Cr} {ops:Array Oper}
end
attribute [simp] BG yc AB
section
variable {P:Program} {G:Cr} {nt:Nat} {objs:List DObj} {ops:Array Oper}
structure Inv2 (P:Program) (G:Cr) (nt:Nat) (objs:List DObj) (ops:Array Oper) (ks:List Nat) (τ:ae) (M0 Mp:MS) (al:List Nat) (base:Array Bool) (dfs:List Deferred) (f:Nat) (listed:Array Bool) (a:Act) (M:MS):Prop where
 sz:listed.size=ops.size
 cn:listed.toList.count false=f
 cl:Closed ops listed
 rel:RelF G nt objs (D8 ops ks listed τ) a M
 ext:Ext objs.length M0 M
 df:a.defers=dfs
 pd:Pd P Mp ops al listed a M
 hs:Mp.w.heap.size≤M.w.heap.size
 only:∀ i,listed.getD i false=true→base.getD i false=true∨i∈ks
 has:∀ i,base.getD i false=true→listed.getD i false=true
theorem Pd.tmps {M0 M:MS} {ks:List Nat} {listed:Array Bool} {a a':Act} (h:a'.tmps=a.tmps) (hp:Pd P M0 ops ks listed a M):Pd P M0 ops ks listed a' M:=by
 obtain⟨β',h1,h2⟩:=hp
 refine⟨β',fun i o t u hi ho hop hu hl=>?_,h2⟩
 obtain⟨z,z1,q1,q2,q3,q4,q5⟩:=h1 i o t u hi ho hop hu hl
 exact⟨z,z1,q1,q2,q3,by rw[h];exact q4,q5⟩
theorem Q5 {ks:List Nat} {τ:ae} {M0 Mp:MS} {al:List Nat} {base:Array Bool} {dfs:List Deferred} {ro:Option Nat} {Q':Exit→Act→World→Prop} (hd:W3 nt ops) (hal2:∀ i∈ks,i∈al)
 (hY:∀ i∈ks,∃ o d,ops[i]?=some o∧OpS P G nt objs ops o d τ∧∀ u,o.dst=some u→τ u=some d)
 (hdep:∀ i∈ks,∀ o,ops[i]?=some o→∀ k∈ks,∀ o',ops[k]?=some o'→∀ u,o'.dst=some u→u∈o.looksAt ops→∃ e∈o.after,e.on=k∧Region.binds .any e=true)
 (hback:∀ (k:Nat) (o:Oper),ops[k]?=some o→∀ e∈o.after,Region.binds .any e=true→e.on<k)
 (hJ:∀ f listed a M,Inv2 P G nt objs ops ks τ M0 Mp al base dfs (f+1) listed a M→∀ j∈Region.ready .any ops listed,j∉ks→wpOpIn (o4 ro) 0 P ops Q' j (wpAnyIn (o4 ro) 0 P .any ops Q' f (listed.setIfInBounds j true)) a M.w)
 (hE:∀ listed a M,Inv2 P G nt objs ops ks τ M0 Mp al base dfs 0 listed a M→Q' .normal a M.w) :
 ∀ f listed a M,Inv2 P G nt objs ops ks τ M0 Mp al base dfs f listed a M→wpAnyIn (o4 ro) 0 P .any ops Q' f listed a M.w
 | 0,listed,a,M,hi=>by
   refine⟨?_,hE listed a M hi⟩
   rw[List.eq_nil_iff_forall_not_mem]
   intro j hj
   obtain⟨h0,oj,hoj,_⟩:=mem_ready.1 hj
   have hlt:j<listed.size:=by rw[hi.sz];exact(Array.getElem?_eq_some_iff.1 hoj).1
   have hnot:=List.count_eq_zero.1 hi.cn
   refine hnot ?_
   simp[hlt] at h0
   rw[← h0]
   exact Array.getElem_mem_toList hlt
 | f+1,listed,a,M,hi=>by
   refine⟨fun hnil=>?_,fun i hrd=>?_⟩
   ·exfalso
    have hmem:false∈listed.toList:=List.one_le_count_iff.1 (by rw[hi.cn];omega)
    obtain⟨k,hk,hkv⟩:=List.mem_iff_getElem.1 hmem
    have hk':k<listed.size:=by simpa using hk
    have h0:listed.getD k true=false:=by simp[hk'];simpa using hkv
    obtain⟨j,hj⟩:=eN hback hi.sz k h0
    rw[hnil] at hj
    cases hj
   ·by_cases hik:i∈ks
    ·obtain⟨o,d,ho,hop,hdst⟩:=hY i hik
     obtain⟨h0,o',ho',hall⟩:=mem_ready.1 hrd
     rw[ho] at ho';cases ho'
     have hsame:∀ t∈o.looksAt ops,D8 ops ks listed τ t=τ t:=fun t ht=>by
      unfold D8
      rw[if_pos]
      intro k hk ok hok hdk
      obtain⟨e,he,rfl,hb⟩:=hdep i hik o ho k hk ok hok t hdk ht
      exact hall e he hb
     have base1:∀ (a':Act) (M':MS),RelF G nt objs (N3 (D8 ops ks listed τ) o.dst d) a' M'→Ext objs.length M0 M'→a'.defers=dfs→Pd P Mp ops al (listed.setIfInBounds i true) a' M'→Mp.w.heap.size≤M'.w.heap.size →
      Inv2 P G nt objs ops ks τ M0 Mp al base dfs f (listed.setIfInBounds i true) a' M':=fun a' M' h1 h2 h3 h4 h5 =>
      ⟨by simpa using hi.sz,P2 h0 hi.cn,hi.cl.step hrd,h1.le (nG ho hdst),h2,h3,h4,h5,fun j hj=>by
       rcases l7 hj with rfl|hj
       ·exact .inr hik
       ·exact hi.only j hj,fun j hj=>getD_set_true (hi.has j hj)⟩
     rcases hop with⟨t,z,hal,hg,rfl,hz,hzp⟩|⟨hna,hy⟩
     ·obtain⟨v,hrun,hv⟩:=U1 (w:=M.w) hz
      have hex:(execOp a.eval o).run P M.w=.ok (.value (.pointer (some ⟨M.w.heap.size,0,none⟩))) (M.w.alloc (.cells v.cells t)):=by
       simp[execOp,hal,Instr.alloc,hrun,newVar,newRow,newObj,Sem.run]
      have hheap:(M.w.alloc (.cells v.cells t)).heap=M.w.heap.push (.cells v.cells t):=by unfold World.alloc;rfl
      have hold:∀ b,b<M.w.heap.size→(M.w.alloc (.cells v.cells t)).heap[b]?=M.w.heap[b]?:=fun b hb=>by rw[hheap,Array.getElem?_push,if_neg (Nat.ne_of_lt hb)]
      let M1:MS:={ M with w:=M.w.alloc (.cells v.cells t),F:=fun b=>M.F b∨b=M.w.heap.size }
      have he1:Ext M.objs.length M M1:=by
       refine⟨Nat.le_refl _,fun b hb=>⟨⟨?_,hb.2⟩,hold b hb.1⟩,⟨fun b hb=>.inl hb,fun b hb hF=>?_⟩,by simp[M1,hheap],fun p _ c' hc=>⟨⟨c',hc⟩,rfl⟩,fun p _ sz es g nl hv=>⟨sz,es,g,nl,hv,Nat.le_refl _,fun _=>⟨rfl,rfl,fun hn=>⟨rfl,?_⟩⟩⟩,fun p _ ks es hm=>⟨⟨ks,es,hm⟩,rfl⟩,
        fun p _ r hm=>⟨⟨r,hm⟩,rfl⟩,fun p _ d hm hi=>⟨⟨d,hm,hi⟩,rfl⟩,fun p _ r hm=>⟨⟨r,hm⟩,rfl⟩,⟨rfl,rfl,rfl,by first|exact Nat.le_refl _|exact Nat.le_succ _⟩⟩
       ·have:=hb.1;simp only[M1,hheap,Array.size_push];omega
       ·rcases hF with hF|hF
        ·exact hb.2 hF
        ·have:=hb.1.1;omega
       ·simp only[G0,M1]
        rw[hold _ (hi.rel.m.lt p _ hv (by simp[DObj.blk,hn]))]
      have hm1:RelM G M1:=by
       refine⟨fun o d ho=>(hi.rel.m.objs o d ho).ext he1 (fun _=>rfl) (fun hb=>hold _ (hi.rel.m.lt o d ho hb)),fun o d ho hb=>?_,hi.rel.m.inj,fun g l hg=>(hi.rel.m.glob g l hg).mono he1.ok,fun b hF=>?_,fun o d ho hb hF=>?_⟩
       ·have:=hi.rel.m.lt o d ho hb;simp only[M1,hheap,Array.size_push];omega
       ·simp only[M1,hheap,Array.size_push]
        rcases hF with hF|hF
        ·have:=hi.rel.m.fl b hF;omega
        ·omega
       ·rcases hF with hF|hF
        ·exact hi.rel.m.own o d ho hb hF
        ·have:=hi.rel.m.lt o d ho hb;simp only[M1] at hF;omega
      have he1':Ext objs.length M M1:=by rw[← hi.rel.ob];exact he1
      have hr1:=hi.rel.put hm1 (show M1.objs=objs from hi.rel.ob) he1' (d:=.one .dead) (v:=.pointer (some ⟨M.w.heap.size,0,none⟩)) (.one _ _ (.dead _ rfl)) (hd.1 i o ho)
      have hpd1:Pd P Mp ops al (listed.setIfInBounds i true) (a.put o.dst (.pointer (some ⟨M.w.heap.size,0,none⟩))) M1:=by
       obtain⟨β',p1,p2⟩:=hi.pd
       have hlt:∀ (j:Nat) (o':Oper) (t':TypeId),j∈al→ops[j]?=some o'→o'.op=.alloc t'→listed.getD j false=true→o'.dst.isSome=true→β' j<M.w.heap.size:=fun j o' t' hjk hj ht' hl hs=>by
        obtain⟨u,hu⟩:=Option.isSome_iff_exists.1 hs
        obtain⟨_,_,q4,_⟩:=p1 j o' t' u hjk hj ht' hu hl
        exact hi.rel.m.fl _ q4
       refine⟨fun j=>if j=i then M.w.heap.size else β' j,fun j o' t' u hjk hj ht' hu hl=>?_,fun j k o' o'' t1 t2 hjk hkk hj ht1 hlj hk ht2 hlk hs hs' hβ=>?_⟩
       ·by_cases e:j=i
        ·subst e
         rw[ho] at hj;cases hj
         rw[hal] at ht';cases ht'
         refine⟨z,hz,.inr (by simp),?_,hzp,?_,v.cells,t,?_,hv⟩
         ·simp only[if_true];exact hi.hs
         ·simp only[if_true,hu,Act.put]
          rw[Array.getElem?_setIfInBounds_self_of_lt (by rw[hi.rel.nt];exact hd.1 j o ho u hu)]
         ·simp only[if_true];exact J7
        ·have hl':listed.getD j false=true:=(l7 hl).resolve_left e
         obtain⟨z',q1,q4,q5,q2,q3,c,t'',q6,q7⟩:=p1 j o' t' u hjk hj ht' hu hl'
         refine⟨z',q1,by simp only[if_neg e];exact .inl q4,by simp only[if_neg e];exact q5,q2,?_,c,t'',by simp only[if_neg e,M1];rw[hold _ (hi.rel.m.fl _ q4)];exact q6,q7⟩
         simp only[if_neg e]
         cases hdo:o.dst with
         | none=>exact q3
         | some x =>
           have hne:x≠u:=fun e'=>by
            subst e'
            exact e (hd.2 j i o' o x hj ho hu hdo)
           simp only[Act.put]
           rw[Array.getElem?_setIfInBounds_ne hne];exact q3
       ·by_cases e1:j=i<;>by_cases e2:k=i
        ·rw[e1,e2]
        ·simp only[if_pos e1,if_neg e2] at hβ
         have:=hlt k o'' t2 hkk hk ht2 ((l7 hlk).resolve_left e2) hs'
         omega
        ·simp only[if_neg e1,if_pos e2] at hβ
         have:=hlt j o' t1 hjk hj ht1 ((l7 hlj).resolve_left e1) hs
         omega
        ·simp only[if_neg e1,if_neg e2] at hβ
         exact p2 j k o' o'' t1 t2 hjk hkk hj ht1 ((l7 hlj).resolve_left e1) hk ht2 ((l7 hlk).resolve_left e2) hs hs' hβ
      have hw:Region.wanted o (yielded ops a.tmps)=true:=by simp[Region.wanted,hg]
      unfold wpOpIn
      simp only[ho,hw,if_true]
      exact E6 hex (Q5 hd hal2 hY hdep hback hJ hE f _ _ M1 (base1 _ M1 hr1 (hi.ext.trans he1') ((o2 _ _ _).trans hi.df) hpd1 (Nat.le_trans hi.hs he1.hs)))
     ·have hy':=hy.same hsame
      rcases hy' with⟨hw,hoq⟩|⟨hw,rfl⟩
      ·have hw':=K2 hi.rel hw
       unfold wpOpIn
       simp only[ho,hw',if_true]
       exact fo hi.rel hoq fun v M' h2 h3 h4 h5=>Q5 hd hal2 hY hdep hback hJ hE f _ _ M' (base1 _ M' (hi.rel.put h2 h3 h4 h5 (hd.1 i o ho)) (hi.ext.trans h4) ((o2 _ _ _).trans hi.df) (hi.pd.step hd ho hna hi.rel.m h4) (Nat.le_trans hi.hs h4.hs))
      ·have hw':=K2 hi.rel hw
       unfold wpOpIn
       simp only[ho,hw',Bool.false_eq_true,if_false]
       exact⟨fun _ _=>trivial,Q5 hd hal2 hY hdep hback hJ hE f _ _ M (base1 _ M (hi.rel.put hi.rel.m hi.rel.ob (by rw[← hi.rel.ob];exact Ext.refl M) (.tup _ _ rfl (fun j d v h=>by simp at h)) (hd.1 i o ho)) hi.ext ((o2 _ _ _).trans hi.df) (hi.pd.step hd ho hna hi.rel.m (Ext.refl M)) hi.hs)⟩
    ·exact hJ f listed a M hi i hrd hik
end
section
variable {P:Program} {G:Cr}
theorem AX {l:List Oper} {nt:Nat} {objs:List DObj} {Sq:DS} {ks fl kt:List Nat} {Mb M2 Mp:MS} {al:List Nat} {base listed:Array Bool} {dfs:List Deferred} {f i:Nat} {a2:Act} {oj:Oper} {ro:Option Nat} {KK:DS→Prop} {Q':Exit→Act→World→Prop}
 (hd:W3 nt l.toArray) (hnt:Sq.nt=nt) (hob:Sq.objs=objs) (hi:Inv2 P G nt objs l.toArray ks (m7 Sq.tmps) Mb Mp al base dfs (f+1) listed a2 M2)
 (hrdy:i∈Region.ready .any l.toArray listed) (hoj:l[i]?=some oj) (hg:oj.guard=none) (hfl:∀ k∈fl,k∈ks) (hik:i∉ks) (hpl:∀ k∈ks,k∉fl→listed.getD k false=true)
 (hdf:G9 ((pick l fl).map (·.dst))=true) (hnl:S4 l.toArray (pick l fl)=true) (hlt:∀ k∈ks,k<l.length) (hnoj:∀ t,oj.op≠.alloc t)
 (hkt:((pick l fl).all fun o=>match o.dst with|some u=>!kt.contains u|none=>true)=true)
 (hkq:mW P G (l.map (·.dst)) [oj] (Sq.keep kt) (fun S'=>jY P G (l.map (·.dst)) (pick l fl) S' (fun Sf=>Z4 (gM (pick l fl)) Sf.tmps Sq.tmps∧KK Sf) ⟨⟩) ⟨⟩)
 (hnext:∀ (Sf:DS) (a3:Act) (M3:MS),KK Sf→Sf.nt=nt→Sf.objs=M3.objs→Ext objs.length M2 M3→(∀ k∈fl,∃ o d,l.toArray[k]?=some o∧OpS P G nt M3.objs l.toArray o d (m7 Sf.tmps)∧∀ u,o.dst=some u→m7 Sf.tmps u=some d) →
  Inv2 P G nt M3.objs l.toArray fl (m7 Sf.tmps) M3 Mp al (listed.setIfInBounds i true) dfs f (listed.setIfInBounds i true) a3 M3→wpAnyIn (o4 ro) 0 P .any l.toArray Q' f (listed.setIfInBounds i true) a3 M3.w) :
 wpOpIn (o4 ro) 0 P l.toArray Q' i (wpAnyIn (o4 ro) 0 P .any l.toArray Q' f (listed.setIfInBounds i true)) a2 M2.w:=by
 have hoj':l.toArray[i]?=some oj:=by simpa using hoj
 have hrk:Rel G (Sq.keep kt) a2 M2:=by
  refine⟨hi.rel.m,hi.rel.ob.trans hob.symm,hi.rel.nt.trans hnt.symm,hi.rel.df,fun t d ht=>hi.rel.tm t d ?_⟩
  have h1:=aN ht
  have h2:=X7 ht
  unfold D8
  rw[if_pos]
  ·exact h2
  ·intro k hk o ho hu
   by_cases hf:k∈fl
   ·have:=List.all_eq_true.1 hkt o (N4 hf (by simpa using ho))
    rw[hu] at this
    simp at this
    exact absurd h1 this
   ·exact hpl k hk hf
 obtain⟨b,hw,ht,_⟩:=J8 _ _ _ hkq
 have hbt:b=true:=by
  unfold A8 at hw
  rw[hg] at hw
  exact(Option.some.inj hw).symm
 subst hbt
 have hwant:Region.wanted oj (yielded l.toArray a2.tmps)=true:=by simp[Region.wanted,hg]
 unfold wpOpIn
 simp only[hoj',hwant,if_true]
 refine O7 (dR (ht rfl ro a2 M2 hrk)) ?_
 rintro a3 w3 ⟨⟨S3,M3,rfl,r3,e3,d3,k3⟩,v,hput⟩
 have hsz3:S3.nt=nt:=by
  rw[← r3.nt,hput,← hi.rel.nt]
  cases oj.dst<;>simp[Act.put]
 have hob3:S3.objs=M3.objs:=r3.ob.symm
 have hpm:∀ o∈pick l fl,o∈l:=fun o ho=>let ⟨k,_,hk⟩:=K3 ho;List.mem_of_getElem? hk
 have hdst:∀ o∈l,∀ u,o.dst=some u→u<nt:=fun o ho u hu=>by
  obtain⟨k,hk⟩:=List.mem_iff_getElem?.1 ho
  exact hd.1 k o (by simpa using hk) u hu
 obtain⟨Sf,⟨hsame,hkf⟩,f1,f2,f3,f4⟩:=G3 (P:=P) (G:=G) (ops:=l.toArray) (nt:=nt) (objs:=M3.objs) fl (pick l fl) S3 (fm fun k hk=>hlt k (hfl k hk)) hsz3 hob3 (fun o ho=>hdst o (hpm o ho)) (C7 hdf) hnl
  (by simpa using(show jY P G (l.map (·.dst)) (pick l fl) S3 _ ⟨⟩ from k3))
 refine hnext Sf a3 M3 hkf f1 f2 (by rw[← hi.rel.ob];exact e3) f3 ?_
 refine⟨by simpa using hi.sz,P2 (mem_ready.1 hrdy).1 hi.cn,hi.cl.step hrdy,⟨r3.m,rfl,by rw[r3.nt,hsz3],r3.df,fun t d ht=>?_⟩,Ext.refl M3,d3.trans hi.df,(hi.pd.step hd hoj' hnoj hi.rel.m e3).tmps hput,Nat.le_trans hi.hs e3.hs,fun _ h=>.inl h,fun _ h=>h⟩
 unfold D8 at ht
 split at ht
 ·rename_i hvis
  by_cases hfd:∃ k∈fl,∃ o,l.toArray[k]?=some o∧o.dst=some t
  ·obtain⟨k,hk,o,ho,hu⟩:=hfd
   have hki:k≠i:=fun e=>hik (e ▸ hfl k hk)
   have hkl:listed.getD k false=true:=(l7 (hvis k hk o ho hu)).resolve_left hki
   have h1:m7 Sf.tmps t=m7 Sq.tmps t:=V3 hsame (eu (N4 hk (by simpa using ho)) hu)
   obtain⟨x,x1,x2⟩:=hi.rel.tm t d (by
    unfold D8
    rw[if_pos]
    ·rw[← h1];exact ht
    ·intro m hm' o' ho' hu'
     have:=hd.2 k m o o' t ho ho' hu hu'
     subst this
     exact hkl)
   refine⟨x,?_,x2.ext e3⟩
   rw[hput]
   cases hdj:oj.dst with
   | none=>exact x1
   | some y =>
     have hne:y≠t:=fun e=>hki (hd.2 i k oj o t hoj' ho (by rw[hdj,e]) hu).symm
     simp only[Act.put]
     rw[Array.getElem?_setIfInBounds_ne hne];exact x1
  ·have h1:m7 Sf.tmps t=m7 S3.tmps t:=f4 t fun o ho hu=>by
    obtain⟨k,hk,hk'⟩:=K3 ho
    exact hfd ⟨k,hk,o,by simpa using hk',hu⟩
   exact r3.tm t d (by rw[← h1];exact ht)
 ·cases ht
end
section
variable (P:Program) (G:Cr)
end
def mX (l:List Oper):List (List Nat×List Nat)→Nat→List Nat→Bool
 | [],i,_=>decide (0<i)&&decide (i≤l.length)&&((List.range l.length).all fun k=>decide (k<i)||(List.range i).all fun m=>((R6 l []).getD k 0).testBit m) &&
  nK l.toArray (l.length-i) i (fq l.length (i-1))&&decide ((fq l.length (i-1)).toList.count false=l.length-i)
 | (fl,kt) :: r,i,ks=>decide (i<l.length)&&(fl.all fun k=>ks.contains k)&&G9 ((pick l fl).map (·.dst))&&S4 l.toArray (pick l fl) &&
  ((List.range i).all fun m=>fl.contains m||((R6 l []).getD i 0).testBit m)&&((List.range l.length).all fun k=>decide (k≤i)||((R6 l []).getD k 0).testBit i) &&
  ((pick l fl).all fun o=>match o.dst with|some u=>!kt.contains u|none=>true)&&(match l[i]? with|some o=>o.guard.isNone&&(gK o.op).isNone|none=>false)&&mX l r (i+1) fl
section
variable {P:Program} {G:Cr}
def iX (nt j:Nat) (st:List (List Nat×List Nat)) (l:List Oper):Bool:=
 decide (j≤l.length)&&(l.all fun o=>match o.dst with|some t=>decide (t<nt)|none=>true)&&G9 (l.map (·.dst)) &&
 ((List.range l.length).all fun k=>match l[k]? with|some o=>o.after.toList.all fun e=>!Region.binds .any e||decide (e.on<k)|none=>true) &&
 ((List.range j).all fun i=>(List.range j).all fun k=>match l[i]?,l[k]? with
   | some o,some o'=>match o'.dst with|some u=>!(o.looksAt l.toArray).contains u||o.after.toList.any fun e=>decide (e.on=k)&&Region.binds .any e|none=>true
   | _,_=>true) &&
 S4 l.toArray (l.take j)&&mX l st j (List.range j)
end
section
variable {P:Program} {G:Cr} {nt:Nat} {objs:List DObj} {ops:Array Oper}
theorem wA {l:List Oper} {nt:Nat} {objs:List DObj} {Sq:DS} {ks fl kt:List Nat} {Mb M2 Mp:MS} {al:List Nat} {base listed:Array Bool} {dfs:List Deferred} {f i:Nat} {a2:Act} {oj:Oper} {ro:Option Nat} {KK:DS→Prop} {Q':Exit→Act→World→Prop}
 (hd:W3 nt l.toArray) (hnt:Sq.nt=nt) (hob:Sq.objs=objs) (hi:Inv2 P G nt objs l.toArray ks (m7 Sq.tmps) Mb Mp al base dfs (f+1) listed a2 M2)
 (hrdy:i∈Region.ready .any l.toArray listed) (hoj:l[i]?=some oj) (hg:oj.guard=none) (hfl:∀ k∈fl,k∈ks) (hik:i∉ks) (hpl:∀ k∈ks,k∉fl→listed.getD k false=true)
 (hdf:G9 ((pick l fl).map (·.dst))=true) (hnl:S4 l.toArray (pick l fl)=true) (hlt:∀ k∈ks,k<l.length) (hnoj:∀ t,oj.op≠.alloc t)
 (hkt:((pick l fl).all fun o=>match o.dst with|some u=>!kt.contains u|none=>true)=true)
 (hkq:xO P G (l.map (·.dst)) [oj] (Sq.keep kt) (fun S'=>jY P G (l.map (·.dst)) (pick l fl) S' (fun Sf=>Z4 (gM (pick l fl)) Sf.tmps Sq.tmps∧KK Sf) ⟨⟩) ⟨⟩)
 (hnext:∀ (Sf:DS) (a3:Act) (M3:MS),KK Sf→Sf.nt=nt→Sf.objs=M3.objs→Ext objs.length M2 M3→(∀ k∈fl,∃ o d,l.toArray[k]?=some o∧OpS P G nt M3.objs l.toArray o d (m7 Sf.tmps)∧∀ u,o.dst=some u→m7 Sf.tmps u=some d) →
  Inv2 P G nt M3.objs l.toArray fl (m7 Sf.tmps) M3 Mp al (listed.setIfInBounds i true) dfs f (listed.setIfInBounds i true) a3 M3→wpAnyIn (o4 ro) 0 P .any l.toArray Q' f (listed.setIfInBounds i true) a3 M3.w) :
 wpOpIn (o4 ro) 0 P l.toArray Q' i (wpAnyIn (o4 ro) 0 P .any l.toArray Q' f (listed.setIfInBounds i true)) a2 M2.w:=by
 have hoj':l.toArray[i]?=some oj:=by simpa using hoj
 have hrk:Rel G (Sq.keep kt) a2 M2:=by
  refine⟨hi.rel.m,hi.rel.ob.trans hob.symm,hi.rel.nt.trans hnt.symm,hi.rel.df,fun t d ht=>hi.rel.tm t d ?_⟩
  have h1:=aN ht
  have h2:=X7 ht
  unfold D8
  rw[if_pos]
  ·exact h2
  ·intro k hk o ho hu
   by_cases hf:k∈fl
   ·have:=List.all_eq_true.1 hkt o (N4 hf (by simpa using ho))
    rw[hu] at this
    simp at this
    exact absurd h1 this
   ·exact hpl k hk hf
 obtain⟨b,hw,ht,_⟩:=U8 _ _ _ hkq
 have hbt:b=true:=by
  unfold A8 at hw
  rw[hg] at hw
  exact(Option.some.inj hw).symm
 subst hbt
 have hwant:Region.wanted oj (yielded l.toArray a2.tmps)=true:=by simp[Region.wanted,hg]
 unfold wpOpIn
 simp only[hoj',hwant,if_true]
 refine O7 (dR (ht rfl ro a2 M2 hrk)) ?_
 rintro a3 w3 ⟨⟨S3,M3,rfl,r3,e3,d3,k3⟩,v,hput⟩
 have hsz3:S3.nt=nt:=by
  rw[← r3.nt,hput,← hi.rel.nt]
  cases oj.dst<;>simp[Act.put]
 have hob3:S3.objs=M3.objs:=r3.ob.symm
 have hpm:∀ o∈pick l fl,o∈l:=fun o ho=>let ⟨k,_,hk⟩:=K3 ho;List.mem_of_getElem? hk
 have hdst:∀ o∈l,∀ u,o.dst=some u→u<nt:=fun o ho u hu=>by
  obtain⟨k,hk⟩:=List.mem_iff_getElem?.1 ho
  exact hd.1 k o (by simpa using hk) u hu
 obtain⟨Sf,⟨hsame,hkf⟩,f1,f2,f3,f4⟩:=G3 (P:=P) (G:=G) (ops:=l.toArray) (nt:=nt) (objs:=M3.objs) fl (pick l fl) S3 (fm fun k hk=>hlt k (hfl k hk)) hsz3 hob3 (fun o ho=>hdst o (hpm o ho)) (C7 hdf) hnl
  (by simpa using(show jY P G (l.map (·.dst)) (pick l fl) S3 _ ⟨⟩ from k3))
 refine hnext Sf a3 M3 hkf f1 f2 (by rw[← hi.rel.ob];exact e3) f3 ?_
 refine⟨by simpa using hi.sz,P2 (mem_ready.1 hrdy).1 hi.cn,hi.cl.step hrdy,⟨r3.m,rfl,by rw[r3.nt,hsz3],r3.df,fun t d ht=>?_⟩,Ext.refl M3,d3.trans hi.df,(hi.pd.step hd hoj' hnoj hi.rel.m e3).tmps hput,Nat.le_trans hi.hs e3.hs,fun _ h=>.inl h,fun _ h=>h⟩
 unfold D8 at ht
 split at ht
 ·rename_i hvis
  by_cases hfd:∃ k∈fl,∃ o,l.toArray[k]?=some o∧o.dst=some t
  ·obtain⟨k,hk,o,ho,hu⟩:=hfd
   have hki:k≠i:=fun e=>hik (e ▸ hfl k hk)
   have hkl:listed.getD k false=true:=(l7 (hvis k hk o ho hu)).resolve_left hki
   have h1:m7 Sf.tmps t=m7 Sq.tmps t:=V3 hsame (eu (N4 hk (by simpa using ho)) hu)
   obtain⟨x,x1,x2⟩:=hi.rel.tm t d (by
    unfold D8
    rw[if_pos]
    ·rw[← h1];exact ht
    ·intro m hm' o' ho' hu'
     have:=hd.2 k m o o' t ho ho' hu hu'
     subst this
     exact hkl)
   refine⟨x,?_,x2.ext e3⟩
   rw[hput]
   cases hdj:oj.dst with
   | none=>exact x1
   | some y =>
     have hne:y≠t:=fun e=>hki (hd.2 i k oj o t hoj' ho (by rw[hdj,e]) hu).symm
     simp only[Act.put]
     rw[Array.getElem?_setIfInBounds_ne hne];exact x1
  ·have h1:m7 Sf.tmps t=m7 S3.tmps t:=f4 t fun o ho hu=>by
    obtain⟨k,hk,hk'⟩:=K3 ho
    exact hfd ⟨k,hk,o,by simpa using hk',hu⟩
   exact r3.tm t d (by rw[← h1];exact ht)
 ·cases ht
end
section
variable (P:Program) (G:Cr)
def Aa (j:Nat) (l:List Oper) (K:DS→Prop):List (List Nat×List Nat)→Nat→DS→Prop
 | [],i,S=>xO P G (l.map (·.dst)) (l.drop i) (dH S (T6 P (l.take j))) K ⟨⟩
 | (fl,kt) :: r,i,Sq=>xO P G (l.map (·.dst)) (pick l [i]) (Sq.keep kt) (fun S'=>jY P G (l.map (·.dst)) (pick l fl) S' (fun Sf=>Z4 (gM (pick l fl)) Sf.tmps Sq.tmps∧Aa j l K r (i+1) Sf) ⟨⟩) ⟨⟩
end
section
variable {P:Program} {G:Cr}
theorem xF {l:List Oper} {nt j:Nat} {n:Cx} {Q:Exit→DS→Prop} {kp:List Nat} {a:Act} {M:MS} {ro:Option Nat} (hd:W3 nt l.toArray) (hj:j≤l.length)
 (hdep:∀ i,i<j→∀ o,l.toArray[i]?=some o→∀ k,k<j→∀ o',l.toArray[k]?=some o'→∀ u,o'.dst=some u→u∈o.looksAt l.toArray→∃ e∈o.after,e.on=k∧Region.binds .any e=true)
 (hback:∀ (k:Nat) (o:Oper),l.toArray[k]?=some o→∀ e∈o.after,Region.binds .any e=true→e.on<k) (hmask:ck l.toArray (R6 l [])) (hAl:Al l.toArray (List.range j) (l.take j)) {Mp:MS} (hmp:RelM G Mp) (hMMp:Ext n.n M Mp) :
 ∀ (st:List (List Nat×List Nat)) (i:Nat) (ks:List Nat) (Sq:DS) (objs:List DObj) (Mb:MS) (base:Array Bool),mX l st i ks=true→(∀ k∈ks,k<j)→j≤i→Sq.nt=nt→Sq.objs=objs→n.n≤objs.length→Ext n.n Mp Mb →
  (∀ k∈ks,∃ o d,l.toArray[k]?=some o∧OpS P G nt objs l.toArray o d (m7 Sq.tmps)∧∀ u,o.dst=some u→m7 Sq.tmps u=some d) →
  (∀ k,base.getD k false=true→k<i)→(∀ k,k<i→k∉ks→base.getD k false=true)→Aa P G j l (fun S''=>At Q .normal ⟨⟩ (S''.keep kp)) st i Sq →
  ∀ f listed a2 M2,Inv2 P G nt objs l.toArray ks (m7 Sq.tmps) Mb Mp (List.range j) base a.defers f listed a2 M2 →
   wpAnyIn (o4 ro) 0 P .any l.toArray (fun e a' w'=>∃ S' M',M'.w=w'∧Rel G S' a' M'∧Ext n.n M M'∧NewD M a a'∧Q e S') f listed a2 M2.w:=by
 have unl:∀ {listed:Array Bool} {k:Nat},k∈Region.ready .any l.toArray listed→listed.getD k false≠true:=fun {listed k} hk e=>by
  have h0:=(mem_ready.1 hk).1
  rcases Nat.lt_or_ge k listed.size with h'|h'
  ·simp[h'] at h0 e;rw[h0] at e;cases e
  ·simp[Array.getElem?_eq_none h'] at e
 have alll:∀ {listed:Array Bool},listed.toList.count false=0→∀ m,m<listed.size→listed.getD m false=true:=fun {listed} h m hm'=>by
  have hnot:=List.count_eq_zero.1 h
  cases hv:listed[m] with
  | true=>simp[hm',hv]
  | false=>exact absurd (by rw[← hv];exact Array.getElem_mem_toList hm') hnot
 intro st
 induction st with
 | nil =>
   intro i ks Sq objs Mb base hz hks hji hnt hob hno hMb hY hb1 hb2 hK f listed a2 M2 hi
   simp only[mX,Bool.and_eq_true,decide_eq_true_eq] at hz
   obtain⟨⟨⟨⟨z0,zl⟩,z1⟩,z2⟩,z3⟩:=hz
   have fin:∀ f' listed' a4 M4,Inv2 P G nt objs l.toArray ks (m7 Sq.tmps) Mb Mp (List.range j) base a.defers f' listed' a4 M4→(∀ k∈ks,listed'.getD k false=true) →
    wpAnyIn (o4 ro) 0 P .any l.toArray (fun e a' w'=>∃ S' M',M'.w=w'∧Rel G S' a' M'∧Ext n.n M M'∧NewD M a a'∧Q e S') f' listed' a4 M4.w:=by
    intro f' listed' a4 M4 hi4 hfl4
    have hL:listed'=fq l.length (i-1):=by
     refine lP (by simpa using hi4.sz) fun k hk=>⟨fun hkl=>?_,fun hkl=>?_⟩
     ·rcases hi4.only k hkl with h1|h1
      ·have:=hb1 k h1;omega
      ·have:=hks k h1;omega
     ·by_cases hkf:k∈ks
      ·exact hfl4 k hkf
      ·exact hi4.has k (hb2 k (by omega) hkf)
    have hf':f'=(l.drop i).length:=by rw[← hi4.cn,hL,z3];simp
    have hrel:Rel G Sq a4 M4:=⟨hi4.rel.m,by rw[hi4.rel.ob,hob],by rw[hi4.rel.nt,hnt],hi4.rel.df,fun t d ht=>hi4.rel.tm t d (by
     unfold D8
     rw[if_pos]
     ·exact ht
     ·exact fun k hk _ _ _=>hfl4 k hk)⟩
    have hn4:n.n≤M4.objs.length:=by rw[hi4.rel.ob];exact hno
    have half:∀ k∈List.range j,listed'.getD k false=true:=fun k hk=>by
     have hkj:k<j:=by simpa using hk
     by_cases hkf:k∈ks
     ·exact hfl4 k hkf
     ·exact hi4.has k (hb2 k (by omega) hkf)
    obtain⟨β',p1,p2⟩:=hi4.pd
    obtain⟨bs,c1,c2,c3,_⟩:=dF (P:=P) (ops:=l.toArray) (M0:=Mp) (M:=M4) (a:=a4) (β':=β') (List.range j) (l.take j) hAl List.nodup_range
     (fun k hk o t u ho hop hu=>p1 k o t u hk ho hop hu (half k hk))
     (fun k hk m hm' o o' t t' ho ho' hop hop' hs hs' e=>p2 k m o o' t t' hk hm' ho hop (half k hk) ho' hop' (half m hm') hs hs' e)
    obtain⟨MT,t1,t2,t3,t4,_⟩:=bh (M0:=Mp) (n:=n.n) hmp (T6 P (l.take j)) bs Sq M4 hrel (hMb.trans (hi4.ext.weaken hno)) hn4 c1 c2 c3
    rw[hf',hL,← t4]
    refine L2 (P:=P) (G:=G) (ops:=l.toArray) (ro:=ro) n.n (fun S''=>At Q .normal ⟨⟩ (S''.keep kp)) (l.drop i) i _ (dH Sq (T6 P (l.take j))) a4 MT (fun k hk=>by simp) (by rw[List.length_drop];exact z2) t1 t3 (by simpa using U8 _ _ _ hK) ?_
    intro S5 a5 M5 hr5 he5 hd5 hq5
    obtain⟨M6,w6,r6,e6⟩:=Weak.keep (G:=G) (n:=n) (S:=S5) (ks:=kp) (by rw[← hr5.ob];exact he5.len) a5 M5 hr5
    exact⟨_,M6,w6,r6,(hMMp.trans t2).trans (he5.trans e6),.same (hd5.trans hi4.df),hq5⟩
   refine Q5 (P:=P) (G:=G) (nt:=nt) (objs:=objs) (ops:=l.toArray) (ks:=ks) (τ:=m7 Sq.tmps) (M0:=Mb) (Mp:=Mp) (al:=List.range j) (base:=base) (dfs:=a.defers) (ro:=ro) hd (fun k hk=>by have:=hks k hk;simpa using this) hY
    (fun k hk o ho m hm'=>hdep k (hks k hk) o ho m (hks m hm')) hback ?_ ?_ f listed a2 M2 hi
   ·intro f' listed' a4 M4 hi4 k hk4 hkf
    have hik:i≤k:=by
     rcases Nat.lt_or_ge k i with h|h
     ·exact absurd (hi4.has k (hb2 k h hkf)) (unl hk4)
     ·exact h
    refine(fin _ listed' a4 M4 hi4 fun m hm'=>?_).2 k hk4
    obtain⟨_,ok,hok,hall⟩:=mem_ready.1 hk4
    have h1:=List.all_eq_true.1 z1 k (by simpa using(Array.getElem?_eq_some_iff.1 hok).1)
    simp only[Bool.or_eq_true,decide_eq_true_eq] at h1
    have h2:=h1.resolve_left (by omega)
    exact hmask k m ok hok (List.all_eq_true.1 h2 m (by have:=hks m hm';simp;omega)) listed' hi4.cl hall
   ·intro listed' a4 M4 hi4
    exact(fin 0 listed' a4 M4 hi4 fun m hm'=>alll hi4.cn m (by rw[hi4.sz];have:=hks m hm';simp;omega)).2
 | cons x r ih =>
   obtain⟨fl,kt⟩:=x
   intro i ks Sq objs Mb base hz hks hji hnt hob hno hMb hY hb1 hb2 hK f listed a2 M2 hi
   simp only[mX,Bool.and_eq_true,decide_eq_true_eq] at hz
   obtain⟨⟨⟨⟨⟨⟨⟨⟨z0,z1⟩,z2⟩,z3⟩,z4⟩,z5⟩,z6⟩,z7⟩,z8⟩:=hz
   have hfl:∀ k∈fl,k∈ks:=fun k hk=>by simpa using List.all_eq_true.1 z1 k hk
   obtain⟨oi,hoi⟩:∃ o,l[i]?=some o:=⟨l[i],List.getElem?_eq_getElem z0⟩
   rw[hoi] at z7
   have hz7:oi.guard=none∧gK oi.op=none:=by simpa[Option.isNone_iff_eq_none] using z7
   have hgi:=hz7.1
   have hiks:i∉ks:=fun h=>by have:=hks i h;omega
   have hpk:pick l [i]=[oi]:=by simp[pick,hoi]
   simp only[Aa] at hK
   rw[hpk] at hK
   have hun:∀ {f' listed' a4 M4},Inv2 P G nt objs l.toArray ks (m7 Sq.tmps) Mb Mp (List.range j) base a.defers f' listed' a4 M4→listed'.getD i false≠true:=fun hi4 e=>by
    rcases hi4.only i e with h|h
    ·have:=hb1 i h;omega
    ·exact hiks h
   refine Q5 (P:=P) (G:=G) (nt:=nt) (objs:=objs) (ops:=l.toArray) (ks:=ks) (τ:=m7 Sq.tmps) (M0:=Mb) (Mp:=Mp) (al:=List.range j) (base:=base) (dfs:=a.defers) (ro:=ro) hd (fun k hk=>by have:=hks k hk;simpa using this) hY
    (fun k hk o ho m hm'=>hdep k (hks k hk) o ho m (hks m hm')) hback ?_ ?_ f listed a2 M2 hi
   ·intro f' listed' a4 M4 hi4 k hk4 hkf
    obtain⟨_,ok,hok,hall⟩:=mem_ready.1 hk4
    have hki:k=i:=by
     rcases Nat.lt_trichotomy k i with h|h|h
     ·exact absurd (hi4.has k (hb2 k h hkf)) (unl hk4)
     ·exact h
     ·have h1:=List.all_eq_true.1 z5 k (by simpa using(Array.getElem?_eq_some_iff.1 hok).1)
      simp only[Bool.or_eq_true,decide_eq_true_eq] at h1
      exact absurd (hmask k i ok hok (h1.resolve_left (by omega)) listed' hi4.cl hall) (hun hi4)
    subst hki
    have hpl:∀ m,m<k→m∉fl→listed'.getD m false=true:=fun m hm' hmf=>by
     have h1:=List.all_eq_true.1 z4 m (by simpa using hm')
     simp only[Bool.or_eq_true,List.contains_iff_mem] at h1
     exact hmask k m ok hok (h1.resolve_left hmf) listed' hi4.cl hall
    refine wA (fl:=fl) (kt:=kt) hd hnt hob hi4 hk4 hoi hgi hfl hkf (fun m hm'=>hpl m (by have:=hks m hm';omega)) z2 z3 (fun m hm'=>by have:=hks m hm';omega) (fun t=>cC hz7.2 t) z6 hK ?_
    intro Sf a3 M3 hkf' f1 f2 e3 f3 hi3
    refine ih (k+1) fl Sf M3.objs M3 (listed'.setIfInBounds k true) z8 (fun m hm'=>hks m (hfl m hm')) (by omega) f1 f2 (Nat.le_trans hno e3.len) ((hMb.trans (hi4.ext.weaken hno)).trans (e3.weaken hno)) f3 (fun m hm'=>?_) (fun m hm' hmf=>?_) hkf' f' _ a3 M3 hi3
    ·rcases l7 hm' with rfl|h1
     ·omega
     ·rcases hi4.only m h1 with h2|h2
      ·have:=hb1 m h2;omega
      ·have:=hks m h2;omega
    ·rcases Nat.eq_or_lt_of_le (Nat.le_of_lt_succ hm') with rfl|hlt
     ·have:m<listed'.size:=by rw[hi4.sz];simpa using z0
      simp[this]
     ·exact getD_set_true (hpl m hlt hmf)
   ·intro listed' a4 M4 hi4
    exact absurd (alll hi4.cn i (by rw[hi4.sz];simpa using z0)) (hun hi4)
theorem AU {nt:Nat} {n:Cx} {l:List Oper} {S:DS} {Q:Exit→DS→Prop} (j:Nat) (st:List (List Nat×List Nat)) (kp:List Nat) (hnt:S.nt=nt) (hB:iX nt j st l=true)
 (h:jY P G (l.map (·.dst)) (l.take j) S (fun Sq=>Aa P G j l (fun S''=>At Q .normal ⟨⟩ (S''.keep kp)) st j Sq) ⟨⟩):n.n≤S.objs.length→∀ (a:Act) (M:MS),Rel G S a M →
 wpAnyIn (o4 (n.rd.map M.β)) 0 P .any l.toArray (fun e a' w'=>∃ S' M',M'.w=w'∧Rel G S' a' M'∧Ext n.n M M'∧NewD M a a'∧Q e S') l.length (Array.replicate l.length false) a { M.w with drawn:=M.w.drawn+1 }:=by
 intro hn a M hr
 simp only[iX,Bool.and_eq_true,decide_eq_true_eq] at hB
 obtain⟨⟨⟨⟨⟨⟨b1,b4⟩,b5⟩,b6⟩,b7⟩,b8⟩,bz⟩:=hB
 subst hnt
 have hdst:∀ o∈l,∀ u,o.dst=some u→u<S.nt:=fun o ho u hu=>by
  have:=List.all_eq_true.1 b4 o ho
  simpa[hu] using this
 have hpw:=C7 b5
 have hd:W3 S.nt l.toArray:=by
  refine⟨fun i o ho u hu=>hdst o (by simpa using Array.mem_of_getElem? ho) u hu,fun i k o o' u ho ho' hu hu'=>?_⟩
  have hi:l[i]?=some o:=by simpa using ho
  have hk:l[k]?=some o':=by simpa using ho'
  obtain⟨hil,hi'⟩:=List.getElem?_eq_some_iff.1 hi
  obtain⟨hkl,hk'⟩:=List.getElem?_eq_some_iff.1 hk
  rw[List.pairwise_iff_getElem] at hpw
  rcases Nat.lt_trichotomy i k with hlt|he|hlt
  ·exact absurd (show (l.map (·.dst))[i]'(by simpa using hil)=(l.map (·.dst))[k]'(by simpa using hkl) by simp[hi',hk',hu,hu']) (hpw i k (by simpa using hil) (by simpa using hkl) hlt (by simp[hi',hu]))
  ·exact he
  ·exact absurd (show (l.map (·.dst))[k]'(by simpa using hkl)=(l.map (·.dst))[i]'(by simpa using hil) by simp[hi',hk',hu,hu']) (hpw k i (by simpa using hkl) (by simpa using hil) hlt (by simp[hk',hu']))
 have hback:∀ (k:Nat) (o:Oper),l.toArray[k]?=some o→∀ e∈o.after,Region.binds .any e=true→e.on<k:=fun k o ho e he hb=>by
  have hk:l[k]?=some o:=by simpa using ho
  have:=List.all_eq_true.1 b6 k (by simpa using(List.getElem?_eq_some_iff.1 hk).1)
  rw[hk] at this
  have:=List.all_eq_true.1 this e (by simpa using he)
  simpa[hb] using this
 have hdep:∀ i,i<j→∀ o,l.toArray[i]?=some o→∀ k,k<j→∀ o',l.toArray[k]?=some o'→∀ u,o'.dst=some u→u∈o.looksAt l.toArray→∃ e∈o.after,e.on=k∧Region.binds .any e=true:=fun i hi o ho k hk o' ho' u hu hl=>by
  have h1:=List.all_eq_true.1 (List.all_eq_true.1 b7 i (by simpa using hi)) k (by simpa using hk)
  rw[show l[i]?=some o by simpa using ho,show l[k]?=some o' by simpa using ho'] at h1
  simp only[hu,Bool.or_eq_true,Bool.not_eq_true',List.any_eq_true,Bool.and_eq_true,decide_eq_true_eq] at h1
  rcases h1 with h1|⟨e,he,h2,h3⟩
  ·have:(o.looksAt l.toArray).contains u=true:=by simpa using hl
   rw[h1] at this;cases this
  ·exact⟨e,by simpa using he,h2,h3⟩
 have hmask:ck l.toArray (R6 l []):=W7 l [] (fun j _=>by simp) (fun j i oj _ h=>by simp at h)
 obtain⟨hm1,he1⟩:=RelM.same (w':={ M.w with drawn:=M.w.drawn+1 }) hr.m rfl ⟨rfl,rfl,rfl,by first|exact Nat.le_refl _|exact Nat.le_succ _⟩
 have hAl:Al l.toArray (List.range j) (l.take j):=by
  have gen:∀ (m k:Nat),k+m≤l.length→Al l.toArray (List.range' k m) ((l.drop k).take m):=by
   intro m
   induction m with
   | zero=>intro k _;simp[Al,List.range']
   | succ m ih =>
     intro k hk
     have hk':k<l.length:=by omega
     rw[List.range'_succ,List.drop_eq_getElem_cons hk',List.take_succ_cons]
     exact⟨by simp,ih (k+1) (by omega)⟩
  have:=gen j 0 (by omega)
  rwa [List.drop_zero,← List.range_eq_range'] at this
 obtain⟨Sq,hkq,q1,q2,q3,q4⟩:=G3 (P:=P) (G:=G) (ops:=l.toArray) (nt:=S.nt) (objs:=S.objs) (List.range j) (l.take j) S hAl rfl rfl (fun o ho=>hdst o (List.mem_of_mem_take ho))
  (by rw[List.map_take];exact hpw.take) b8 (by simpa using h)
 let Md:MS:={ M with w:={ M.w with drawn:=M.w.drawn+1 } }
 have hobs:M.objs.length=S.objs.length:=by rw[hr.ob]
 refine xF (n:=n) (Q:=Q) (kp:=kp) (M:=M) hd b1 hdep hback hmask hAl (Mp:=Md) hm1 (he1.weaken (by rw[hobs];exact hn)) st j (List.range j) Sq S.objs Md (Array.replicate l.length false) bz (fun k hk=>by simpa using hk) (Nat.le_refl _) q1 q2 hn ((Ext.refl Md).weaken (by show n.n≤M.objs.length;rw[hobs];exact hn)) q3
  (fun k hk=>by rw[m6] at hk;cases hk) (fun k hk hk'=>absurd (by simpa using hk) hk') hkq l.length _ a Md ?_
 refine⟨by simp,by simp,fun k o _ hk=>?_,⟨hm1,hr.ob,hr.nt,hr.df,fun t d ht=>?_⟩,by rw[← hr.ob];exact Ext.refl Md,rfl,⟨fun _=>0,fun k o t u _ _ _ _ hk=>?_,fun k m o o' t t' _ _ _ _ hk=>?_⟩,Nat.le_refl _,fun k hk=>?_,fun _ h=>h⟩
 ·rw[m6] at hk;cases hk
 ·unfold D8 at ht
  split at ht
  ·rename_i hvis
   have h4:m7 Sq.tmps t=m7 S.tmps t:=q4 t fun o ho hu=>by
    obtain⟨k,hk⟩:=List.mem_iff_getElem?.1 ho
    have hkj:k<j:=by
     have:=(List.getElem?_eq_some_iff.1 hk).1
     simp at this;omega
    rw[List.getElem?_take_of_lt hkj] at hk
    have:=hvis k (by simpa using hkj) o (by simpa using hk) hu
    rw[m6] at this;cases this
   obtain⟨v,h1,h2⟩:=hr.tm t d (by rw[← h4];exact ht)
   exact⟨v,h1,h2.ext he1⟩
  ·cases ht
 ·rw[m6] at hk;cases hk
 ·rw[m6] at hk;cases hk
 ·rw[m6] at hk;cases hk
end
theorem oJ {P:Program} {G:Cr} {id nt:Nat} {n:Cx} {l:List Oper} {S:DS} {Q:Exit→DS→Prop} (p:List Nat) (j:Nat) (st:List (List Nat×List Nat)) (ks:List Nat) (hm:P.follows .mixedOrders=true) (hnt:S.nt=nt) (hP:me p l=true) (hB:iX nt j st (p9 p l p)=true)
 (h:jY P G ((p9 p l p).map (·.dst)) ((p9 p l p).take j) S (fun Sq=>Aa P G j (p9 p l p) (fun S''=>At Q .normal ⟨⟩ (S''.keep ks)) st j Sq) ⟨⟩):DT P G n (.region id l.toArray true) S Q:=
 fun hn _ a M hr=>wpIn_region_any hm (by
  have hp:=gt hP
  have hl:(p9 p l p).length=l.length:=by rw[au hp.lt,hp.len]
  have h1:=AU j st ks hnt hB h hn a M hr
  rw[hl] at h1
  refine iB hp _ _ _ _ _ (by simp) (by simp) (fun i k hi=>?_) h1
  have hi1:i<l.length:=by rw[← hp.len];exact e7 hi
  have hk1:=hp.lt k (List.mem_of_getElem? hi)
  simp[hi1,hk1])
end Go.Ab
