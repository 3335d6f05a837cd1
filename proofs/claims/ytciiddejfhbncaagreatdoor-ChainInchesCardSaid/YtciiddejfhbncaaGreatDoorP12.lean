/- Part 12 of the proofs: laws and walks that hold without conditions beyond those that each theorem names. -/
import Derived.ProofKit
import Derived.LaidMore
import Derived.Stop.Joined
import Derived.Carry
import Derived.OpenShut
import Derived.Test.YtciiddejfhbncaaGreatDoorP11
set_option linter.all false
set_option linter.deprecated false
namespace Go.Ab
open Go
section
variable (P:Program) (G:Nat→Option (List IC))
def ZK (l:List Oper) (K:DS→Prop):List (List Nat×List Nat)→Nat→DS→Prop
 | [],i,S=>RTe P G (l.map (·.dst)) (l.drop i) S K ⟨⟩
 | (fl,kt) :: r,i,Sq=>RTe P G (l.map (·.dst)) (pick l [i]) (Sq.keep kt) (fun S'=>RXe P G (l.map (·.dst)) (pick l fl) S' (fun Sf=>sameAt (dstL (pick l fl)) Sf.tmps Sq.tmps∧ZK l K r (i + 1) Sf) ⟨⟩) ⟨⟩
end
def zOkL (l:List Oper):List (List Nat×List Nat)→Nat→List Nat→Bool
 | [],i,_=>decide (0 < i) && decide (i≤l.length) && ((List.range l.length).all fun k=>decide (k < i) || (List.range i).all fun m=>((closL l []).getD k 0).testBit m) &&
  lexT l.toArray (l.length - i) i (upTo l.length (i - 1)) && decide ((upTo l.length (i - 1)).toList.count false=l.length - i)
 | (fl,kt) :: r,i,ks=>decide (i < l.length) && (fl.all fun k=>ks.contains k) && distinct ((pick l fl).map (·.dst)) && noLook l.toArray (pick l fl) &&
  ((List.range i).all fun m=>fl.contains m || ((closL l []).getD i 0).testBit m) && ((List.range l.length).all fun k=>decide (k≤i) || ((closL l []).getD k 0).testBit i) &&
  ((pick l fl).all fun o=>match o.dst with|some u=>!kt.contains u|none=>true) && (match l[i]? with|some o=>o.guard.isNone|none=>false) && zOkL l r (i + 1) fl
section
variable {P:Program} {G:Nat→Option (List IC)}
theorem chainZ {l:List Oper} {nt j:Nat} {n:Cx} {Q:Exit→DS→Prop} {kp:List Nat} {a:Act} {M:MS} {ro:Option Nat} (hd:dstsOk nt l.toArray) (hj:j≤l.length)
 (hdep:∀ i,i < j→∀ o,l.toArray[i]?=some o→∀ k,k < j→∀ o',l.toArray[k]?=some o'→∀ u,o'.dst=some u→u∈o.looksAt l.toArray→∃ e∈o.after,e.on=k∧Region.binds .any e=true)
 (hback:∀ (k:Nat) (o:Oper),l.toArray[k]?=some o→∀ e∈o.after,Region.binds .any e=true→e.on < k) (hmask:MaskOk l.toArray (closL l [])) (hnoal:∀ i,i < j→∀ o,l.toArray[i]?=some o→∀ t,o.op≠.alloc t) :
 ∀ (st:List (List Nat×List Nat)) (i:Nat) (ks:List Nat) (Sq:DS) (objs:List DObj) (Mb:MS) (base:Array Bool),zOkL l st i ks=true→(∀ k∈ks,k < j)→j≤i→Sq.nt=nt→Sq.objs=objs→n.n≤objs.length→Ext n.n M Mb →
  (∀ k∈ks,∃ o d,l.toArray[k]?=some o∧OpS P G nt objs l.toArray o d (tget Sq.tmps)∧∀ u,o.dst=some u→tget Sq.tmps u=some d) →
  (∀ k,base.getD k false=true→k < i)→(∀ k,k < i→k∉ks→base.getD k false=true)→ZK P G l (fun S''=>At Q .normal ⟨⟩ (S''.keep kp)) st i Sq →
  ∀ f listed a2 M2,Inv P G nt objs l.toArray ks (tget Sq.tmps) Mb base a.defers f listed a2 M2 →
   wpAnyIn (fenceR ro) 0 P .any l.toArray (fun e a' w'=>∃ S' M',M'.w=w'∧Rel G S' a' M'∧Ext n.n M M'∧NewD M a a'∧Q e S') f listed a2 M2.w:=by
 have unl:∀ {listed:Array Bool} {k:Nat},k∈Region.ready .any l.toArray listed→listed.getD k false≠true:=fun {listed k} hk e=>by
  have h0:=(mem_ready.1 hk).1
  rcases Nat.lt_or_ge k listed.size with h'|h'
  ·simp [h'] at h0 e;rw [h0] at e;cases e
  ·simp [Array.getElem?_eq_none h'] at e
 have alll:∀ {listed:Array Bool},listed.toList.count false=0→∀ m,m < listed.size→listed.getD m false=true:=fun {listed} h m hm'=>by
  have hnot:=List.count_eq_zero.1 h
  cases hv:listed[m] with
  | true=>simp [hm',hv]
  | false=>exact absurd (by rw [← hv];exact Array.getElem_mem_toList hm') hnot
 intro st
 induction st with
 | nil =>
   intro i ks Sq objs Mb base hz hks hji hnt hob hno hMb hY hb1 hb2 hK f listed a2 M2 hi
   simp only [zOkL,Bool.and_eq_true,decide_eq_true_eq] at hz
   obtain ⟨⟨⟨⟨z0,zl⟩,z1⟩,z2⟩,z3⟩:=hz
   have fin:∀ f' listed' a4 M4,Inv P G nt objs l.toArray ks (tget Sq.tmps) Mb base a.defers f' listed' a4 M4→(∀ k∈ks,listed'.getD k false=true) →
    wpAnyIn (fenceR ro) 0 P .any l.toArray (fun e a' w'=>∃ S' M',M'.w=w'∧Rel G S' a' M'∧Ext n.n M M'∧NewD M a a'∧Q e S') f' listed' a4 M4.w:=by
    intro f' listed' a4 M4 hi4 hfl4
    have hL:listed'=upTo l.length (i - 1):=by
     refine upTo_eq (by simpa using hi4.sz) fun k hk=>⟨fun hkl=>?_,fun hkl=>?_⟩
     ·rcases hi4.only k hkl with h1|h1
      ·have:=hb1 k h1;omega
      ·have:=hks k h1;omega
     ·by_cases hkf:k∈ks
      ·exact hfl4 k hkf
      ·exact hi4.has k (hb2 k (by omega) hkf)
    have hf':f'=(l.drop i).length:=by rw [← hi4.cn,hL,z3];simp
    have hrel:Rel G Sq a4 M4:=⟨hi4.rel.m,by rw [hi4.rel.ob,hob],by rw [hi4.rel.nt,hnt],hi4.rel.df,fun t d ht=>hi4.rel.tm t d (by
     unfold maskT
     rw [if_pos]
     ·exact ht
     ·exact fun k hk _ _ _=>hfl4 k hk)⟩
    have hn4:n.n≤M4.objs.length:=by rw [hi4.rel.ob];exact hno
    have eM4:Ext n.n M M4:=hMb.trans (hi4.ext.weaken hno)
    rw [hf',hL]
    refine wpAny_of_RT (P:=P) (G:=G) (ops:=l.toArray) (ro:=ro) n.n (fun S''=>At Q .normal ⟨⟩ (S''.keep kp)) (l.drop i) i _ Sq a4 M4 (fun k hk=>by simp) (by rw [List.length_drop];exact z2) hrel hn4 (by simpa using RTe_sound _ _ _ hK) ?_
    intro S5 a5 M5 hr5 he5 hd5 hq5
    obtain ⟨M6,w6,r6,e6⟩:=Weak.keep (G:=G) (n:=n) (S:=S5) (ks:=kp) (by rw [← hr5.ob];exact he5.len) a5 M5 hr5
    exact ⟨_,M6,w6,r6,eM4.trans (he5.trans e6),.same (hd5.trans hi4.df),hq5⟩
   refine wpAny_soup (P:=P) (G:=G) (nt:=nt) (objs:=objs) (ops:=l.toArray) (ks:=ks) (τ:=tget Sq.tmps) (M0:=Mb) (base:=base) (dfs:=a.defers) (ro:=ro) hd hY
    (fun k hk o ho m hm'=>hdep k (hks k hk) o ho m (hks m hm')) hback ?_ ?_ f listed a2 M2 hi
   ·intro f' listed' a4 M4 hi4 k hk4 hkf
    have hik:i≤k:=by
     rcases Nat.lt_or_ge k i with h|h
     ·exact absurd (hi4.has k (hb2 k h hkf)) (unl hk4)
     ·exact h
    refine (fin _ listed' a4 M4 hi4 fun m hm'=>?_).2 k hk4
    obtain ⟨_,ok,hok,hall⟩:=mem_ready.1 hk4
    have h1:=List.all_eq_true.1 z1 k (by simpa using (Array.getElem?_eq_some_iff.1 hok).1)
    simp only [Bool.or_eq_true,decide_eq_true_eq] at h1
    have h2:=h1.resolve_left (by omega)
    exact hmask k m ok hok (List.all_eq_true.1 h2 m (by have:=hks m hm';simp;omega)) listed' hi4.cl hall
   ·intro listed' a4 M4 hi4
    exact (fin 0 listed' a4 M4 hi4 fun m hm'=>alll hi4.cn m (by rw [hi4.sz];have:=hks m hm';simp;omega)).2
 | cons x r ih =>
   obtain ⟨fl,kt⟩:=x
   intro i ks Sq objs Mb base hz hks hji hnt hob hno hMb hY hb1 hb2 hK f listed a2 M2 hi
   simp only [zOkL,Bool.and_eq_true,decide_eq_true_eq] at hz
   obtain ⟨⟨⟨⟨⟨⟨⟨⟨z0,z1⟩,z2⟩,z3⟩,z4⟩,z5⟩,z6⟩,z7⟩,z8⟩:=hz
   have hfl:∀ k∈fl,k∈ks:=fun k hk=>by simpa using List.all_eq_true.1 z1 k hk
   obtain ⟨oi,hoi⟩:∃ o,l[i]?=some o:=⟨l[i],List.getElem?_eq_getElem z0⟩
   rw [hoi] at z7
   have hgi:oi.guard=none:=by simpa [Option.isNone_iff_eq_none] using z7
   have hiks:i∉ks:=fun h=>by have:=hks i h;omega
   have hpk:pick l [i]=[oi]:=by simp [pick,hoi]
   simp only [ZK] at hK
   rw [hpk] at hK
   have hun:∀ {f' listed' a4 M4},Inv P G nt objs l.toArray ks (tget Sq.tmps) Mb base a.defers f' listed' a4 M4→listed'.getD i false≠true:=fun hi4 e=>by
    rcases hi4.only i e with h|h
    ·have:=hb1 i h;omega
    ·exact hiks h
   refine wpAny_soup (P:=P) (G:=G) (nt:=nt) (objs:=objs) (ops:=l.toArray) (ks:=ks) (τ:=tget Sq.tmps) (M0:=Mb) (base:=base) (dfs:=a.defers) (ro:=ro) hd hY
    (fun k hk o ho m hm'=>hdep k (hks k hk) o ho m (hks m hm')) hback ?_ ?_ f listed a2 M2 hi
   ·intro f' listed' a4 M4 hi4 k hk4 hkf
    obtain ⟨_,ok,hok,hall⟩:=mem_ready.1 hk4
    have hki:k=i:=by
     rcases Nat.lt_trichotomy k i with h|h|h
     ·exact absurd (hi4.has k (hb2 k h hkf)) (unl hk4)
     ·exact h
     ·have h1:=List.all_eq_true.1 z5 k (by simpa using (Array.getElem?_eq_some_iff.1 hok).1)
      simp only [Bool.or_eq_true,decide_eq_true_eq] at h1
      exact absurd (hmask k i ok hok (h1.resolve_left (by omega)) listed' hi4.cl hall) (hun hi4)
    subst hki
    have hpl:∀ m,m < k→m∉fl→listed'.getD m false=true:=fun m hm' hmf=>by
     have h1:=List.all_eq_true.1 z4 m (by simpa using hm')
     simp only [Bool.or_eq_true,List.contains_iff_mem] at h1
     exact hmask k m ok hok (h1.resolve_left hmf) listed' hi4.cl hall
    refine stageY (fl:=fl) (kt:=kt) hd hnt hob hi4 hk4 hoi hgi hfl hkf (fun m hm'=>hpl m (by have:=hks m hm';omega)) z2 z3 (fun m hm'=>by have:=hks m hm';omega) (fun m hm'=>hnoal m (hks m hm')) z6 hK ?_
    intro Sf a3 M3 hkf' f1 f2 e3 f3 hi3
    refine ih (k + 1) fl Sf M3.objs M3 (listed'.setIfInBounds k true) z8 (fun m hm'=>hks m (hfl m hm')) (by omega) f1 f2 (Nat.le_trans hno e3.len) ((hMb.trans (hi4.ext.weaken hno)).trans (e3.weaken hno)) f3 (fun m hm'=>?_) (fun m hm' hmf=>?_) hkf' f' _ a3 M3 hi3
    ·rcases getD_set_true' hm' with rfl|h1
     ·omega
     ·rcases hi4.only m h1 with h2|h2
      ·have:=hb1 m h2;omega
      ·have:=hks m h2;omega
    ·rcases Nat.eq_or_lt_of_le (Nat.le_of_lt_succ hm') with rfl|hlt
     ·have:m < listed'.size:=by rw [hi4.sz];simpa using z0
      simp [this]
     ·exact getD_set_true (hpl m hlt hmf)
   ·intro listed' a4 M4 hi4
    exact absurd (alll hi4.cn i (by rw [hi4.sz];simpa using z0)) (hun hi4)
def regionZ (nt j:Nat) (st:List (List Nat×List Nat)) (l:List Oper):Bool:=
 decide (j≤l.length) && (l.all fun o=>match o.dst with|some t=>decide (t < nt)|none=>true) && distinct (l.map (·.dst)) &&
 ((List.range l.length).all fun k=>match l[k]? with|some o=>o.after.toList.all fun e=>!Region.binds .any e || decide (e.on < k)|none=>true) &&
 ((List.range j).all fun i=>(List.range j).all fun k=>match l[i]?,l[k]? with
   | some o,some o'=>match o'.dst with|some u=>!(o.looksAt l.toArray).contains u || o.after.toList.any fun e=>decide (e.on=k) && Region.binds .any e|none=>true
   | _,_=>true) &&
 noLook l.toArray (l.take j) && ((l.take j).all fun o=>(isAl o.op).isNone) && zOkL l st j (List.range j)
theorem anyZ {nt:Nat} {n:Cx} {l:List Oper} {S:DS} {Q:Exit→DS→Prop} (j:Nat) (st:List (List Nat×List Nat)) (kp:List Nat) (hnt:S.nt=nt) (hB:regionZ nt j st l=true)
 (h:RXe P G (l.map (·.dst)) (l.take j) S (fun Sq=>ZK P G l (fun S''=>At Q .normal ⟨⟩ (S''.keep kp)) st j Sq) ⟨⟩):n.n≤S.objs.length→∀ (a:Act) (M:MS),Rel G S a M →
 wpAnyIn (fenceR (n.rd.map M.β)) 0 P .any l.toArray (fun e a' w'=>∃ S' M',M'.w=w'∧Rel G S' a' M'∧Ext n.n M M'∧NewD M a a'∧Q e S') l.length (Array.replicate l.length false) a { M.w with drawn:=M.w.drawn + 1 }:=by
 intro hn a M hr
 simp only [regionZ,Bool.and_eq_true,decide_eq_true_eq] at hB
 obtain ⟨⟨⟨⟨⟨⟨⟨b1,b4⟩,b5⟩,b6⟩,b7⟩,b8⟩,b13⟩,bz⟩:=hB
 subst hnt
 have hdst:∀ o∈l,∀ u,o.dst=some u→u < S.nt:=fun o ho u hu=>by
  have:=List.all_eq_true.1 b4 o ho
  simpa [hu] using this
 have hpw:=distinct_spec b5
 have hd:dstsOk S.nt l.toArray:=by
  refine ⟨fun i o ho u hu=>hdst o (by simpa using Array.mem_of_getElem? ho) u hu,fun i k o o' u ho ho' hu hu'=>?_⟩
  have hi:l[i]?=some o:=by simpa using ho
  have hk:l[k]?=some o':=by simpa using ho'
  obtain ⟨hil,hi'⟩:=List.getElem?_eq_some_iff.1 hi
  obtain ⟨hkl,hk'⟩:=List.getElem?_eq_some_iff.1 hk
  rw [List.pairwise_iff_getElem] at hpw
  rcases Nat.lt_trichotomy i k with hlt|he|hlt
  ·exact absurd (show (l.map (·.dst))[i]'(by simpa using hil)=(l.map (·.dst))[k]'(by simpa using hkl) by simp [hi',hk',hu,hu']) (hpw i k (by simpa using hil) (by simpa using hkl) hlt (by simp [hi',hu]))
  ·exact he
  ·exact absurd (show (l.map (·.dst))[k]'(by simpa using hkl)=(l.map (·.dst))[i]'(by simpa using hil) by simp [hi',hk',hu,hu']) (hpw k i (by simpa using hkl) (by simpa using hil) hlt (by simp [hk',hu']))
 have hback:∀ (k:Nat) (o:Oper),l.toArray[k]?=some o→∀ e∈o.after,Region.binds .any e=true→e.on < k:=fun k o ho e he hb=>by
  have hk:l[k]?=some o:=by simpa using ho
  have:=List.all_eq_true.1 b6 k (by simpa using (List.getElem?_eq_some_iff.1 hk).1)
  rw [hk] at this
  have:=List.all_eq_true.1 this e (by simpa using he)
  simpa [hb] using this
 have hdep:∀ i,i < j→∀ o,l.toArray[i]?=some o→∀ k,k < j→∀ o',l.toArray[k]?=some o'→∀ u,o'.dst=some u→u∈o.looksAt l.toArray→∃ e∈o.after,e.on=k∧Region.binds .any e=true:=fun i hi o ho k hk o' ho' u hu hl=>by
  have h1:=List.all_eq_true.1 (List.all_eq_true.1 b7 i (by simpa using hi)) k (by simpa using hk)
  rw [show l[i]?=some o by simpa using ho,show l[k]?=some o' by simpa using ho'] at h1
  simp only [hu,Bool.or_eq_true,Bool.not_eq_true',List.any_eq_true,Bool.and_eq_true,decide_eq_true_eq] at h1
  rcases h1 with h1|⟨e,he,h2,h3⟩
  ·have:(o.looksAt l.toArray).contains u=true:=by simpa using hl
   rw [h1] at this;cases this
  ·exact ⟨e,by simpa using he,h2,h3⟩
 have hmask:MaskOk l.toArray (closL l []):=closL_spec l [] (fun j _=>by simp) (fun j i oj _ h=>by simp at h)
 have hnoal:∀ i,i < j→∀ o,l.toArray[i]?=some o→∀ t,o.op≠.alloc t:=fun i hi o ho t=>by
  have:=List.all_eq_true.1 b13 o (List.mem_of_getElem? (i:=i) (by rw [List.getElem?_take_of_lt hi];simpa using ho))
  exact isAl_none (by simpa [Option.isNone_iff_eq_none] using this) t
 obtain ⟨hm1,he1⟩:=RelM.same (w':={ M.w with drawn:=M.w.drawn + 1 }) hr.m rfl ⟨rfl,rfl,rfl,by first|exact Nat.le_refl _|exact Nat.le_succ _⟩
 have hAl:Al l.toArray (List.range j) (l.take j):=by
  have gen:∀ (m k:Nat),k + m≤l.length→Al l.toArray (List.range' k m) ((l.drop k).take m):=by
   intro m
   induction m with
   | zero=>intro k _;simp [Al,List.range']
   | succ m ih =>
     intro k hk
     have hk':k < l.length:=by omega
     rw [List.range'_succ,List.drop_eq_getElem_cons hk',List.take_succ_cons]
     exact ⟨by simp,ih (k + 1) (by omega)⟩
  have:=gen j 0 (by omega)
  rwa [List.drop_zero,← List.range_eq_range'] at this
 obtain ⟨Sq,hkq,q1,q2,q3,q4⟩:=soup_of_RXe (P:=P) (G:=G) (ops:=l.toArray) (nt:=S.nt) (objs:=S.objs) (List.range j) (l.take j) S hAl rfl rfl (fun o ho=>hdst o (List.mem_of_mem_take ho))
  (by rw [List.map_take];exact hpw.take) b8 (by simpa using h)
 let Md:MS:={ M with w:={ M.w with drawn:=M.w.drawn + 1 } }
 have hobs:M.objs.length=S.objs.length:=by rw [hr.ob]
 refine chainZ (n:=n) (Q:=Q) (kp:=kp) (M:=M) hd b1 hdep hback hmask hnoal st j (List.range j) Sq S.objs Md (Array.replicate l.length false) bz (fun k hk=>by simpa using hk) (Nat.le_refl _) q1 q2 hn (he1.weaken (by rw [hobs];exact hn)) q3
  (fun k hk=>by rw [replicate_getD] at hk;cases hk) (fun k hk hk'=>absurd (by simpa using hk) hk') hkq l.length _ a Md ?_
 refine ⟨by simp,by simp,fun k o _ hk=>?_,⟨hm1,hr.ob,hr.nt,hr.df,fun t d ht=>?_⟩,by rw [← hr.ob];exact Ext.refl Md,rfl,⟨fun _=>0,fun k o t u _ _ _ _ hk=>?_,fun k m o o' t t' _ _ _ _ hk=>?_⟩,fun k hk=>?_,fun _ h=>h⟩
 ·rw [replicate_getD] at hk;cases hk
 ·unfold maskT at ht
  split at ht
  ·rename_i hvis
   have h4:tget Sq.tmps t=tget S.tmps t:=q4 t fun o ho hu=>by
    obtain ⟨k,hk⟩:=List.mem_iff_getElem?.1 ho
    have hkj:k < j:=by
     have:=(List.getElem?_eq_some_iff.1 hk).1
     simp at this;omega
    rw [List.getElem?_take_of_lt hkj] at hk
    have:=hvis k (by simpa using hkj) o (by simpa using hk) hu
    rw [replicate_getD] at this;cases this
   obtain ⟨v,h1,h2⟩:=hr.tm t d (by rw [← h4];exact ht)
   exact ⟨v,h1,h2.ext he1⟩
  ·cases ht
 ·rw [replicate_getD] at hk;cases hk
 ·rw [replicate_getD] at hk;cases hk
 ·rw [replicate_getD] at hk;cases hk
end
end Go.Ab
namespace Go.Ab
open Go
section
variable {P:Program} {G:Nat→Option (List IC)}
theorem DCall.last {f:FuncId} {args:List DV} {Q:Nat→Nat→Nat→List (List IC)→Bool→Prop}
 (h:DCall P G f args [] (fun d o=>∃ k g len sz es nl,d=.one (.vec k g 0 len)∧o[k]?=some (.vec sz (ims es) g nl)∧Q g len sz es nl)) :
 DCall P G f args [] (fun d o=>∃ g len sz es nl,d=.one (.vec 0 g 0 len)∧o=[.vec sz (ims es) g nl]∧Q g len sz es nl):=by
 intro M vs h1 h2 h3 h4
 refine (h M vs h1 h2 h3 h4).mono ?_
 rintro e w' ⟨v,d,M',rfl,rfl,hm,hv,he,k,g,len,sz,es,nl,rfl,ho,hq⟩
 have hlt:k < M'.objs.length:=lt_of_getElem? ho
 let M'':MS:={ w:=M'.w,β:=fun _=>M'.β k,objs:=[.vec sz (ims es) g nl],F:=M'.F }
 have hlive:∀ b,M''.live b→M'.live b:=by
  rintro b ⟨o,d,h5,h6,h7⟩
  have h8:=lt_of_getElem? h5
  have:o=0:=by simp [M''] at h8;exact h8
  subst this
  simp only [M'',List.getElem?_cons_zero,Option.some.injEq] at h5
  subst h5
  exact ⟨k,_,ho,h6,h7⟩
 have hfree:∀ b,M'.free b→M''.free b:=fun b hb=>⟨hb.1,fun hl=>hb.2 (hlive b hl)⟩
 have hok:∀ b,M'.ok b→M''.ok b∧M''.w.heap[b]?=M'.w.heap[b]?:=fun b hb=>⟨⟨hfree b hb.1,hb.2⟩,rfl⟩
 have hel:∀ (i:Nat) (x:List DC),(ims es)[i]?=some x→∀ (j:Nat) (d:DC) (v:Value),x[j]?=some d→RepC M' d v→RepC M'' d v:=fun i x hx j d v hd r=>by
  rw [ims_get,Option.map_eq_some_iff] at hx
  obtain ⟨y,_,rfl⟩:=hx
  rw [List.getElem?_map,Option.map_eq_some_iff] at hd
  obtain ⟨c,_,rfl⟩:=hd
  cases r with
  | im _ _ r=>exact .im _ _ (r.mono hok)
 have hone:∀ {o:Nat} {d:DObj},M''.objs[o]?=some d→o=0∧d=.vec sz (ims es) g nl:=fun {o d} h=>by
  have h8:=lt_of_getElem? h
  have:o=0:=by simp [M''] at h8;exact h8
  subst this
  simp only [M'',List.getElem?_cons_zero,Option.some.injEq] at h
  exact ⟨rfl,h.symm⟩
 have hR:RelO M'' 0 (.vec sz (ims es) g nl):=by
  obtain ⟨a1,a2⟩:=hm.objs k _ ho
  refine ⟨a1,fun hn=>?_⟩
  obtain ⟨b0,c,T,b1,b2,b3,b4⟩:=a2 hn
  exact ⟨b0,c,T,b1,b2,b3,fun i x j d v hx hd hcv=>hel i x hx j d v hd (b4 i x j d v hx hd hcv)⟩
 refine ⟨v,.one (.vec 0 g 0 len),M'',rfl,rfl,⟨fun o d h=>?_,fun o d h hb=>?_,fun o o' d d' h h' _ _ _=>?_,fun g' l hg=>(hm.glob g' l hg).mono hok,hm.fl,fun o d h hb=>?_⟩,?_,?_,g,len,sz,es,nl,rfl,rfl,hq⟩
 ·obtain ⟨rfl,rfl⟩:=hone h;exact hR
 ·obtain ⟨rfl,rfl⟩:=hone h;exact hm.lt k _ ho hb
 ·obtain ⟨rfl,rfl⟩:=hone h;obtain ⟨rfl,rfl⟩:=hone h';rfl
 ·obtain ⟨rfl,rfl⟩:=hone h;exact hm.own k _ ho hb
 ·cases hv with
  | one _ _ hc=>cases hc with
    | vec _ _ _ _ _ c1 c2 c3 =>
      refine .one _ _ (.vec _ _ _ _ _ c1 (by simp [M'']) fun sz1 es1 g1 nl1 h5=>?_)
      simp only [M'',List.getElem?_cons_zero,Option.some.injEq] at h5
      injection h5 with e1 e2 e3 e4
      subst e1;subst e2;subst e3;subst e4
      exact c3 _ _ _ _ ho
 ·refine ⟨by simp,fun b hb=>⟨hfree b (he.free b hb).1,(he.free b hb).2⟩,he.other,he.hs,fun o h=>by simp at h,fun o h=>by simp at h,fun o h=>by simp at h,fun o h=>by simp at h,fun o h=>by simp at h,fun o h=>by simp at h,he.io⟩
end
end Go.Ab
namespace Go.Ab
open Go
section
variable {P:Program} {G:Nat→Option (List IC)} {n:Cx} {S:DS} {Q:Exit→DS→Prop}
def evalR (G:Nat→Option (List IC)) (S:DS):Operand→Option DV
 | .const (.slice none 0 0)=>some (.one (.im (.raw (.slice none 0 0))))
 | x=>evalG G S x
def evalsR (G:Nat→Option (List IC)) (S:DS):List Operand→Option (List DV)
 | []=>some []
 | x :: r=>match evalR G S x,evalsR G S r with
   | some d,some l=>some (d :: l)
   | _,_=>none
theorem evalR_sound {a:Act} {M:MS} (hr:Rel G S a M) {x:Operand} {d:DV} (h:evalR G S x=some d):RepV M d (a.eval x):=by
 unfold evalR at h
 split at h
 ·cases h;exact .one _ _ (.im _ _ (.raw _ rfl))
 ·exact evalG_sound hr h
theorem evalsR_sound {a:Act} {M:MS} (hr:Rel G S a M):∀ (l:List Operand) (ds:List DV),evalsR G S l=some ds→l.length=ds.length∧∀ (j:Nat) (d:DV) (v:Value),ds[j]?=some d→(l.map a.eval)[j]?=some v→RepV M d v
 | [],ds,h=>by
   cases h
   exact ⟨rfl,fun j d v h=>by simp at h⟩
 | x :: r,ds,h=>by
   simp only [evalsR] at h
   split at h
   ·rename_i d l hd hl
    cases h
    obtain ⟨h1,h2⟩:=evalsR_sound hr r l hl
    refine ⟨by simp [h1],fun j e v he hv=>?_⟩
    cases j with
    | zero=>simp at he hv;subst he;subst hv;exact evalR_sound hr hd
    | succ j=>exact h2 j e v (by simpa using he) (by simpa using hv)
   ·cases h
theorem OpT_callR {o:Oper} {K:DS→Prop} {x:Operand} {xs:Array Operand} {ts:Array TypeId} {d:DV} {f:FuncId} {caps as:List DV} (ho:o.op=.call { callee:=.value x,args:=xs,argTypes:=ts })
 (hx:evalG G S x=some d) (hc:dcallee d=some (f,caps)) (ha:evalsR G S xs.toList=some as) (hcall:∀ args w,(callFunc f args).run P w=.ok (.enter f args) w)
 (h:DCall P G f (as ++ caps) S.objs (fun d objs'=>K ({ S with objs:=objs' }.put o.dst d))):OpT P G o S K:=by
 intro ro a M hr
 have hp:=evalG_sound hr hx
 obtain ⟨hl,hrep⟩:=evalsR_sound hr _ _ ha
 generalize hv:a.eval x=v at hp
 have key:∀ (vs:Array Value),v=.func (.func f) #[] vs→vs.size=caps.length→(∀ (j:Nat) (d:DV) (u:Value),caps[j]?=some d→vs[j]?=some u→RepV M d u) →
  o.wpIn (fenceR ro) 0 P a M.w (fun a' w'=>∃ S' M',M'.w=w'∧Rel G S' a' M'∧Ext M.objs.length M M'∧a'.defers=a.defers∧K S') (fun _ _ _=>False):=by
  rintro vs rfl hvs hcr
  have hrun:(execOp a.eval o).run P M.w=.ok (.enter f ((xs.map a.eval) ++ vs)) M.w:=by
   simp only [execOp,ho,Sem.run_bind,resolve,hv,Deferred.ofValue,Sem.run_pure,Result.andThen_ok,invoke,Array.empty_append,hcall]
  refine wpIn_enter hrun ?_
  have hsz:(xs.map a.eval).size=as.length:=by simp [← hl]
  refine (h M _ hr.m hr.ob (by simp [← hl,hvs]) fun j e u he hu=>?_).mono ?_
  ·by_cases hj:j < as.length
   ·rw [List.getElem?_append_left hj] at he
    rw [Array.getElem?_append_left (by omega)] at hu
    refine hrep j e u he ?_
    rw [← hu,← Array.toList_map,Array.getElem?_toList]
   ·rw [List.getElem?_append_right (by omega)] at he
    rw [Array.getElem?_append_right (by omega),hsz] at hu
    exact hcr _ e u he hu
  ·rintro e w' ⟨v,d,M',rfl,rfl,hm,hd,he,hk⟩
   have he':Ext M.objs.length M M':=by rw [hr.ob];exact he
   exact ⟨v,rfl,_,M',rfl,hr.put hm he' hd o.dst,he',put_defers _ _ _,hk⟩
 unfold dcallee at hc
 split at hc
 ·cases hc
  cases hp with
  | one _ _ hp=>cases hp with
    | im _ _ hp=>cases hp with
      | fn _ _ vs h1 h2 =>
        refine key vs rfl (by simp [h1]) fun j d u hj hu=>?_
        rw [List.getElem?_map,Option.map_eq_some_iff] at hj
        obtain ⟨c,hc,rfl⟩:=hj
        exact .one _ _ (.im _ _ (h2 j c u hc hu))
 ·cases hc
  cases hp with
  | one _ _ hp=>cases hp with
    | fn _ _ vs h1 h2 =>
      refine key vs rfl (by simp [h1]) fun j d u hj hu=>?_
      rw [List.getElem?_map,Option.map_eq_some_iff] at hj
      obtain ⟨c,hc,rfl⟩:=hj
      exact .one _ _ (h2 j c u hc hu)
 ·cases hc
def stepR (P:Program) (G:Nat→Option (List IC)) (S:DS) (op:Op) (ty:TypeId):Out:=match kindOf op with
 | .call x xs=>match evalG G S x,evalsR G S xs with
   | some d,some as=>outC (dcallee d) as
   | _,_=>.bad
 | k=>stepK P G S op ty k
def RTr (P:Program) (G:Nat→Option (List IC)) (dsts:List (Option Tmp)):List Oper→DS→(K:DS→Prop)→Tok K→Prop
 | [],S,K,_=>K S
 | o :: l,S,K,tk=>Want (wantedA dsts S o)
  (Next P G S.objs (stepR P G S o.op o.type) (fun d objs'=>RTr P G dsts l (DS.put { S with objs:=objs' } o.dst d) K tk) ⟨⟩)
  (RTr P G dsts l (S.put o.dst (.tup [])) K tk) ⟨⟩
theorem NextR_sound {dsts:List (Option Tmp)} {l:List Oper} {o:Oper} {K:DS→Prop} {C:DV→List DObj→Prop}
 (hC:∀ d objs',C d objs'→RT P G dsts l (DS.put { S with objs:=objs' } o.dst d) K) (h1:Next P G S.objs (stepR P G S o.op o.type) C ⟨⟩):OpT P G o S (fun S'=>RT P G dsts l S' K):=by
 unfold stepR at h1
 split at h1
 ·rename_i x xs hk
  split at h1
  ·rename_i d as hd has
   generalize hc:dcallee d=c at h1
   cases c with
   | none=>exact h1.elim
   | some p =>
     obtain ⟨f,caps⟩:=p
     obtain ⟨ys,ts,ho,rfl⟩:=kindOf_call hk
     exact OpT_callR ho hd hc has h1.1 (DCall.mono h1.2 fun d objs' hk=>hC _ _ hk)
  ·exact h1.elim
 ·exact Next_sound hC h1
theorem RTr_sound {dsts:List (Option Tmp)}:∀ (l:List Oper) (S:DS) (K:DS→Prop),RTr P G dsts l S K ⟨⟩→RT P G dsts l S K
 | [],S,K,h=>h
 | o :: l,S,K,h=>by
   rw [RTr] at h
   generalize hb:wantedA dsts S o=r at h
   cases r with
   | none=>exact h.elim
   | some b=>exact ⟨b,hb,fun e=>NextR_sound (fun d objs' hk=>RTr_sound l _ K hk) (h.1 e),fun e=>RTr_sound l _ K (h.2 e)⟩
theorem DT_regionR {id:Nat} {l:List Oper} (ks:List Nat) (h:RTr P G (l.map (·.dst)) l S (fun S'=>At Q .normal ⟨⟩ (S'.keep ks)) ⟨⟩):DT P G n (.region id l.toArray false) S Q:=by
 have h1:=DT_region (id:=id) (n:=n) (Q:=fun e S'=>e=.normal∧Q .normal (S'.keep ks)) (RT_mono (RTr_sound l S _ h) (fun S' h=>⟨rfl,h⟩))
 intro hn hd a M hr
 refine wpIn_mono (h1 hn hd a M hr) ?_
 rintro e a' w' ⟨S',M',rfl,hr',he,hnd,rfl,hq⟩
 obtain ⟨M2,w2,r2,e2⟩:=Weak.keep (G:=G) (n:=n) (S:=S') (ks:=ks) (by rw [← hr'.ob];exact he.len) a' M' hr'
 exact ⟨_,M2,w2,r2,he.trans e2,hnd,hq⟩
end
attribute [simp] RTr stepR evalR evalsR
end Go.Ab
namespace Go.Ab
open Go
def StopQ (G:Nat→Option (List IC)) (n:Cx) (S0:DS) (e:Exit) (S:DS):Prop:=e=.normal∧Weak G n S S0
theorem DT_stop {P:Program} {G:Nat→Option (List IC)} {n:Cx} {id:Nat} {c y:Code} {S:DS} {Q1 Q2:Exit→DS→Prop} (S0:DS) (h1:DT P G n c S (blockQ id (StopQ G n S0))) (h2:DT P G n y S0 Q1) :
 DT P G n c S (blockQ id (thenQ (fun S'=>DT P G n y S' Q1) Q2)):=by
 refine h1.mono fun e S' hq=>?_
 cases e with
 | normal=>exact DT_weak hq.2 h2
 | exit id' =>
   simp only [blockQ] at hq ⊢
   split
   ·rename_i hid
    rw [if_pos hid] at hq
    exact DT_weak hq.2 h2
   ·rename_i hid
    rw [if_neg hid] at hq
    exact absurd hq.1 (by simp)
 | goto l=>exact absurd hq.1 (by simp)
 | ret=>exact absurd hq.1 (by simp)
 | panic ch=>exact absurd hq.1 (by simp)
 | outgrown=>exact absurd hq.1 (by simp)
end Go.Ab
namespace Go.Ab
open Go
def cutE (ks:List Nat) (o:Oper):Oper:={ dst:=o.dst,op:=o.op,type:=o.type,pos:=o.pos,after:=o.after.filter fun e=>ks.contains e.on,guard:=o.guard }
def cutL:List (Option (List Nat))→List Oper→List Oper
 | some ks :: cs,o :: r=>cutE ks o :: cutL cs r
 | none :: cs,o :: r=>o :: cutL cs r
 | [],l=>l
 | _,[]=>[]
def backOk (l:List Oper):Bool:=
 (l.all fun o=>o.guard.isNone) && ((List.range l.length).all fun k=>match l[k]? with|some o=>o.after.toList.all fun e=>!Region.binds .any e || decide (e.on < k)|none=>true)
theorem cutL_len:∀ (cs:List (Option (List Nat))) (l:List Oper),(cutL cs l).length=l.length
 | some ks :: cs,o :: r=>by simp [cutL,cutL_len cs r]
 | none :: cs,o :: r=>by simp [cutL,cutL_len cs r]
 | [],l=>by simp [cutL]
 | some _ :: _,[]=>by simp [cutL]
 | none :: _,[]=>by simp [cutL]
theorem cutL_get:∀ (cs:List (Option (List Nat))) (l:List Oper) (k:Nat) (o:Oper),l[k]?=some o→∃ ks,(cutL cs l)[k]?=some o∨(cutL cs l)[k]?=some (cutE ks o)
 | some ks :: cs,o :: r,0,o',h=>⟨ks,.inr (by simp at h;subst h;simp [cutL])⟩
 | none :: cs,o :: r,0,o',h=>⟨[],.inl (by simp at h;subst h;simp [cutL])⟩
 | some ks :: cs,o :: r,k + 1,o',h=>by simpa [cutL] using cutL_get cs r k o' (by simpa using h)
 | none :: cs,o :: r,k + 1,o',h=>by simpa [cutL] using cutL_get cs r k o' (by simpa using h)
 | [],l,k,o',h=>⟨[],.inl (by simpa [cutL] using h)⟩
 | some _ :: _,[],k,o',h=>by simp at h
 | none :: _,[],k,o',h=>by simp at h
section
variable {P:Program} {l:List Oper} {cs:List (Option (List Nat))} {F:Fence} {n:Nat} {Q:Exit→Act→World→Prop}
theorem ready_cut {L:Array Bool} {k:Nat} (h:k∈Region.ready .any l.toArray L):k∈Region.ready .any (cutL cs l).toArray L:=by
 obtain ⟨h0,ok,hok,hall⟩:=mem_ready.1 h
 have hok':l[k]?=some ok:=by simpa using hok
 obtain ⟨ks,h1|h1⟩:=cutL_get cs l k ok hok'
 ·exact mem_ready.2 ⟨h0,ok,by simpa using h1,hall⟩
 ·exact mem_ready.2 ⟨h0,cutE ks ok,by simpa using h1,fun e he hb=>hall e (by
   simp only [cutE,Array.mem_filter] at he
   exact he.1) hb⟩
theorem ready_none (hb:backOk l=true) {L:Array Bool} (hL:L.size=l.length) (h:Region.ready .any l.toArray L=[]):∀ k,k < l.length→L.getD k false=true:=by
 intro k
 induction k using Nat.strongRecOn with
 | _ k ih =>
   intro hk
   simp only [backOk,Bool.and_eq_true] at hb
   cases hv:L.getD k false with
   | true=>rfl
   | false =>
     have h1:=List.all_eq_true.1 hb.2 k (by simpa using hk)
     have hok:l[k]?=some l[k]:=List.getElem?_eq_getElem hk
     rw [hok] at h1
     have:k∈Region.ready .any l.toArray L:=mem_ready.2 ⟨by rw [getD_same (by rw [hL];exact hk)];exact hv,l[k],by simpa using hok,fun e he hbe=>by
      have h2:=List.all_eq_true.1 h1 e (by simpa using he)
      simp only [hbe,Bool.not_true,Bool.false_or,decide_eq_true_eq] at h2
      exact ih e.on h2 (by omega)⟩
     rw [h] at this;cases this
theorem wpAny_cut (hb:backOk l=true):∀ (f:Nat) (L:Array Bool) (a:Act) (w:World),L.size=l.length →
 wpAnyIn F n P .any (cutL cs l).toArray Q f L a w→wpAnyIn F n P .any l.toArray Q f L a w:=by
 intro f
 induction f with
 | zero =>
   intro L a w hL h
   refine ⟨?_,h.2⟩
   rw [List.eq_nil_iff_forall_not_mem]
   intro k hk
   have:=ready_cut (cs:=cs) hk
   rw [h.1] at this;cases this
 | succ f ih =>
   intro L a w hL h
   refine ⟨fun h0=>h.1 ?_,fun k hk=>?_⟩
   ·rw [List.eq_nil_iff_forall_not_mem]
    intro k hk
    obtain ⟨h1,o,ho,_⟩:=mem_ready.1 hk
    have hkl:k < l.length:=by
     have:=(Array.getElem?_eq_some_iff.1 ho).1
     simpa [cutL_len] using this
    rw [getD_same (by rw [hL];exact hkl),ready_none hb hL h0 k hkl] at h1
    cases h1
   ·have h1:=h.2 k (ready_cut hk)
    obtain ⟨_,ok,hok,_⟩:=mem_ready.1 hk
    have hok':l[k]?=some ok:=by simpa using hok
    have hg:ok.guard=none:=by
     simp only [backOk,Bool.and_eq_true] at hb
     simpa [Option.isNone_iff_eq_none] using List.all_eq_true.1 hb.1 ok (List.mem_of_getElem? hok')
    have hw:∀ o y,o.guard=none→Region.wanted o y=true:=fun o y h=>by simp [Region.wanted,h]
    unfold wpOpIn at h1 ⊢
    simp only [List.getElem?_toArray,hok',hw _ _ hg,if_true]
    obtain ⟨ks,e1|e1⟩:=cutL_get cs l k ok hok'
    ·simp only [List.getElem?_toArray,e1,hw _ _ hg,if_true] at h1
     exact Oper.wpIn_mono (fun a w hh=>ih _ a w (by simpa using hL) hh) h1
    ·simp only [List.getElem?_toArray,e1,hw (cutE ks ok) _ hg,if_true] at h1
     have h2:ok.wpIn F n P a w (wpAnyIn F n P .any (cutL cs l).toArray Q f (L.setIfInBounds k true)) Q:=h1
     exact Oper.wpIn_mono (fun a w hh=>ih _ a w (by simpa using hL) hh) h2
end
theorem DT_regionZc {P:Program} {G:Nat→Option (List IC)} {id nt:Nat} {n:Cx} {l:List Oper} {S:DS} {Q:Exit→DS→Prop} (cs:List (Option (List Nat))) (p:List Nat) (j:Nat) (st:List (List Nat×List Nat)) (ks:List Nat) (hm:P.follows .mixedOrders=true) (hnt:S.nt=nt)
 (hC:backOk l=true) (hP:permOk p (cutL cs l)=true) (hB:regionZ nt j st (permL p (cutL cs l) p)=true)
 (h:RXe P G ((permL p (cutL cs l) p).map (·.dst)) ((permL p (cutL cs l) p).take j) S (fun Sq=>ZK P G (permL p (cutL cs l) p) (fun S''=>At Q .normal ⟨⟩ (S''.keep ks)) st j Sq) ⟨⟩):DT P G n (.region id l.toArray true) S Q:=
 fun hn _ a M hr=>wpIn_region_any hm (by
  have hp:=permOk_spec hP
  have hl:(permL p (cutL cs l) p).length=l.length:=by rw [permL_len hp.lt,hp.len,cutL_len]
  have h1:=anyZ j st ks hnt hB h hn a M hr
  rw [hl] at h1
  have h2:=wpAny_perm hp l.length (Array.replicate l.length false) (Array.replicate l.length false) _ _ (by simp [cutL_len]) (by simp [cutL_len]) (fun i k hi=>by
   have hi1:i < l.length:=by rw [← cutL_len cs l,← hp.len];exact lt_of_getElem? hi
   have hk1:=hp.lt k (List.mem_of_getElem? hi)
   rw [cutL_len] at hk1
   simp [hi1,hk1]) h1
  exact wpAny_cut (cs:=cs) hC l.length (Array.replicate l.length false) _ _ (by simp) h2)
end Go.Ab
namespace Go.Ab
open Go
def okW (W:World) (b:Nat):Prop:=b < W.heap.size
def CellsR (W:World) (cs:List Value) (l:List IC):Prop:=cs.length=l.length∧∀ (j:Nat) (c:IC) (v:Value),l[j]?=some c→cs[j]?=some v→RepI W (okW W) c v
theorem CellsR.append {W:World} {a b:List Value} {l r:List IC} (h:CellsR W a l) (k:CellsR W b r):CellsR W (a ++ b) (l ++ r):=by
 refine ⟨by rw [List.length_append,List.length_append,h.1,k.1],fun j c v hc hv=>?_⟩
 by_cases hj:j < l.length
 ·rw [List.getElem?_append_left hj] at hc
  rw [List.getElem?_append_left (by rw [h.1];exact hj)] at hv
  exact h.2 j c v hc hv
 ·rw [List.getElem?_append_right (by omega)] at hc
  rw [List.getElem?_append_right (by rw [h.1];omega),h.1] at hv
  exact k.2 _ c v hc hv
theorem CellsR.one {W:World} {v:Value} {c:IC} (h:RepI W (okW W) c v):CellsR W [v] [c]:=
 ⟨rfl,fun j c' v' hc hv=>by
  match j with
  | 0=>simp at hc hv;subst hc;subst hv;exact h
  | j + 1=>simp at hc⟩
def Opens (P:Program) (t:TypeId) (S:List IC→Prop):Prop:=
 ∀ (H:Type) (enc:TypeId×Value→H) (W:World) (fuel:Nat) (cs:List Value) (x:DataW H×List MemPlace),DataW.trod enc P W 0 (fun _=>true) true fuel t cs=some x→∃ l,S l∧CellsR W cs l
theorem Opens.mono {P:Program} {t:TypeId} {S S':List IC→Prop} (h:Opens P t S) (hs:∀ l,S l→S' l):Opens P t S':=fun H enc W fuel cs x hx=>by
 obtain ⟨l,h1,h2⟩:=h H enc W fuel cs x hx
 exact ⟨l,hs l h1,h2⟩
theorem Opens.int {P:Program} {t:TypeId} {k:IntKind} (ht:P.underlying t=some (.int k)):Opens P t (fun l=>∃ n:Int,(k.min≤n∧n≤k.max)∧l=[.raw (.int k n)]):=fun H enc W fuel cs x hx=>by
 obtain ⟨n,rfl,_,hw⟩:=DataW.trod_int ht hx
 simp only [Lit.wf,Bool.and_eq_true,decide_eq_true_eq] at hw
 exact ⟨_,⟨n,hw,rfl⟩,.one (.raw _ rfl)⟩
theorem Opens.bool {P:Program} {t:TypeId} (ht:P.underlying t=some .bool):Opens P t (fun l=>∃ b:Bool,l=[.raw (.bool b)]):=fun H enc W fuel cs x hx=>by
 obtain ⟨b,rfl,_⟩:=DataW.trod_bool ht hx
 exact ⟨_,⟨b,rfl⟩,.one (.raw _ rfl)⟩
theorem block_of_cell {w:World} {a:Addr} {v:Value} (h:w.cell? a=some v):a.block < w.heap.size:=by
 unfold World.cell? at h
 refine Nat.lt_of_not_le fun hge=>?_
 have:w.heap[a.block]?=none:=Array.getElem?_eq_none hge
 simp [this] at h
theorem exists_list {α:Type} {n:Nat} {p:Nat→α→Prop} (h:∀ i,i < n→∃ a,p i a):∃ l:List α,l.length=n∧∀ (i:Nat) (a:α),l[i]?=some a→p i a:=by
 induction n with
 | zero=>exact ⟨[],rfl,fun i a h=>by simp at h⟩
 | succ n ih =>
   obtain ⟨l,h1,h2⟩:=ih fun i hi=>h i (by omega)
   obtain ⟨a,ha⟩:=h n (by omega)
   refine ⟨l ++ [a],by simp [h1],fun i b hb=>?_⟩
   by_cases hi:i < l.length
   ·rw [List.getElem?_append_left hi] at hb;exact h2 i b hb
   ·rw [List.getElem?_append_right (by omega)] at hb
    have h0:i - l.length=0:=by
     have:=lt_of_getElem? hb;simp at this;omega
    rw [h0] at hb
    simp at hb;subst hb
    rw [show i=n by omega];exact ha
theorem add2 (b o i j:Nat):((⟨b,o,none⟩:Addr).add i).add j=⟨b,o + i + j,none⟩:=by
 unfold Addr.add
 by_cases hi:i=0<;>by_cases hj:j=0<;>simp [hi,hj]
theorem Opens.slice {P:Program} {t e:TypeId} {S:List IC→Prop} {sz:Nat} (ht:P.underlying t=some (.slice e)) (hc:P.cellsOf e=sz) (h0:0 < sz) (he:Opens P e S) (hS:∀ l,S l→l.length=sz) :
 Opens P t (fun l=>∃ es:List (List IC),(∀ x∈es,S x)∧l=[.sl es]):=fun H enc W fuel cs x hx=>by
 rcases DataW.trod_slice ht hx with ⟨rfl,_⟩|⟨a,len,cap,elems,rest,n,_,rfl,_,_,hl,_,hlen,hel,_⟩
 ·exact ⟨_,⟨[],by simp,rfl⟩,.one .slnil⟩
 ·rw [hc] at hel
  have key:∀ i,i < len→∃ q:List IC×List Value,S q.1∧W.cells? 0 (a.add (i * sz)) sz=some q.2∧CellsR W q.2 q.1:=fun i hi=>by
   have hE:=hel i hi
   have hel':elems[i]?=some elems[i]:=by simp [hlen,hi]
   rw [hel',Option.bind_eq_some_iff] at hE
   obtain ⟨c1,hc1,hy⟩:=hE
   obtain ⟨l,hS1,hR⟩:=he H enc W n c1 _ hy
   exact ⟨(l,c1),hS1,hc1,hR⟩
  obtain ⟨q,hq1,hq2⟩:=exists_list key
  refine ⟨_,⟨q.map (·.1),fun x hx=>?_,rfl⟩,.one ?_⟩
  ·obtain ⟨y,hy,rfl⟩:=List.mem_map.1 hx
   obtain ⟨i,hi⟩:=List.mem_iff_getElem?.1 hy
   exact (hq2 i y hi).1
  ·by_cases hz:len=0
   ·subst hz
    have:q=[]:=List.length_eq_zero_iff.1 hq1
    subst this
    exact .slz a cap
   ·have cell:∀ (i:Nat) (y:List IC×List Value) (j:Nat) (v:Value),q[i]?=some y→y.2[j]?=some v→j < sz→W.cell? ((a.add (i * sz)).add j)=some v:=fun i y j v hy hv hj=>by
     obtain ⟨_,h2,_⟩:=hq2 i y hy
     obtain ⟨_,_,h4⟩:=World.cells?_some h2
     rw [h4 j hj];exact hv
    have hq0:0 < q.length:=by omega
    have hy0:q[0]?=some q[0]:=by simp
    obtain ⟨s1,s2,s3⟩:=hq2 0 q[0] hy0
    obtain ⟨_,s5,_⟩:=World.cells?_some s2
    have hl0:0 < (q[0]).2.length:=by rw [s5];exact h0
    have hv0:(q[0]).2[0]?=some (q[0]).2[0]:=by simp
    have hcell0:=cell 0 q[0] 0 _ hy0 hv0 h0
    have hspot:a.spot=none:=by
     have:=World.cell?_spot hcell0
     simpa [Addr.add] using this
    have hblk:a.block < W.heap.size:=by
     have:=block_of_cell hcell0
     simpa [Addr.add] using this
    have hll:(q.map (·.1)).length=len:=by simp [hq1]
    rw [← hll]
    refine .sl _ a cap sz (fun i j=>(((q[i]?).map (·.2)).getD [])[j]?.getD undef) hspot (fun _=>hblk) (by rw [hll];exact hl) (fun i x hx=>?_) (fun i x j c hx hj=>?_) (fun i x j c hx hj=>?_)
    ·rw [List.getElem?_map,Option.map_eq_some_iff] at hx
     obtain ⟨y,hy,rfl⟩:=hx
     exact hS _ (hq2 i y hy).1
    ·rw [List.getElem?_map,Option.map_eq_some_iff] at hx
     obtain ⟨y,hy,rfl⟩:=hx
     obtain ⟨t1,t2,t3⟩:=hq2 i y hy
     have hjl:=lt_of_getElem? hj
     have hjs:j < sz:=by rw [← hS _ t1];exact hjl
     have hjl2:j < y.2.length:=by rw [t3.1];exact hjl
     have hv:y.2[j]?=some y.2[j]:=by simp [hjl2]
     have:=cell i y j _ hy hv hjs
     simp only [hy,Option.map_some,Option.getD_some,hv]
     have ha:(⟨a.block,a.off + i * sz + j,none⟩:Addr)=(a.add (i * sz)).add j:=by
      obtain ⟨b,o,s⟩:=a
      simp only at hspot
      subst hspot
      exact (add2 b o (i * sz) j).symm
     rw [ha];exact this
    ·rw [List.getElem?_map,Option.map_eq_some_iff] at hx
     obtain ⟨y,hy,rfl⟩:=hx
     obtain ⟨t1,t2,t3⟩:=hq2 i y hy
     have hjl:=lt_of_getElem? hj
     have hjl2:j < y.2.length:=by rw [t3.1];exact hjl
     have hv:y.2[j]?=some y.2[j]:=by simp [hjl2]
     simp only [hy,Option.map_some,Option.getD_some,hv]
     exact t3.2 j c _ hj hv
def tilesB (P:Program):List Field→Nat→Nat→Bool
 | [],o,e=>decide (o=e)
 | f :: fs,o,e=>decide (f.offset=o) && tilesB P fs (o + P.cellsOf f.type) e
theorem tiles_le {P:Program}:∀ {fs:List Field} {o e:Nat},tilesB P fs o e=true→o≤e
 | [],o,e,h=>by simp [tilesB] at h;omega
 | f :: fs,o,e,h=>by
   simp only [tilesB,Bool.and_eq_true] at h
   have:=tiles_le h.2;omega
theorem fields_cells {P:Program} {W:World} {cs:List Value}:∀ (fs:List Field) (o e:Nat) (S:Nat→List IC→Prop),tilesB P fs o e=true→e≤cs.length→(∀ (i:Nat) (f:Field),fs[i]?=some f→∃ l,S i l∧CellsR W ((cs.drop f.offset).take (P.cellsOf f.type)) l) →
 ∃ ls:List (List IC),ls.length=fs.length∧(∀ (i:Nat) (l:List IC),ls[i]?=some l→S i l)∧CellsR W ((cs.drop o).take (e - o)) ls.flatten
 | [],o,e,S,ht,_,_=>by
   simp [tilesB] at ht
   subst ht
   exact ⟨[],rfl,fun i l h=>by simp at h,by simp [CellsR]⟩
 | f :: fs,o,e,S,ht,he,hS=>by
   simp only [tilesB,Bool.and_eq_true,decide_eq_true_eq] at ht
   obtain ⟨rfl,ht⟩:=ht
   obtain ⟨l,h1,h2⟩:=hS 0 f rfl
   obtain ⟨ls,h3,h4,h5⟩:=fields_cells fs _ e (fun i=>S (i + 1)) ht he fun i g hg=>hS (i + 1) g (by simpa using hg)
   have hle:=tiles_le ht
   refine ⟨l :: ls,by simp [h3],fun i k hk=>?_,?_⟩
   ·cases i with
    | zero=>simp at hk;subst hk;exact h1
    | succ i=>exact h4 i k (by simpa using hk)
   ·rw [List.flatten_cons]
    have hsplit:(cs.drop f.offset).take (e - f.offset)=(cs.drop f.offset).take (P.cellsOf f.type) ++ (cs.drop (f.offset + P.cellsOf f.type)).take (e - (f.offset + P.cellsOf f.type)):=by
     rw [show e - f.offset=P.cellsOf f.type + (e - (f.offset + P.cellsOf f.type)) by omega,List.take_add,List.drop_drop]
    rw [hsplit]
    exact h2.append h5
theorem Opens.struct {P:Program} {t:TypeId} {fs:Array Field} (ht:P.underlying t=some (.struct fs)) (htile:tilesB P fs.toList 0 (P.cellsOf t)=true) (S:Nat→List IC→Prop) (hS:∀ (i:Nat) (f:Field),fs.toList[i]?=some f→Opens P f.type (S i)) :
 Opens P t (fun l=>∃ ls:List (List IC),ls.length=fs.size∧(∀ (i:Nat) (k:List IC),ls[i]?=some k→S i k)∧l=ls.flatten):=fun H enc W fuel cs x hx=>by
 obtain ⟨xs,n,_,_,hlen,hxl,hf⟩:=DataW.trod_struct ht hx
 obtain ⟨ls,h1,h2,h3⟩:=fields_cells (P:=P) (W:=W) (cs:=cs) fs.toList 0 (P.cellsOf t) S htile (by omega) fun i f hi=>by
  have hi':fs[i]?=some f:=by rw [← Array.getElem?_toList];exact hi
  have hil:i < fs.size:=(Array.getElem?_eq_some_iff.1 hi').1
  have h:=hf i f hi'
  have hx':xs[i]?=some xs[i]:=by simp [hxl,hil]
  rw [hx'] at h
  exact hS i f hi H enc W n _ _ h
 refine ⟨_,⟨ls,by simpa using h1,h2,rfl⟩,?_⟩
 have:(cs.drop 0).take (P.cellsOf t - 0)=cs:=by simp [← hlen]
 rw [this] at h3;exact h3
def bareM (W:World):MS:={ w:=W,β:=fun _=>0,objs:=[],F:=fun _=>False }
theorem bare_ok (W:World) (b:Nat):(bareM W).ok b↔okW W b:=by
 simp [MS.ok,MS.free,MS.live,bareM,okW]
theorem bare_rel {G:Nat→Option (List IC)} {W:World} (h:∀ g l,G g=some l→RepI W (okW W) (.ip l) (.pointer (some ⟨g,0,none⟩))):RelM G (bareM W):=
 ⟨fun o d ho=>by simp [bareM] at ho,fun o d ho=>by simp [bareM] at ho,fun o o' d d' ho=>by simp [bareM] at ho,fun g l hg=>(h g l hg).mono fun b hb=>⟨(bare_ok W b).2 hb,rfl⟩,fun b hb=>hb.elim,fun o d ho=>by simp [bareM] at ho⟩
theorem RepV.ofCells {W:World} {cs:Array Value} {l:List IC} (h:CellsR W cs.toList l):RepV (bareM W) (.agg (l.map .im)) (.agg cs):=by
 refine .agg _ _ (by simpa using h.1.symm) fun j c v hj hv=>?_
 rw [List.getElem?_map,Option.map_eq_some_iff] at hj
 obtain ⟨c0,hc,rfl⟩:=hj
 rw [← Array.getElem?_toList] at hv
 exact .im _ _ ((h.2 j c0 v hc hv).mono fun b hb=>⟨(bare_ok W b).2 hb,rfl⟩)
theorem RepV.ofCell {W:World} {v:Value} {c:IC} (h:CellsR W [v] [c]):RepV (bareM W) (.one (.im c)) v:=
 .one _ _ (.im _ _ ((h.2 0 c v rfl rfl).mono fun b hb=>⟨(bare_ok W b).2 hb,rfl⟩))
theorem DCall.calls {P:Program} {G:Nat→Option (List IC)} {f:FuncId} {args:List DV} {u:Value} {W:World} {vs:Array Value} (h:DCall P G f args [] (fun d o=>d=.one (.im (.raw u))∧o=[]))
 (hG:∀ g l,G g=some l→RepI W (okW W) (.ip l) (.pointer (some ⟨g,0,none⟩))) (hs:vs.size=args.length) (ha:∀ (j:Nat) (d:DV) (v:Value),args[j]?=some d→vs[j]?=some v→RepV (bareM W) d v) :
 Calls P f vs W fun e W'=>e=.returned u∧Go.RowKit.Below W.heap.size W W':=by
 refine (h (bareM W) vs (bare_rel hG) rfl hs ha).mono ?_
 rintro e w' ⟨v,d,M',rfl,rfl,_,hv,he,rfl,_⟩
 have hvu:v=u:=by
  cases hv with
  | one _ _ hc=>cases hc with
    | im _ _ hi=>cases hi;rfl
 subst hvu
 exact ⟨rfl,⟨he.io.os,he.io.tape,he.io.output,he.hs,fun k hk=>(he.free k ⟨hk,fun ⟨o,d,h1,_⟩=>by simp [bareM] at h1⟩).2⟩⟩
end Go.Ab
