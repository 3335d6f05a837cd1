/- Part 9 of the proofs. -/
import Derived.Test.YtlmlkkoapahmjaaGreatDoorS07
import Derived.Test.YtlmlkkoapahmjaaGreatDoorS08
set_option linter.all false
set_option maxHeartbeats 100000000
namespace Go.Ab
open Go
section
variable {P:Program} {G:Hn} {nt:Nat} {objs:List DObj} {ops:Array Oper}
theorem sh {S:DS} {o:Oper} {t:TypeId} {ps:Array (Nat×Operand)} {z:List Value} {pl:List (Nat×Nat)} {qs:List (Nat×List DC)} {r:List DC} (ho:o.op=.build t ps) (hz:E5 P t=some z) (hp:z.all v7=true)
 (hpl:l7 P t=some pl) (hq:L9 G S ps.toList=some qs) (hr:ab (pl[·]?) (z.map λv=>.im (.raw v)) qs=some r):OpV P G o S (.agg r) S.objs:=by
 refine .pure λa M hrel=>?_;obtain⟨v,hrun,hv⟩:=X7 (w:=M.w) hz;obtain⟨h1,h2⟩:=N2 hrel _ _ hq;subst hv;obtain⟨ra,e1,e2,e3⟩:=W0 (M:=M) (place:=(pl[·]?)) qs _ (v.cells.toList.map λv=>.im (.raw v)) v.cells r (by simp) (λj d x hd hx=>by
  rw[List.getElem?_map,Array.getElem?_toList,hx] at hd;simp at hd;subst hd;exact .im _ _ (.raw _ (List.all_eq_true.1 hp x (Array.mem_toList_iff.2 (Array.mem_of_getElem? hx))))) h1 h2 hr
 refine⟨.agg ra,?_,.agg _ _ e2 e3⟩;unfold l7 at hpl;split at hpl
 ·rename_i fs hu;have hpl':=dJ (P:=P) (w:=M.w) fs.toList pl hpl;simp only[execOp,ho,Instr.build,Sem.run_bind,hrun,Result.andThen_ok,e8 hu,Array.mapM_eq_mapM_toList,Sem.run_map,hpl'];have e1':Instr.fill (λx=>pl.toArray[x]?) v.cells (Array.map (λx=>(x.1,a.eval x.2)) ps).toList=some ra:=by simpa using e1
  simp only[e1'];rfl
 ·rename_i n e hu;obtain⟨sz,hs,rfl⟩:=Option.map_eq_some_iff.1 hpl;have e1':Instr.fill (λi=>some (i*sz,sz)) v.cells (Array.map (λx=>(x.1,a.eval x.2)) ps).toList=some ra:=by
   have:=dR (p':=λi=>some (i*sz,sz)) (λi x h=>cS h) _ _ _ e1;simpa using this
  simp only[execOp,ho,Instr.build,Sem.run_bind,hrun,Result.andThen_ok,e8 hu,o5 hs,e1'];rfl
 ·cases hpl
def jM (P:Program) (G:Hn) (S:DS) (t:TypeId) (ps:Array (Nat×Operand)):Out:=match E5 P t,l7 P t,L9 G S ps.toList with
 | some z,some pl,some qs=>if z.all v7=true then (match ab (pl[·]?) (z.map λv=>.im (.raw v)) qs with
   | some r=>.val (.agg r) S.objs
   | none=>.bad) else .bad
 | _,_,_=>.bad
def wg (P:Program) (G:Hn) (S:DS) (op:Op) (ty:TypeId):Option (TypeId×Array (Nat×Operand))->Out
 | some p=>jM P G S p.1 p.2
 | none=>cg P G S op ty
def fH (P:Program) (G:Hn) (S:DS) (op:Op) (ty:TypeId):Out:=wg P G S op ty (nC op)
theorem dq {S:DS} {t:TypeId} {ps:Array (Nat×Operand)} {x:Out} (h:jM P G S t ps=x):x=.bad\/∃ r,x=.val (.agg r) S.objs/\∃ z pl qs,E5 P t=some z/\l7 P t=some pl/\L9 G S ps.toList=some qs/\z.all v7=true/\ab (pl[·]?) (z.map λv=>.im (.raw v)) qs=some r:=by
 unfold jM at h;split at h
 ·rename_i z pl qs hz hpl hqs;split at h
  ·rename_i hp;split at h
   ·rename_i r hr;exact .inr ⟨r,h.symm,z,pl,qs,hz,hpl,hqs,hp,hr⟩
   ·exact .inl h.symm
  ·exact .inl h.symm
 ·exact .inl h.symm
theorem tC {S:DS} {o:Oper} {d:DV} {objs':List DObj} (h:fH P G S o.op o.type=.val d objs'):OpV P G o S d objs':=by
 unfold fH at h;generalize hi:nC o.op=q at h;cases q with
 | none=>exact gV h
 | some p =>
   rcases dq h with e|⟨r,e,z,pl,qs,h1,h2,h3,h4,h5⟩
   ·cases e
   ·cases e;exact sh (mA hi) h1 h4 h2 h3 h5
theorem qp {S:DS} {o:Oper} {p:Prop} {d:DV} {objs':List DObj} (h:fH P G S o.op o.type=.cond p d objs') (hp:p):OpV P G o S d objs':=by
 unfold fH at h;generalize hi:nC o.op=q at h;cases q with
 | none=>exact eN h hp
 | some p =>
   rcases dq h with e|⟨r,e,_⟩<;>cases e
theorem qq {S:DS} {o:Oper} {f:FuncId} {as':List DV} (h:fH P G S o.op o.type=.call f as') :
 ∃ x ys ts d as caps,o.op=.call { callee:=.value x,args:=ys,argTypes:=ts }/\j5 G S x=some d/\X1 G S ys.toList=some as/\F2 d=some (f,caps)/\as'=as++caps:=by
 unfold fH at h;generalize hi:nC o.op=q at h;cases q with
 | none=>exact eO h
 | some p =>
   rcases dq h with e|⟨r,e,_⟩<;>cases e
def rT (P:Program) (G:Hn) (dsts:List (Option Tmp)) (S:DS) (o:Oper) (R:DV->Prop) (_t:Tok R):Option TypeId->Prop
 | some t=>(o.guard=none/\DJ P t=true)/\R (.one .dead)
 | none=>lT (C2 dsts S o) (mY P G S.objs (fH P G (S.keep (P9 o.op)) o.op o.type) R ⟨⟩) (R (.tup [])) ⟨⟩
def BN (P:Program) (G:Hn) (dsts:List (Option Tmp)):List Oper->DS->(K:DS->Prop)->Tok K->Prop
 | [],S,K,_=>K S
 | o :: l,S,K,tk=>rT P G dsts S o (λd=>BN P G dsts l (S.put o.dst d) K tk) ⟨⟩ (kL o.op)
theorem cK {K:DS->Prop}:∀ (is:List Nat) (l:List Oper) (S:DS),Al ops is l->S.nt=nt->S.objs=objs->(∀ o∈l,∀ u,o.dst=some u->u<nt)->(l.map (·.dst)).Pairwise (λx y=>x.isSome=true->x≠y)->aP ops l=true ->
 BN P G (ops.toList.map (·.dst)) l S K ⟨⟩ ->
 ∃ Sq:DS,K Sq/\Sq.nt=nt/\Sq.objs=objs/\(∀ i∈is,∃ o d,ops[i]?=some o/\OpS P G nt objs ops o d (m8 Sq.tmps)/\∀ u,o.dst=some u->m8 Sq.tmps u=some d) /\
  ∀ t,(∀ o∈l,o.dst≠some t)->m8 Sq.tmps t=m8 S.tmps t
 | [],[],S,_,h1,h2,_,_,_,h=>⟨S,h,h1,h2,(λi hi=>by cases hi),λ_ _=>rfl⟩
 | i :: is,o :: l,S,ha,h1,h2,hd,hp,hn,h=>by
   obtain⟨ho,ha⟩:=ha;simp only[aP,Bool.and_eq_true] at hn;obtain⟨hn1,hn2⟩:=hn;rw[List.map_cons,List.pairwise_cons] at hp;have hd0:∀ u,o.dst=some u->u<S.nt:=λu hu=>by rw[h1];exact hd o (by simp) u hu
   have first:∃ d,OpS P G nt objs ops o d (m8 S.tmps)/\BN P G (ops.toList.map (·.dst)) l (S.put o.dst d) K ⟨⟩:=by
    rw[BN] at h;generalize hal:kL o.op=x at h;cases x with
    | some t =>
      obtain⟨⟨hg,hz⟩,hk⟩:=h;unfold DJ at hz;split at hz
      ·rename_i z hz';exact⟨_,.inl ⟨t,z,iA hal,hg,rfl,hz',hz⟩,hk⟩
      ·cases hz
    | none =>
      have hna:=bj hal;subst h1;subst h2;simp only[rT] at h;generalize hb:C2 (ops.toList.map (·.dst)) S o=r at h;cases r with
      | none=>exact h.elim
      | some b =>
        cases b with
        | false=>exact⟨_,.inr ⟨hna,.inr ⟨L7 hb,rfl⟩⟩,h.2 rfl⟩
        | true =>
          have h3:=h.1 rfl;generalize hx:fH P G (S.keep (P9 o.op)) o.op o.type=x at h3;cases x with
          | val d objs' =>
            obtain⟨rfl,hkk⟩:=h3;exact⟨d,.inr ⟨hna,.inl ⟨L7 hb,T8 (tC hx)⟩⟩,hkk⟩
          | call f as =>
            obtain⟨x,ys,ts,d,as,caps,hoc,hxv,has,hc,rfl⟩:=qq hx;obtain⟨hok,d0,hcall,hkk⟩:=h3;exact⟨d0,.inr ⟨hna,.inl ⟨L7 hb,dB hoc hxv hc has hok hcall⟩⟩,hkk⟩
          | cond p d objs' =>
            obtain⟨hp,rfl,hkk⟩:=h3;exact⟨d,.inr ⟨hna,.inl ⟨L7 hb,T8 (qp hx hp)⟩⟩,hkk⟩
          | yield l as=>exact h3.elim
          | iter o l=>exact h3.elim
          | nilq l b=>exact h3.elim
          | gen p=>exact h3.elim
          | bad=>exact h3.elim
   obtain⟨d,hs,hk⟩:=first
   obtain⟨Sq,k1,k2,k3,k4,k5⟩:=cK is l (S.put o.dst d) ha (put_objs.2.trans h1) (put_objs.1.trans h2) (λo ho=>hd o (by simp[ho])) hp.2 hn2 hk;have hput:∀ t,(∀ o'∈l,o'.dst≠some t)->m8 Sq.tmps t=P4 (m8 S.tmps) o.dst d t:=λt ht=>by rw[k5 t ht,ki hd0]
   refine⟨Sq,k1,k2,k3,λj hj=>?_,λt ht=>?_⟩
   ·rcases List.mem_cons.1 hj with rfl|hj
    ·refine⟨o,d,ho,hs.same λt ht=>?_,λu hu=>?_⟩
     ·have hno:∀ o'∈o :: l,o'.dst≠some t:=λo' ho' e=>by
       have:=List.all_eq_true.1 hn1 o' ho';rw[e] at this;simp at this;exact this ht
      rw[hput t λo' ho'=>hno o' (by simp[ho'])];exact bK λu hu e=>hno o (by simp) (by rw[hu,e])
     ·rw[hput u λo' ho' e=>hp.1 _ (List.mem_map_of_mem ho') (by simp[hu]) (by rw[hu,e]),hu];simp[P4]
    ·exact k4 j hj
   ·rw[hput t λo' ho'=>ht o' (by simp[ho'])];exact bK λu hu e=>ht o (by simp) (by rw[hu,e])
 | [],_ :: _,_,h,_,_,_,_,_,_=>h.elim
 | _ :: _,[],_,h,_,_,_,_,_,_=>h.elim
theorem pY {id nt:Nat} {n:Cx} {l:List Oper} {S:DS} {Q:Exit->DS->Prop} (j:Nat) (fl kt ks:List Nat) (hm:P.follows .mixedOrders=true) (hnt:S.nt=nt) (hB:fS nt j fl kt l=true)
 (h:BN P G (l.map (·.dst)) (l.take j) S (λSq=>nX P G (l.map (·.dst)) (pick l [j]) (iO (Sq.keep kt) (ak P (l.take j))) (λS'=>BN P G (l.map (·.dst)) (pick l fl) S' (λSf =>
  cO (lO (pick l fl)) Sf.tmps Sq.tmps/\nX P G (l.map (·.dst)) (l.drop (j+1)) Sf (λS''=>At Q .normal ⟨⟩ (S''.keep ks)) ⟨⟩) ⟨⟩) ⟨⟩) ⟨⟩):DT P G n (.region id l.toArray true) S Q:=by
 intro hn hrd a M hr;simp only[fS,Bool.and_eq_true,decide_eq_true_eq] at hB;obtain⟨⟨⟨⟨⟨⟨⟨⟨⟨⟨⟨⟨⟨⟨⟨⟨b1,b2⟩,b3⟩,b4⟩,b5⟩,b5'⟩,b6⟩,b7⟩,b8⟩,b9⟩,b10⟩,b11⟩,b12⟩,b13⟩,b14⟩,b15⟩,b16⟩:=hB;subst hnt;have hdst:∀ o∈l,∀ u,o.dst=some u->u<S.nt:=λo ho u hu=>by
  have:=List.all_eq_true.1 b4 o ho;simpa[hu] using this
 have hpw:=G2 b5;have hd:fi S.nt l.toArray:=by
  refine⟨λi o ho u hu=>hdst o (by simpa using Array.mem_of_getElem? ho) u hu,λi k o o' u ho ho' hu hu'=>?_⟩;have hi:l[i]?=some o:=by simpa using ho
  have hk:l[k]?=some o':=by simpa using ho'
  obtain⟨hil,hi'⟩:=List.getElem?_eq_some_iff.1 hi;obtain⟨hkl,hk'⟩:=List.getElem?_eq_some_iff.1 hk;rw[List.pairwise_iff_getElem] at hpw;rcases Nat.lt_trichotomy i k with hlt|he|hlt
  ·exact absurd (show (l.map (·.dst))[i]'(by simpa using hil)=(l.map (·.dst))[k]'(by simpa using hkl) by simp[hi',hk',hu,hu']) (hpw i k (by simpa using hil) (by simpa using hkl) hlt (by simp[hi',hu]))
  ·exact he
  ·exact absurd (show (l.map (·.dst))[k]'(by simpa using hkl)=(l.map (·.dst))[i]'(by simpa using hil) by simp[hi',hk',hu,hu']) (hpw k i (by simpa using hkl) (by simpa using hil) hlt (by simp[hk',hu']))
 have hback:∀ (k:Nat) (o:Oper),l.toArray[k]?=some o->∀ e∈o.after,Region.binds .any e=true->e.on<k:=λk o ho e he hb=>by
  have hk:l[k]?=some o:=by simpa using ho
  have:=List.all_eq_true.1 b6 k (by simpa using(List.getElem?_eq_some_iff.1 hk).1);rw[hk] at this;have:=List.all_eq_true.1 this e (by simpa using he);simpa[hb] using this
 have hdep:∀ i,i<j->∀ o,l.toArray[i]?=some o->∀ k,k<j->∀ o',l.toArray[k]?=some o'->∀ u,o'.dst=some u->u∈o.looksAt l.toArray->∃ e∈o.after,e.on=k/\Region.binds .any e=true:=λi hi o ho k hk o' ho' u hu hl=>by
  have h1:=List.all_eq_true.1 (List.all_eq_true.1 b7 i (by simpa using hi)) k (by simpa using hk);rw[show l[i]?=some o by simpa using ho,show l[k]?=some o' by simpa using ho'] at h1;simp only[hu,Bool.or_eq_true,Bool.not_eq_true',List.any_eq_true,Bool.and_eq_true,decide_eq_true_eq] at h1;rcases h1 with h1|⟨e,he,h2,h3⟩
  ·have:(o.looksAt l.toArray).contains u=true:=by simpa using hl
   rw[h1] at this;cases this
  ·exact⟨e,by simpa using he,h2,h3⟩
 have hmask:fx l.toArray (br l []):=af l [] (λj _=>by simp) (λj i oj _ h=>by simp at h);have hflj:∀ i∈fl,i<j:=λi hi=>by simpa using List.all_eq_true.1 b2 i hi
 obtain⟨oj,hoj⟩:∃ o,l[j]?=some o:=⟨l[j],List.getElem?_eq_getElem b1⟩
 have hoj':l.toArray[j]?=some oj:=by simpa using hoj
 rw[hoj] at b14;have hgj:oj.guard=none:=by simpa[Option.isNone_iff_eq_none] using b14
 have hnoal:∀ i∈fl,∀ o,l.toArray[i]?=some o->∀ t,o.op≠.alloc t:=λi hi o ho t=>by
  have:=List.all_eq_true.1 b13 o (V2 hi (by simpa using ho));exact bj (by simpa[Option.isNone_iff_eq_none] using this) t
 have hlater:∀ k listed,Closed l.toArray listed->k∈Region.ready .any l.toArray listed->j<k->∀ i,i<=j->listed.getD i false=true:=λk listed hcl hk hjk i hi=>by
  obtain⟨_,ok,hok,hall⟩:=mem_ready.1 hk;have h1:=List.all_eq_true.1 b11 k (by simpa using(Array.getElem?_eq_some_iff.1 hok).1);simp only[Bool.or_eq_true,decide_eq_true_eq] at h1;rcases h1 with h1|h1
  ·omega
  ·exact hmask k i ok hok (List.all_eq_true.1 h1 i (by simp;omega)) listed hcl hall
 have hpre:∀ listed,Closed l.toArray listed->j∈Region.ready .any l.toArray listed->∀ i,i<j->i∉fl->listed.getD i false=true:=λlisted hcl hk i hi hif=>by
  obtain⟨_,ok,hok,hall⟩:=mem_ready.1 hk;have h1:=List.all_eq_true.1 b10 i (by simpa using hi);simp only[Bool.or_eq_true,List.contains_iff_mem] at h1;rcases h1 with h1|h1
  ·exact absurd h1 hif
  ·exact hmask j i ok hok h1 listed hcl hall
 obtain⟨hm1,he1⟩:=RelM.same (w':={ M.w with drawn:=M.w.drawn+1 }) hr.m rfl ⟨rfl,rfl,rfl,by first|exact Nat.le_refl _|exact Nat.le_succ _⟩;have htake:∀ o∈l.take j,o∈l:=λo ho=>List.mem_of_mem_take ho;have hAl:∀ (k:Nat),k<=l.length->Al l.toArray (List.range k) (l.take k):=by
  have gen:∀ (m k:Nat),k+m<=l.length->Al l.toArray (List.range' k m) ((l.drop k).take m):=by
   intro m;induction m with
   | zero=>intro k _;simp[Al,List.range']
   | succ m ih =>
     intro k hk;have hk':k<l.length:=by omega
     rw[List.range'_succ,List.drop_eq_getElem_cons hk',List.take_succ_cons];exact⟨by simp,ih (k+1) (by omega)⟩
  intro k hk;have:=gen k 0 (by omega);rwa [List.drop_zero,<- List.range_eq_range'] at this
 obtain⟨Sq,hkq,q1,q2,q3,q4⟩:=cK (P:=P) (G:=G) (ops:=l.toArray) (nt:=S.nt) (objs:=S.objs) (List.range j) (l.take j) S (hAl j (by omega)) rfl rfl (λo ho=>hdst o (htake o ho))
  (by rw[List.map_take];exact hpw.take) b8 (by simpa using h)
 let Md:MS:={ M with w:={ M.w with drawn:=M.w.drawn+1 } }
 refine wpIn_region_any hm ?_;have hMd:RelF G S.nt S.objs (m8 S.tmps) a Md:=⟨hm1,hr.ob,hr.nt,hr.df,λt d ht=>by
  obtain⟨v,h1,h2⟩:=hr.tm t d ht;exact⟨v,h1,h2.ext he1⟩⟩
 have hobs:M.objs.length=S.objs.length:=by rw[hr.ob]
 refine H8 (P:=P) (G:=G) (nt:=S.nt) (objs:=S.objs) (ops:=l.toArray) (ks:=List.range j) (τ:=m8 Sq.tmps) (M0:=Md) (base:=Array.replicate l.length false) (dfs:=a.defers) (ro:=n.rd.map M.β)
  (Q':=λe a' w'=>∃ S' M',M'.w=w'/\Rel G S' a' M'/\Ext n.n M M'/\NewD M a a'/\Q e S') hd q3 (λi hi o ho k hk=>hdep i (by simpa using hi) o ho k (by simpa using hk)) hback ?_ ?_ l.length _ a Md ?_
 ·
  intro f listed a2 M2 hi i hrdy hik;have hji:j<=i:=by simpa using hik
  have hjun:listed.getD j false≠true:=λe=>by
   rcases hi.only j e with h|h
   ·rw[l5] at h;cases h
   ·simp at h
  have hij:i=j:=by
   rcases Nat.eq_or_lt_of_le hji with h|h
   ·exact h.symm
   ·exact absurd (hlater i listed hi.cl hrdy h j (Nat.le_refl _)) hjun
  subst hij;have hpl:=hpre listed hi.cl hrdy;obtain⟨β',p1,p2⟩:=hi.pd;have half:∀ k∈List.range i,∀ o t,l.toArray[k]?=some o->o.op=.alloc t->listed.getD k false=true:=λk hk o t ho hop =>
   hpl k (by simpa using hk) λhf=>hnoal k hf o ho t hop
  obtain⟨bs,c1,c2,c3,_⟩:=ft (P:=P) (ops:=l.toArray) (M0:=Md) (M:=M2) (a:=a2) (β':=β') (List.range i) (l.take i) (hAl i (by omega)) List.nodup_range
   (λk hk o t u ho hop hu=>p1 k o t u hk ho hop hu (half k hk o t ho hop))
   (λk hk m hm' o o' t t' ho ho' hop hop' hs hs' e=>p2 k m o o' t t' hk hm' ho hop (half k hk o t ho hop) ho' hop' (half m hm' o' t' ho' hop') hs hs' e)
  have hrk:Rel G (Sq.keep kt) a2 M2:=by
   refine⟨hi.rel.m,hi.rel.ob.trans q2.symm,hi.rel.nt.trans q1.symm,hi.rel.df,λt d ht=>hi.rel.tm t d ?_⟩;have h1:=dG ht;have h2:=bH ht;unfold K8;rw[if_pos]
   ·exact h2
   ·intro k hk o ho hu;by_cases hf:k∈fl
    ·have:=List.all_eq_true.1 b12 o (V2 hf (by simpa using ho));rw[hu] at this;simp at this;exact absurd h1 this
    ·exact hpl k (by simpa using hk) hf
  obtain⟨MT,t1,t2,t3,t4,t5⟩:=bZ (M0:=Md) (n:=S.objs.length) hm1 (ak P (l.take i)) bs (Sq.keep kt) M2 hrk hi.ext (by rw[hi.rel.ob];exact Nat.le_refl _) c1 c2 c3;have hpk:pick l [i]=[oj]:=by simp[pick,hoj]
  rw[hpk] at hkq;obtain⟨b,hw,ht,hf⟩:=J0 _ _ _ hkq;have hbt:b=true:=by
   unfold C2 at hw;rw[hgj] at hw;exact(Option.some.inj hw).symm
  subst hbt;have hwant:Region.wanted oj (yielded l.toArray a2.tmps)=true:=by simp[Region.wanted,hgj]
  unfold wpOpIn;simp only[hoj',hwant,if_true];rw[<- t4];refine Y5 (jQ (ht rfl (n.rd.map M.β) a2 MT t1)) ?_;rintro a3 w3 ⟨⟨S3,M3,rfl,r3,e3,d3,k3⟩,v,hput⟩;have hsz3:S3.nt=S.nt:=by
   rw[<- r3.nt,hput,<- hi.rel.nt];cases oj.dst<;>simp[Act.put]
  have hpm:∀ o∈pick l fl,o∈l:=λo ho=>let ⟨k,_,hk⟩:=V5 ho;List.mem_of_getElem? hk
  obtain⟨Sf,⟨hsame,hkf⟩,f1,f2,f3,f4⟩:=cK (P:=P) (G:=G) (ops:=l.toArray) (nt:=S.nt) (objs:=S3.objs) fl (pick l fl) S3 (jN λk hk=>by have:=hflj k hk;omega) hsz3 rfl (λo ho=>hdst o (hpm o ho)) (G2 b5') b9
   (by simpa using(show BN P G (l.map (·.dst)) (pick l fl) S3 _ ⟨⟩ from k3))
  have hlt3:(listed.setIfInBounds i true).size=l.length:=by simpa using hi.sz
  have hlisj:(listed.setIfInBounds i true).getD i false=true:=by
   have:i<listed.size:=by rw[hi.sz];simpa using b1
   simp[this]
  have fin:∀ f' listed' a4 M4,Inv P G S.nt S3.objs l.toArray fl (m8 Sf.tmps) M3 (listed.setIfInBounds i true) a.defers f' listed' a4 M4->(∀ k∈fl,listed'.getD k false=true) ->
   wpAnyIn (u9 (n.rd.map M.β)) 0 P .any l.toArray (λe a' w'=>∃ S' M',M'.w=w'/\Rel G S' a' M'/\Ext n.n M M'/\NewD M a a'/\Q e S') f' listed' a4 M4.w:=by
   intro f' listed' a4 M4 hi4 hfl4;have hL:listed'=jS l.length i:=by
    refine nh (by simpa using hi4.sz) λk hk=>⟨λhkl=>?_,λhkl=>?_⟩
    ·rcases hi4.only k hkl with h1|h1
     ·rcases o9 h1 with rfl|h1
      ·exact Nat.le_refl _
      ·rcases hi.only k h1 with h2|h2
       ·rw[l5] at h2;cases h2
       ·have:k<i:=by simpa using h2
        omega
     ·have:=hflj k h1;omega
    ·by_cases hkf:k∈fl
     ·exact hfl4 k hkf
     ·refine hi4.has k ?_;rcases Nat.eq_or_lt_of_le hkl with rfl|hlt
      ·exact hlisj
      ·exact getD_set_true (hpl k hlt hkf)
   have hf':f'=(l.drop (i+1)).length:=by rw[<- hi4.cn,hL,b16];simp
   have hrel:Rel G Sf a4 M4:=⟨hi4.rel.m,by rw[hi4.rel.ob,f2],by rw[hi4.rel.nt,f1],hi4.rel.df,λt d ht=>hi4.rel.tm t d (by
    unfold K8;rw[if_pos]
    ·exact ht
    ·exact λk hk _ _ _=>hfl4 k hk)⟩
   have hS3:S.objs.length<=S3.objs.length:=by rw[<- r3.ob];exact Nat.le_trans t3 e3.len
   have hn4:n.n<=M4.objs.length:=by rw[hi4.rel.ob];have:=hS3;omega
   have eM4:Ext n.n M M4:=((he1.weaken (by rw[hobs];exact hn)).trans (t2.weaken hn)).trans ((e3.weaken (Nat.le_trans hn t3)).trans (hi4.ext.weaken (Nat.le_trans hn hS3)));rw[hf',hL];refine O3 (P:=P) (G:=G) (ops:=l.toArray) (ro:=n.rd.map M.β) n.n (λS''=>At Q .normal ⟨⟩ (S''.keep ks)) (l.drop (i+1)) (i+1) _ Sf a4 M4 (λk hk=>by simp) (by rw[List.length_drop];exact b15) hrel hn4 (by simpa using J0 _ _ _ hkf) ?_;intro S5 a5 M5 hr5 he5 hd5 hq5;obtain⟨M6,w6,r6,e6⟩:=Weak.keep (G:=G) (n:=n) (S:=S5) (ks:=ks) (by rw[<- hr5.ob];exact he5.len) a5 M5 hr5;exact⟨_,M6,w6,r6,eM4.trans (he5.trans e6),.same (hd5.trans hi4.df),hq5⟩
  refine H8 (P:=P) (G:=G) (nt:=S.nt) (objs:=S3.objs) (ops:=l.toArray) (ks:=fl) (τ:=m8 Sf.tmps) (M0:=M3) (base:=listed.setIfInBounds i true) (dfs:=a.defers) (ro:=n.rd.map M.β) hd f3
   (λk hk o ho m hm'=>hdep k (hflj k hk) o ho m (hflj m hm')) hback ?_ ?_ f _ a3 M3 ?_
  ·intro f' listed' a4 M4 hi4 k hk4 hkf;have hkj:i<k:=by
    rcases Nat.lt_or_ge i k with h|h
    ·exact h
    ·exfalso;have h0:=(mem_ready.1 hk4).1;have h1:listed'.getD k false=true:=by
      refine hi4.has k ?_;rcases Nat.eq_or_lt_of_le h with rfl|hlt
      ·exact hlisj
      ·exact getD_set_true (hpl k hlt hkf)
     rcases Nat.lt_or_ge k listed'.size with h'|h'
     ·simp[h'] at h0 h1;rw[h0] at h1;cases h1
     ·simp[Array.getElem?_eq_none h'] at h1
   exact(fin _ listed' a4 M4 hi4 λm hm'=>hlater k listed' hi4.cl hk4 hkj m (Nat.le_of_lt (hflj m hm'))).2 k hk4
  ·intro listed' a4 M4 hi4;refine(fin 0 listed' a4 M4 hi4 λm hm'=>?_).2;have hnot:=List.count_eq_zero.1 hi4.cn;have hml:m<listed'.size:=by rw[hi4.sz];have:=hflj m hm';simp;omega
   cases hv:listed'[m] with
   | true=>simp[hml,hv]
   | false=>exact absurd (by rw[<- hv];exact Array.getElem_mem_toList hml) hnot
  ·refine⟨by simpa using hi.sz,bV (mem_ready.1 hrdy).1 hi.cn,hi.cl.step hrdy,⟨r3.m,r3.ob,by rw[r3.nt,hsz3],r3.df,λt d ht=>?_⟩,by rw[<- r3.ob];exact Ext.refl M3,d3.trans hi.df,⟨λ_=>0,λk o t u hk ho hop=>absurd hop (hnoal k hk o ho t),λk m o o' t t' hk _ ho hop=>absurd hop (hnoal k hk o ho t)⟩,λ_ h=>.inl h,λ_ h=>h⟩;unfold K8 at ht;split at ht
   ·rename_i hvis;by_cases hfd:∃ k∈fl,∃ o,l.toArray[k]?=some o/\o.dst=some t
    ·obtain⟨k,hk,o,ho,hu⟩:=hfd;have hkl:listed.getD k false=true:=(o9 (hvis k hk o ho hu)).resolve_left (by have:=hflj k hk;omega);have h1:m8 Sf.tmps t=m8 Sq.tmps t:=bI hsame (ky (V2 hk (by simpa using ho)) hu);obtain⟨x,x1,x2⟩:=hi.rel.tm t d (by
      unfold K8;rw[if_pos]
      ·rw[<- h1];exact ht
      ·intro m hm' o' ho' hu';have:=hd.2 k m o o' t ho ho' hu hu';subst this;exact hkl)
     refine⟨x,?_,(t5 d x x2).ext e3⟩;rw[hput];cases hdj:oj.dst with
     | none=>exact x1
     | some y =>
       have hne:y≠t:=λe=>by
        have:=hd.2 i k oj o t hoj' ho (by rw[hdj,e]) hu;have:=hflj k hk;omega
       simp only[Act.put];rw[Array.getElem?_setIfInBounds_ne hne];exact x1
    ·have h1:m8 Sf.tmps t=m8 S3.tmps t:=f4 t λo ho hu=>by
      obtain⟨k,hk,hk'⟩:=V5 ho;exact hfd ⟨k,hk,o,by simpa using hk',hu⟩
     exact r3.tm t d (by rw[<- h1];exact ht)
   ·cases ht
 ·intro listed a2 M2 hi;exfalso;have hnot:=List.count_eq_zero.1 hi.cn;have hjl:j<listed.size:=by rw[hi.sz];simpa using b1
  have hjt:listed.getD j false=true:=by
   cases hv:listed[j] with
   | true=>simp[hjl,hv]
   | false=>exact absurd (by rw[<- hv];exact Array.getElem_mem_toList hjl) hnot
  rcases hi.only j hjt with h|h
  ·rw[l5] at h;cases h
  ·simp at h
 ·refine⟨by simp,by simp,λk o _ hk=>?_,⟨hMd.m,hMd.ob,hMd.nt,hMd.df,λt d ht=>?_⟩,by rw[<- hr.ob];exact Ext.refl Md,rfl,⟨λ_=>0,λk o t u _ _ _ _ hk=>?_,λk m o o' t t' _ _ _ _ hk=>?_⟩,λk hk=>?_,λ_ h=>h⟩
  ·rw[l5] at hk;cases hk
  ·unfold K8 at ht;split at ht
   ·rename_i hvis;refine hMd.tm t d ?_;rw[<- q4 t λo ho hu=>?_]
    ·exact ht
    ·obtain⟨k,hk⟩:=List.mem_iff_getElem?.1 ho;have hkj:k<j:=by
      have:=(List.getElem?_eq_some_iff.1 hk).1;simp at this;omega
     rw[List.getElem?_take_of_lt hkj] at hk;have:=hvis k (by simpa using hkj) o (by simpa using hk) hu;rw[l5] at this;cases this
   ·cases ht
  ·rw[l5] at hk;cases hk
  ·rw[l5] at hk;cases hk
  ·rw[l5] at hk;cases hk
attribute [simp] BN rT fH wg jM
theorem RelM.nilCell {M:MS} (hm:RelM G M) {o j:Nat} {c:List DC} (ho:M.objs[o]?=some (.row c)) (hj:c[j]?=some (.im (.raw (.slice none 0 0)))) :
 let M':MS:={ M with objs:=M.objs.set o (.row (c.set j (.vec M.objs.length 0 0 0)))++[.vec 0 [] 0 true] }
 RelM G M'/\Ext M.objs.length M M':=by
 have hol:=e7 ho;have hjl:=e7 hj;have hm1:RelM G (M.idle (.vec 0 [] 0 true)):=hm.idle rfl ⟨λ_=>rfl,λh=>by cases h⟩;have he1:Ext M.objs.length M (M.idle (.vec 0 [] 0 true)):=Ext.idle (M:=M) rfl;have ho1:(M.idle (.vec 0 [] 0 true)).objs[o]?=some (.row c):=by simp only[MS.idle];rw[List.getElem?_append_left hol];exact ho
 have hr:=hm1.objs o _ ho1;obtain⟨cs,T,h1,h2,h3⟩:=hr;have hself:∀ (b:Nat) (x:Obj),(M.idle (.vec 0 [] 0 true)).w.heap[b]?=some x->({ (M.idle (.vec 0 [] 0 true)).w with heap:=(M.idle (.vec 0 [] 0 true)).w.heap.setIfInBounds b x }:World)=(M.idle (.vec 0 [] 0 true)).w:=λb x hx=>aN hx;have hturn:(M.idle (.vec 0 [] 0 true)).turn o (.cells cs T (0,0)) (.row (c.set j (.vec M.objs.length 0 0 0)))={ M with objs:=M.objs.set o (.row (c.set j (.vec M.objs.length 0 0 0)))++[.vec 0 [] 0 true] }:=by
  unfold MS.turn;rw[hself _ _ h1];simp only[MS.idle];rw[List.set_append_left _ _ hol]
 have hx:=Ext.turn (x:=.cells cs T (0,0)) (d':=.row (c.set j (.vec M.objs.length 0 0 0))) ho1 rfl trivial h1 rfl;have hm2:=hm1.turn (x:=.cells cs T (0,0)) (d':=.row (c.set j (.vec M.objs.length 0 0 0))) ho1 rfl trivial h1 rfl (by
  refine⟨cs,T,?_,by rw[List.length_set];exact h2,λi d v hd hv=>?_⟩
  ·have:=hself _ _ h1;unfold MS.turn;rw[this];exact h1
  ·by_cases e:i=j
   ·subst e;rw[List.getElem?_set_self hjl] at hd;cases hd;have hc:=h3 i _ v hj hv;have hv0:v=.slice none 0 0:=by
     cases hc with
     | im _ _ hc=>cases hc;rfl
    subst hv0;refine .vec _ 0 0 0 _ rfl (by simp[MS.turn,MS.idle]) λsz es g nl hg=>?_;have hg':(.vec 0 [] 0 true:DObj)=.vec sz es g nl:=by
     have:((M.idle (.vec 0 [] 0 true)).turn o (.cells cs T (0,0)) (.row (c.set i (.vec M.objs.length 0 0 0)))).objs[M.objs.length]?=some (.vec 0 [] 0 true):=by
      simp only[MS.turn,MS.idle];rw[List.getElem?_set_ne (by omega)];simp
     rw[this] at hg;cases hg;rfl
    cases hg';exact⟨Nat.le_refl _,λ_=>⟨λ_=>⟨rfl,rfl,rfl⟩,λh=>by cases h⟩⟩
   ·rw[List.getElem?_set_ne (Ne.symm e)] at hd;exact(h3 i d v hd hv).ext hx)
 rw[hturn] at hm2 hx;exact⟨hm2,he1.trans (hx.weaken (by simp[MS.idle]))⟩
theorem Weak.nilCell {n:Cx} {S:DS} (o j:Nat) {c:List DC} (ho:S.objs[o]?=some (.row c)) (hj:c[j]?=some (.im (.raw (.slice none 0 0)))) :
 Weak G n S { S with objs:=S.objs.set o (.row (c.set j (.vec S.objs.length 0 0 0)))++[.vec 0 [] 0 true] }:=by
 intro hn a M hr;obtain⟨h1,h2⟩:=hr.m.nilCell (by rw[hr.ob];exact ho) hj;refine⟨{ M with objs:=M.objs.set o (.row (c.set j (.vec M.objs.length 0 0 0)))++[.vec 0 [] 0 true] },rfl,⟨h1,by simp only[hr.ob],hr.nt,hr.df,λt d ht=>?_⟩,h2.weaken (by rw[hr.ob];exact hn)⟩;obtain⟨v,e1,e2⟩:=hr.tm t d ht;exact⟨v,e1,e2.ext h2⟩
end
inductive FlV:DV->Prop
 | one (v:Value):FlV (.one (.im (.raw v)))
 | agg (l:List DC):(∀ d∈l,∃ v,d=.im (.raw v))->FlV (.agg l)
 | tup (l:List DV):(∀ d∈l,FlV d)->FlV (.tup l)
theorem RepV.flat {M M':MS} {d:DV} {v:Value} (r:RepV M d v) (hf:FlV d):RepV M' d v:=by
 induction r with
 | one c v hc =>
   cases hf;cases hc with
   | im _ _ hc=>cases hc with
     | raw _ h=>exact .one _ _ (.im _ _ (.raw _ h))
 | agg l cs h1 h2 =>
   cases hf with
   | agg _ hall =>
     refine .agg _ _ h1 λj c v hj hv=>?_;obtain⟨c0,rfl⟩:=hall c (List.mem_of_getElem? hj);cases h2 j _ v hj hv with
     | im _ _ hc=>cases hc with
       | raw _ h=>exact .im _ _ (.raw _ h)
 | tup l vs h1 _ ih =>
   cases hf with
   | tup _ hall=>exact .tup _ _ h1 λj d v hj hv=>ih j d v hj hv (hall d (List.mem_of_getElem? hj))
theorem By (l:List DC):FlV (.agg l)↔∀ d∈l,∃ v,d=.im (.raw v):=⟨λh=>by cases h;assumption,.agg l⟩
theorem Bx (l:List DV):FlV (.tup l)↔∀ d∈l,FlV d:=⟨λh=>by cases h;assumption,.tup l⟩
attribute [simp] FlV.one By Bx
section
variable {P:Program} {G:Hn}
theorem DCall.thaw {f:FuncId} {args args0:List DV} {d0:DV} {objs:List DObj} (h:∀ objs,DCall P G f args0 objs (λd o=>d=d0/\o=objs)) (ha:args0=args.map (fB 0 objs)) (hd:FlV d0) :
 DCall P G f args objs (λd objs'=>d=d0/\objs'=objs):=by
 intro M vs hm hob hvs hrep;subst hob;have hm0:=hm.drop (Nat.zero_le M.objs.length);refine(h [] (M.drop 0) vs hm0 (by simp[MS.drop,R9]) (by rw[ha];simpa using hvs) λj d v hd hv=>?_).mono ?_
 ·rw[ha,List.getElem?_map,Option.map_eq_some_iff] at hd;obtain⟨d1,h1,rfl⟩:=hd;exact(hrep j d1 v h1 hv).drop hm (Nat.zero_le _)
 rintro e w' ⟨v,d,M1,rfl,rfl,hm1,hv,he,rfl,hq⟩;have same:∀ b,b<M.w.heap.size->b<M1.w.heap.size/\M1.w.heap[b]?=M.w.heap[b]?:=λb hb=>by
  have:=he.free b ⟨hb,λ⟨o,d,h1,_⟩=>by simp[MS.drop,R9] at h1⟩;exact⟨this.1.1,this.2⟩
 have hext:Ext M.objs.length M { w:=M1.w,β:=M.β,objs:=M.objs,F:=M.F }:=by
  refine⟨Nat.le_refl _,λb hb=>⟨⟨(same b hb.1).1,hb.2⟩,(same b hb.1).2⟩,cv M,he.hs,λo _ c' hc=>⟨⟨c',hc⟩,rfl⟩,λo _ sz es g nl hv=>⟨sz,es,g,nl,hv,Nat.le_refl _,λ_=>⟨rfl,rfl,λhn=>⟨rfl,?_⟩⟩⟩,λo _ ks es hc=>⟨⟨ks,es,hc⟩,rfl⟩,λo _ r hc=>⟨⟨r,hc⟩,rfl⟩,λo _ d hc hi=>⟨⟨d,hc,hi⟩,rfl⟩,λo _ r hc=>⟨⟨r,hc⟩,rfl⟩,he.io⟩;simp only[H3];rw[(same _ (hm.lt o _ hv (by simp[DObj.blk,hn]))).2]
 exact⟨v,d,{ w:=M1.w,β:=M.β,objs:=M.objs,F:=M.F },rfl,rfl,
  ⟨λo d ho=>(hm.objs o d ho).ext hext (λ_=>rfl) (λhb=>(same _ (hm.lt o d ho hb)).2),λo d ho hb=>(same _ (hm.lt o d ho hb)).1,hm.inj,λg l hg=>(hm.glob g l hg).mono hext.ok,
   λb hb=>(same b (hm.fl b hb)).1,hm.own⟩,hv.flat hd,hext,rfl,rfl⟩
theorem CallE.thaw {f:FuncId} {args args0:List DV} {d0:DV} {objs:List DObj} {Q:DV->List DObj->Prop} {t:Tok Q} (h:∀ objs,DCall P G f args0 objs (λd o=>d=d0/\o=objs)) (ha:args0=args.map (fB 0 objs)) (hd:FlV d0) (hq:Q d0 objs):CallE P G f args objs Q t:=
 (DCall.thaw h ha hd).mono λd' objs' ⟨h1,h2⟩=>by rw[h1,h2];exact hq
theorem CallE.here {f:FuncId} {args:List DV} {d0:DV} {objs:List DObj} {Q:DV->List DObj->Prop} {t:Tok Q} (h:DCall P G f args objs (λd o=>d=d0/\o=objs)) (hq:Q d0 objs):CallE P G f args objs Q t:=
 h.mono λd' objs' ⟨h1,h2⟩=>by rw[h1,h2];exact hq
theorem RepC.fnOf {M:MS} {g:Fn} {cs:List IC} {v:Value} (h:RepC M (.im (.fn g cs)) v):RepC M (.fn g (cs.map .im)) v:=by
 cases h with
 | im _ _ h=>cases h with
   | fn _ _ vs h1 h2 =>
     refine .fn g _ vs (by simpa using h1) λj c v hj hv=>?_;rw[List.getElem?_map,Option.map_eq_some_iff] at hj;obtain⟨c0,h3,rfl⟩:=hj;exact .im _ _ (h2 j c0 v h3 hv)
theorem DCall.fnArg2 {f:FuncId} {a:DV} {g:Fn} {cs:List IC} {objs:List DObj} {Q:DV->List DObj->Prop} (h:DCall P G f [a,.one (.fn g (cs.map .im))] objs Q):DCall P G f [a,.one (.im (.fn g cs))] objs Q:=by
 intro M vs hm hob hvs hrep;refine h M vs hm hob hvs λj d v hd hv=>?_;match j with
 | 0=>exact hrep 0 d v hd hv
 | 1 =>
   simp at hd;subst hd;have:=hrep 1 _ v rfl hv;cases this with
   | one _ _ hc=>exact .one _ _ hc.fnOf
 | j+2=>simp at hd
end
section
variable {P:Program} {G:Hn} {S:DS}
def w5 (k:Nat):List DObj:=List.replicate k .gone
theorem pj {G:Hn} {M:MS} (hm:RelM G M):∀ k,RelM G { M with objs:=M.objs++w5 k }/\Ext M.objs.length M { M with objs:=M.objs++w5 k }
 | 0=>by simp only[w5,List.replicate_zero,List.append_nil];exact⟨hm,Ext.refl M⟩
 | k+1=>by
   obtain⟨h1,h2⟩:=pj hm k;have e:({ M with objs:=M.objs++w5 (k+1) }:MS)=MS.idle { M with objs:=M.objs++w5 k } .gone:=by
    simp only[MS.idle,w5,List.replicate_succ',List.append_assoc]
   rw[e];exact⟨h1.idle rfl trivial,h2.trans ((Ext.idle rfl).weaken (by simp))⟩
theorem DCall.freeze {f:FuncId} {args args0:List DV} {objs o1:List DObj} {d0:DV} (m:Nat) (h:DCall P G f args0 (R9 m objs) (λd o=>d=d0/\o=o1)) (hm:m<=objs.length) (hl:o1.length=m)
 (ha:args0=args.map (fB m objs)) (hnl:∀ o r,m<=o->objs[o]?≠some (.loop r)) :
 DCall P G f args objs (λd o=>d=d0/\o=o1++w5 (objs.length-m)):=by
 intro M vs hM hob hvs hrep;subst hob;have hlen:(R9 m M.objs).length=m:=by simp[R9];omega
 refine(h (M.drop m) vs (hM.drop hm) rfl (by rw[ha];simpa using hvs) λj d v hd hv=>?_).mono ?_
 ·rw[ha,List.getElem?_map,Option.map_eq_some_iff] at hd;obtain⟨d1,h1,rfl⟩:=hd;exact(hrep j d1 v h1 hv).drop hM hm
 rintro e w' ⟨v,d,M1,rfl,rfl,hm1,hv,he,rfl,hq⟩;rw[hlen] at he;obtain⟨g1,g2⟩:=pj hm1 (M.objs.length-m);have hl1:M1.objs.length=m:=by rw[hq];exact hl
 have hall:Ext m M { M1 with objs:=M1.objs++w5 (M.objs.length-m) }:=(Ext.drop hm).trans (he.trans (g2.weaken (by omega)));have hg:∀ o,m<=o->∀ d,(M1.objs++w5 (M.objs.length-m))[o]?=some d->d=.gone:=λo ho d hd=>by
  rw[List.getElem?_append_right (by omega)] at hd;simp only[w5,List.getElem?_replicate] at hd;split at hd<;>simp_all
 refine⟨v,d,{ M1 with objs:=M1.objs++w5 (M.objs.length-m) },rfl,rfl,g1,hv.ext g2,?_,rfl,by rw[hq]⟩;refine⟨by simp[w5];omega,hall.free,hall.other,hall.hs,λo ho c' hc=>?_,λo ho sz es' g nl hc=>?_,λo ho ks es' hc=>?_,λo ho r' hc=>?_,λo ho d' hc hit=>?_,λo ho r hc=>?_,hall.io⟩;all_goals rcases Nat.lt_or_ge o m with hlt|hge
 ·exact hall.row o hlt c' hc
 ·cases hg o hge _ hc
 ·exact hall.vec o hlt sz es' g nl hc
 ·cases hg o hge _ hc
 ·exact hall.map o hlt ks es' hc
 ·cases hg o hge _ hc
 ·exact hall.lp o hlt r' hc
 ·cases hg o hge _ hc
 ·exact hall.it o hlt d' hc hit
 ·rw[hg o hge _ hc] at hit;cases hit
 ·exact hall.lp' o hlt r hc
 ·exact absurd hc (hnl o r hge)
def C7:DObj->Bool
 | .loop _=>false
 | _=>true
theorem CallE.freeze {f:FuncId} {args args0:List DV} {objs objs0 o1:List DObj} {d0:DV} {Q:DV->List DObj->Prop} {t:Tok Q} (m:Nat) (h:DCall P G f args0 objs0 (λd o=>d=d0/\o=o1)) (ho:objs0=R9 m objs) (ha:args0=args.map (fB m objs)) (hm:m<=objs.length) (hl:o1.length=m)
 (hnl:(objs.drop m).all C7=true) (hq:Q d0 (o1++w5 (objs.length-m))):CallE P G f args objs Q t:=
 (DCall.freeze m (ho ▸ h) hm hl ha λo r h1 h2=>by
  have h3:(objs.drop m)[o-m]?=some (.loop r):=by rw[List.getElem?_drop,show m+(o-m)=o by omega];exact h2
  have:=List.all_eq_true.1 hnl _ (List.mem_of_getElem? h3);cases this).mono λd o ⟨h1,h2⟩=>by rw[h1,h2];exact hq
def nilV (objs:List DObj):DV->DV
 | .one (.vec o g off len)=>match objs[o]? with
   | some (.vec _ _ g' nl)=>if g=g'/\nl=true then .one (.im (.raw (.slice none 0 0))) else .one (.vec o g off len)
   | _=>.one (.vec o g off len)
 | d=>d
theorem RepV.nilV {M:MS} {d:DV} {v:Value} (r:RepV M d v):RepV M (nilV M.objs d) v:=by
 cases r with
 | one c v hc =>
   cases hc with
   | vec o g off len v h1 h2 h3 =>
     simp only[Go.Ab.nilV];split
     ·rename_i sz es g' nl ho;split
      ·rename_i h4;obtain⟨rfl,rfl⟩:=h4;obtain⟨_,_,rfl⟩:=((h3 _ _ _ _ ho).2 rfl).1 rfl;exact .one _ _ (.im _ _ (.raw _ rfl))
      ·exact .one _ _ (.vec o g off len v h1 h2 h3)
     ·exact .one _ _ (.vec o g off len v h1 h2 h3)
   | im c v h=>exact .one _ _ (.im c v h)
   | ptr o off v h1 h2 h3=>exact .one _ _ (.ptr o off v h1 h2 h3)
   | ept o g i off v h1 h2 h3=>exact .one _ _ (.ept o g i off v h1 h2 h3)
   | fn f cs vs h1 h2=>exact .one _ _ (.fn f cs vs h1 h2)
   | map o v h1 h2 h3=>exact .one _ _ (.map o v h1 h2 h3)
   | yld o v h1 h2 h3=>exact .one _ _ (.yld o v h1 h2 h3)
   | itr o v h1 h2 h3=>exact .one _ _ (.itr o v h1 h2 h3)
   | dead v h1=>exact .one _ _ (.dead v h1)
 | agg l cs h1 h2=>exact .agg l cs h1 h2
 | tup l vs h1 h2=>exact .tup l vs h1 h2
theorem DCall.nil {f:FuncId} {args:List DV} {objs:List DObj} {Q:DV->List DObj->Prop} (h:DCall P G f args objs (λd objs'=>Q (nilV objs' d) objs')):DCall P G f args objs Q:=
 λM vs h1 h2 h3 h4=>(h M vs h1 h2 h3 h4).mono λ_ _ ⟨v,d,M',a1,a2,a3,a4,a5,a6⟩=>⟨v,nilV M'.objs d,M',a1,a2,a3,a4.nilV,a5,a6⟩
def emptyV (objs:List DObj):DV->DV
 | .one (.vec o g off 0)=>match objs[o]? with
   | some (.vec _ _ g' _)=>if g=g' then .one (.im (.sl [])) else .one (.vec o g off 0)
   | _=>.one (.vec o g off 0)
 | d=>d
theorem RepV.emptyV {M:MS} {d:DV} {v:Value} (r:RepV M d v):RepV M (emptyV M.objs d) v:=by
 unfold Go.Ab.emptyV;split
 ·rename_i o g off;split
  ·rename_i sz es g' nl ho;split
   ·rename_i h4;subst h4;cases r with
    | one _ _ hc=>cases hc with
      | vec _ _ _ _ _ h1 h2 h3 =>
        obtain⟨h5,h6⟩:=(h3 _ _ _ _ ho).2 rfl;cases nl with
        | true =>
          obtain⟨_,_,rfl⟩:=h5 rfl;exact .one _ _ (.im _ _ .slnil)
        | false =>
          obtain⟨x,cap,rfl,_⟩:=h6 rfl;exact .one _ _ (.im _ _ (.slz _ _))
   ·exact r
  ·exact r
 ·exact r
theorem CallE.empty {f:FuncId} {args args':List DV} {objs:List DObj} {Q:DV->List DObj->Prop} {t:Tok Q} (ha:args'=args.map (emptyV objs)) (h:CallE P G f args' objs Q t):CallE P G f args objs Q t:=by
 intro M vs hM hob hvs hrep;subst ha;refine h M vs hM hob (by simpa using hvs) λj d v hd hv=>?_;rw[List.getElem?_map,Option.map_eq_some_iff] at hd;obtain⟨d1,h1,rfl⟩:=hd;rw[<- hob];exact(hrep j d1 v h1 hv).emptyV
def Q2 (objs:List DObj):DV->DV×List DObj
 | .one (.im (.raw (.slice none 0 0)))=>(.one (.vec objs.length 0 0 0),objs++[.vec 1 [] 0 true])
 | d=>(d,objs)
theorem CallE.idle {f:FuncId} {args:List DV} {objs:List DObj} {Q:DV->List DObj->Prop} {t:Tok Q} (h:CallE P G f args objs (λd o=>Q (Q2 o d).1 (Q2 o d).2) ⟨⟩):CallE P G f args objs Q t:=by
 intro M vs h1 h2 h3 h4;refine(h M vs h1 h2 h3 h4).mono λ_ _ ⟨v,d,M',a1,a2,a3,a4,a5,a6⟩=>?_;have a7:Q (Q2 M'.objs d).1 (Q2 M'.objs d).2:=a6;clear a6;generalize hx:Q2 M'.objs d=x at a7;unfold Q2 at hx;split at hx
 ·subst hx;refine⟨v,_,M'.idle (.vec 1 [] 0 true),a1,a2,a3.idle rfl ⟨λ_=>rfl,(λh=>by cases h)⟩,?_,a5.trans ((Ext.idle rfl).weaken a5.len),a7⟩;cases a4 with
  | one _ _ hc=>cases hc with
    | im _ _ hc=>cases hc with
      | raw _ hv =>
        refine .one _ _ (.vec _ _ _ _ _ rfl (by simp[MS.idle]) λsz es g nl ho=>?_);have:(M'.idle (DObj.vec 1 [] 0 true)).objs[M'.objs.length]?=some (DObj.vec 1 [] 0 true):=by simp[MS.idle]
        rw[this] at ho;cases ho;exact⟨Nat.le_refl _,λ_=>⟨λ_=>⟨rfl,rfl,rfl⟩,(λh=>by cases h)⟩⟩
 ·subst hx;exact⟨v,d,M',a1,a2,a3,a4,a5,a7⟩
end
def fA (p:List Nat) (o:Oper):Oper:={ dst:=o.dst,op:=o.op,type:=o.type,pos:=o.pos,after:=o.after.map λe=>{ on:=p.idxOf e.on,ground:=e.ground },guard:=o.guard }
def w0 (p:List Nat) (l:List Oper):List Nat->List Oper
 | []=>[]
 | k :: r=>match l[k]? with
   | some o=>fA p o :: w0 p l r
   | none=>w0 p l r
def qF (p:List Nat) (l:List Oper):Bool:=
 decide (p.length=l.length)&&p.Nodup&&(p.all λk=>decide (k<l.length))&&(l.all λo=>o.guard.isNone)&&((List.range l.length).all λk=>p.contains k)
theorem ij {p:List Nat} {l:List Oper}:∀ {q:List Nat},(∀ k∈q,k<l.length)->∀ i:Nat,(w0 p l q)[i]?=(q[i]?).bind λ(k:Nat)=>(l[k]?).map (fA p)
 | [],_,i=>by simp[w0]
 | k :: r,h,i=>by
   have hk:l[k]?=some (l[k]'(h k (by simp))):=List.getElem?_eq_getElem _;simp only[w0,hk];cases i with
   | zero=>simp[hk]
   | succ i=>simpa using ij (q:=r) (λk hk=>h k (by simp[hk])) i
theorem dL {p:List Nat} {l:List Oper}:∀ {q:List Nat},(∀ k∈q,k<l.length)->(w0 p l q).length=q.length
 | [],_=>rfl
 | k :: r,h=>by
   have hk:l[k]?=some (l[k]'(h k (by simp))):=List.getElem?_eq_getElem _;simp only[w0,hk,List.length_cons];rw[dL λk hk=>h k (by simp[hk])]
theorem mE {L:Array Bool} {i:Nat} (h:i<L.size):L.getD i true=L.getD i false:=by
 simp[h]
section
variable {P:Program} {p:List Nat} {l:List Oper} {F:Fence} {n:Nat} {Q:Exit->Act->World->Prop}
structure PermOk (p:List Nat) (l:List Oper):Prop where
 len:p.length=l.length
 nd:p.Nodup
 lt:∀ k∈p,k<l.length
 gd:∀ o∈l,o.guard=none
 sur:∀ k,k<l.length->k∈p
theorem oL (h:qF p l=true):PermOk p l:=by
 simp only[qF,Bool.and_eq_true,decide_eq_true_eq,List.all_eq_true,List.mem_range,List.contains_iff_mem,Option.isNone_iff_eq_none] at h;obtain⟨⟨⟨⟨h1,h2⟩,h3⟩,h4⟩,h5⟩:=h;exact⟨h1,h2,h3,h4,h5⟩
theorem eR (hp:PermOk p l) {L L':Array Bool} (hL:L.size=l.length) (hL':L'.size=l.length) (hR:∀ i k,p[i]?=some k->L'.getD i false=L.getD k false) {i k:Nat} (h:p[i]?=some k) :
 i∈Region.ready .any (w0 p l p).toArray L'↔k∈Region.ready .any l.toArray L:=by
 have hi:i<p.length:=e7 h;have hk:k<l.length:=hp.lt k (List.mem_of_getElem? h);have e2:l[k]?=some l[k]:=List.getElem?_eq_getElem hk;have e1:(w0 p l p)[i]?=some (fA p l[k]):=by rw[ij hp.lt,h,Option.bind_some,e2,Option.map_some]
 have hlen:(w0 p l p).length=p.length:=dL hp.lt;simp only[Region.ready,List.mem_filter,List.mem_range,List.size_toArray,hlen,List.getElem?_toArray,e1,e2,Option.map_some,Option.getD_some,Bool.and_eq_true,hi,hk,true_and];rw[mE (by rw[hL',<- hp.len];exact hi),mE (by rw[hL];exact hk),hR i k h];refine and_congr_right λ_=>?_;have hall:((fA p l[k]).after.all λe=>!Region.binds .any e||L'.getD e.on false)=(l[k].after.all λe=>!Region.binds .any e||L.getD e.on false):=by
  simp only[fA,Array.all_map]
  congr 1
  funext e;have hb:Region.binds .any { on:=p.idxOf e.on,ground:=e.ground }=Region.binds .any e:=by cases e;rfl
  have hg:L'.getD (p.idxOf e.on) false=L.getD e.on false:=by
   by_cases hm:e.on∈p
   ·exact hR _ _ (by rw[List.getElem?_eq_getElem (List.idxOf_lt_length_of_mem hm)];simp)
   ·have h1:¬ e.on<l.length:=λhlt=>hm (hp.sur _ hlt);rw[List.idxOf_eq_length hm,hp.len];simp[Array.getD,hL,hL',h1]
  simp only[Function.comp_apply,hb,hg]
 rw[hall]
theorem qh (hp:PermOk p l):∀ (f:Nat) (L L':Array Bool) (a:Act) (w:World),L.size=l.length->L'.size=l.length->(∀ i k,p[i]?=some k->L'.getD i false=L.getD k false) ->
 wpAnyIn F n P .any (w0 p l p).toArray Q f L' a w->wpAnyIn F n P .any l.toArray Q f L a w:=by
 have back:∀ {L:Array Bool} {k:Nat},k∈Region.ready .any l.toArray L->∃ i,p[i]?=some k:=λhk=>by
  simp only[Region.ready,List.mem_filter,List.mem_range,List.size_toArray] at hk;exact List.mem_iff_getElem?.1 (hp.sur _ hk.1)
 have forth:∀ {L':Array Bool} {i:Nat},i∈Region.ready .any (w0 p l p).toArray L'->∃ k,p[i]?=some k:=λhi=>by
  simp only[Region.ready,List.mem_filter,List.mem_range,List.size_toArray,dL hp.lt] at hi;exact⟨_,List.getElem?_eq_getElem hi.1⟩
 have nil:∀ {L L':Array Bool},L.size=l.length->L'.size=l.length->(∀ i k,p[i]?=some k->L'.getD i false=L.getD k false)->(Region.ready .any (w0 p l p).toArray L'=[]↔Region.ready .any l.toArray L=[]):=λ{L L'} hL hL' hR=>by
  simp only[List.eq_nil_iff_forall_not_mem];constructor
  ·intro h k hk;obtain⟨i,hi⟩:=back hk;exact h i ((eR hp hL hL' hR hi).2 hk)
  ·intro h i hi;obtain⟨k,hk⟩:=forth hi;exact h k ((eR hp hL hL' hR hk).1 hi)
 intro f;induction f with
 | zero=>exact λL L' a w hL hL' hR h=>⟨(nil hL hL' hR).1 h.1,h.2⟩
 | succ f ih =>
   intro L L' a w hL hL' hR h;refine⟨λh0=>h.1 ((nil hL hL' hR).2 h0),λk hk=>?_⟩;obtain⟨i,hi⟩:=back hk;have h1:=h.2 i ((eR hp hL hL' hR hi).2 hk);have hkl:k<l.length:=hp.lt k (List.mem_of_getElem? hi);have hip:i<p.length:=e7 hi;have e2:l[k]?=some l[k]:=List.getElem?_eq_getElem hkl;have e1:(w0 p l p)[i]?=some (fA p l[k]):=by rw[ij hp.lt,hi,Option.bind_some,e2,Option.map_some]
   have hg:l[k].guard=none:=hp.gd _ (List.getElem_mem hkl);have hw:∀ o y,o.guard=none->Region.wanted o y=true:=λo y h=>by simp[Region.wanted,h]
   unfold wpOpIn at h1 ⊢;simp only[List.getElem?_toArray,e1,hw (fA p l[k]) _ hg,if_true] at h1;simp only[List.getElem?_toArray,e2,hw _ _ hg,if_true];have h2:l[k].wpIn F n P a w (wpAnyIn F n P .any (w0 p l p).toArray Q f (L'.setIfInBounds i true)) Q:=h1;refine Oper.wpIn_mono (λa w hh=>ih _ _ a w (by simpa using hL) (by simpa using hL') (λi' k' hi'=>?_) hh) h2;have hne:i=i'↔k=k':=⟨λe=>by subst e;rw[hi] at hi';exact Option.some.inj hi',λe=>by
    subst e;have hip':i'<p.length:=e7 hi';have g1:p[i]=k:=by rw[List.getElem?_eq_getElem hip] at hi;exact Option.some.inj hi
    have g2:p[i']=k:=by rw[List.getElem?_eq_getElem hip'] at hi';exact Option.some.inj hi'
    rcases Nat.lt_trichotomy i i' with h|h|h
    ·exact absurd (g1.trans g2.symm) (List.pairwise_iff_getElem.1 hp.nd i i' hip hip' h)
    ·exact h
    ·exact absurd (g2.trans g1.symm) (List.pairwise_iff_getElem.1 hp.nd i' i hip' hip h)⟩
   have h3:=hR i' k' hi';by_cases e:i=i'
   ·have e':=hne.1 e;subst e;subst e';have h4:i<L'.size:=by rw[hL',<- hp.len];exact hip
    have h5:k<L.size:=by rw[hL];exact hkl
    simp[Array.getElem?_setIfInBounds,h4,h5]
   ·have e':k≠k':=λh=>e (hne.2 h);simp only[Array.getD_eq_getD_getElem?,Array.getElem?_setIfInBounds_ne e,Array.getElem?_setIfInBounds_ne e'] at h3 ⊢;exact h3
end
section
variable {P:Program} {G:Hn}
theorem BT {l:List Oper} {nt:Nat} {objs:List DObj} {Sq:DS} {ks fl kt:List Nat} {Mb M2:MS} {base listed:Array Bool} {dfs:List Deferred} {f i:Nat} {a2:Act} {oj:Oper} {ro:Option Nat} {KK:DS->Prop} {Q':Exit->Act->World->Prop}
 (hd:fi nt l.toArray) (hnt:Sq.nt=nt) (hob:Sq.objs=objs) (hi:Inv P G nt objs l.toArray ks (m8 Sq.tmps) Mb base dfs (f+1) listed a2 M2)
 (hrdy:i∈Region.ready .any l.toArray listed) (hoj:l[i]?=some oj) (hg:oj.guard=none) (hfl:∀ k∈fl,k∈ks) (hik:i∉ks) (hpl:∀ k∈ks,k∉fl->listed.getD k false=true)
 (hdf:V9 ((pick l fl).map (·.dst))=true) (hnl:aP l.toArray (pick l fl)=true) (hlt:∀ k∈ks,k<l.length) (hnoal:∀ k∈ks,∀ o,l.toArray[k]?=some o->∀ t,o.op≠.alloc t)
 (hkt:((pick l fl).all λo=>match o.dst with|some u=>!kt.contains u|none=>true)=true)
 (hkq:nX P G (l.map (·.dst)) [oj] (Sq.keep kt) (λS'=>rX P G (l.map (·.dst)) (pick l fl) S' (λSf=>cO (lO (pick l fl)) Sf.tmps Sq.tmps/\KK Sf) ⟨⟩) ⟨⟩)
 (hnext:∀ (Sf:DS) (a3:Act) (M3:MS),KK Sf->Sf.nt=nt->Sf.objs=M3.objs->Ext objs.length M2 M3->(∀ k∈fl,∃ o d,l.toArray[k]?=some o/\OpS P G nt M3.objs l.toArray o d (m8 Sf.tmps)/\∀ u,o.dst=some u->m8 Sf.tmps u=some d) ->
  Inv P G nt M3.objs l.toArray fl (m8 Sf.tmps) M3 (listed.setIfInBounds i true) dfs f (listed.setIfInBounds i true) a3 M3->wpAnyIn (u9 ro) 0 P .any l.toArray Q' f (listed.setIfInBounds i true) a3 M3.w) :
 wpOpIn (u9 ro) 0 P l.toArray Q' i (wpAnyIn (u9 ro) 0 P .any l.toArray Q' f (listed.setIfInBounds i true)) a2 M2.w:=by
 have hoj':l.toArray[i]?=some oj:=by simpa using hoj
 have hrk:Rel G (Sq.keep kt) a2 M2:=by
  refine⟨hi.rel.m,hi.rel.ob.trans hob.symm,hi.rel.nt.trans hnt.symm,hi.rel.df,λt d ht=>hi.rel.tm t d ?_⟩;have h1:=dG ht;have h2:=bH ht;unfold K8;rw[if_pos]
  ·exact h2
  ·intro k hk o ho hu;by_cases hf:k∈fl
   ·have:=List.all_eq_true.1 hkt o (V2 hf (by simpa using ho));rw[hu] at this;simp at this;exact absurd h1 this
   ·exact hpl k hk hf
 obtain⟨b,hw,ht,_⟩:=J0 _ _ _ hkq;have hbt:b=true:=by
  unfold C2 at hw;rw[hg] at hw;exact(Option.some.inj hw).symm
 subst hbt;have hwant:Region.wanted oj (yielded l.toArray a2.tmps)=true:=by simp[Region.wanted,hg]
 unfold wpOpIn;simp only[hoj',hwant,if_true];refine Y5 (jQ (ht rfl ro a2 M2 hrk)) ?_;rintro a3 w3 ⟨⟨S3,M3,rfl,r3,e3,d3,k3⟩,v,hput⟩;have hsz3:S3.nt=nt:=by
  rw[<- r3.nt,hput,<- hi.rel.nt];cases oj.dst<;>simp[Act.put]
 have hob3:S3.objs=M3.objs:=r3.ob.symm;have hpm:∀ o∈pick l fl,o∈l:=λo ho=>let ⟨k,_,hk⟩:=V5 ho;List.mem_of_getElem? hk
 have hdst:∀ o∈l,∀ u,o.dst=some u->u<nt:=λo ho u hu=>by
  obtain⟨k,hk⟩:=List.mem_iff_getElem?.1 ho;exact hd.1 k o (by simpa using hk) u hu
 obtain⟨Sf,⟨hsame,hkf⟩,f1,f2,f3,f4⟩:=V1 (P:=P) (G:=G) (ops:=l.toArray) (nt:=nt) (objs:=M3.objs) fl (pick l fl) S3 (jN λk hk=>hlt k (hfl k hk)) hsz3 hob3 (λo ho=>hdst o (hpm o ho)) (G2 hdf) hnl
  (by simpa using(show rX P G (l.map (·.dst)) (pick l fl) S3 _ ⟨⟩ from k3))
 refine hnext Sf a3 M3 hkf f1 f2 (by rw[<- hi.rel.ob];exact e3) f3 ?_;refine⟨by simpa using hi.sz,bV (mem_ready.1 hrdy).1 hi.cn,hi.cl.step hrdy,⟨r3.m,rfl,by rw[r3.nt,hsz3],r3.df,λt d ht=>?_⟩,Ext.refl M3,d3.trans hi.df,⟨λ_=>0,λk o t u hk ho hop=>absurd hop (hnoal k (hfl k hk) o ho t),λk m o o' t t' hk _ ho hop=>absurd hop (hnoal k (hfl k hk) o ho t)⟩,λ_ h=>.inl h,λ_ h=>h⟩;unfold K8 at ht;split at ht
 ·rename_i hvis;by_cases hfd:∃ k∈fl,∃ o,l.toArray[k]?=some o/\o.dst=some t
  ·obtain⟨k,hk,o,ho,hu⟩:=hfd;have hki:k≠i:=λe=>hik (e ▸ hfl k hk);have hkl:listed.getD k false=true:=(o9 (hvis k hk o ho hu)).resolve_left hki;have h1:m8 Sf.tmps t=m8 Sq.tmps t:=bI hsame (ky (V2 hk (by simpa using ho)) hu);obtain⟨x,x1,x2⟩:=hi.rel.tm t d (by
    unfold K8;rw[if_pos]
    ·rw[<- h1];exact ht
    ·intro m hm' o' ho' hu';have:=hd.2 k m o o' t ho ho' hu hu';subst this;exact hkl)
   refine⟨x,?_,x2.ext e3⟩;rw[hput];cases hdj:oj.dst with
   | none=>exact x1
   | some y =>
     have hne:y≠t:=λe=>hki (hd.2 i k oj o t hoj' ho (by rw[hdj,e]) hu).symm;simp only[Act.put];rw[Array.getElem?_setIfInBounds_ne hne];exact x1
  ·have h1:m8 Sf.tmps t=m8 S3.tmps t:=f4 t λo ho hu=>by
    obtain⟨k,hk,hk'⟩:=V5 ho;exact hfd ⟨k,hk,o,by simpa using hk',hu⟩
   exact r3.tm t d (by rw[<- h1];exact ht)
 ·cases ht
end
section
variable (P:Program) (G:Hn)
def ZK (l:List Oper) (K:DS->Prop):List (List Nat×List Nat)->Nat->DS->Prop
 | [],i,S=>nX P G (l.map (·.dst)) (l.drop i) S K ⟨⟩
 | (fl,kt) :: r,i,Sq=>nX P G (l.map (·.dst)) (pick l [i]) (Sq.keep kt) (λS'=>rX P G (l.map (·.dst)) (pick l fl) S' (λSf=>cO (lO (pick l fl)) Sf.tmps Sq.tmps/\ZK l K r (i+1) Sf) ⟨⟩) ⟨⟩
end
def vU (l:List Oper):List (List Nat×List Nat)->Nat->List Nat->Bool
 | [],i,_=>decide (0<i)&&decide (i<=l.length)&&((List.range l.length).all λk=>decide (k<i)||(List.range i).all λm=>((br l []).getD k 0).testBit m) &&
  qU l.toArray (l.length-i) i (jS l.length (i-1))&&decide ((jS l.length (i-1)).toList.count false=l.length-i)
 | (fl,kt) :: r,i,ks=>decide (i<l.length)&&(fl.all λk=>ks.contains k)&&V9 ((pick l fl).map (·.dst))&&aP l.toArray (pick l fl) &&
  ((List.range i).all λm=>fl.contains m||((br l []).getD i 0).testBit m)&&((List.range l.length).all λk=>decide (k<=i)||((br l []).getD k 0).testBit i) &&
  ((pick l fl).all λo=>match o.dst with|some u=>!kt.contains u|none=>true)&&(match l[i]? with|some o=>o.guard.isNone|none=>false)&&vU l r (i+1) fl
section
variable {P:Program} {G:Hn}
theorem Dl {l:List Oper} {nt j:Nat} {n:Cx} {Q:Exit->DS->Prop} {kp:List Nat} {a:Act} {M:MS} {ro:Option Nat} (hd:fi nt l.toArray) (hj:j<=l.length)
 (hdep:∀ i,i<j->∀ o,l.toArray[i]?=some o->∀ k,k<j->∀ o',l.toArray[k]?=some o'->∀ u,o'.dst=some u->u∈o.looksAt l.toArray->∃ e∈o.after,e.on=k/\Region.binds .any e=true)
 (hback:∀ (k:Nat) (o:Oper),l.toArray[k]?=some o->∀ e∈o.after,Region.binds .any e=true->e.on<k) (hmask:fx l.toArray (br l [])) (hnoal:∀ i,i<j->∀ o,l.toArray[i]?=some o->∀ t,o.op≠.alloc t) :
 ∀ (st:List (List Nat×List Nat)) (i:Nat) (ks:List Nat) (Sq:DS) (objs:List DObj) (Mb:MS) (base:Array Bool),vU l st i ks=true->(∀ k∈ks,k<j)->j<=i->Sq.nt=nt->Sq.objs=objs->n.n<=objs.length->Ext n.n M Mb ->
  (∀ k∈ks,∃ o d,l.toArray[k]?=some o/\OpS P G nt objs l.toArray o d (m8 Sq.tmps)/\∀ u,o.dst=some u->m8 Sq.tmps u=some d) ->
  (∀ k,base.getD k false=true->k<i)->(∀ k,k<i->k∉ks->base.getD k false=true)->ZK P G l (λS''=>At Q .normal ⟨⟩ (S''.keep kp)) st i Sq ->
  ∀ f listed a2 M2,Inv P G nt objs l.toArray ks (m8 Sq.tmps) Mb base a.defers f listed a2 M2 ->
   wpAnyIn (u9 ro) 0 P .any l.toArray (λe a' w'=>∃ S' M',M'.w=w'/\Rel G S' a' M'/\Ext n.n M M'/\NewD M a a'/\Q e S') f listed a2 M2.w:=by
 have unl:∀ {listed:Array Bool} {k:Nat},k∈Region.ready .any l.toArray listed->listed.getD k false≠true:=λ{listed k} hk e=>by
  have h0:=(mem_ready.1 hk).1;rcases Nat.lt_or_ge k listed.size with h'|h'
  ·simp[h'] at h0 e;rw[h0] at e;cases e
  ·simp[Array.getElem?_eq_none h'] at e
 have alll:∀ {listed:Array Bool},listed.toList.count false=0->∀ m,m<listed.size->listed.getD m false=true:=λ{listed} h m hm'=>by
  have hnot:=List.count_eq_zero.1 h;cases hv:listed[m] with
  | true=>simp[hm',hv]
  | false=>exact absurd (by rw[<- hv];exact Array.getElem_mem_toList hm') hnot
 intro st;induction st with
 | nil =>
   intro i ks Sq objs Mb base hz hks hji hnt hob hno hMb hY hb1 hb2 hK f listed a2 M2 hi;simp only[vU,Bool.and_eq_true,decide_eq_true_eq] at hz;obtain⟨⟨⟨⟨z0,zl⟩,z1⟩,z2⟩,z3⟩:=hz
   have fin:∀ f' listed' a4 M4,Inv P G nt objs l.toArray ks (m8 Sq.tmps) Mb base a.defers f' listed' a4 M4->(∀ k∈ks,listed'.getD k false=true) ->
    wpAnyIn (u9 ro) 0 P .any l.toArray (λe a' w'=>∃ S' M',M'.w=w'/\Rel G S' a' M'/\Ext n.n M M'/\NewD M a a'/\Q e S') f' listed' a4 M4.w:=by
    intro f' listed' a4 M4 hi4 hfl4;have hL:listed'=jS l.length (i-1):=by
     refine nh (by simpa using hi4.sz) λk hk=>⟨λhkl=>?_,λhkl=>?_⟩
     ·rcases hi4.only k hkl with h1|h1
      ·have:=hb1 k h1;omega
      ·have:=hks k h1;omega
     ·by_cases hkf:k∈ks
      ·exact hfl4 k hkf
      ·exact hi4.has k (hb2 k (by omega) hkf)
    have hf':f'=(l.drop i).length:=by rw[<- hi4.cn,hL,z3];simp
    have hrel:Rel G Sq a4 M4:=⟨hi4.rel.m,by rw[hi4.rel.ob,hob],by rw[hi4.rel.nt,hnt],hi4.rel.df,λt d ht=>hi4.rel.tm t d (by
     unfold K8;rw[if_pos]
     ·exact ht
     ·exact λk hk _ _ _=>hfl4 k hk)⟩
    have hn4:n.n<=M4.objs.length:=by rw[hi4.rel.ob];exact hno
    have eM4:Ext n.n M M4:=hMb.trans (hi4.ext.weaken hno);rw[hf',hL];refine O3 (P:=P) (G:=G) (ops:=l.toArray) (ro:=ro) n.n (λS''=>At Q .normal ⟨⟩ (S''.keep kp)) (l.drop i) i _ Sq a4 M4 (λk hk=>by simp) (by rw[List.length_drop];exact z2) hrel hn4 (by simpa using J0 _ _ _ hK) ?_;intro S5 a5 M5 hr5 he5 hd5 hq5;obtain⟨M6,w6,r6,e6⟩:=Weak.keep (G:=G) (n:=n) (S:=S5) (ks:=kp) (by rw[<- hr5.ob];exact he5.len) a5 M5 hr5;exact⟨_,M6,w6,r6,eM4.trans (he5.trans e6),.same (hd5.trans hi4.df),hq5⟩
   refine H8 (P:=P) (G:=G) (nt:=nt) (objs:=objs) (ops:=l.toArray) (ks:=ks) (τ:=m8 Sq.tmps) (M0:=Mb) (base:=base) (dfs:=a.defers) (ro:=ro) hd hY
    (λk hk o ho m hm'=>hdep k (hks k hk) o ho m (hks m hm')) hback ?_ ?_ f listed a2 M2 hi
   ·intro f' listed' a4 M4 hi4 k hk4 hkf;have hik:i<=k:=by
     rcases Nat.lt_or_ge k i with h|h
     ·exact absurd (hi4.has k (hb2 k h hkf)) (unl hk4)
     ·exact h
    refine(fin _ listed' a4 M4 hi4 λm hm'=>?_).2 k hk4;obtain⟨_,ok,hok,hall⟩:=mem_ready.1 hk4;have h1:=List.all_eq_true.1 z1 k (by simpa using(Array.getElem?_eq_some_iff.1 hok).1);simp only[Bool.or_eq_true,decide_eq_true_eq] at h1;have h2:=h1.resolve_left (by omega);exact hmask k m ok hok (List.all_eq_true.1 h2 m (by have:=hks m hm';simp;omega)) listed' hi4.cl hall
   ·intro listed' a4 M4 hi4;exact(fin 0 listed' a4 M4 hi4 λm hm'=>alll hi4.cn m (by rw[hi4.sz];have:=hks m hm';simp;omega)).2
 | cons x r ih =>
   obtain⟨fl,kt⟩:=x;intro i ks Sq objs Mb base hz hks hji hnt hob hno hMb hY hb1 hb2 hK f listed a2 M2 hi;simp only[vU,Bool.and_eq_true,decide_eq_true_eq] at hz;obtain⟨⟨⟨⟨⟨⟨⟨⟨z0,z1⟩,z2⟩,z3⟩,z4⟩,z5⟩,z6⟩,z7⟩,z8⟩:=hz;have hfl:∀ k∈fl,k∈ks:=λk hk=>by simpa using List.all_eq_true.1 z1 k hk
   obtain⟨oi,hoi⟩:∃ o,l[i]?=some o:=⟨l[i],List.getElem?_eq_getElem z0⟩
   rw[hoi] at z7;have hgi:oi.guard=none:=by simpa[Option.isNone_iff_eq_none] using z7
   have hiks:i∉ks:=λh=>by have:=hks i h;omega
   have hpk:pick l [i]=[oi]:=by simp[pick,hoi]
   simp only[ZK] at hK;rw[hpk] at hK;have hun:∀ {f' listed' a4 M4},Inv P G nt objs l.toArray ks (m8 Sq.tmps) Mb base a.defers f' listed' a4 M4->listed'.getD i false≠true:=λhi4 e=>by
    rcases hi4.only i e with h|h
    ·have:=hb1 i h;omega
    ·exact hiks h
   refine H8 (P:=P) (G:=G) (nt:=nt) (objs:=objs) (ops:=l.toArray) (ks:=ks) (τ:=m8 Sq.tmps) (M0:=Mb) (base:=base) (dfs:=a.defers) (ro:=ro) hd hY
    (λk hk o ho m hm'=>hdep k (hks k hk) o ho m (hks m hm')) hback ?_ ?_ f listed a2 M2 hi
   ·intro f' listed' a4 M4 hi4 k hk4 hkf;obtain⟨_,ok,hok,hall⟩:=mem_ready.1 hk4;have hki:k=i:=by
     rcases Nat.lt_trichotomy k i with h|h|h
     ·exact absurd (hi4.has k (hb2 k h hkf)) (unl hk4)
     ·exact h
     ·have h1:=List.all_eq_true.1 z5 k (by simpa using(Array.getElem?_eq_some_iff.1 hok).1);simp only[Bool.or_eq_true,decide_eq_true_eq] at h1;exact absurd (hmask k i ok hok (h1.resolve_left (by omega)) listed' hi4.cl hall) (hun hi4)
    subst hki;have hpl:∀ m,m<k->m∉fl->listed'.getD m false=true:=λm hm' hmf=>by
     have h1:=List.all_eq_true.1 z4 m (by simpa using hm');simp only[Bool.or_eq_true,List.contains_iff_mem] at h1;exact hmask k m ok hok (h1.resolve_left hmf) listed' hi4.cl hall
    refine BT (fl:=fl) (kt:=kt) hd hnt hob hi4 hk4 hoi hgi hfl hkf (λm hm'=>hpl m (by have:=hks m hm';omega)) z2 z3 (λm hm'=>by have:=hks m hm';omega) (λm hm'=>hnoal m (hks m hm')) z6 hK ?_;intro Sf a3 M3 hkf' f1 f2 e3 f3 hi3;refine ih (k+1) fl Sf M3.objs M3 (listed'.setIfInBounds k true) z8 (λm hm'=>hks m (hfl m hm')) (by omega) f1 f2 (Nat.le_trans hno e3.len) ((hMb.trans (hi4.ext.weaken hno)).trans (e3.weaken hno)) f3 (λm hm'=>?_) (λm hm' hmf=>?_) hkf' f' _ a3 M3 hi3
    ·rcases o9 hm' with rfl|h1
     ·omega
     ·rcases hi4.only m h1 with h2|h2
      ·have:=hb1 m h2;omega
      ·have:=hks m h2;omega
    ·rcases Nat.eq_or_lt_of_le (Nat.le_of_lt_succ hm') with rfl|hlt
     ·have:m<listed'.size:=by rw[hi4.sz];simpa using z0
      simp[this]
     ·exact getD_set_true (hpl m hlt hmf)
   ·intro listed' a4 M4 hi4;exact absurd (alll hi4.cn i (by rw[hi4.sz];simpa using z0)) (hun hi4)
def np (nt j:Nat) (st:List (List Nat×List Nat)) (l:List Oper):Bool:=
 decide (j<=l.length)&&(l.all λo=>match o.dst with|some t=>decide (t<nt)|none=>true)&&V9 (l.map (·.dst)) &&
 ((List.range l.length).all λk=>match l[k]? with|some o=>o.after.toList.all λe=>!Region.binds .any e||decide (e.on<k)|none=>true) &&
 ((List.range j).all λi=>(List.range j).all λk=>match l[i]?,l[k]? with
   | some o,some o'=>match o'.dst with|some u=>!(o.looksAt l.toArray).contains u||o.after.toList.any λe=>decide (e.on=k)&&Region.binds .any e|none=>true
   | _,_=>true) &&
 aP l.toArray (l.take j)&&((l.take j).all λo=>(kL o.op).isNone)&&vU l st j (List.range j)
theorem Gj {nt:Nat} {n:Cx} {l:List Oper} {S:DS} {Q:Exit->DS->Prop} (j:Nat) (st:List (List Nat×List Nat)) (kp:List Nat) (hnt:S.nt=nt) (hB:np nt j st l=true)
 (h:rX P G (l.map (·.dst)) (l.take j) S (λSq=>ZK P G l (λS''=>At Q .normal ⟨⟩ (S''.keep kp)) st j Sq) ⟨⟩):n.n<=S.objs.length->∀ (a:Act) (M:MS),Rel G S a M ->
 wpAnyIn (u9 (n.rd.map M.β)) 0 P .any l.toArray (λe a' w'=>∃ S' M',M'.w=w'/\Rel G S' a' M'/\Ext n.n M M'/\NewD M a a'/\Q e S') l.length (Array.replicate l.length false) a { M.w with drawn:=M.w.drawn+1 }:=by
 intro hn a M hr;simp only[np,Bool.and_eq_true,decide_eq_true_eq] at hB;obtain⟨⟨⟨⟨⟨⟨⟨b1,b4⟩,b5⟩,b6⟩,b7⟩,b8⟩,b13⟩,bz⟩:=hB;subst hnt;have hdst:∀ o∈l,∀ u,o.dst=some u->u<S.nt:=λo ho u hu=>by
  have:=List.all_eq_true.1 b4 o ho;simpa[hu] using this
 have hpw:=G2 b5;have hd:fi S.nt l.toArray:=by
  refine⟨λi o ho u hu=>hdst o (by simpa using Array.mem_of_getElem? ho) u hu,λi k o o' u ho ho' hu hu'=>?_⟩;have hi:l[i]?=some o:=by simpa using ho
  have hk:l[k]?=some o':=by simpa using ho'
  obtain⟨hil,hi'⟩:=List.getElem?_eq_some_iff.1 hi;obtain⟨hkl,hk'⟩:=List.getElem?_eq_some_iff.1 hk;rw[List.pairwise_iff_getElem] at hpw;rcases Nat.lt_trichotomy i k with hlt|he|hlt
  ·exact absurd (show (l.map (·.dst))[i]'(by simpa using hil)=(l.map (·.dst))[k]'(by simpa using hkl) by simp[hi',hk',hu,hu']) (hpw i k (by simpa using hil) (by simpa using hkl) hlt (by simp[hi',hu]))
  ·exact he
  ·exact absurd (show (l.map (·.dst))[k]'(by simpa using hkl)=(l.map (·.dst))[i]'(by simpa using hil) by simp[hi',hk',hu,hu']) (hpw k i (by simpa using hkl) (by simpa using hil) hlt (by simp[hk',hu']))
 have hback:∀ (k:Nat) (o:Oper),l.toArray[k]?=some o->∀ e∈o.after,Region.binds .any e=true->e.on<k:=λk o ho e he hb=>by
  have hk:l[k]?=some o:=by simpa using ho
  have:=List.all_eq_true.1 b6 k (by simpa using(List.getElem?_eq_some_iff.1 hk).1);rw[hk] at this;have:=List.all_eq_true.1 this e (by simpa using he);simpa[hb] using this
 have hdep:∀ i,i<j->∀ o,l.toArray[i]?=some o->∀ k,k<j->∀ o',l.toArray[k]?=some o'->∀ u,o'.dst=some u->u∈o.looksAt l.toArray->∃ e∈o.after,e.on=k/\Region.binds .any e=true:=λi hi o ho k hk o' ho' u hu hl=>by
  have h1:=List.all_eq_true.1 (List.all_eq_true.1 b7 i (by simpa using hi)) k (by simpa using hk);rw[show l[i]?=some o by simpa using ho,show l[k]?=some o' by simpa using ho'] at h1;simp only[hu,Bool.or_eq_true,Bool.not_eq_true',List.any_eq_true,Bool.and_eq_true,decide_eq_true_eq] at h1;rcases h1 with h1|⟨e,he,h2,h3⟩
  ·have:(o.looksAt l.toArray).contains u=true:=by simpa using hl
   rw[h1] at this;cases this
  ·exact⟨e,by simpa using he,h2,h3⟩
 have hmask:fx l.toArray (br l []):=af l [] (λj _=>by simp) (λj i oj _ h=>by simp at h);have hnoal:∀ i,i<j->∀ o,l.toArray[i]?=some o->∀ t,o.op≠.alloc t:=λi hi o ho t=>by
  have:=List.all_eq_true.1 b13 o (List.mem_of_getElem? (i:=i) (by rw[List.getElem?_take_of_lt hi];simpa using ho));exact bj (by simpa[Option.isNone_iff_eq_none] using this) t
 obtain⟨hm1,he1⟩:=RelM.same (w':={ M.w with drawn:=M.w.drawn+1 }) hr.m rfl ⟨rfl,rfl,rfl,by first|exact Nat.le_refl _|exact Nat.le_succ _⟩;have hAl:Al l.toArray (List.range j) (l.take j):=by
  have gen:∀ (m k:Nat),k+m<=l.length->Al l.toArray (List.range' k m) ((l.drop k).take m):=by
   intro m;induction m with
   | zero=>intro k _;simp[Al,List.range']
   | succ m ih =>
     intro k hk;have hk':k<l.length:=by omega
     rw[List.range'_succ,List.drop_eq_getElem_cons hk',List.take_succ_cons];exact⟨by simp,ih (k+1) (by omega)⟩
  have:=gen j 0 (by omega);rwa [List.drop_zero,<- List.range_eq_range'] at this
 obtain⟨Sq,hkq,q1,q2,q3,q4⟩:=V1 (P:=P) (G:=G) (ops:=l.toArray) (nt:=S.nt) (objs:=S.objs) (List.range j) (l.take j) S hAl rfl rfl (λo ho=>hdst o (List.mem_of_mem_take ho))
  (by rw[List.map_take];exact hpw.take) b8 (by simpa using h)
 let Md:MS:={ M with w:={ M.w with drawn:=M.w.drawn+1 } }
 have hobs:M.objs.length=S.objs.length:=by rw[hr.ob]
 refine Dl (n:=n) (Q:=Q) (kp:=kp) (M:=M) hd b1 hdep hback hmask hnoal st j (List.range j) Sq S.objs Md (Array.replicate l.length false) bz (λk hk=>by simpa using hk) (Nat.le_refl _) q1 q2 hn (he1.weaken (by rw[hobs];exact hn)) q3
  (λk hk=>by rw[l5] at hk;cases hk) (λk hk hk'=>absurd (by simpa using hk) hk') hkq l.length _ a Md ?_
 refine⟨by simp,by simp,λk o _ hk=>?_,⟨hm1,hr.ob,hr.nt,hr.df,λt d ht=>?_⟩,by rw[<- hr.ob];exact Ext.refl Md,rfl,⟨λ_=>0,λk o t u _ _ _ _ hk=>?_,λk m o o' t t' _ _ _ _ hk=>?_⟩,λk hk=>?_,λ_ h=>h⟩
 ·rw[l5] at hk;cases hk
 ·unfold K8 at ht;split at ht
  ·rename_i hvis;have h4:m8 Sq.tmps t=m8 S.tmps t:=q4 t λo ho hu=>by
    obtain⟨k,hk⟩:=List.mem_iff_getElem?.1 ho;have hkj:k<j:=by
     have:=(List.getElem?_eq_some_iff.1 hk).1;simp at this;omega
    rw[List.getElem?_take_of_lt hkj] at hk;have:=hvis k (by simpa using hkj) o (by simpa using hk) hu;rw[l5] at this;cases this
   obtain⟨v,h1,h2⟩:=hr.tm t d (by rw[<- h4];exact ht);exact⟨v,h1,h2.ext he1⟩
  ·cases ht
 ·rw[l5] at hk;cases hk
 ·rw[l5] at hk;cases hk
 ·rw[l5] at hk;cases hk
end
theorem ss {P:Program} {G:Hn} {id nt:Nat} {n:Cx} {l:List Oper} {S:DS} {Q:Exit->DS->Prop} (p:List Nat) (j:Nat) (st:List (List Nat×List Nat)) (ks:List Nat) (hm:P.follows .mixedOrders=true) (hnt:S.nt=nt) (hP:qF p l=true) (hB:np nt j st (w0 p l p)=true)
 (h:rX P G ((w0 p l p).map (·.dst)) ((w0 p l p).take j) S (λSq=>ZK P G (w0 p l p) (λS''=>At Q .normal ⟨⟩ (S''.keep ks)) st j Sq) ⟨⟩):DT P G n (.region id l.toArray true) S Q:=
 λhn _ a M hr=>wpIn_region_any hm (by
  have hp:=oL hP;have hl:(w0 p l p).length=l.length:=by rw[dL hp.lt,hp.len]
  have h1:=Gj j st ks hnt hB h hn a M hr;rw[hl] at h1;refine qh hp _ _ _ _ _ (by simp) (by simp) (λi k hi=>?_) h1;have hi1:i<l.length:=by rw[<- hp.len];exact e7 hi
  have hk1:=hp.lt k (List.mem_of_getElem? hi);simp[hi1,hk1])
section
variable {P:Program} {G:Hn}
theorem DCall.last {f:FuncId} {args:List DV} {Q:Nat->Nat->Nat->List (List IC)->Bool->Prop}
 (h:DCall P G f args [] (λd o=>∃ k g len sz es nl,d=.one (.vec k g 0 len)/\o[k]?=some (.vec sz (l8 es) g nl)/\Q g len sz es nl)) :
 DCall P G f args [] (λd o=>∃ g len sz es nl,d=.one (.vec 0 g 0 len)/\o=[.vec sz (l8 es) g nl]/\Q g len sz es nl):=by
 intro M vs h1 h2 h3 h4;refine(h M vs h1 h2 h3 h4).mono ?_;rintro e w' ⟨v,d,M',rfl,rfl,hm,hv,he,k,g,len,sz,es,nl,rfl,ho,hq⟩;have hlt:k<M'.objs.length:=e7 ho;let M'':MS:={ w:=M'.w,β:=λ_=>M'.β k,objs:=[.vec sz (l8 es) g nl],F:=M'.F }
 have hlive:∀ b,M''.live b->M'.live b:=by
  rintro b ⟨o,d,h5,h6,h7⟩;have h8:=e7 h5;have:o=0:=by simp[M''] at h8;exact h8
  subst this;simp only[M'',List.getElem?_cons_zero,Option.some.injEq] at h5;subst h5;exact⟨k,_,ho,h6,h7⟩
 have hfree:∀ b,M'.free b->M''.free b:=λb hb=>⟨hb.1,λhl=>hb.2 (hlive b hl)⟩
 have hok:∀ b,M'.ok b->M''.ok b/\M''.w.heap[b]?=M'.w.heap[b]?:=λb hb=>⟨⟨hfree b hb.1,hb.2⟩,rfl⟩
 have hel:∀ (i:Nat) (x:List DC),(l8 es)[i]?=some x->∀ (j:Nat) (d:DC) (v:Value),x[j]?=some d->RepC M' d v->RepC M'' d v:=λi x hx j d v hd r=>by
  rw[AD,Option.map_eq_some_iff] at hx;obtain⟨y,_,rfl⟩:=hx;rw[List.getElem?_map,Option.map_eq_some_iff] at hd;obtain⟨c,_,rfl⟩:=hd;cases r with
  | im _ _ r=>exact .im _ _ (r.mono hok)
 have hone:∀ {o:Nat} {d:DObj},M''.objs[o]?=some d->o=0/\d=.vec sz (l8 es) g nl:=λ{o d} h=>by
  have h8:=e7 h;have:o=0:=by simp[M''] at h8;exact h8
  subst this;simp only[M'',List.getElem?_cons_zero,Option.some.injEq] at h;exact⟨rfl,h.symm⟩
 have hR:RelO M'' 0 (.vec sz (l8 es) g nl):=by
  obtain⟨a1,a2⟩:=hm.objs k _ ho;refine⟨a1,λhn=>?_⟩;obtain⟨b0,c,T,b1,b2,b3,b4⟩:=a2 hn;exact⟨b0,c,T,b1,b2,b3,λi x j d v hx hd hcv=>hel i x hx j d v hd (b4 i x j d v hx hd hcv)⟩
 refine⟨v,.one (.vec 0 g 0 len),M'',rfl,rfl,⟨λo d h=>?_,λo d h hb=>?_,λo o' d d' h h' _ _ _=>?_,λg' l hg=>(hm.glob g' l hg).mono hok,hm.fl,λo d h hb=>?_⟩,?_,?_,g,len,sz,es,nl,rfl,rfl,hq⟩
 ·obtain⟨rfl,rfl⟩:=hone h;exact hR
 ·obtain⟨rfl,rfl⟩:=hone h;exact hm.lt k _ ho hb
 ·obtain⟨rfl,rfl⟩:=hone h;obtain⟨rfl,rfl⟩:=hone h';rfl
 ·obtain⟨rfl,rfl⟩:=hone h;exact hm.own k _ ho hb
 ·cases hv with
  | one _ _ hc=>cases hc with
    | vec _ _ _ _ _ c1 c2 c3 =>
      refine .one _ _ (.vec _ _ _ _ _ c1 (by simp[M'']) λsz1 es1 g1 nl1 h5=>?_);simp only[M'',List.getElem?_cons_zero,Option.some.injEq] at h5;injection h5 with e1 e2 e3 e4
      subst e1;subst e2;subst e3;subst e4;exact c3 _ _ _ _ ho
 ·refine⟨by simp,λb hb=>⟨hfree b (he.free b hb).1,(he.free b hb).2⟩,he.other,he.hs,λo h=>by simp at h,λo h=>by simp at h,λo h=>by simp at h,λo h=>by simp at h,λo h=>by simp at h,λo h=>by simp at h,he.io⟩
end
section
variable {P:Program} {G:Hn} {n:Cx} {S:DS} {Q:Exit->DS->Prop}
def sZ (G:Hn) (S:DS):Operand->Option DV
 | .const (.slice none 0 0)=>some (.one (.im (.raw (.slice none 0 0))))
 | x=>j5 G S x
def iD (G:Hn) (S:DS):List Operand->Option (List DV)
 | []=>some []
 | x :: r=>match sZ G S x,iD G S r with
   | some d,some l=>some (d :: l)
   | _,_=>none
theorem pr {a:Act} {M:MS} (hr:Rel G S a M) {x:Operand} {d:DV} (h:sZ G S x=some d):RepV M d (a.eval x):=by
 unfold sZ at h;split at h
 ·cases h;exact .one _ _ (.im _ _ (.raw _ rfl))
 ·exact i9 hr h
theorem gy {a:Act} {M:MS} (hr:Rel G S a M):∀ (l:List Operand) (ds:List DV),iD G S l=some ds->l.length=ds.length/\∀ (j:Nat) (d:DV) (v:Value),ds[j]?=some d->(l.map a.eval)[j]?=some v->RepV M d v
 | [],ds,h=>by
   cases h;exact⟨rfl,λj d v h=>by simp at h⟩
 | x :: r,ds,h=>by
   simp only[iD] at h;split at h
   ·rename_i d l hd hl;cases h;obtain⟨h1,h2⟩:=gy hr r l hl;refine⟨by simp[h1],λj e v he hv=>?_⟩;cases j with
    | zero=>simp at he hv;subst he;subst hv;exact pr hr hd
    | succ j=>exact h2 j e v (by simpa using he) (by simpa using hv)
   ·cases h
theorem vG {o:Oper} {K:DS->Prop} {x:Operand} {xs:Array Operand} {ts:Array TypeId} {d:DV} {f:FuncId} {caps as:List DV} (ho:o.op=.call { callee:=.value x,args:=xs,argTypes:=ts })
 (hx:j5 G S x=some d) (hc:F2 d=some (f,caps)) (ha:iD G S xs.toList=some as) (hcall:∀ args w,(callFunc f args).run P w=.ok (.enter f args) w)
 (h:DCall P G f (as++caps) S.objs (λd objs'=>K ({ S with objs:=objs' }.put o.dst d))):OpT P G o S K:=by
 intro ro a M hr;have hp:=i9 hr hx;obtain⟨hl,hrep⟩:=gy hr _ _ ha;generalize hv:a.eval x=v at hp
 have key:∀ (vs:Array Value),v=.func (.func f) #[] vs->vs.size=caps.length->(∀ (j:Nat) (d:DV) (u:Value),caps[j]?=some d->vs[j]?=some u->RepV M d u) ->
  o.wpIn (u9 ro) 0 P a M.w (λa' w'=>∃ S' M',M'.w=w'/\Rel G S' a' M'/\Ext M.objs.length M M'/\a'.defers=a.defers/\K S') (λ_ _ _=>False):=by
  rintro vs rfl hvs hcr;have hrun:(execOp a.eval o).run P M.w=.ok (.enter f ((xs.map a.eval)++vs)) M.w:=by
   simp only[execOp,ho,Sem.run_bind,resolve,hv,Deferred.ofValue,Sem.run_pure,Result.andThen_ok,invoke,Array.empty_append,hcall]
  refine bx hrun ?_;have hsz:(xs.map a.eval).size=as.length:=by simp[<- hl]
  refine(h M _ hr.m hr.ob (by simp[<- hl,hvs]) λj e u he hu=>?_).mono ?_
  ·by_cases hj:j<as.length
   ·rw[List.getElem?_append_left hj] at he;rw[Array.getElem?_append_left (by omega)] at hu;refine hrep j e u he ?_;rw[<- hu,<- Array.toList_map,Array.getElem?_toList]
   ·rw[List.getElem?_append_right (by omega)] at he;rw[Array.getElem?_append_right (by omega),hsz] at hu;exact hcr _ e u he hu
  ·rintro e w' ⟨v,d,M',rfl,rfl,hm,hd,he,hk⟩;have he':Ext M.objs.length M M':=by rw[hr.ob];exact he
   exact⟨v,rfl,_,M',rfl,hr.put hm he' hd o.dst,he',r5 _ _ _,hk⟩
 unfold F2 at hc;split at hc
 ·cases hc;cases hp with
  | one _ _ hp=>cases hp with
    | im _ _ hp=>cases hp with
      | fn _ _ vs h1 h2 =>
        refine key vs rfl (by simp[h1]) λj d u hj hu=>?_;rw[List.getElem?_map,Option.map_eq_some_iff] at hj;obtain⟨c,hc,rfl⟩:=hj;exact .one _ _ (.im _ _ (h2 j c u hc hu))
 ·cases hc;cases hp with
  | one _ _ hp=>cases hp with
    | fn _ _ vs h1 h2 =>
      refine key vs rfl (by simp[h1]) λj d u hj hu=>?_;rw[List.getElem?_map,Option.map_eq_some_iff] at hj;obtain⟨c,hc,rfl⟩:=hj;exact .one _ _ (h2 j c u hc hu)
 ·cases hc
def sG (P:Program) (G:Hn) (S:DS) (op:Op) (ty:TypeId):Out:=match H2 op with
 | .call x xs=>match j5 G S x,iD G S xs with
   | some d,some as=>Cq (F2 d) as
   | _,_=>.bad
 | k=>J7 P G S op ty k
def DH (P:Program) (G:Hn) (dsts:List (Option Tmp)):List Oper->DS->(K:DS->Prop)->Tok K->Prop
 | [],S,K,_=>K S
 | o :: l,S,K,tk=>lT (C2 dsts S o)
  (Next P G S.objs (sG P G S o.op o.type) (λd objs'=>DH P G dsts l (DS.put { S with objs:=objs' } o.dst d) K tk) ⟨⟩)
  (DH P G dsts l (S.put o.dst (.tup [])) K tk) ⟨⟩
theorem pW {dsts:List (Option Tmp)} {l:List Oper} {o:Oper} {K:DS->Prop} {C:DV->List DObj->Prop}
 (hC:∀ d objs',C d objs'->RT P G dsts l (DS.put { S with objs:=objs' } o.dst d) K) (h1:Next P G S.objs (sG P G S o.op o.type) C ⟨⟩):OpT P G o S (λS'=>RT P G dsts l S' K):=by
 unfold sG at h1;split at h1
 ·rename_i x xs hk;split at h1
  ·rename_i d as hd has;generalize hc:F2 d=c at h1;cases c with
   | none=>exact h1.elim
   | some p =>
     obtain⟨f,caps⟩:=p;obtain⟨ys,ts,ho,rfl⟩:=V6 hk;exact vG ho hd hc has h1.1 (DCall.mono h1.2 λd objs' hk=>hC _ _ hk)
  ·exact h1.elim
 ·exact fu hC h1
theorem iS {dsts:List (Option Tmp)}:∀ (l:List Oper) (S:DS) (K:DS->Prop),DH P G dsts l S K ⟨⟩->RT P G dsts l S K
 | [],S,K,h=>h
 | o :: l,S,K,h=>by
   rw[DH] at h;generalize hb:C2 dsts S o=r at h;cases r with
   | none=>exact h.elim
   | some b=>exact⟨b,hb,λe=>pW (λd objs' hk=>iS l _ K hk) (h.1 e),λe=>iS l _ K (h.2 e)⟩
theorem su {id:Nat} {l:List Oper} (ks:List Nat) (h:DH P G (l.map (·.dst)) l S (λS'=>At Q .normal ⟨⟩ (S'.keep ks)) ⟨⟩):DT P G n (.region id l.toArray false) S Q:=by
 have h1:=iT (id:=id) (n:=n) (Q:=λe S'=>e=.normal/\Q .normal (S'.keep ks)) (gR (iS l S _ h) (λS' h=>⟨rfl,h⟩));intro hn hd a M hr;refine wpIn_mono (h1 hn hd a M hr) ?_;rintro e a' w' ⟨S',M',rfl,hr',he,hnd,rfl,hq⟩;obtain⟨M2,w2,r2,e2⟩:=Weak.keep (G:=G) (n:=n) (S:=S') (ks:=ks) (by rw[<- hr'.ob];exact he.len) a' M' hr';exact⟨_,M2,w2,r2,he.trans e2,hnd,hq⟩
end
attribute [simp] DH sG sZ iD
def Fh (ks:List Nat) (o:Oper):Oper:={ dst:=o.dst,op:=o.op,type:=o.type,pos:=o.pos,after:=o.after.filter λe=>ks.contains e.on,guard:=o.guard }
def Dg:List (Option (List Nat))->List Oper->List Oper
 | some ks :: cs,o :: r=>Fh ks o :: Dg cs r
 | none :: cs,o :: r=>o :: Dg cs r
 | [],l=>l
 | _,[]=>[]
section
variable {P:Program} {l:List Oper} {cs:List (Option (List Nat))} {F:Fence} {n:Nat} {Q:Exit->Act->World->Prop}
end
end Go.Ab
