/- Part 9 of the proofs. -/
import Derived.Test.YtpcoahkgkgmmlaaGreatDoorS07
import Derived.Test.YtpcoahkgkgmmlaaGreatDoorS08
set_option linter.all false
set_option linter.deprecated false
set_option maxHeartbeats 100000000
namespace Go.Ab
open Go
section
variable {P:Program} {G:Es} {nt:Nat} {objs:List DObj} {ops:Array Oper}
theorem rC {S:DS} {o:Oper} {t:TypeId} {ps:Array (Nat×Operand)} {z:List Value} {pl:List (Nat×Nat)} {qs:List (Nat×List DC)} {r:List DC} (ho:o.op=.build t ps) (hz:F6 P t=some z) (hp:z.all A9=true)
 (hpl:u5 P t=some pl) (hq:L7 G S ps.toList=some qs) (hr:am (pl[·]?) (z.map fun v=>.im (.raw v)) qs=some r):OpV P G o S (.agg r) S.objs:=by
 refine .pure fun a M hrel=>?_
 obtain⟨v,hrun,hv⟩:=T7 (w:=M.w) hz
 obtain⟨h1,h2⟩:=N7 hrel _ _ hq
 subst hv
 obtain⟨ra,e1,e2,e3⟩:=V5 (M:=M) (place:=(pl[·]?)) qs _ (v.cells.toList.map fun v=>.im (.raw v)) v.cells r (by simp) (fun j d x hd hx=>by
  rw[List.getElem?_map,Array.getElem?_toList,hx] at hd
  simp at hd
  subst hd
  exact .im _ _ (.raw _ (List.all_eq_true.1 hp x (Array.mem_toList_iff.2 (Array.mem_of_getElem? hx))))) h1 h2 hr
 refine⟨.agg ra,?_,.agg _ _ e2 e3⟩
 unfold u5 at hpl
 split at hpl
 ·rename_i fs hu
  have hpl':=dF (P:=P) (w:=M.w) fs.toList pl hpl
  simp only[execOp,ho,Instr.build,Sem.run_bind,hrun,Result.andThen_ok,j4 hu,Array.mapM_eq_mapM_toList,Sem.run_map,hpl']
  have e1':Instr.fill (fun x=>pl.toArray[x]?) v.cells (Array.map (fun x=>(x.1,a.eval x.2)) ps).toList=some ra:=by simpa using e1
  simp only[e1']
  rfl
 ·rename_i n e hu
  obtain⟨sz,hs,rfl⟩:=Option.map_eq_some_iff.1 hpl
  have e1':Instr.fill (fun i=>some (i*sz,sz)) v.cells (Array.map (fun x=>(x.1,a.eval x.2)) ps).toList=some ra:=by
   have:=dS (p':=fun i=>some (i*sz,sz)) (fun i x h=>cR h) _ _ _ e1
   simpa using this
  simp only[execOp,ho,Instr.build,Sem.run_bind,hrun,Result.andThen_ok,j4 hu,r7 hs,e1']
  rfl
 ·cases hpl
def jC (P:Program) (G:Es) (S:DS) (t:TypeId) (ps:Array (Nat×Operand)):Out:=match F6 P t,u5 P t,L7 G S ps.toList with
 | some z,some pl,some qs=>if z.all A9=true then (match am (pl[·]?) (z.map fun v=>.im (.raw v)) qs with
   | some r=>.val (.agg r) S.objs
   | none=>.bad) else .bad
 | _,_,_=>.bad
def vh (P:Program) (G:Es) (S:DS) (op:Op) (ty:TypeId):Option (TypeId×Array (Nat×Operand))→Out
 | some p=>jC P G S p.1 p.2
 | none=>bk P G S op ty
def fw (P:Program) (G:Es) (S:DS) (op:Op) (ty:TypeId):Out:=vh P G S op ty (nj op)
theorem da {S:DS} {t:TypeId} {ps:Array (Nat×Operand)} {x:Out} (h:jC P G S t ps=x):x=.bad∨∃ r,x=.val (.agg r) S.objs∧∃ z pl qs,F6 P t=some z∧u5 P t=some pl∧L7 G S ps.toList=some qs∧z.all A9=true∧am (pl[·]?) (z.map fun v=>.im (.raw v)) qs=some r:=by
 unfold jC at h
 split at h
 ·rename_i z pl qs hz hpl hqs
  split at h
  ·rename_i hp
   split at h
   ·rename_i r hr
    exact .inr ⟨r,h.symm,z,pl,qs,hz,hpl,hqs,hp,hr⟩
   ·exact .inl h.symm
  ·exact .inl h.symm
 ·exact .inl h.symm
theorem sU {S:DS} {o:Oper} {d:DV} {objs':List DObj} (h:fw P G S o.op o.type=.val d objs'):OpV P G o S d objs':=by
 unfold fw at h
 generalize hi:nj o.op=q at h
 cases q with
 | none=>exact gJ h
 | some p =>
   rcases da h with e|⟨r,e,z,pl,qs,h1,h2,h3,h4,h5⟩
   ·cases e
   ·cases e;exact rC (mj hi) h1 h4 h2 h3 h5
theorem qa {S:DS} {o:Oper} {p:Prop} {d:DV} {objs':List DObj} (h:fw P G S o.op o.type=.cond p d objs') (hp:p):OpV P G o S d objs':=by
 unfold fw at h
 generalize hi:nj o.op=q at h
 cases q with
 | none=>exact eK h hp
 | some p =>
   rcases da h with e|⟨r,e,_⟩<;>cases e
theorem qb {S:DS} {o:Oper} {f:FuncId} {as':List DV} (h:fw P G S o.op o.type=.call f as') :
 ∃ x ys ts d as caps,o.op=.call { callee:=.value x,args:=ys,argTypes:=ts }∧m4 G S x=some d∧X2 G S ys.toList=some as∧G0 d=some (f,caps)∧as'=as++caps:=by
 unfold fw at h
 generalize hi:nj o.op=q at h
 cases q with
 | none=>exact eL h
 | some p =>
   rcases da h with e|⟨r,e,_⟩<;>cases e
def rk (P:Program) (G:Es) (dsts:List (Option Tmp)) (S:DS) (o:Oper) (R:DV→Prop) (_t:Tok R):Option TypeId→Prop
 | some t=>(o.guard=none∧BC P t=true)∧R (.one .dead)
 | none=>lf (C0 dsts S o) (lh P G S.objs (fw P G (S.keep (O0 o.op)) o.op o.type) R ⟨⟩) (R (.tup [])) ⟨⟩
def zU (P:Program) (G:Es) (dsts:List (Option Tmp)):List Oper→DS→(K:DS→Prop)→Tok K→Prop
 | [],S,K,_=>K S
 | o :: l,S,K,tk=>rk P G dsts S o (fun d=>zU P G dsts l (S.put o.dst d) K tk) ⟨⟩ (eS o.op)
theorem cK {K:DS→Prop}:∀ (is:List Nat) (l:List Oper) (S:DS),Al ops is l→S.nt=nt→S.objs=objs→(∀ o∈l,∀ u,o.dst=some u→u<nt)→(l.map (·.dst)).Pairwise (fun x y=>x.isSome=true→x≠y)→O5 ops l=true →
 zU P G (ops.toList.map (·.dst)) l S K ⟨⟩ →
 ∃ Sq:DS,K Sq∧Sq.nt=nt∧Sq.objs=objs∧(∀ i∈is,∃ o d,ops[i]?=some o∧OpS P G nt objs ops o d (n8 Sq.tmps)∧∀ u,o.dst=some u→n8 Sq.tmps u=some d) ∧
  ∀ t,(∀ o∈l,o.dst≠some t)→n8 Sq.tmps t=n8 S.tmps t
 | [],[],S,_,h1,h2,_,_,_,h=>⟨S,h,h1,h2,(fun i hi=>by cases hi),fun _ _=>rfl⟩
 | i :: is,o :: l,S,ha,h1,h2,hd,hp,hn,h=>by
   obtain⟨ho,ha⟩:=ha
   simp only[O5,Bool.and_eq_true] at hn
   obtain⟨hn1,hn2⟩:=hn
   rw[List.map_cons,List.pairwise_cons] at hp
   have hd0:∀ u,o.dst=some u→u<S.nt:=fun u hu=>by rw[h1];exact hd o (by simp) u hu
   have first:∃ d,OpS P G nt objs ops o d (n8 S.tmps)∧zU P G (ops.toList.map (·.dst)) l (S.put o.dst d) K ⟨⟩:=by
    rw[zU] at h
    generalize hal:eS o.op=x at h
    cases x with
    | some t =>
      obtain⟨⟨hg,hz⟩,hk⟩:=h
      unfold BC at hz
      split at hz
      ·rename_i z hz'
       exact⟨_,.inl ⟨t,z,ig hal,hg,rfl,hz',hz⟩,hk⟩
      ·cases hz
    | none =>
      have hna:=S8 hal
      subst h1
      subst h2
      simp only[rk] at h
      generalize hb:C0 (ops.toList.map (·.dst)) S o=r at h
      cases r with
      | none=>exact h.elim
      | some b =>
        cases b with
        | false=>exact⟨_,.inr ⟨hna,.inr ⟨L5 hb,rfl⟩⟩,h.2 rfl⟩
        | true =>
          have h3:=h.1 rfl
          generalize hx:fw P G (S.keep (O0 o.op)) o.op o.type=x at h3
          cases x with
          | val d objs' =>
            obtain⟨rfl,hkk⟩:=h3
            exact⟨d,.inr ⟨hna,.inl ⟨L5 hb,T4 (sU hx)⟩⟩,hkk⟩
          | call f as =>
            obtain⟨x,ys,ts,d,as,caps,hoc,hxv,has,hc,rfl⟩:=qb hx
            obtain⟨hok,d0,hcall,hkk⟩:=h3
            exact⟨d0,.inr ⟨hna,.inl ⟨L5 hb,dq hoc hxv hc has hok hcall⟩⟩,hkk⟩
          | cond p d objs' =>
            obtain⟨hp,rfl,hkk⟩:=h3
            exact⟨d,.inr ⟨hna,.inl ⟨L5 hb,T4 (qa hx hp)⟩⟩,hkk⟩
          | yield l as=>exact h3.elim
          | iter o l=>exact h3.elim
          | nilq l b=>exact h3.elim
          | gen p=>exact h3.elim
          | bad=>exact h3.elim
   obtain⟨d,hs,hk⟩:=first
   obtain⟨Sq,k1,k2,k3,k4,k5⟩:=cK is l (S.put o.dst d) ha (put_objs.2.trans h1) (put_objs.1.trans h2) (fun o ho=>hd o (by simp[ho])) hp.2 hn2 hk
   have hput:∀ t,(∀ o'∈l,o'.dst≠some t)→n8 Sq.tmps t=O4 (n8 S.tmps) o.dst d t:=fun t ht=>by rw[k5 t ht,kb hd0]
   refine⟨Sq,k1,k2,k3,fun j hj=>?_,fun t ht=>?_⟩
   ·rcases List.mem_cons.1 hj with rfl|hj
    ·refine⟨o,d,ho,hs.same fun t ht=>?_,fun u hu=>?_⟩
     ·have hno:∀ o'∈o :: l,o'.dst≠some t:=fun o' ho' e=>by
       have:=List.all_eq_true.1 hn1 o' ho'
       rw[e] at this
       simp at this
       exact this ht
      rw[hput t fun o' ho'=>hno o' (by simp[ho'])]
      exact bO fun u hu e=>hno o (by simp) (by rw[hu,e])
     ·rw[hput u fun o' ho' e=>hp.1 _ (List.mem_map_of_mem ho') (by simp[hu]) (by rw[hu,e]),hu]
      simp[O4]
    ·exact k4 j hj
   ·rw[hput t fun o' ho'=>ht o' (by simp[ho'])]
    exact bO fun u hu e=>ht o (by simp) (by rw[hu,e])
 | [],_ :: _,_,h,_,_,_,_,_,_=>h.elim
 | _ :: _,[],_,h,_,_,_,_,_,_=>h.elim
theorem pK {id nt:Nat} {n:Cx} {l:List Oper} {S:DS} {Q:Exit→DS→Prop} (j:Nat) (fl kt ks:List Nat) (hm:P.follows .mixedOrders=true) (hnt:S.nt=nt) (hB:fD nt j fl kt l=true)
 (h:zU P G (l.map (·.dst)) (l.take j) S (fun Sq=>mL P G (l.map (·.dst)) (pick l [j]) (cj (Sq.keep kt) (R1 P (l.take j))) (fun S'=>zU P G (l.map (·.dst)) (pick l fl) S' (fun Sf =>
  W3 (gk (pick l fl)) Sf.tmps Sq.tmps∧mL P G (l.map (·.dst)) (l.drop (j+1)) Sf (fun S''=>At Q .normal ⟨⟩ (S''.keep ks)) ⟨⟩) ⟨⟩) ⟨⟩) ⟨⟩):DT P G n (.region id l.toArray true) S Q:=by
 intro hn hrd a M hr
 simp only[fD,Bool.and_eq_true,decide_eq_true_eq] at hB
 obtain⟨⟨⟨⟨⟨⟨⟨⟨⟨⟨⟨⟨⟨⟨⟨⟨b1,b2⟩,b3⟩,b4⟩,b5⟩,b5'⟩,b6⟩,b7⟩,b8⟩,b9⟩,b10⟩,b11⟩,b12⟩,b13⟩,b14⟩,b15⟩,b16⟩:=hB
 subst hnt
 have hdst:∀ o∈l,∀ u,o.dst=some u→u<S.nt:=fun o ho u hu=>by
  have:=List.all_eq_true.1 b4 o ho
  simpa[hu] using this
 have hpw:=C5 b5
 have hd:T1 S.nt l.toArray:=by
  refine⟨fun i o ho u hu=>hdst o (by simpa using Array.mem_of_getElem? ho) u hu,fun i k o o' u ho ho' hu hu'=>?_⟩
  have hi:l[i]?=some o:=by simpa using ho
  have hk:l[k]?=some o':=by simpa using ho'
  obtain⟨hil,hi'⟩:=List.getElem?_eq_some_iff.1 hi
  obtain⟨hkl,hk'⟩:=List.getElem?_eq_some_iff.1 hk
  rw[List.pairwise_iff_getElem] at hpw
  rcases Nat.lt_trichotomy i k with hlt|he|hlt
  ·exact absurd (show (l.map (·.dst))[i]'(by simpa using hil)=(l.map (·.dst))[k]'(by simpa using hkl) by simp[hi',hk',hu,hu']) (hpw i k (by simpa using hil) (by simpa using hkl) hlt (by simp[hi',hu]))
  ·exact he
  ·exact absurd (show (l.map (·.dst))[k]'(by simpa using hkl)=(l.map (·.dst))[i]'(by simpa using hil) by simp[hi',hk',hu,hu']) (hpw k i (by simpa using hkl) (by simpa using hil) hlt (by simp[hk',hu']))
 have hback:∀ (k:Nat) (o:Oper),l.toArray[k]?=some o→∀ e∈o.after,Region.binds .any e=true→e.on<k:=fun k o ho e he hb=>by
  have hk:l[k]?=some o:=by simpa using ho
  have:=List.all_eq_true.1 b6 k (by simpa using(List.getElem?_eq_some_iff.1 hk).1)
  rw[hk] at this
  have:=List.all_eq_true.1 this e (by simpa using he)
  simpa[hb] using this
 have hdep:∀ i,i<j→∀ o,l.toArray[i]?=some o→∀ k,k<j→∀ o',l.toArray[k]?=some o'→∀ u,o'.dst=some u→u∈o.looksAt l.toArray→∃ e∈o.after,e.on=k∧Region.binds .any e=true:=fun i hi o ho k hk o' ho' u hu hl=>by
  have h1:=List.all_eq_true.1 (List.all_eq_true.1 b7 i (by simpa using hi)) k (by simpa using hk)
  rw[show l[i]?=some o by simpa using ho,show l[k]?=some o' by simpa using ho'] at h1
  simp only[hu,Bool.or_eq_true,Bool.not_eq_true',List.any_eq_true,Bool.and_eq_true,decide_eq_true_eq] at h1
  rcases h1 with h1|⟨e,he,h2,h3⟩
  ·have:(o.looksAt l.toArray).contains u=true:=by simpa using hl
   rw[h1] at this;cases this
  ·exact⟨e,by simpa using he,h2,h3⟩
 have hmask:bg l.toArray (N8 l []):=T2 l [] (fun j _=>by simp) (fun j i oj _ h=>by simp at h)
 have hflj:∀ i∈fl,i<j:=fun i hi=>by simpa using List.all_eq_true.1 b2 i hi
 obtain⟨oj,hoj⟩:∃ o,l[j]?=some o:=⟨l[j],List.getElem?_eq_getElem b1⟩
 have hoj':l.toArray[j]?=some oj:=by simpa using hoj
 rw[hoj] at b14
 have hgj:oj.guard=none:=by simpa[Option.isNone_iff_eq_none] using b14
 have hnoal:∀ i∈fl,∀ o,l.toArray[i]?=some o→∀ t,o.op≠.alloc t:=fun i hi o ho t=>by
  have:=List.all_eq_true.1 b13 o (J1 hi (by simpa using ho))
  exact S8 (by simpa[Option.isNone_iff_eq_none] using this) t
 have hlater:∀ k listed,Closed l.toArray listed→k∈Region.ready .any l.toArray listed→j<k→∀ i,i≤j→listed.getD i false=true:=fun k listed hcl hk hjk i hi=>by
  obtain⟨_,ok,hok,hall⟩:=mem_ready.1 hk
  have h1:=List.all_eq_true.1 b11 k (by simpa using(Array.getElem?_eq_some_iff.1 hok).1)
  simp only[Bool.or_eq_true,decide_eq_true_eq] at h1
  rcases h1 with h1|h1
  ·omega
  ·exact hmask k i ok hok (List.all_eq_true.1 h1 i (by simp;omega)) listed hcl hall
 have hpre:∀ listed,Closed l.toArray listed→j∈Region.ready .any l.toArray listed→∀ i,i<j→i∉fl→listed.getD i false=true:=fun listed hcl hk i hi hif=>by
  obtain⟨_,ok,hok,hall⟩:=mem_ready.1 hk
  have h1:=List.all_eq_true.1 b10 i (by simpa using hi)
  simp only[Bool.or_eq_true,List.contains_iff_mem] at h1
  rcases h1 with h1|h1
  ·exact absurd h1 hif
  ·exact hmask j i ok hok h1 listed hcl hall
 obtain⟨hm1,he1⟩:=RelM.same (w':={ M.w with drawn:=M.w.drawn+1 }) hr.m rfl ⟨rfl,rfl,rfl,by first|exact Nat.le_refl _|exact Nat.le_succ _⟩
 have htake:∀ o∈l.take j,o∈l:=fun o ho=>List.mem_of_mem_take ho
 have hAl:∀ (k:Nat),k≤l.length→Al l.toArray (List.range k) (l.take k):=by
  have gen:∀ (m k:Nat),k+m≤l.length→Al l.toArray (List.range' k m) ((l.drop k).take m):=by
   intro m
   induction m with
   | zero=>intro k _;simp[Al,List.range']
   | succ m ih =>
     intro k hk
     have hk':k<l.length:=by omega
     rw[List.range'_succ,List.drop_eq_getElem_cons hk',List.take_succ_cons]
     exact⟨by simp,ih (k+1) (by omega)⟩
  intro k hk
  have:=gen k 0 (by omega)
  rwa [List.drop_zero,← List.range_eq_range'] at this
 obtain⟨Sq,hkq,q1,q2,q3,q4⟩:=cK (P:=P) (G:=G) (ops:=l.toArray) (nt:=S.nt) (objs:=S.objs) (List.range j) (l.take j) S (hAl j (by omega)) rfl rfl (fun o ho=>hdst o (htake o ho))
  (by rw[List.map_take];exact hpw.take) b8 (by simpa using h)
 let Md:MS:={ M with w:={ M.w with drawn:=M.w.drawn+1 } }
 refine wpIn_region_any hm ?_
 have hMd:RelF G S.nt S.objs (n8 S.tmps) a Md:=⟨hm1,hr.ob,hr.nt,hr.df,fun t d ht=>by
  obtain⟨v,h1,h2⟩:=hr.tm t d ht
  exact⟨v,h1,h2.ext he1⟩⟩
 have hobs:M.objs.length=S.objs.length:=by rw[hr.ob]
 refine I4 (P:=P) (G:=G) (nt:=S.nt) (objs:=S.objs) (ops:=l.toArray) (ks:=List.range j) (τ:=n8 Sq.tmps) (M0:=Md) (base:=Array.replicate l.length false) (dfs:=a.defers) (ro:=n.rd.map M.β)
  (Q':=fun e a' w'=>∃ S' M',M'.w=w'∧Rel G S' a' M'∧Ext n.n M M'∧NewD M a a'∧Q e S') hd q3 (fun i hi o ho k hk=>hdep i (by simpa using hi) o ho k (by simpa using hk)) hback ?_ ?_ l.length _ a Md ?_
 ·
  intro f listed a2 M2 hi i hrdy hik
  have hji:j≤i:=by simpa using hik
  have hjun:listed.getD j false≠true:=fun e=>by
   rcases hi.only j e with h|h
   ·rw[m7] at h;cases h
   ·simp at h
  have hij:i=j:=by
   rcases Nat.eq_or_lt_of_le hji with h|h
   ·exact h.symm
   ·exact absurd (hlater i listed hi.cl hrdy h j (Nat.le_refl _)) hjun
  subst hij
  have hpl:=hpre listed hi.cl hrdy
  obtain⟨β',p1,p2⟩:=hi.pd
  have half:∀ k∈List.range i,∀ o t,l.toArray[k]?=some o→o.op=.alloc t→listed.getD k false=true:=fun k hk o t ho hop =>
   hpl k (by simpa using hk) fun hf=>hnoal k hf o ho t hop
  obtain⟨bs,c1,c2,c3,_⟩:=ce (P:=P) (ops:=l.toArray) (M0:=Md) (M:=M2) (a:=a2) (β':=β') (List.range i) (l.take i) (hAl i (by omega)) List.nodup_range
   (fun k hk o t u ho hop hu=>p1 k o t u hk ho hop hu (half k hk o t ho hop))
   (fun k hk m hm' o o' t t' ho ho' hop hop' hs hs' e=>p2 k m o o' t t' hk hm' ho hop (half k hk o t ho hop) ho' hop' (half m hm' o' t' ho' hop') hs hs' e)
  have hrk:Rel G (Sq.keep kt) a2 M2:=by
   refine⟨hi.rel.m,hi.rel.ob.trans q2.symm,hi.rel.nt.trans q1.symm,hi.rel.df,fun t d ht=>hi.rel.tm t d ?_⟩
   have h1:=aF ht
   have h2:=X7 ht
   unfold E3
   rw[if_pos]
   ·exact h2
   ·intro k hk o ho hu
    by_cases hf:k∈fl
    ·have:=List.all_eq_true.1 b12 o (J1 hf (by simpa using ho))
     rw[hu] at this
     simp at this
     exact absurd h1 this
    ·exact hpl k (by simpa using hk) hf
  obtain⟨MT,t1,t2,t3,t4,t5⟩:=Y9 (M0:=Md) (n:=S.objs.length) hm1 (R1 P (l.take i)) bs (Sq.keep kt) M2 hrk hi.ext (by rw[hi.rel.ob];exact Nat.le_refl _) c1 c2 c3
  have hpk:pick l [i]=[oj]:=by simp[pick,hoj]
  rw[hpk] at hkq
  obtain⟨b,hw,ht,hf⟩:=I0 _ _ _ hkq
  have hbt:b=true:=by
   unfold C0 at hw
   rw[hgj] at hw
   exact(Option.some.inj hw).symm
  subst hbt
  have hwant:Region.wanted oj (yielded l.toArray a2.tmps)=true:=by simp[Region.wanted,hgj]
  unfold wpOpIn
  simp only[hoj',hwant,if_true]
  rw[← t4]
  refine P0 (cA (ht rfl (n.rd.map M.β) a2 MT t1)) ?_
  rintro a3 w3 ⟨⟨S3,M3,rfl,r3,e3,d3,k3⟩,v,hput⟩
  have hsz3:S3.nt=S.nt:=by
   rw[← r3.nt,hput,← hi.rel.nt]
   cases oj.dst<;>simp[Act.put]
  have hpm:∀ o∈pick l fl,o∈l:=fun o ho=>let ⟨k,_,hk⟩:=J2 ho;List.mem_of_getElem? hk
  obtain⟨Sf,⟨hsame,hkf⟩,f1,f2,f3,f4⟩:=cK (P:=P) (G:=G) (ops:=l.toArray) (nt:=S.nt) (objs:=S3.objs) fl (pick l fl) S3 (ef fun k hk=>by have:=hflj k hk;omega) hsz3 rfl (fun o ho=>hdst o (hpm o ho)) (C5 b5') b9
   (by simpa using(show zU P G (l.map (·.dst)) (pick l fl) S3 _ ⟨⟩ from k3))
  have hlt3:(listed.setIfInBounds i true).size=l.length:=by simpa using hi.sz
  have hlisj:(listed.setIfInBounds i true).getD i false=true:=by
   have:i<listed.size:=by rw[hi.sz];simpa using b1
   simp[this]
  have fin:∀ f' listed' a4 M4,Inv P G S.nt S3.objs l.toArray fl (n8 Sf.tmps) M3 (listed.setIfInBounds i true) a.defers f' listed' a4 M4→(∀ k∈fl,listed'.getD k false=true) →
   wpAnyIn (q9 (n.rd.map M.β)) 0 P .any l.toArray (fun e a' w'=>∃ S' M',M'.w=w'∧Rel G S' a' M'∧Ext n.n M M'∧NewD M a a'∧Q e S') f' listed' a4 M4.w:=by
   intro f' listed' a4 M4 hi4 hfl4
   have hL:listed'=fr l.length i:=by
    refine jh (by simpa using hi4.sz) fun k hk=>⟨fun hkl=>?_,fun hkl=>?_⟩
    ·rcases hi4.only k hkl with h1|h1
     ·rcases m9 h1 with rfl|h1
      ·exact Nat.le_refl _
      ·rcases hi.only k h1 with h2|h2
       ·rw[m7] at h2;cases h2
       ·have:k<i:=by simpa using h2
        omega
     ·have:=hflj k h1;omega
    ·by_cases hkf:k∈fl
     ·exact hfl4 k hkf
     ·refine hi4.has k ?_
      rcases Nat.eq_or_lt_of_le hkl with rfl|hlt
      ·exact hlisj
      ·exact getD_set_true (hpl k hlt hkf)
   have hf':f'=(l.drop (i+1)).length:=by rw[← hi4.cn,hL,b16];simp
   have hrel:Rel G Sf a4 M4:=⟨hi4.rel.m,by rw[hi4.rel.ob,f2],by rw[hi4.rel.nt,f1],hi4.rel.df,fun t d ht=>hi4.rel.tm t d (by
    unfold E3
    rw[if_pos]
    ·exact ht
    ·exact fun k hk _ _ _=>hfl4 k hk)⟩
   have hS3:S.objs.length≤S3.objs.length:=by rw[← r3.ob];exact Nat.le_trans t3 e3.len
   have hn4:n.n≤M4.objs.length:=by rw[hi4.rel.ob];have:=hS3;omega
   have eM4:Ext n.n M M4:=((he1.weaken (by rw[hobs];exact hn)).trans (t2.weaken hn)).trans ((e3.weaken (Nat.le_trans hn t3)).trans (hi4.ext.weaken (Nat.le_trans hn hS3)))
   rw[hf',hL]
   refine K1 (P:=P) (G:=G) (ops:=l.toArray) (ro:=n.rd.map M.β) n.n (fun S''=>At Q .normal ⟨⟩ (S''.keep ks)) (l.drop (i+1)) (i+1) _ Sf a4 M4 (fun k hk=>by simp) (by rw[List.length_drop];exact b15) hrel hn4 (by simpa using I0 _ _ _ hkf) ?_
   intro S5 a5 M5 hr5 he5 hd5 hq5
   obtain⟨M6,w6,r6,e6⟩:=Weak.keep (G:=G) (n:=n) (S:=S5) (ks:=ks) (by rw[← hr5.ob];exact he5.len) a5 M5 hr5
   exact⟨_,M6,w6,r6,eM4.trans (he5.trans e6),.same (hd5.trans hi4.df),hq5⟩
  refine I4 (P:=P) (G:=G) (nt:=S.nt) (objs:=S3.objs) (ops:=l.toArray) (ks:=fl) (τ:=n8 Sf.tmps) (M0:=M3) (base:=listed.setIfInBounds i true) (dfs:=a.defers) (ro:=n.rd.map M.β) hd f3
   (fun k hk o ho m hm'=>hdep k (hflj k hk) o ho m (hflj m hm')) hback ?_ ?_ f _ a3 M3 ?_
  ·intro f' listed' a4 M4 hi4 k hk4 hkf
   have hkj:i<k:=by
    rcases Nat.lt_or_ge i k with h|h
    ·exact h
    ·exfalso
     have h0:=(mem_ready.1 hk4).1
     have h1:listed'.getD k false=true:=by
      refine hi4.has k ?_
      rcases Nat.eq_or_lt_of_le h with rfl|hlt
      ·exact hlisj
      ·exact getD_set_true (hpl k hlt hkf)
     rcases Nat.lt_or_ge k listed'.size with h'|h'
     ·simp[h'] at h0 h1;rw[h0] at h1;cases h1
     ·simp[Array.getElem?_eq_none h'] at h1
   exact(fin _ listed' a4 M4 hi4 fun m hm'=>hlater k listed' hi4.cl hk4 hkj m (Nat.le_of_lt (hflj m hm'))).2 k hk4
  ·intro listed' a4 M4 hi4
   refine(fin 0 listed' a4 M4 hi4 fun m hm'=>?_).2
   have hnot:=List.count_eq_zero.1 hi4.cn
   have hml:m<listed'.size:=by rw[hi4.sz];have:=hflj m hm';simp;omega
   cases hv:listed'[m] with
   | true=>simp[hml,hv]
   | false=>exact absurd (by rw[← hv];exact Array.getElem_mem_toList hml) hnot
  ·refine⟨by simpa using hi.sz,O9 (mem_ready.1 hrdy).1 hi.cn,hi.cl.step hrdy,⟨r3.m,r3.ob,by rw[r3.nt,hsz3],r3.df,fun t d ht=>?_⟩,by rw[← r3.ob];exact Ext.refl M3,d3.trans hi.df,⟨fun _=>0,fun k o t u hk ho hop=>absurd hop (hnoal k hk o ho t),fun k m o o' t t' hk _ ho hop=>absurd hop (hnoal k hk o ho t)⟩,fun _ h=>.inl h,fun _ h=>h⟩
   unfold E3 at ht
   split at ht
   ·rename_i hvis
    by_cases hfd:∃ k∈fl,∃ o,l.toArray[k]?=some o∧o.dst=some t
    ·obtain⟨k,hk,o,ho,hu⟩:=hfd
     have hkl:listed.getD k false=true:=(m9 (hvis k hk o ho hu)).resolve_left (by have:=hflj k hk;omega)
     have h1:n8 Sf.tmps t=n8 Sq.tmps t:=R9 hsame (cT (J1 hk (by simpa using ho)) hu)
     obtain⟨x,x1,x2⟩:=hi.rel.tm t d (by
      unfold E3
      rw[if_pos]
      ·rw[← h1];exact ht
      ·intro m hm' o' ho' hu'
       have:=hd.2 k m o o' t ho ho' hu hu'
       subst this
       exact hkl)
     refine⟨x,?_,(t5 d x x2).ext e3⟩
     rw[hput]
     cases hdj:oj.dst with
     | none=>exact x1
     | some y =>
       have hne:y≠t:=fun e=>by
        have:=hd.2 i k oj o t hoj' ho (by rw[hdj,e]) hu
        have:=hflj k hk
        omega
       simp only[Act.put]
       rw[Array.getElem?_setIfInBounds_ne hne];exact x1
    ·have h1:n8 Sf.tmps t=n8 S3.tmps t:=f4 t fun o ho hu=>by
      obtain⟨k,hk,hk'⟩:=J2 ho
      exact hfd ⟨k,hk,o,by simpa using hk',hu⟩
     exact r3.tm t d (by rw[← h1];exact ht)
   ·cases ht
 ·intro listed a2 M2 hi
  exfalso
  have hnot:=List.count_eq_zero.1 hi.cn
  have hjl:j<listed.size:=by rw[hi.sz];simpa using b1
  have hjt:listed.getD j false=true:=by
   cases hv:listed[j] with
   | true=>simp[hjl,hv]
   | false=>exact absurd (by rw[← hv];exact Array.getElem_mem_toList hjl) hnot
  rcases hi.only j hjt with h|h
  ·rw[m7] at h;cases h
  ·simp at h
 ·refine⟨by simp,by simp,fun k o _ hk=>?_,⟨hMd.m,hMd.ob,hMd.nt,hMd.df,fun t d ht=>?_⟩,by rw[← hr.ob];exact Ext.refl Md,rfl,⟨fun _=>0,fun k o t u _ _ _ _ hk=>?_,fun k m o o' t t' _ _ _ _ hk=>?_⟩,fun k hk=>?_,fun _ h=>h⟩
  ·rw[m7] at hk;cases hk
  ·unfold E3 at ht
   split at ht
   ·rename_i hvis
    refine hMd.tm t d ?_
    rw[← q4 t fun o ho hu=>?_]
    ·exact ht
    ·obtain⟨k,hk⟩:=List.mem_iff_getElem?.1 ho
     have hkj:k<j:=by
      have:=(List.getElem?_eq_some_iff.1 hk).1
      simp at this;omega
     rw[List.getElem?_take_of_lt hkj] at hk
     have:=hvis k (by simpa using hkj) o (by simpa using hk) hu
     rw[m7] at this;cases this
   ·cases ht
  ·rw[m7] at hk;cases hk
  ·rw[m7] at hk;cases hk
  ·rw[m7] at hk;cases hk
attribute [simp] zU rk fw vh jC
theorem RelM.nilCell {M:MS} (hm:RelM G M) {o j:Nat} {c:List DC} (ho:M.objs[o]?=some (.row c)) (hj:c[j]?=some (.im (.raw (.slice none 0 0)))) :
 let M':MS:={ M with objs:=M.objs.set o (.row (c.set j (.vec M.objs.length 0 0 0)))++[.vec 0 [] 0 true] }
 RelM G M'∧Ext M.objs.length M M':=by
 have hol:=g9 ho
 have hjl:=g9 hj
 have hm1:RelM G (M.idle (.vec 0 [] 0 true)):=hm.idle rfl ⟨fun _=>rfl,fun h=>by cases h⟩
 have he1:Ext M.objs.length M (M.idle (.vec 0 [] 0 true)):=Ext.idle (M:=M) rfl
 have ho1:(M.idle (.vec 0 [] 0 true)).objs[o]?=some (.row c):=by simp only[MS.idle];rw[List.getElem?_append_left hol];exact ho
 have hr:=hm1.objs o _ ho1
 obtain⟨cs,T,h1,h2,h3⟩:=hr
 have hself:∀ (b:Nat) (x:Obj),(M.idle (.vec 0 [] 0 true)).w.heap[b]?=some x→({ (M.idle (.vec 0 [] 0 true)).w with heap:=(M.idle (.vec 0 [] 0 true)).w.heap.setIfInBounds b x }:World)=(M.idle (.vec 0 [] 0 true)).w:=fun b x hx=>aS hx
 have hturn:(M.idle (.vec 0 [] 0 true)).turn o (.cells cs T (0,0)) (.row (c.set j (.vec M.objs.length 0 0 0)))={ M with objs:=M.objs.set o (.row (c.set j (.vec M.objs.length 0 0 0)))++[.vec 0 [] 0 true] }:=by
  unfold MS.turn
  rw[hself _ _ h1]
  simp only[MS.idle]
  rw[List.set_append_left _ _ hol]
 have hx:=Ext.turn (x:=.cells cs T (0,0)) (d':=.row (c.set j (.vec M.objs.length 0 0 0))) ho1 rfl trivial h1 rfl
 have hm2:=hm1.turn (x:=.cells cs T (0,0)) (d':=.row (c.set j (.vec M.objs.length 0 0 0))) ho1 rfl trivial h1 rfl (by
  refine⟨cs,T,?_,by rw[List.length_set];exact h2,fun i d v hd hv=>?_⟩
  ·have:=hself _ _ h1
   unfold MS.turn
   rw[this];exact h1
  ·by_cases e:i=j
   ·subst e
    rw[List.getElem?_set_self hjl] at hd
    cases hd
    have hc:=h3 i _ v hj hv
    have hv0:v=.slice none 0 0:=by
     cases hc with
     | im _ _ hc=>cases hc;rfl
    subst hv0
    refine .vec _ 0 0 0 _ rfl (by simp[MS.turn,MS.idle]) fun sz es g nl hg=>?_
    have hg':(.vec 0 [] 0 true:DObj)=.vec sz es g nl:=by
     have:((M.idle (.vec 0 [] 0 true)).turn o (.cells cs T (0,0)) (.row (c.set i (.vec M.objs.length 0 0 0)))).objs[M.objs.length]?=some (.vec 0 [] 0 true):=by
      simp only[MS.turn,MS.idle]
      rw[List.getElem?_set_ne (by omega)];simp
     rw[this] at hg;cases hg;rfl
    cases hg'
    exact⟨Nat.le_refl _,fun _=>⟨fun _=>⟨rfl,rfl,rfl⟩,fun h=>by cases h⟩⟩
   ·rw[List.getElem?_set_ne (Ne.symm e)] at hd
    exact(h3 i d v hd hv).ext hx)
 rw[hturn] at hm2 hx
 exact⟨hm2,he1.trans (hx.weaken (by simp[MS.idle]))⟩
theorem Weak.nilCell {n:Cx} {S:DS} (o j:Nat) {c:List DC} (ho:S.objs[o]?=some (.row c)) (hj:c[j]?=some (.im (.raw (.slice none 0 0)))) :
 Weak G n S { S with objs:=S.objs.set o (.row (c.set j (.vec S.objs.length 0 0 0)))++[.vec 0 [] 0 true] }:=by
 intro hn a M hr
 obtain⟨h1,h2⟩:=hr.m.nilCell (by rw[hr.ob];exact ho) hj
 refine⟨{ M with objs:=M.objs.set o (.row (c.set j (.vec M.objs.length 0 0 0)))++[.vec 0 [] 0 true] },rfl,⟨h1,by simp only[hr.ob],hr.nt,hr.df,fun t d ht=>?_⟩,h2.weaken (by rw[hr.ob];exact hn)⟩
 obtain⟨v,e1,e2⟩:=hr.tm t d ht
 exact⟨v,e1,e2.ext h2⟩
end
inductive FlV:DV→Prop
 | one (v:Value):FlV (.one (.im (.raw v)))
 | agg (l:List DC):(∀ d∈l,∃ v,d=.im (.raw v))→FlV (.agg l)
 | tup (l:List DV):(∀ d∈l,FlV d)→FlV (.tup l)
theorem RepV.flat {M M':MS} {d:DV} {v:Value} (r:RepV M d v) (hf:FlV d):RepV M' d v:=by
 induction r with
 | one c v hc =>
   cases hf
   cases hc with
   | im _ _ hc=>cases hc with
     | raw _ h=>exact .one _ _ (.im _ _ (.raw _ h))
 | agg l cs h1 h2 =>
   cases hf with
   | agg _ hall =>
     refine .agg _ _ h1 fun j c v hj hv=>?_
     obtain⟨c0,rfl⟩:=hall c (List.mem_of_getElem? hj)
     cases h2 j _ v hj hv with
     | im _ _ hc=>cases hc with
       | raw _ h=>exact .im _ _ (.raw _ h)
 | tup l vs h1 _ ih =>
   cases hf with
   | tup _ hall=>exact .tup _ _ h1 fun j d v hj hv=>ih j d v hj hv (hall d (List.mem_of_getElem? hj))
theorem zu (l:List DC):FlV (.agg l)↔∀ d∈l,∃ v,d=.im (.raw v):=⟨fun h=>by cases h;assumption,.agg l⟩
theorem zo (l:List DV):FlV (.tup l)↔∀ d∈l,FlV d:=⟨fun h=>by cases h;assumption,.tup l⟩
attribute [simp] FlV.one zu zo
section
variable {P:Program} {G:Es}
theorem DCall.thaw {f:FuncId} {args args0:List DV} {d0:DV} {objs:List DObj} (h:∀ objs,DCall P G f args0 objs (fun d o=>d=d0∧o=objs)) (ha:args0=args.map (aK 0 objs)) (hd:FlV d0) :
 DCall P G f args objs (fun d objs'=>d=d0∧objs'=objs):=by
 intro M vs hm hob hvs hrep
 subst hob
 have hm0:=hm.drop (Nat.zero_le M.objs.length)
 refine(h [] (M.drop 0) vs hm0 (by simp[MS.drop,L1]) (by rw[ha];simpa using hvs) fun j d v hd hv=>?_).mono ?_
 ·rw[ha,List.getElem?_map,Option.map_eq_some_iff] at hd
  obtain⟨d1,h1,rfl⟩:=hd
  exact(hrep j d1 v h1 hv).drop hm (Nat.zero_le _)
 rintro e w' ⟨v,d,M1,rfl,rfl,hm1,hv,he,rfl,hq⟩
 have same:∀ b,b<M.w.heap.size→b<M1.w.heap.size∧M1.w.heap[b]?=M.w.heap[b]?:=fun b hb=>by
  have:=he.free b ⟨hb,fun ⟨o,d,h1,_⟩=>by simp[MS.drop,L1] at h1⟩
  exact⟨this.1.1,this.2⟩
 have hext:Ext M.objs.length M { w:=M1.w,β:=M.β,objs:=M.objs,F:=M.F }:=by
  refine⟨Nat.le_refl _,fun b hb=>⟨⟨(same b hb.1).1,hb.2⟩,(same b hb.1).2⟩,du M,he.hs,fun o _ c' hc=>⟨⟨c',hc⟩,rfl⟩,fun o _ sz es g nl hv=>⟨sz,es,g,nl,hv,Nat.le_refl _,fun _=>⟨rfl,rfl,fun hn=>⟨rfl,?_⟩⟩⟩,fun o _ ks es hc=>⟨⟨ks,es,hc⟩,rfl⟩,fun o _ r hc=>⟨⟨r,hc⟩,rfl⟩,fun o _ d hc hi=>⟨⟨d,hc,hi⟩,rfl⟩,fun o _ r hc=>⟨⟨r,hc⟩,rfl⟩,he.io⟩
  simp only[H9]
  rw[(same _ (hm.lt o _ hv (by simp[DObj.blk,hn]))).2]
 exact⟨v,d,{ w:=M1.w,β:=M.β,objs:=M.objs,F:=M.F },rfl,rfl,
  ⟨fun o d ho=>(hm.objs o d ho).ext hext (fun _=>rfl) (fun hb=>(same _ (hm.lt o d ho hb)).2),fun o d ho hb=>(same _ (hm.lt o d ho hb)).1,hm.inj,fun g l hg=>(hm.glob g l hg).mono hext.ok,
   fun b hb=>(same b (hm.fl b hb)).1,hm.own⟩,hv.flat hd,hext,rfl,rfl⟩
theorem CallE.thaw {f:FuncId} {args args0:List DV} {d0:DV} {objs:List DObj} {Q:DV→List DObj→Prop} {t:Tok Q} (h:∀ objs,DCall P G f args0 objs (fun d o=>d=d0∧o=objs)) (ha:args0=args.map (aK 0 objs)) (hd:FlV d0) (hq:Q d0 objs):CallE P G f args objs Q t:=
 (DCall.thaw h ha hd).mono fun d' objs' ⟨h1,h2⟩=>by rw[h1,h2];exact hq
theorem CallE.here {f:FuncId} {args:List DV} {d0:DV} {objs:List DObj} {Q:DV→List DObj→Prop} {t:Tok Q} (h:DCall P G f args objs (fun d o=>d=d0∧o=objs)) (hq:Q d0 objs):CallE P G f args objs Q t:=
 h.mono fun d' objs' ⟨h1,h2⟩=>by rw[h1,h2];exact hq
theorem RepC.fnOf {M:MS} {g:Fn} {cs:List IC} {v:Value} (h:RepC M (.im (.fn g cs)) v):RepC M (.fn g (cs.map .im)) v:=by
 cases h with
 | im _ _ h=>cases h with
   | fn _ _ vs h1 h2 =>
     refine .fn g _ vs (by simpa using h1) fun j c v hj hv=>?_
     rw[List.getElem?_map,Option.map_eq_some_iff] at hj
     obtain⟨c0,h3,rfl⟩:=hj
     exact .im _ _ (h2 j c0 v h3 hv)
theorem DCall.fnArg2 {f:FuncId} {a:DV} {g:Fn} {cs:List IC} {objs:List DObj} {Q:DV→List DObj→Prop} (h:DCall P G f [a,.one (.fn g (cs.map .im))] objs Q):DCall P G f [a,.one (.im (.fn g cs))] objs Q:=by
 intro M vs hm hob hvs hrep
 refine h M vs hm hob hvs fun j d v hd hv=>?_
 match j with
 | 0=>exact hrep 0 d v hd hv
 | 1 =>
   simp at hd;subst hd
   have:=hrep 1 _ v rfl hv
   cases this with
   | one _ _ hc=>exact .one _ _ hc.fnOf
 | j+2=>simp at hd
end
section
variable {P:Program} {G:Es} {S:DS}
def o9 (k:Nat):List DObj:=List.replicate k .gone
theorem kF {G:Es} {M:MS} (hm:RelM G M):∀ k,RelM G { M with objs:=M.objs++o9 k }∧Ext M.objs.length M { M with objs:=M.objs++o9 k }
 | 0=>by simp only[o9,List.replicate_zero,List.append_nil];exact⟨hm,Ext.refl M⟩
 | k+1=>by
   obtain⟨h1,h2⟩:=kF hm k
   have e:({ M with objs:=M.objs++o9 (k+1) }:MS)=MS.idle { M with objs:=M.objs++o9 k } .gone:=by
    simp only[MS.idle,o9,List.replicate_succ',List.append_assoc]
   rw[e]
   exact⟨h1.idle rfl trivial,h2.trans ((Ext.idle rfl).weaken (by simp))⟩
theorem DCall.freeze {f:FuncId} {args args0:List DV} {objs o1:List DObj} {d0:DV} (m:Nat) (h:DCall P G f args0 (L1 m objs) (fun d o=>d=d0∧o=o1)) (hm:m≤objs.length) (hl:o1.length=m)
 (ha:args0=args.map (aK m objs)) (hnl:∀ o r,m≤o→objs[o]?≠some (.loop r)) :
 DCall P G f args objs (fun d o=>d=d0∧o=o1++o9 (objs.length-m)):=by
 intro M vs hM hob hvs hrep
 subst hob
 have hlen:(L1 m M.objs).length=m:=by simp[L1];omega
 refine(h (M.drop m) vs (hM.drop hm) rfl (by rw[ha];simpa using hvs) fun j d v hd hv=>?_).mono ?_
 ·rw[ha,List.getElem?_map,Option.map_eq_some_iff] at hd
  obtain⟨d1,h1,rfl⟩:=hd
  exact(hrep j d1 v h1 hv).drop hM hm
 rintro e w' ⟨v,d,M1,rfl,rfl,hm1,hv,he,rfl,hq⟩
 rw[hlen] at he
 obtain⟨g1,g2⟩:=kF hm1 (M.objs.length-m)
 have hl1:M1.objs.length=m:=by rw[hq];exact hl
 have hall:Ext m M { M1 with objs:=M1.objs++o9 (M.objs.length-m) }:=(Ext.drop hm).trans (he.trans (g2.weaken (by omega)))
 have hg:∀ o,m≤o→∀ d,(M1.objs++o9 (M.objs.length-m))[o]?=some d→d=.gone:=fun o ho d hd=>by
  rw[List.getElem?_append_right (by omega)] at hd
  simp only[o9,List.getElem?_replicate] at hd
  split at hd<;>simp_all
 refine⟨v,d,{ M1 with objs:=M1.objs++o9 (M.objs.length-m) },rfl,rfl,g1,hv.ext g2,?_,rfl,by rw[hq]⟩
 refine⟨by simp[o9];omega,hall.free,hall.other,hall.hs,fun o ho c' hc=>?_,fun o ho sz es' g nl hc=>?_,fun o ho ks es' hc=>?_,fun o ho r' hc=>?_,fun o ho d' hc hit=>?_,fun o ho r hc=>?_,hall.io⟩
 all_goals rcases Nat.lt_or_ge o m with hlt|hge
 ·exact hall.row o hlt c' hc
 ·cases hg o hge _ hc
 ·exact hall.vec o hlt sz es' g nl hc
 ·cases hg o hge _ hc
 ·exact hall.map o hlt ks es' hc
 ·cases hg o hge _ hc
 ·exact hall.lp o hlt r' hc
 ·cases hg o hge _ hc
 ·exact hall.it o hlt d' hc hit
 ·rw[hg o hge _ hc] at hit;cases hit
 ·exact hall.lp' o hlt r hc
 ·exact absurd hc (hnl o r hge)
def x7:DObj→Bool
 | .loop _=>false
 | _=>true
theorem CallE.freeze {f:FuncId} {args args0:List DV} {objs objs0 o1:List DObj} {d0:DV} {Q:DV→List DObj→Prop} {t:Tok Q} (m:Nat) (h:DCall P G f args0 objs0 (fun d o=>d=d0∧o=o1)) (ho:objs0=L1 m objs) (ha:args0=args.map (aK m objs)) (hm:m≤objs.length) (hl:o1.length=m)
 (hnl:(objs.drop m).all x7=true) (hq:Q d0 (o1++o9 (objs.length-m))):CallE P G f args objs Q t:=
 (DCall.freeze m (ho ▸ h) hm hl ha fun o r h1 h2=>by
  have h3:(objs.drop m)[o-m]?=some (.loop r):=by rw[List.getElem?_drop,show m+(o-m)=o by omega];exact h2
  have:=List.all_eq_true.1 hnl _ (List.mem_of_getElem? h3)
  cases this).mono fun d o ⟨h1,h2⟩=>by rw[h1,h2];exact hq
def nilV (objs:List DObj):DV→DV
 | .one (.vec o g off len)=>match objs[o]? with
   | some (.vec _ _ g' nl)=>if g=g'∧nl=true then .one (.im (.raw (.slice none 0 0))) else .one (.vec o g off len)
   | _=>.one (.vec o g off len)
 | d=>d
theorem RepV.nilV {M:MS} {d:DV} {v:Value} (r:RepV M d v):RepV M (nilV M.objs d) v:=by
 cases r with
 | one c v hc =>
   cases hc with
   | vec o g off len v h1 h2 h3 =>
     simp only[Go.Ab.nilV]
     split
     ·rename_i sz es g' nl ho
      split
      ·rename_i h4
       obtain⟨rfl,rfl⟩:=h4
       obtain⟨_,_,rfl⟩:=((h3 _ _ _ _ ho).2 rfl).1 rfl
       exact .one _ _ (.im _ _ (.raw _ rfl))
      ·exact .one _ _ (.vec o g off len v h1 h2 h3)
     ·exact .one _ _ (.vec o g off len v h1 h2 h3)
   | im c v h=>exact .one _ _ (.im c v h)
   | ptr o off v h1 h2 h3=>exact .one _ _ (.ptr o off v h1 h2 h3)
   | ept o g i off v h1 h2 h3=>exact .one _ _ (.ept o g i off v h1 h2 h3)
   | fn f cs vs h1 h2=>exact .one _ _ (.fn f cs vs h1 h2)
   | map o v h1 h2 h3=>exact .one _ _ (.map o v h1 h2 h3)
   | yld o v h1 h2 h3=>exact .one _ _ (.yld o v h1 h2 h3)
   | itr o v h1 h2 h3=>exact .one _ _ (.itr o v h1 h2 h3)
   | dead v h1=>exact .one _ _ (.dead v h1)
 | agg l cs h1 h2=>exact .agg l cs h1 h2
 | tup l vs h1 h2=>exact .tup l vs h1 h2
theorem DCall.nil {f:FuncId} {args:List DV} {objs:List DObj} {Q:DV→List DObj→Prop} (h:DCall P G f args objs (fun d objs'=>Q (nilV objs' d) objs')):DCall P G f args objs Q:=
 fun M vs h1 h2 h3 h4=>(h M vs h1 h2 h3 h4).mono fun _ _ ⟨v,d,M',a1,a2,a3,a4,a5,a6⟩=>⟨v,nilV M'.objs d,M',a1,a2,a3,a4.nilV,a5,a6⟩
def emptyV (objs:List DObj):DV→DV
 | .one (.vec o g off 0)=>match objs[o]? with
   | some (.vec _ _ g' _)=>if g=g' then .one (.im (.sl [])) else .one (.vec o g off 0)
   | _=>.one (.vec o g off 0)
 | d=>d
theorem RepV.emptyV {M:MS} {d:DV} {v:Value} (r:RepV M d v):RepV M (emptyV M.objs d) v:=by
 unfold Go.Ab.emptyV
 split
 ·rename_i o g off
  split
  ·rename_i sz es g' nl ho
   split
   ·rename_i h4
    subst h4
    cases r with
    | one _ _ hc=>cases hc with
      | vec _ _ _ _ _ h1 h2 h3 =>
        obtain⟨h5,h6⟩:=(h3 _ _ _ _ ho).2 rfl
        cases nl with
        | true =>
          obtain⟨_,_,rfl⟩:=h5 rfl
          exact .one _ _ (.im _ _ .slnil)
        | false =>
          obtain⟨x,cap,rfl,_⟩:=h6 rfl
          exact .one _ _ (.im _ _ (.slz _ _))
   ·exact r
  ·exact r
 ·exact r
theorem CallE.empty {f:FuncId} {args args':List DV} {objs:List DObj} {Q:DV→List DObj→Prop} {t:Tok Q} (ha:args'=args.map (emptyV objs)) (h:CallE P G f args' objs Q t):CallE P G f args objs Q t:=by
 intro M vs hM hob hvs hrep
 subst ha
 refine h M vs hM hob (by simpa using hvs) fun j d v hd hv=>?_
 rw[List.getElem?_map,Option.map_eq_some_iff] at hd
 obtain⟨d1,h1,rfl⟩:=hd
 rw[← hob]
 exact(hrep j d1 v h1 hv).emptyV
def H2 (objs:List DObj):DV→DV×List DObj
 | .one (.im (.raw (.slice none 0 0)))=>(.one (.vec objs.length 0 0 0),objs++[.vec 1 [] 0 true])
 | d=>(d,objs)
theorem CallE.idle {f:FuncId} {args:List DV} {objs:List DObj} {Q:DV→List DObj→Prop} {t:Tok Q} (h:CallE P G f args objs (fun d o=>Q (H2 o d).1 (H2 o d).2) ⟨⟩):CallE P G f args objs Q t:=by
 intro M vs h1 h2 h3 h4
 refine(h M vs h1 h2 h3 h4).mono fun _ _ ⟨v,d,M',a1,a2,a3,a4,a5,a6⟩=>?_
 have a7:Q (H2 M'.objs d).1 (H2 M'.objs d).2:=a6
 clear a6
 generalize hx:H2 M'.objs d=x at a7
 unfold H2 at hx
 split at hx
 ·subst hx
  refine⟨v,_,M'.idle (.vec 1 [] 0 true),a1,a2,a3.idle rfl ⟨fun _=>rfl,(fun h=>by cases h)⟩,?_,a5.trans ((Ext.idle rfl).weaken a5.len),a7⟩
  cases a4 with
  | one _ _ hc=>cases hc with
    | im _ _ hc=>cases hc with
      | raw _ hv =>
        refine .one _ _ (.vec _ _ _ _ _ rfl (by simp[MS.idle]) fun sz es g nl ho=>?_)
        have:(M'.idle (DObj.vec 1 [] 0 true)).objs[M'.objs.length]?=some (DObj.vec 1 [] 0 true):=by simp[MS.idle]
        rw[this] at ho
        cases ho
        exact⟨Nat.le_refl _,fun _=>⟨fun _=>⟨rfl,rfl,rfl⟩,(fun h=>by cases h)⟩⟩
 ·subst hx
  exact⟨v,d,M',a1,a2,a3,a4,a5,a7⟩
end
def aT (p:List Nat) (o:Oper):Oper:={ dst:=o.dst,op:=o.op,type:=o.type,pos:=o.pos,after:=o.after.map fun e=>{ on:=p.idxOf e.on,ground:=e.ground },guard:=o.guard }
def r5 (p:List Nat) (l:List Oper):List Nat→List Oper
 | []=>[]
 | k :: r=>match l[k]? with
   | some o=>aT p o :: r5 p l r
   | none=>r5 p l r
def kg (p:List Nat) (l:List Oper):Bool:=
 decide (p.length=l.length)&&p.Nodup&&(p.all fun k=>decide (k<l.length))&&(l.all fun o=>o.guard.isNone)&&((List.range l.length).all fun k=>p.contains k)
theorem gV {p:List Nat} {l:List Oper}:∀ {q:List Nat},(∀ k∈q,k<l.length)→∀ i:Nat,(r5 p l q)[i]?=(q[i]?).bind fun (k:Nat)=>(l[k]?).map (aT p)
 | [],_,i=>by simp[r5]
 | k :: r,h,i=>by
   have hk:l[k]?=some (l[k]'(h k (by simp))):=List.getElem?_eq_getElem _
   simp only[r5,hk]
   cases i with
   | zero=>simp[hk]
   | succ i=>simpa using gV (q:=r) (fun k hk=>h k (by simp[hk])) i
theorem Z3 {p:List Nat} {l:List Oper}:∀ {q:List Nat},(∀ k∈q,k<l.length)→(r5 p l q).length=q.length
 | [],_=>rfl
 | k :: r,h=>by
   have hk:l[k]?=some (l[k]'(h k (by simp))):=List.getElem?_eq_getElem _
   simp only[r5,hk,List.length_cons]
   rw[Z3 fun k hk=>h k (by simp[hk])]
theorem dN {L:Array Bool} {i:Nat} (h:i<L.size):L.getD i true=L.getD i false:=by
 simp[h]
section
variable {P:Program} {p:List Nat} {l:List Oper} {F:Fence} {n:Nat} {Q:Exit→Act→World→Prop}
structure PermOk (p:List Nat) (l:List Oper):Prop where
 len:p.length=l.length
 nd:p.Nodup
 lt:∀ k∈p,k<l.length
 gd:∀ o∈l,o.guard=none
 sur:∀ k,k<l.length→k∈p
theorem cS (h:kg p l=true):PermOk p l:=by
 simp only[kg,Bool.and_eq_true,decide_eq_true_eq,List.all_eq_true,List.mem_range,List.contains_iff_mem,Option.isNone_iff_eq_none] at h
 obtain⟨⟨⟨⟨h1,h2⟩,h3⟩,h4⟩,h5⟩:=h
 exact⟨h1,h2,h3,h4,h5⟩
theorem eN (hp:PermOk p l) {L L':Array Bool} (hL:L.size=l.length) (hL':L'.size=l.length) (hR:∀ i k,p[i]?=some k→L'.getD i false=L.getD k false) {i k:Nat} (h:p[i]?=some k) :
 i∈Region.ready .any (r5 p l p).toArray L'↔k∈Region.ready .any l.toArray L:=by
 have hi:i<p.length:=g9 h
 have hk:k<l.length:=hp.lt k (List.mem_of_getElem? h)
 have e2:l[k]?=some l[k]:=List.getElem?_eq_getElem hk
 have e1:(r5 p l p)[i]?=some (aT p l[k]):=by rw[gV hp.lt,h,Option.bind_some,e2,Option.map_some]
 have hlen:(r5 p l p).length=p.length:=Z3 hp.lt
 simp only[Region.ready,List.mem_filter,List.mem_range,List.size_toArray,hlen,List.getElem?_toArray,e1,e2,Option.map_some,Option.getD_some,Bool.and_eq_true,hi,hk,true_and]
 rw[dN (by rw[hL',← hp.len];exact hi),dN (by rw[hL];exact hk),hR i k h]
 refine and_congr_right fun _=>?_
 have hall:((aT p l[k]).after.all fun e=>!Region.binds .any e||L'.getD e.on false)=(l[k].after.all fun e=>!Region.binds .any e||L.getD e.on false):=by
  simp only[aT,Array.all_map]
  congr 1
  funext e
  have hb:Region.binds .any { on:=p.idxOf e.on,ground:=e.ground }=Region.binds .any e:=by cases e;rfl
  have hg:L'.getD (p.idxOf e.on) false=L.getD e.on false:=by
   by_cases hm:e.on∈p
   ·exact hR _ _ (by rw[List.getElem?_eq_getElem (List.idxOf_lt_length_of_mem hm)];simp)
   ·have h1:¬ e.on<l.length:=fun hlt=>hm (hp.sur _ hlt)
    rw[List.idxOf_eq_length hm,hp.len]
    simp[Array.getD,hL,hL',h1]
  simp only[Function.comp_apply,hb,hg]
 rw[hall]
theorem eH (hp:PermOk p l):∀ (f:Nat) (L L':Array Bool) (a:Act) (w:World),L.size=l.length→L'.size=l.length→(∀ i k,p[i]?=some k→L'.getD i false=L.getD k false) →
 wpAnyIn F n P .any (r5 p l p).toArray Q f L' a w→wpAnyIn F n P .any l.toArray Q f L a w:=by
 have back:∀ {L:Array Bool} {k:Nat},k∈Region.ready .any l.toArray L→∃ i,p[i]?=some k:=fun hk=>by
  simp only[Region.ready,List.mem_filter,List.mem_range,List.size_toArray] at hk
  exact List.mem_iff_getElem?.1 (hp.sur _ hk.1)
 have forth:∀ {L':Array Bool} {i:Nat},i∈Region.ready .any (r5 p l p).toArray L'→∃ k,p[i]?=some k:=fun hi=>by
  simp only[Region.ready,List.mem_filter,List.mem_range,List.size_toArray,Z3 hp.lt] at hi
  exact⟨_,List.getElem?_eq_getElem hi.1⟩
 have nil:∀ {L L':Array Bool},L.size=l.length→L'.size=l.length→(∀ i k,p[i]?=some k→L'.getD i false=L.getD k false)→(Region.ready .any (r5 p l p).toArray L'=[]↔Region.ready .any l.toArray L=[]):=fun {L L'} hL hL' hR=>by
  simp only[List.eq_nil_iff_forall_not_mem]
  constructor
  ·intro h k hk
   obtain⟨i,hi⟩:=back hk
   exact h i ((eN hp hL hL' hR hi).2 hk)
  ·intro h i hi
   obtain⟨k,hk⟩:=forth hi
   exact h k ((eN hp hL hL' hR hk).1 hi)
 intro f
 induction f with
 | zero=>exact fun L L' a w hL hL' hR h=>⟨(nil hL hL' hR).1 h.1,h.2⟩
 | succ f ih =>
   intro L L' a w hL hL' hR h
   refine⟨fun h0=>h.1 ((nil hL hL' hR).2 h0),fun k hk=>?_⟩
   obtain⟨i,hi⟩:=back hk
   have h1:=h.2 i ((eN hp hL hL' hR hi).2 hk)
   have hkl:k<l.length:=hp.lt k (List.mem_of_getElem? hi)
   have hip:i<p.length:=g9 hi
   have e2:l[k]?=some l[k]:=List.getElem?_eq_getElem hkl
   have e1:(r5 p l p)[i]?=some (aT p l[k]):=by rw[gV hp.lt,hi,Option.bind_some,e2,Option.map_some]
   have hg:l[k].guard=none:=hp.gd _ (List.getElem_mem hkl)
   have hw:∀ o y,o.guard=none→Region.wanted o y=true:=fun o y h=>by simp[Region.wanted,h]
   unfold wpOpIn at h1 ⊢
   simp only[List.getElem?_toArray,e1,hw (aT p l[k]) _ hg,if_true] at h1
   simp only[List.getElem?_toArray,e2,hw _ _ hg,if_true]
   have h2:l[k].wpIn F n P a w (wpAnyIn F n P .any (r5 p l p).toArray Q f (L'.setIfInBounds i true)) Q:=h1
   refine Oper.wpIn_mono (fun a w hh=>ih _ _ a w (by simpa using hL) (by simpa using hL') (fun i' k' hi'=>?_) hh) h2
   have hne:i=i'↔k=k':=⟨fun e=>by subst e;rw[hi] at hi';exact Option.some.inj hi',fun e=>by
    subst e
    have hip':i'<p.length:=g9 hi'
    have g1:p[i]=k:=by rw[List.getElem?_eq_getElem hip] at hi;exact Option.some.inj hi
    have g2:p[i']=k:=by rw[List.getElem?_eq_getElem hip'] at hi';exact Option.some.inj hi'
    rcases Nat.lt_trichotomy i i' with h|h|h
    ·exact absurd (g1.trans g2.symm) (List.pairwise_iff_getElem.1 hp.nd i i' hip hip' h)
    ·exact h
    ·exact absurd (g2.trans g1.symm) (List.pairwise_iff_getElem.1 hp.nd i' i hip' hip h)⟩
   have h3:=hR i' k' hi'
   by_cases e:i=i'
   ·have e':=hne.1 e
    subst e;subst e'
    have h4:i<L'.size:=by rw[hL',← hp.len];exact hip
    have h5:k<L.size:=by rw[hL];exact hkl
    simp[Array.getElem?_setIfInBounds,h4,h5]
   ·have e':k≠k':=fun h=>e (hne.2 h)
    simp only[Array.getD_eq_getD_getElem?,Array.getElem?_setIfInBounds_ne e,Array.getElem?_setIfInBounds_ne e'] at h3 ⊢
    exact h3
end
section
variable {P:Program} {G:Es}
theorem Ac {l:List Oper} {nt:Nat} {objs:List DObj} {Sq:DS} {ks fl kt:List Nat} {Mb M2:MS} {base listed:Array Bool} {dfs:List Deferred} {f i:Nat} {a2:Act} {oj:Oper} {ro:Option Nat} {KK:DS→Prop} {Q':Exit→Act→World→Prop}
 (hd:T1 nt l.toArray) (hnt:Sq.nt=nt) (hob:Sq.objs=objs) (hi:Inv P G nt objs l.toArray ks (n8 Sq.tmps) Mb base dfs (f+1) listed a2 M2)
 (hrdy:i∈Region.ready .any l.toArray listed) (hoj:l[i]?=some oj) (hg:oj.guard=none) (hfl:∀ k∈fl,k∈ks) (hik:i∉ks) (hpl:∀ k∈ks,k∉fl→listed.getD k false=true)
 (hdf:H7 ((pick l fl).map (·.dst))=true) (hnl:O5 l.toArray (pick l fl)=true) (hlt:∀ k∈ks,k<l.length) (hnoal:∀ k∈ks,∀ o,l.toArray[k]?=some o→∀ t,o.op≠.alloc t)
 (hkt:((pick l fl).all fun o=>match o.dst with|some u=>!kt.contains u|none=>true)=true)
 (hkq:mL P G (l.map (·.dst)) [oj] (Sq.keep kt) (fun S'=>jE P G (l.map (·.dst)) (pick l fl) S' (fun Sf=>W3 (gk (pick l fl)) Sf.tmps Sq.tmps∧KK Sf) ⟨⟩) ⟨⟩)
 (hnext:∀ (Sf:DS) (a3:Act) (M3:MS),KK Sf→Sf.nt=nt→Sf.objs=M3.objs→Ext objs.length M2 M3→(∀ k∈fl,∃ o d,l.toArray[k]?=some o∧OpS P G nt M3.objs l.toArray o d (n8 Sf.tmps)∧∀ u,o.dst=some u→n8 Sf.tmps u=some d) →
  Inv P G nt M3.objs l.toArray fl (n8 Sf.tmps) M3 (listed.setIfInBounds i true) dfs f (listed.setIfInBounds i true) a3 M3→wpAnyIn (q9 ro) 0 P .any l.toArray Q' f (listed.setIfInBounds i true) a3 M3.w) :
 wpOpIn (q9 ro) 0 P l.toArray Q' i (wpAnyIn (q9 ro) 0 P .any l.toArray Q' f (listed.setIfInBounds i true)) a2 M2.w:=by
 have hoj':l.toArray[i]?=some oj:=by simpa using hoj
 have hrk:Rel G (Sq.keep kt) a2 M2:=by
  refine⟨hi.rel.m,hi.rel.ob.trans hob.symm,hi.rel.nt.trans hnt.symm,hi.rel.df,fun t d ht=>hi.rel.tm t d ?_⟩
  have h1:=aF ht
  have h2:=X7 ht
  unfold E3
  rw[if_pos]
  ·exact h2
  ·intro k hk o ho hu
   by_cases hf:k∈fl
   ·have:=List.all_eq_true.1 hkt o (J1 hf (by simpa using ho))
    rw[hu] at this
    simp at this
    exact absurd h1 this
   ·exact hpl k hk hf
 obtain⟨b,hw,ht,_⟩:=I0 _ _ _ hkq
 have hbt:b=true:=by
  unfold C0 at hw
  rw[hg] at hw
  exact(Option.some.inj hw).symm
 subst hbt
 have hwant:Region.wanted oj (yielded l.toArray a2.tmps)=true:=by simp[Region.wanted,hg]
 unfold wpOpIn
 simp only[hoj',hwant,if_true]
 refine P0 (cA (ht rfl ro a2 M2 hrk)) ?_
 rintro a3 w3 ⟨⟨S3,M3,rfl,r3,e3,d3,k3⟩,v,hput⟩
 have hsz3:S3.nt=nt:=by
  rw[← r3.nt,hput,← hi.rel.nt]
  cases oj.dst<;>simp[Act.put]
 have hob3:S3.objs=M3.objs:=r3.ob.symm
 have hpm:∀ o∈pick l fl,o∈l:=fun o ho=>let ⟨k,_,hk⟩:=J2 ho;List.mem_of_getElem? hk
 have hdst:∀ o∈l,∀ u,o.dst=some u→u<nt:=fun o ho u hu=>by
  obtain⟨k,hk⟩:=List.mem_iff_getElem?.1 ho
  exact hd.1 k o (by simpa using hk) u hu
 obtain⟨Sf,⟨hsame,hkf⟩,f1,f2,f3,f4⟩:=I1 (P:=P) (G:=G) (ops:=l.toArray) (nt:=nt) (objs:=M3.objs) fl (pick l fl) S3 (ef fun k hk=>hlt k (hfl k hk)) hsz3 hob3 (fun o ho=>hdst o (hpm o ho)) (C5 hdf) hnl
  (by simpa using(show jE P G (l.map (·.dst)) (pick l fl) S3 _ ⟨⟩ from k3))
 refine hnext Sf a3 M3 hkf f1 f2 (by rw[← hi.rel.ob];exact e3) f3 ?_
 refine⟨by simpa using hi.sz,O9 (mem_ready.1 hrdy).1 hi.cn,hi.cl.step hrdy,⟨r3.m,rfl,by rw[r3.nt,hsz3],r3.df,fun t d ht=>?_⟩,Ext.refl M3,d3.trans hi.df,⟨fun _=>0,fun k o t u hk ho hop=>absurd hop (hnoal k (hfl k hk) o ho t),fun k m o o' t t' hk _ ho hop=>absurd hop (hnoal k (hfl k hk) o ho t)⟩,fun _ h=>.inl h,fun _ h=>h⟩
 unfold E3 at ht
 split at ht
 ·rename_i hvis
  by_cases hfd:∃ k∈fl,∃ o,l.toArray[k]?=some o∧o.dst=some t
  ·obtain⟨k,hk,o,ho,hu⟩:=hfd
   have hki:k≠i:=fun e=>hik (e ▸ hfl k hk)
   have hkl:listed.getD k false=true:=(m9 (hvis k hk o ho hu)).resolve_left hki
   have h1:n8 Sf.tmps t=n8 Sq.tmps t:=R9 hsame (cT (J1 hk (by simpa using ho)) hu)
   obtain⟨x,x1,x2⟩:=hi.rel.tm t d (by
    unfold E3
    rw[if_pos]
    ·rw[← h1];exact ht
    ·intro m hm' o' ho' hu'
     have:=hd.2 k m o o' t ho ho' hu hu'
     subst this
     exact hkl)
   refine⟨x,?_,x2.ext e3⟩
   rw[hput]
   cases hdj:oj.dst with
   | none=>exact x1
   | some y =>
     have hne:y≠t:=fun e=>hki (hd.2 i k oj o t hoj' ho (by rw[hdj,e]) hu).symm
     simp only[Act.put]
     rw[Array.getElem?_setIfInBounds_ne hne];exact x1
  ·have h1:n8 Sf.tmps t=n8 S3.tmps t:=f4 t fun o ho hu=>by
    obtain⟨k,hk,hk'⟩:=J2 ho
    exact hfd ⟨k,hk,o,by simpa using hk',hu⟩
   exact r3.tm t d (by rw[← h1];exact ht)
 ·cases ht
end
section
variable (P:Program) (G:Es)
def ZK (l:List Oper) (K:DS→Prop):List (List Nat×List Nat)→Nat→DS→Prop
 | [],i,S=>mL P G (l.map (·.dst)) (l.drop i) S K ⟨⟩
 | (fl,kt) :: r,i,Sq=>mL P G (l.map (·.dst)) (pick l [i]) (Sq.keep kt) (fun S'=>jE P G (l.map (·.dst)) (pick l fl) S' (fun Sf=>W3 (gk (pick l fl)) Sf.tmps Sq.tmps∧ZK l K r (i+1) Sf) ⟨⟩) ⟨⟩
end
def uV (l:List Oper):List (List Nat×List Nat)→Nat→List Nat→Bool
 | [],i,_=>decide (0<i)&&decide (i≤l.length)&&((List.range l.length).all fun k=>decide (k<i)||(List.range i).all fun m=>((N8 l []).getD k 0).testBit m) &&
  oJ l.toArray (l.length-i) i (fr l.length (i-1))&&decide ((fr l.length (i-1)).toList.count false=l.length-i)
 | (fl,kt) :: r,i,ks=>decide (i<l.length)&&(fl.all fun k=>ks.contains k)&&H7 ((pick l fl).map (·.dst))&&O5 l.toArray (pick l fl) &&
  ((List.range i).all fun m=>fl.contains m||((N8 l []).getD i 0).testBit m)&&((List.range l.length).all fun k=>decide (k≤i)||((N8 l []).getD k 0).testBit i) &&
  ((pick l fl).all fun o=>match o.dst with|some u=>!kt.contains u|none=>true)&&(match l[i]? with|some o=>o.guard.isNone|none=>false)&&uV l r (i+1) fl
section
variable {P:Program} {G:Es}
theorem Be {l:List Oper} {nt j:Nat} {n:Cx} {Q:Exit→DS→Prop} {kp:List Nat} {a:Act} {M:MS} {ro:Option Nat} (hd:T1 nt l.toArray) (hj:j≤l.length)
 (hdep:∀ i,i<j→∀ o,l.toArray[i]?=some o→∀ k,k<j→∀ o',l.toArray[k]?=some o'→∀ u,o'.dst=some u→u∈o.looksAt l.toArray→∃ e∈o.after,e.on=k∧Region.binds .any e=true)
 (hback:∀ (k:Nat) (o:Oper),l.toArray[k]?=some o→∀ e∈o.after,Region.binds .any e=true→e.on<k) (hmask:bg l.toArray (N8 l [])) (hnoal:∀ i,i<j→∀ o,l.toArray[i]?=some o→∀ t,o.op≠.alloc t) :
 ∀ (st:List (List Nat×List Nat)) (i:Nat) (ks:List Nat) (Sq:DS) (objs:List DObj) (Mb:MS) (base:Array Bool),uV l st i ks=true→(∀ k∈ks,k<j)→j≤i→Sq.nt=nt→Sq.objs=objs→n.n≤objs.length→Ext n.n M Mb →
  (∀ k∈ks,∃ o d,l.toArray[k]?=some o∧OpS P G nt objs l.toArray o d (n8 Sq.tmps)∧∀ u,o.dst=some u→n8 Sq.tmps u=some d) →
  (∀ k,base.getD k false=true→k<i)→(∀ k,k<i→k∉ks→base.getD k false=true)→ZK P G l (fun S''=>At Q .normal ⟨⟩ (S''.keep kp)) st i Sq →
  ∀ f listed a2 M2,Inv P G nt objs l.toArray ks (n8 Sq.tmps) Mb base a.defers f listed a2 M2 →
   wpAnyIn (q9 ro) 0 P .any l.toArray (fun e a' w'=>∃ S' M',M'.w=w'∧Rel G S' a' M'∧Ext n.n M M'∧NewD M a a'∧Q e S') f listed a2 M2.w:=by
 have unl:∀ {listed:Array Bool} {k:Nat},k∈Region.ready .any l.toArray listed→listed.getD k false≠true:=fun {listed k} hk e=>by
  have h0:=(mem_ready.1 hk).1
  rcases Nat.lt_or_ge k listed.size with h'|h'
  ·simp[h'] at h0 e;rw[h0] at e;cases e
  ·simp[Array.getElem?_eq_none h'] at e
 have alll:∀ {listed:Array Bool},listed.toList.count false=0→∀ m,m<listed.size→listed.getD m false=true:=fun {listed} h m hm'=>by
  have hnot:=List.count_eq_zero.1 h
  cases hv:listed[m] with
  | true=>simp[hm',hv]
  | false=>exact absurd (by rw[← hv];exact Array.getElem_mem_toList hm') hnot
 intro st
 induction st with
 | nil =>
   intro i ks Sq objs Mb base hz hks hji hnt hob hno hMb hY hb1 hb2 hK f listed a2 M2 hi
   simp only[uV,Bool.and_eq_true,decide_eq_true_eq] at hz
   obtain⟨⟨⟨⟨z0,zl⟩,z1⟩,z2⟩,z3⟩:=hz
   have fin:∀ f' listed' a4 M4,Inv P G nt objs l.toArray ks (n8 Sq.tmps) Mb base a.defers f' listed' a4 M4→(∀ k∈ks,listed'.getD k false=true) →
    wpAnyIn (q9 ro) 0 P .any l.toArray (fun e a' w'=>∃ S' M',M'.w=w'∧Rel G S' a' M'∧Ext n.n M M'∧NewD M a a'∧Q e S') f' listed' a4 M4.w:=by
    intro f' listed' a4 M4 hi4 hfl4
    have hL:listed'=fr l.length (i-1):=by
     refine jh (by simpa using hi4.sz) fun k hk=>⟨fun hkl=>?_,fun hkl=>?_⟩
     ·rcases hi4.only k hkl with h1|h1
      ·have:=hb1 k h1;omega
      ·have:=hks k h1;omega
     ·by_cases hkf:k∈ks
      ·exact hfl4 k hkf
      ·exact hi4.has k (hb2 k (by omega) hkf)
    have hf':f'=(l.drop i).length:=by rw[← hi4.cn,hL,z3];simp
    have hrel:Rel G Sq a4 M4:=⟨hi4.rel.m,by rw[hi4.rel.ob,hob],by rw[hi4.rel.nt,hnt],hi4.rel.df,fun t d ht=>hi4.rel.tm t d (by
     unfold E3
     rw[if_pos]
     ·exact ht
     ·exact fun k hk _ _ _=>hfl4 k hk)⟩
    have hn4:n.n≤M4.objs.length:=by rw[hi4.rel.ob];exact hno
    have eM4:Ext n.n M M4:=hMb.trans (hi4.ext.weaken hno)
    rw[hf',hL]
    refine K1 (P:=P) (G:=G) (ops:=l.toArray) (ro:=ro) n.n (fun S''=>At Q .normal ⟨⟩ (S''.keep kp)) (l.drop i) i _ Sq a4 M4 (fun k hk=>by simp) (by rw[List.length_drop];exact z2) hrel hn4 (by simpa using I0 _ _ _ hK) ?_
    intro S5 a5 M5 hr5 he5 hd5 hq5
    obtain⟨M6,w6,r6,e6⟩:=Weak.keep (G:=G) (n:=n) (S:=S5) (ks:=kp) (by rw[← hr5.ob];exact he5.len) a5 M5 hr5
    exact⟨_,M6,w6,r6,eM4.trans (he5.trans e6),.same (hd5.trans hi4.df),hq5⟩
   refine I4 (P:=P) (G:=G) (nt:=nt) (objs:=objs) (ops:=l.toArray) (ks:=ks) (τ:=n8 Sq.tmps) (M0:=Mb) (base:=base) (dfs:=a.defers) (ro:=ro) hd hY
    (fun k hk o ho m hm'=>hdep k (hks k hk) o ho m (hks m hm')) hback ?_ ?_ f listed a2 M2 hi
   ·intro f' listed' a4 M4 hi4 k hk4 hkf
    have hik:i≤k:=by
     rcases Nat.lt_or_ge k i with h|h
     ·exact absurd (hi4.has k (hb2 k h hkf)) (unl hk4)
     ·exact h
    refine(fin _ listed' a4 M4 hi4 fun m hm'=>?_).2 k hk4
    obtain⟨_,ok,hok,hall⟩:=mem_ready.1 hk4
    have h1:=List.all_eq_true.1 z1 k (by simpa using(Array.getElem?_eq_some_iff.1 hok).1)
    simp only[Bool.or_eq_true,decide_eq_true_eq] at h1
    have h2:=h1.resolve_left (by omega)
    exact hmask k m ok hok (List.all_eq_true.1 h2 m (by have:=hks m hm';simp;omega)) listed' hi4.cl hall
   ·intro listed' a4 M4 hi4
    exact(fin 0 listed' a4 M4 hi4 fun m hm'=>alll hi4.cn m (by rw[hi4.sz];have:=hks m hm';simp;omega)).2
 | cons x r ih =>
   obtain⟨fl,kt⟩:=x
   intro i ks Sq objs Mb base hz hks hji hnt hob hno hMb hY hb1 hb2 hK f listed a2 M2 hi
   simp only[uV,Bool.and_eq_true,decide_eq_true_eq] at hz
   obtain⟨⟨⟨⟨⟨⟨⟨⟨z0,z1⟩,z2⟩,z3⟩,z4⟩,z5⟩,z6⟩,z7⟩,z8⟩:=hz
   have hfl:∀ k∈fl,k∈ks:=fun k hk=>by simpa using List.all_eq_true.1 z1 k hk
   obtain⟨oi,hoi⟩:∃ o,l[i]?=some o:=⟨l[i],List.getElem?_eq_getElem z0⟩
   rw[hoi] at z7
   have hgi:oi.guard=none:=by simpa[Option.isNone_iff_eq_none] using z7
   have hiks:i∉ks:=fun h=>by have:=hks i h;omega
   have hpk:pick l [i]=[oi]:=by simp[pick,hoi]
   simp only[ZK] at hK
   rw[hpk] at hK
   have hun:∀ {f' listed' a4 M4},Inv P G nt objs l.toArray ks (n8 Sq.tmps) Mb base a.defers f' listed' a4 M4→listed'.getD i false≠true:=fun hi4 e=>by
    rcases hi4.only i e with h|h
    ·have:=hb1 i h;omega
    ·exact hiks h
   refine I4 (P:=P) (G:=G) (nt:=nt) (objs:=objs) (ops:=l.toArray) (ks:=ks) (τ:=n8 Sq.tmps) (M0:=Mb) (base:=base) (dfs:=a.defers) (ro:=ro) hd hY
    (fun k hk o ho m hm'=>hdep k (hks k hk) o ho m (hks m hm')) hback ?_ ?_ f listed a2 M2 hi
   ·intro f' listed' a4 M4 hi4 k hk4 hkf
    obtain⟨_,ok,hok,hall⟩:=mem_ready.1 hk4
    have hki:k=i:=by
     rcases Nat.lt_trichotomy k i with h|h|h
     ·exact absurd (hi4.has k (hb2 k h hkf)) (unl hk4)
     ·exact h
     ·have h1:=List.all_eq_true.1 z5 k (by simpa using(Array.getElem?_eq_some_iff.1 hok).1)
      simp only[Bool.or_eq_true,decide_eq_true_eq] at h1
      exact absurd (hmask k i ok hok (h1.resolve_left (by omega)) listed' hi4.cl hall) (hun hi4)
    subst hki
    have hpl:∀ m,m<k→m∉fl→listed'.getD m false=true:=fun m hm' hmf=>by
     have h1:=List.all_eq_true.1 z4 m (by simpa using hm')
     simp only[Bool.or_eq_true,List.contains_iff_mem] at h1
     exact hmask k m ok hok (h1.resolve_left hmf) listed' hi4.cl hall
    refine Ac (fl:=fl) (kt:=kt) hd hnt hob hi4 hk4 hoi hgi hfl hkf (fun m hm'=>hpl m (by have:=hks m hm';omega)) z2 z3 (fun m hm'=>by have:=hks m hm';omega) (fun m hm'=>hnoal m (hks m hm')) z6 hK ?_
    intro Sf a3 M3 hkf' f1 f2 e3 f3 hi3
    refine ih (k+1) fl Sf M3.objs M3 (listed'.setIfInBounds k true) z8 (fun m hm'=>hks m (hfl m hm')) (by omega) f1 f2 (Nat.le_trans hno e3.len) ((hMb.trans (hi4.ext.weaken hno)).trans (e3.weaken hno)) f3 (fun m hm'=>?_) (fun m hm' hmf=>?_) hkf' f' _ a3 M3 hi3
    ·rcases m9 hm' with rfl|h1
     ·omega
     ·rcases hi4.only m h1 with h2|h2
      ·have:=hb1 m h2;omega
      ·have:=hks m h2;omega
    ·rcases Nat.eq_or_lt_of_le (Nat.le_of_lt_succ hm') with rfl|hlt
     ·have:m<listed'.size:=by rw[hi4.sz];simpa using z0
      simp[this]
     ·exact getD_set_true (hpl m hlt hmf)
   ·intro listed' a4 M4 hi4
    exact absurd (alll hi4.cn i (by rw[hi4.sz];simpa using z0)) (hun hi4)
def jn (nt j:Nat) (st:List (List Nat×List Nat)) (l:List Oper):Bool:=
 decide (j≤l.length)&&(l.all fun o=>match o.dst with|some t=>decide (t<nt)|none=>true)&&H7 (l.map (·.dst)) &&
 ((List.range l.length).all fun k=>match l[k]? with|some o=>o.after.toList.all fun e=>!Region.binds .any e||decide (e.on<k)|none=>true) &&
 ((List.range j).all fun i=>(List.range j).all fun k=>match l[i]?,l[k]? with
   | some o,some o'=>match o'.dst with|some u=>!(o.looksAt l.toArray).contains u||o.after.toList.any fun e=>decide (e.on=k)&&Region.binds .any e|none=>true
   | _,_=>true) &&
 O5 l.toArray (l.take j)&&((l.take j).all fun o=>(eS o.op).isNone)&&uV l st j (List.range j)
theorem Cs {nt:Nat} {n:Cx} {l:List Oper} {S:DS} {Q:Exit→DS→Prop} (j:Nat) (st:List (List Nat×List Nat)) (kp:List Nat) (hnt:S.nt=nt) (hB:jn nt j st l=true)
 (h:jE P G (l.map (·.dst)) (l.take j) S (fun Sq=>ZK P G l (fun S''=>At Q .normal ⟨⟩ (S''.keep kp)) st j Sq) ⟨⟩):n.n≤S.objs.length→∀ (a:Act) (M:MS),Rel G S a M →
 wpAnyIn (q9 (n.rd.map M.β)) 0 P .any l.toArray (fun e a' w'=>∃ S' M',M'.w=w'∧Rel G S' a' M'∧Ext n.n M M'∧NewD M a a'∧Q e S') l.length (Array.replicate l.length false) a { M.w with drawn:=M.w.drawn+1 }:=by
 intro hn a M hr
 simp only[jn,Bool.and_eq_true,decide_eq_true_eq] at hB
 obtain⟨⟨⟨⟨⟨⟨⟨b1,b4⟩,b5⟩,b6⟩,b7⟩,b8⟩,b13⟩,bz⟩:=hB
 subst hnt
 have hdst:∀ o∈l,∀ u,o.dst=some u→u<S.nt:=fun o ho u hu=>by
  have:=List.all_eq_true.1 b4 o ho
  simpa[hu] using this
 have hpw:=C5 b5
 have hd:T1 S.nt l.toArray:=by
  refine⟨fun i o ho u hu=>hdst o (by simpa using Array.mem_of_getElem? ho) u hu,fun i k o o' u ho ho' hu hu'=>?_⟩
  have hi:l[i]?=some o:=by simpa using ho
  have hk:l[k]?=some o':=by simpa using ho'
  obtain⟨hil,hi'⟩:=List.getElem?_eq_some_iff.1 hi
  obtain⟨hkl,hk'⟩:=List.getElem?_eq_some_iff.1 hk
  rw[List.pairwise_iff_getElem] at hpw
  rcases Nat.lt_trichotomy i k with hlt|he|hlt
  ·exact absurd (show (l.map (·.dst))[i]'(by simpa using hil)=(l.map (·.dst))[k]'(by simpa using hkl) by simp[hi',hk',hu,hu']) (hpw i k (by simpa using hil) (by simpa using hkl) hlt (by simp[hi',hu]))
  ·exact he
  ·exact absurd (show (l.map (·.dst))[k]'(by simpa using hkl)=(l.map (·.dst))[i]'(by simpa using hil) by simp[hi',hk',hu,hu']) (hpw k i (by simpa using hkl) (by simpa using hil) hlt (by simp[hk',hu']))
 have hback:∀ (k:Nat) (o:Oper),l.toArray[k]?=some o→∀ e∈o.after,Region.binds .any e=true→e.on<k:=fun k o ho e he hb=>by
  have hk:l[k]?=some o:=by simpa using ho
  have:=List.all_eq_true.1 b6 k (by simpa using(List.getElem?_eq_some_iff.1 hk).1)
  rw[hk] at this
  have:=List.all_eq_true.1 this e (by simpa using he)
  simpa[hb] using this
 have hdep:∀ i,i<j→∀ o,l.toArray[i]?=some o→∀ k,k<j→∀ o',l.toArray[k]?=some o'→∀ u,o'.dst=some u→u∈o.looksAt l.toArray→∃ e∈o.after,e.on=k∧Region.binds .any e=true:=fun i hi o ho k hk o' ho' u hu hl=>by
  have h1:=List.all_eq_true.1 (List.all_eq_true.1 b7 i (by simpa using hi)) k (by simpa using hk)
  rw[show l[i]?=some o by simpa using ho,show l[k]?=some o' by simpa using ho'] at h1
  simp only[hu,Bool.or_eq_true,Bool.not_eq_true',List.any_eq_true,Bool.and_eq_true,decide_eq_true_eq] at h1
  rcases h1 with h1|⟨e,he,h2,h3⟩
  ·have:(o.looksAt l.toArray).contains u=true:=by simpa using hl
   rw[h1] at this;cases this
  ·exact⟨e,by simpa using he,h2,h3⟩
 have hmask:bg l.toArray (N8 l []):=T2 l [] (fun j _=>by simp) (fun j i oj _ h=>by simp at h)
 have hnoal:∀ i,i<j→∀ o,l.toArray[i]?=some o→∀ t,o.op≠.alloc t:=fun i hi o ho t=>by
  have:=List.all_eq_true.1 b13 o (List.mem_of_getElem? (i:=i) (by rw[List.getElem?_take_of_lt hi];simpa using ho))
  exact S8 (by simpa[Option.isNone_iff_eq_none] using this) t
 obtain⟨hm1,he1⟩:=RelM.same (w':={ M.w with drawn:=M.w.drawn+1 }) hr.m rfl ⟨rfl,rfl,rfl,by first|exact Nat.le_refl _|exact Nat.le_succ _⟩
 have hAl:Al l.toArray (List.range j) (l.take j):=by
  have gen:∀ (m k:Nat),k+m≤l.length→Al l.toArray (List.range' k m) ((l.drop k).take m):=by
   intro m
   induction m with
   | zero=>intro k _;simp[Al,List.range']
   | succ m ih =>
     intro k hk
     have hk':k<l.length:=by omega
     rw[List.range'_succ,List.drop_eq_getElem_cons hk',List.take_succ_cons]
     exact⟨by simp,ih (k+1) (by omega)⟩
  have:=gen j 0 (by omega)
  rwa [List.drop_zero,← List.range_eq_range'] at this
 obtain⟨Sq,hkq,q1,q2,q3,q4⟩:=I1 (P:=P) (G:=G) (ops:=l.toArray) (nt:=S.nt) (objs:=S.objs) (List.range j) (l.take j) S hAl rfl rfl (fun o ho=>hdst o (List.mem_of_mem_take ho))
  (by rw[List.map_take];exact hpw.take) b8 (by simpa using h)
 let Md:MS:={ M with w:={ M.w with drawn:=M.w.drawn+1 } }
 have hobs:M.objs.length=S.objs.length:=by rw[hr.ob]
 refine Be (n:=n) (Q:=Q) (kp:=kp) (M:=M) hd b1 hdep hback hmask hnoal st j (List.range j) Sq S.objs Md (Array.replicate l.length false) bz (fun k hk=>by simpa using hk) (Nat.le_refl _) q1 q2 hn (he1.weaken (by rw[hobs];exact hn)) q3
  (fun k hk=>by rw[m7] at hk;cases hk) (fun k hk hk'=>absurd (by simpa using hk) hk') hkq l.length _ a Md ?_
 refine⟨by simp,by simp,fun k o _ hk=>?_,⟨hm1,hr.ob,hr.nt,hr.df,fun t d ht=>?_⟩,by rw[← hr.ob];exact Ext.refl Md,rfl,⟨fun _=>0,fun k o t u _ _ _ _ hk=>?_,fun k m o o' t t' _ _ _ _ hk=>?_⟩,fun k hk=>?_,fun _ h=>h⟩
 ·rw[m7] at hk;cases hk
 ·unfold E3 at ht
  split at ht
  ·rename_i hvis
   have h4:n8 Sq.tmps t=n8 S.tmps t:=q4 t fun o ho hu=>by
    obtain⟨k,hk⟩:=List.mem_iff_getElem?.1 ho
    have hkj:k<j:=by
     have:=(List.getElem?_eq_some_iff.1 hk).1
     simp at this;omega
    rw[List.getElem?_take_of_lt hkj] at hk
    have:=hvis k (by simpa using hkj) o (by simpa using hk) hu
    rw[m7] at this;cases this
   obtain⟨v,h1,h2⟩:=hr.tm t d (by rw[← h4];exact ht)
   exact⟨v,h1,h2.ext he1⟩
  ·cases ht
 ·rw[m7] at hk;cases hk
 ·rw[m7] at hk;cases hk
 ·rw[m7] at hk;cases hk
end
theorem cp {P:Program} {G:Es} {id nt:Nat} {n:Cx} {l:List Oper} {S:DS} {Q:Exit→DS→Prop} (p:List Nat) (j:Nat) (st:List (List Nat×List Nat)) (ks:List Nat) (hm:P.follows .mixedOrders=true) (hnt:S.nt=nt) (hP:kg p l=true) (hB:jn nt j st (r5 p l p)=true)
 (h:jE P G ((r5 p l p).map (·.dst)) ((r5 p l p).take j) S (fun Sq=>ZK P G (r5 p l p) (fun S''=>At Q .normal ⟨⟩ (S''.keep ks)) st j Sq) ⟨⟩):DT P G n (.region id l.toArray true) S Q:=
 fun hn _ a M hr=>wpIn_region_any hm (by
  have hp:=cS hP
  have hl:(r5 p l p).length=l.length:=by rw[Z3 hp.lt,hp.len]
  have h1:=Cs j st ks hnt hB h hn a M hr
  rw[hl] at h1
  refine eH hp _ _ _ _ _ (by simp) (by simp) (fun i k hi=>?_) h1
  have hi1:i<l.length:=by rw[← hp.len];exact g9 hi
  have hk1:=hp.lt k (List.mem_of_getElem? hi)
  simp[hi1,hk1])
section
variable {P:Program} {G:Es}
theorem DCall.last {f:FuncId} {args:List DV} {Q:Nat→Nat→Nat→List (List IC)→Bool→Prop}
 (h:DCall P G f args [] (fun d o=>∃ k g len sz es nl,d=.one (.vec k g 0 len)∧o[k]?=some (.vec sz (o7 es) g nl)∧Q g len sz es nl)) :
 DCall P G f args [] (fun d o=>∃ g len sz es nl,d=.one (.vec 0 g 0 len)∧o=[.vec sz (o7 es) g nl]∧Q g len sz es nl):=by
 intro M vs h1 h2 h3 h4
 refine(h M vs h1 h2 h3 h4).mono ?_
 rintro e w' ⟨v,d,M',rfl,rfl,hm,hv,he,k,g,len,sz,es,nl,rfl,ho,hq⟩
 have hlt:k<M'.objs.length:=g9 ho
 let M'':MS:={ w:=M'.w,β:=fun _=>M'.β k,objs:=[.vec sz (o7 es) g nl],F:=M'.F }
 have hlive:∀ b,M''.live b→M'.live b:=by
  rintro b ⟨o,d,h5,h6,h7⟩
  have h8:=g9 h5
  have:o=0:=by simp[M''] at h8;exact h8
  subst this
  simp only[M'',List.getElem?_cons_zero,Option.some.injEq] at h5
  subst h5
  exact⟨k,_,ho,h6,h7⟩
 have hfree:∀ b,M'.free b→M''.free b:=fun b hb=>⟨hb.1,fun hl=>hb.2 (hlive b hl)⟩
 have hok:∀ b,M'.ok b→M''.ok b∧M''.w.heap[b]?=M'.w.heap[b]?:=fun b hb=>⟨⟨hfree b hb.1,hb.2⟩,rfl⟩
 have hel:∀ (i:Nat) (x:List DC),(o7 es)[i]?=some x→∀ (j:Nat) (d:DC) (v:Value),x[j]?=some d→RepC M' d v→RepC M'' d v:=fun i x hx j d v hd r=>by
  rw[yj,Option.map_eq_some_iff] at hx
  obtain⟨y,_,rfl⟩:=hx
  rw[List.getElem?_map,Option.map_eq_some_iff] at hd
  obtain⟨c,_,rfl⟩:=hd
  cases r with
  | im _ _ r=>exact .im _ _ (r.mono hok)
 have hone:∀ {o:Nat} {d:DObj},M''.objs[o]?=some d→o=0∧d=.vec sz (o7 es) g nl:=fun {o d} h=>by
  have h8:=g9 h
  have:o=0:=by simp[M''] at h8;exact h8
  subst this
  simp only[M'',List.getElem?_cons_zero,Option.some.injEq] at h
  exact⟨rfl,h.symm⟩
 have hR:RelO M'' 0 (.vec sz (o7 es) g nl):=by
  obtain⟨a1,a2⟩:=hm.objs k _ ho
  refine⟨a1,fun hn=>?_⟩
  obtain⟨b0,c,T,b1,b2,b3,b4⟩:=a2 hn
  exact⟨b0,c,T,b1,b2,b3,fun i x j d v hx hd hcv=>hel i x hx j d v hd (b4 i x j d v hx hd hcv)⟩
 refine⟨v,.one (.vec 0 g 0 len),M'',rfl,rfl,⟨fun o d h=>?_,fun o d h hb=>?_,fun o o' d d' h h' _ _ _=>?_,fun g' l hg=>(hm.glob g' l hg).mono hok,hm.fl,fun o d h hb=>?_⟩,?_,?_,g,len,sz,es,nl,rfl,rfl,hq⟩
 ·obtain⟨rfl,rfl⟩:=hone h;exact hR
 ·obtain⟨rfl,rfl⟩:=hone h;exact hm.lt k _ ho hb
 ·obtain⟨rfl,rfl⟩:=hone h;obtain⟨rfl,rfl⟩:=hone h';rfl
 ·obtain⟨rfl,rfl⟩:=hone h;exact hm.own k _ ho hb
 ·cases hv with
  | one _ _ hc=>cases hc with
    | vec _ _ _ _ _ c1 c2 c3 =>
      refine .one _ _ (.vec _ _ _ _ _ c1 (by simp[M'']) fun sz1 es1 g1 nl1 h5=>?_)
      simp only[M'',List.getElem?_cons_zero,Option.some.injEq] at h5
      injection h5 with e1 e2 e3 e4
      subst e1;subst e2;subst e3;subst e4
      exact c3 _ _ _ _ ho
 ·refine⟨by simp,fun b hb=>⟨hfree b (he.free b hb).1,(he.free b hb).2⟩,he.other,he.hs,fun o h=>by simp at h,fun o h=>by simp at h,fun o h=>by simp at h,fun o h=>by simp at h,fun o h=>by simp at h,fun o h=>by simp at h,he.io⟩
end
section
variable {P:Program} {G:Es} {n:Cx} {S:DS} {Q:Exit→DS→Prop}
def sq (G:Es) (S:DS):Operand→Option DV
 | .const (.slice none 0 0)=>some (.one (.im (.raw (.slice none 0 0))))
 | x=>m4 G S x
def ik (G:Es) (S:DS):List Operand→Option (List DV)
 | []=>some []
 | x :: r=>match sq G S x,ik G S r with
   | some d,some l=>some (d :: l)
   | _,_=>none
theorem pa {a:Act} {M:MS} (hr:Rel G S a M) {x:Operand} {d:DV} (h:sq G S x=some d):RepV M d (a.eval x):=by
 unfold sq at h
 split at h
 ·cases h;exact .one _ _ (.im _ _ (.raw _ rfl))
 ·exact j9 hr h
theorem gj {a:Act} {M:MS} (hr:Rel G S a M):∀ (l:List Operand) (ds:List DV),ik G S l=some ds→l.length=ds.length∧∀ (j:Nat) (d:DV) (v:Value),ds[j]?=some d→(l.map a.eval)[j]?=some v→RepV M d v
 | [],ds,h=>by
   cases h
   exact⟨rfl,fun j d v h=>by simp at h⟩
 | x :: r,ds,h=>by
   simp only[ik] at h
   split at h
   ·rename_i d l hd hl
    cases h
    obtain⟨h1,h2⟩:=gj hr r l hl
    refine⟨by simp[h1],fun j e v he hv=>?_⟩
    cases j with
    | zero=>simp at he hv;subst he;subst hv;exact pa hr hd
    | succ j=>exact h2 j e v (by simpa using he) (by simpa using hv)
   ·cases h
theorem uL {o:Oper} {K:DS→Prop} {x:Operand} {xs:Array Operand} {ts:Array TypeId} {d:DV} {f:FuncId} {caps as:List DV} (ho:o.op=.call { callee:=.value x,args:=xs,argTypes:=ts })
 (hx:m4 G S x=some d) (hc:G0 d=some (f,caps)) (ha:ik G S xs.toList=some as) (hcall:∀ args w,(callFunc f args).run P w=.ok (.enter f args) w)
 (h:DCall P G f (as++caps) S.objs (fun d objs'=>K ({ S with objs:=objs' }.put o.dst d))):OpT P G o S K:=by
 intro ro a M hr
 have hp:=j9 hr hx
 obtain⟨hl,hrep⟩:=gj hr _ _ ha
 generalize hv:a.eval x=v at hp
 have key:∀ (vs:Array Value),v=.func (.func f) #[] vs→vs.size=caps.length→(∀ (j:Nat) (d:DV) (u:Value),caps[j]?=some d→vs[j]?=some u→RepV M d u) →
  o.wpIn (q9 ro) 0 P a M.w (fun a' w'=>∃ S' M',M'.w=w'∧Rel G S' a' M'∧Ext M.objs.length M M'∧a'.defers=a.defers∧K S') (fun _ _ _=>False):=by
  rintro vs rfl hvs hcr
  have hrun:(execOp a.eval o).run P M.w=.ok (.enter f ((xs.map a.eval)++vs)) M.w:=by
   simp only[execOp,ho,Sem.run_bind,resolve,hv,Deferred.ofValue,Sem.run_pure,Result.andThen_ok,invoke,Array.empty_append,hcall]
  refine bI hrun ?_
  have hsz:(xs.map a.eval).size=as.length:=by simp[← hl]
  refine(h M _ hr.m hr.ob (by simp[← hl,hvs]) fun j e u he hu=>?_).mono ?_
  ·by_cases hj:j<as.length
   ·rw[List.getElem?_append_left hj] at he
    rw[Array.getElem?_append_left (by omega)] at hu
    refine hrep j e u he ?_
    rw[← hu,← Array.toList_map,Array.getElem?_toList]
   ·rw[List.getElem?_append_right (by omega)] at he
    rw[Array.getElem?_append_right (by omega),hsz] at hu
    exact hcr _ e u he hu
  ·rintro e w' ⟨v,d,M',rfl,rfl,hm,hd,he,hk⟩
   have he':Ext M.objs.length M M':=by rw[hr.ob];exact he
   exact⟨v,rfl,_,M',rfl,hr.put hm he' hd o.dst,he',s9 _ _ _,hk⟩
 unfold G0 at hc
 split at hc
 ·cases hc
  cases hp with
  | one _ _ hp=>cases hp with
    | im _ _ hp=>cases hp with
      | fn _ _ vs h1 h2 =>
        refine key vs rfl (by simp[h1]) fun j d u hj hu=>?_
        rw[List.getElem?_map,Option.map_eq_some_iff] at hj
        obtain⟨c,hc,rfl⟩:=hj
        exact .one _ _ (.im _ _ (h2 j c u hc hu))
 ·cases hc
  cases hp with
  | one _ _ hp=>cases hp with
    | fn _ _ vs h1 h2 =>
      refine key vs rfl (by simp[h1]) fun j d u hj hu=>?_
      rw[List.getElem?_map,Option.map_eq_some_iff] at hj
      obtain⟨c,hc,rfl⟩:=hj
      exact .one _ _ (h2 j c u hc hu)
 ·cases hc
def rT (P:Program) (G:Es) (S:DS) (op:Op) (ty:TypeId):Out:=match H5 op with
 | .call x xs=>match m4 G S x,ik G S xs with
   | some d,some as=>Aq (G0 d) as
   | _,_=>.bad
 | k=>J8 P G S op ty k
def Bz (P:Program) (G:Es) (dsts:List (Option Tmp)):List Oper→DS→(K:DS→Prop)→Tok K→Prop
 | [],S,K,_=>K S
 | o :: l,S,K,tk=>lf (C0 dsts S o)
  (Next P G S.objs (rT P G S o.op o.type) (fun d objs'=>Bz P G dsts l (DS.put { S with objs:=objs' } o.dst d) K tk) ⟨⟩)
  (Bz P G dsts l (S.put o.dst (.tup [])) K tk) ⟨⟩
theorem pI {dsts:List (Option Tmp)} {l:List Oper} {o:Oper} {K:DS→Prop} {C:DV→List DObj→Prop}
 (hC:∀ d objs',C d objs'→RT P G dsts l (DS.put { S with objs:=objs' } o.dst d) K) (h1:Next P G S.objs (rT P G S o.op o.type) C ⟨⟩):OpT P G o S (fun S'=>RT P G dsts l S' K):=by
 unfold rT at h1
 split at h1
 ·rename_i x xs hk
  split at h1
  ·rename_i d as hd has
   generalize hc:G0 d=c at h1
   cases c with
   | none=>exact h1.elim
   | some p =>
     obtain⟨f,caps⟩:=p
     obtain⟨ys,ts,ho,rfl⟩:=V1 hk
     exact uL ho hd hc has h1.1 (DCall.mono h1.2 fun d objs' hk=>hC _ _ hk)
  ·exact h1.elim
 ·exact fh hC h1
theorem iD {dsts:List (Option Tmp)}:∀ (l:List Oper) (S:DS) (K:DS→Prop),Bz P G dsts l S K ⟨⟩→RT P G dsts l S K
 | [],S,K,h=>h
 | o :: l,S,K,h=>by
   rw[Bz] at h
   generalize hb:C0 dsts S o=r at h
   cases r with
   | none=>exact h.elim
   | some b=>exact⟨b,hb,fun e=>pI (fun d objs' hk=>iD l _ K hk) (h.1 e),fun e=>iD l _ K (h.2 e)⟩
theorem rM {id:Nat} {l:List Oper} (ks:List Nat) (h:Bz P G (l.map (·.dst)) l S (fun S'=>At Q .normal ⟨⟩ (S'.keep ks)) ⟨⟩):DT P G n (.region id l.toArray false) S Q:=by
 have h1:=iE (id:=id) (n:=n) (Q:=fun e S'=>e=.normal∧Q .normal (S'.keep ks)) (gD (iD l S _ h) (fun S' h=>⟨rfl,h⟩))
 intro hn hd a M hr
 refine wpIn_mono (h1 hn hd a M hr) ?_
 rintro e a' w' ⟨S',M',rfl,hr',he,hnd,rfl,hq⟩
 obtain⟨M2,w2,r2,e2⟩:=Weak.keep (G:=G) (n:=n) (S:=S') (ks:=ks) (by rw[← hr'.ob];exact he.len) a' M' hr'
 exact⟨_,M2,w2,r2,he.trans e2,hnd,hq⟩
end
attribute [simp] Bz rT sq ik
def Ct (G:Es) (n:Cx) (S0:DS) (e:Exit) (S:DS):Prop:=e=.normal∧Weak G n S S0
theorem zA {P:Program} {G:Es} {n:Cx} {id:Nat} {c y:Code} {S:DS} {Q1 Q2:Exit→DS→Prop} (S0:DS) (h1:DT P G n c S (T3 id (Ct G n S0))) (h2:DT P G n y S0 Q1) :
 DT P G n c S (T3 id (U3 (fun S'=>DT P G n y S' Q1) Q2)):=by
 refine h1.mono fun e S' hq=>?_
 cases e with
 | normal=>exact cm hq.2 h2
 | exit id' =>
   simp only[T3] at hq ⊢
   split
   ·rename_i hid
    rw[if_pos hid] at hq
    exact cm hq.2 h2
   ·rename_i hid
    rw[if_neg hid] at hq
    exact absurd hq.1 (by simp)
 | goto l=>exact absurd hq.1 (by simp)
 | ret=>exact absurd hq.1 (by simp)
 | panic ch=>exact absurd hq.1 (by simp)
 | outgrown=>exact absurd hq.1 (by simp)
def J6 (ks:List Nat) (o:Oper):Oper:={ dst:=o.dst,op:=o.op,type:=o.type,pos:=o.pos,after:=o.after.filter fun e=>ks.contains e.on,guard:=o.guard }
def D9:List (Option (List Nat))→List Oper→List Oper
 | some ks :: cs,o :: r=>J6 ks o :: D9 cs r
 | none :: cs,o :: r=>o :: D9 cs r
 | [],l=>l
 | _,[]=>[]
def la (l:List Oper):Bool:=
 (l.all fun o=>o.guard.isNone)&&((List.range l.length).all fun k=>match l[k]? with|some o=>o.after.toList.all fun e=>!Region.binds .any e||decide (e.on<k)|none=>true)
theorem V7:∀ (cs:List (Option (List Nat))) (l:List Oper),(D9 cs l).length=l.length
 | some ks :: cs,o :: r=>by simp[D9,V7 cs r]
 | none :: cs,o :: r=>by simp[D9,V7 cs r]
 | [],l=>by simp[D9]
 | some _ :: _,[]=>by simp[D9]
 | none :: _,[]=>by simp[D9]
theorem gy:∀ (cs:List (Option (List Nat))) (l:List Oper) (k:Nat) (o:Oper),l[k]?=some o→∃ ks,(D9 cs l)[k]?=some o∨(D9 cs l)[k]?=some (J6 ks o)
 | some ks :: cs,o :: r,0,o',h=>⟨ks,.inr (by simp at h;subst h;simp[D9])⟩
 | none :: cs,o :: r,0,o',h=>⟨[],.inl (by simp at h;subst h;simp[D9])⟩
 | some ks :: cs,o :: r,k+1,o',h=>by simpa[D9] using gy cs r k o' (by simpa using h)
 | none :: cs,o :: r,k+1,o',h=>by simpa[D9] using gy cs r k o' (by simpa using h)
 | [],l,k,o',h=>⟨[],.inl (by simpa[D9] using h)⟩
 | some _ :: _,[],k,o',h=>by simp at h
 | none :: _,[],k,o',h=>by simp at h
section
variable {P:Program} {l:List Oper} {cs:List (Option (List Nat))} {F:Fence} {n:Nat} {Q:Exit→Act→World→Prop}
theorem lV {L:Array Bool} {k:Nat} (h:k∈Region.ready .any l.toArray L):k∈Region.ready .any (D9 cs l).toArray L:=by
 obtain⟨h0,ok,hok,hall⟩:=mem_ready.1 h
 have hok':l[k]?=some ok:=by simpa using hok
 obtain⟨ks,h1|h1⟩:=gy cs l k ok hok'
 ·exact mem_ready.2 ⟨h0,ok,by simpa using h1,hall⟩
 ·exact mem_ready.2 ⟨h0,J6 ks ok,by simpa using h1,fun e he hb=>hall e (by
   simp only[J6,Array.mem_filter] at he
   exact he.1) hb⟩
theorem qp (hb:la l=true) {L:Array Bool} (hL:L.size=l.length) (h:Region.ready .any l.toArray L=[]):∀ k,k<l.length→L.getD k false=true:=by
 intro k
 induction k using Nat.strongRecOn with
 | _ k ih =>
   intro hk
   simp only[la,Bool.and_eq_true] at hb
   cases hv:L.getD k false with
   | true=>rfl
   | false =>
     have h1:=List.all_eq_true.1 hb.2 k (by simpa using hk)
     have hok:l[k]?=some l[k]:=List.getElem?_eq_getElem hk
     rw[hok] at h1
     have:k∈Region.ready .any l.toArray L:=mem_ready.2 ⟨by rw[dN (by rw[hL];exact hk)];exact hv,l[k],by simpa using hok,fun e he hbe=>by
      have h2:=List.all_eq_true.1 h1 e (by simpa using he)
      simp only[hbe,Bool.not_true,Bool.false_or,decide_eq_true_eq] at h2
      exact ih e.on h2 (by omega)⟩
     rw[h] at this;cases this
theorem sK (hb:la l=true):∀ (f:Nat) (L:Array Bool) (a:Act) (w:World),L.size=l.length →
 wpAnyIn F n P .any (D9 cs l).toArray Q f L a w→wpAnyIn F n P .any l.toArray Q f L a w:=by
 intro f
 induction f with
 | zero =>
   intro L a w hL h
   refine⟨?_,h.2⟩
   rw[List.eq_nil_iff_forall_not_mem]
   intro k hk
   have:=lV (cs:=cs) hk
   rw[h.1] at this;cases this
 | succ f ih =>
   intro L a w hL h
   refine⟨fun h0=>h.1 ?_,fun k hk=>?_⟩
   ·rw[List.eq_nil_iff_forall_not_mem]
    intro k hk
    obtain⟨h1,o,ho,_⟩:=mem_ready.1 hk
    have hkl:k<l.length:=by
     have:=(Array.getElem?_eq_some_iff.1 ho).1
     simpa[V7] using this
    rw[dN (by rw[hL];exact hkl),qp hb hL h0 k hkl] at h1
    cases h1
   ·have h1:=h.2 k (lV hk)
    obtain⟨_,ok,hok,_⟩:=mem_ready.1 hk
    have hok':l[k]?=some ok:=by simpa using hok
    have hg:ok.guard=none:=by
     simp only[la,Bool.and_eq_true] at hb
     simpa[Option.isNone_iff_eq_none] using List.all_eq_true.1 hb.1 ok (List.mem_of_getElem? hok')
    have hw:∀ o y,o.guard=none→Region.wanted o y=true:=fun o y h=>by simp[Region.wanted,h]
    unfold wpOpIn at h1 ⊢
    simp only[List.getElem?_toArray,hok',hw _ _ hg,if_true]
    obtain⟨ks,e1|e1⟩:=gy cs l k ok hok'
    ·simp only[List.getElem?_toArray,e1,hw _ _ hg,if_true] at h1
     exact Oper.wpIn_mono (fun a w hh=>ih _ a w (by simpa using hL) hh) h1
    ·simp only[List.getElem?_toArray,e1,hw (J6 ks ok) _ hg,if_true] at h1
     have h2:ok.wpIn F n P a w (wpAnyIn F n P .any (D9 cs l).toArray Q f (L.setIfInBounds k true)) Q:=h1
     exact Oper.wpIn_mono (fun a w hh=>ih _ a w (by simpa using hL) hh) h2
end
theorem I3 {P:Program} {G:Es} {id nt:Nat} {n:Cx} {l:List Oper} {S:DS} {Q:Exit→DS→Prop} (cs:List (Option (List Nat))) (p:List Nat) (j:Nat) (st:List (List Nat×List Nat)) (ks:List Nat) (hm:P.follows .mixedOrders=true) (hnt:S.nt=nt)
 (hC:la l=true) (hP:kg p (D9 cs l)=true) (hB:jn nt j st (r5 p (D9 cs l) p)=true)
 (h:jE P G ((r5 p (D9 cs l) p).map (·.dst)) ((r5 p (D9 cs l) p).take j) S (fun Sq=>ZK P G (r5 p (D9 cs l) p) (fun S''=>At Q .normal ⟨⟩ (S''.keep ks)) st j Sq) ⟨⟩):DT P G n (.region id l.toArray true) S Q:=
 fun hn _ a M hr=>wpIn_region_any hm (by
  have hp:=cS hP
  have hl:(r5 p (D9 cs l) p).length=l.length:=by rw[Z3 hp.lt,hp.len,V7]
  have h1:=Cs j st ks hnt hB h hn a M hr
  rw[hl] at h1
  have h2:=eH hp l.length (Array.replicate l.length false) (Array.replicate l.length false) _ _ (by simp[V7]) (by simp[V7]) (fun i k hi=>by
   have hi1:i<l.length:=by rw[← V7 cs l,← hp.len];exact g9 hi
   have hk1:=hp.lt k (List.mem_of_getElem? hi)
   rw[V7] at hk1
   simp[hi1,hk1]) h1
  exact sK (cs:=cs) hC l.length (Array.replicate l.length false) _ _ (by simp) h2)
section
variable {P:Program} {G:Es} {S:DS}
def Cd:Op→Option (TypeId×Operand)
 | .slice t x none (some (.const (.int _ a))) (some (.const (.int _ b)))=>if a=0∧b=0 then some (t,x) else none
 | _=>none
def zD (P:Program) (G:Es) (S:DS) (op:Op) (ty:TypeId):Out:=match Cd op with
 | some (t,x)=>match m4 G S x,U4 P t with
   | some (.one (.im (.sl l))),some e=>match aB P e with
     | some _=>if l=[] then .bad else .val (.one (.im .e0)) S.objs
     | none=>.bad
   | _,_=>.bad
 | none=>bk P G S op ty
def Dr (P:Program) (G:Es) (dsts:List (Option Tmp)):List Oper→DS→(K:DS→Prop)→Tok K→Prop
 | [],S,K,_=>K S
 | o :: l,S,K,tk=>lf (C0 dsts S o)
  (lh P G S.objs (zD P G (S.keep (O0 o.op)) o.op o.type) (fun d=>Dr P G dsts l (S.put o.dst d) K tk) ⟨⟩)
  (Dr P G dsts l (S.put o.dst (.tup [])) K tk) ⟨⟩
end
section
variable {P:Program} {G:Es} {ops:Array Oper}
end
attribute [simp] Dr zD Cd
end Go.Ab
