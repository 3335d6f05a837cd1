/- Part 8 of the proofs. -/
import Derived.Test.YtpcoahkgkgmmlaaGreatDoorS07
set_option linter.all false
set_option linter.deprecated false
set_option maxHeartbeats 100000000
namespace Go.Ab
open Go
section
variable {P:Program} {G:Es} {nt:Nat} {objs:List DObj} {ops:Array Oper}
def R1 (P:Program):List Oper→List (Nat×List Value)
 | []=>[]
 | o :: l=>match eS o.op,o.dst with
   | some t,some u=>match F6 P t with
     | some z=>(u,z) :: R1 P l
     | none=>R1 P l
   | _,_=>R1 P l
theorem ce {M0 M:MS} {a:Act} {β':Nat→Nat}:∀ (is:List Nat) (l:List Oper),Al ops is l→is.Nodup →
 (∀ i∈is,∀ o t u,ops[i]?=some o→o.op=.alloc t→o.dst=some u→∃ z,F6 P t=some z∧Hid M0 a M (u,z) (β' i)) →
 (∀ i∈is,∀ k∈is,∀ o o' t t',ops[i]?=some o→ops[k]?=some o'→o.op=.alloc t→o'.op=.alloc t'→o.dst.isSome=true→o'.dst.isSome=true→β' i=β' k→i=k) →
 ∃ bs:List Nat,(R1 P l).length=bs.length∧(∀ (m:Nat) (x:Nat×List Value) (b:Nat),(R1 P l)[m]?=some x→bs[m]?=some b→Hid M0 a M x b)∧bs.Nodup ∧
  ∀ b∈bs,∃ i∈is,∃ o t,ops[i]?=some o∧o.op=.alloc t∧o.dst.isSome=true∧b=β' i
 | [],[],_,_,_,_=>⟨[],rfl,(fun m x b h=>by simp[R1] at h),List.nodup_nil,(fun b h=>by cases h)⟩
 | i :: is,o :: l,ha,hnd,h1,h2=>by
   obtain⟨ho,ha⟩:=ha
   rw[List.nodup_cons] at hnd
   obtain⟨bs,e1,e2,e3,e4⟩:=ce is l ha hnd.2 (fun k hk=>h1 k (by simp[hk])) (fun k hk m hm=>h2 k (by simp[hk]) m (by simp[hm]))
   have wide:∃ bs:List Nat,(R1 P l).length=bs.length∧(∀ (m:Nat) (x:Nat×List Value) (b:Nat),(R1 P l)[m]?=some x→bs[m]?=some b→Hid M0 a M x b)∧bs.Nodup ∧
    ∀ b∈bs,∃ k∈i :: is,∃ o t,ops[k]?=some o∧o.op=.alloc t∧o.dst.isSome=true∧b=β' k:=
    ⟨bs,e1,e2,e3,fun b hb=>let ⟨k,hk,r⟩:=e4 b hb;⟨k,by simp[hk],r⟩⟩
   simp only[R1]
   split
   ·rename_i t u hal hdst
    have hop:=ig hal
    obtain⟨z,hz,hh⟩:=h1 i (by simp) o t u ho hop hdst
    rw[hz]
    refine⟨β' i :: bs,by simp[e1],fun m x b hx hb=>?_,?_,fun b hb=>?_⟩
    ·cases m with
     | zero=>simp at hx hb;subst hx;subst hb;exact hh
     | succ m=>exact e2 m x b (by simpa using hx) (by simpa using hb)
    ·rw[List.nodup_cons]
     refine⟨fun hmem=>?_,e3⟩
     obtain⟨k,hk,o',t',ho',hop',hs',he⟩:=e4 _ hmem
     have:=h2 i (by simp) k (by simp[hk]) o o' t t' ho ho' hop hop' (by simp[hdst]) hs' he
     exact hnd.1 (this ▸ hk)
    ·rcases List.mem_cons.1 hb with rfl|hb
     ·exact⟨i,by simp,o,t,ho,hop,by simp[hdst],rfl⟩
     ·obtain⟨k,hk,r⟩:=e4 b hb
      exact⟨k,by simp[hk],r⟩
   ·exact wide
 | [],_ :: _,h,_,_,_=>h.elim
 | _ :: _,[],h,_,_,_=>h.elim
def pick (l:List Oper):List Nat→List Oper
 | []=>[]
 | i :: r=>match l[i]? with
   | some o=>o :: pick l r
   | none=>pick l r
theorem ef {l:List Oper}:∀ {is:List Nat},(∀ i∈is,i<l.length)→Al l.toArray is (pick l is)
 | [],_=>trivial
 | i :: r,h=>by
   have hi:l[i]?=some (l[i]'(h i (by simp))):=List.getElem?_eq_getElem _
   simp only[pick,hi]
   exact⟨by simp[hi],ef fun k hk=>h k (by simp[hk])⟩
theorem J2 {l:List Oper}:∀ {is:List Nat} {o:Oper},o∈pick l is→∃ i∈is,l[i]?=some o
 | [],o,h=>by cases h
 | i :: r,o,h=>by
   simp only[pick] at h
   split at h
   ·rename_i o' ho'
    rcases List.mem_cons.1 h with rfl|h
    ·exact⟨i,by simp,ho'⟩
    ·obtain⟨k,hk,e⟩:=J2 h;exact⟨k,by simp[hk],e⟩
   ·obtain⟨k,hk,e⟩:=J2 h;exact⟨k,by simp[hk],e⟩
theorem J1 {l:List Oper} {is:List Nat} {i:Nat} {o:Oper} (hi:i∈is) (ho:l[i]?=some o):o∈pick l is:=by
 induction is with
 | nil=>cases hi
 | cons k r ih =>
   simp only[pick]
   rcases List.mem_cons.1 hi with rfl|hi
   ·rw[ho];simp
   ·split
    ·exact List.mem_cons_of_mem _ (ih hi)
    ·exact ih hi
def H7:List (Option Tmp)→Bool
 | []=>true
 | x :: r=>(x.isNone || !r.contains x)&&H7 r
theorem C5:∀ {l:List (Option Tmp)},H7 l=true→l.Pairwise (fun x y=>x.isSome=true→x≠y)
 | [],_=>List.Pairwise.nil
 | x :: r,h=>by
   simp only[H7,Bool.and_eq_true,Bool.or_eq_true] at h
   refine List.pairwise_cons.2 ⟨fun y hy hs e=>?_,C5 h.2⟩
   rcases h.1 with h1|h1
   ·simp[Option.isNone_iff_eq_none] at h1;rw[h1] at hs;cases hs
   ·simp at h1;exact h1 (e ▸ hy)
def gk:List Oper→List Nat
 | []=>[]
 | o :: l=>match o.dst with
   | some u=>u :: gk l
   | none=>gk l
theorem cT {u:Nat} {l:List Oper} {o:Oper} (h:o∈l) (hu:o.dst=some u):u∈gk l:=by
 induction l with
 | nil=>cases h
 | cons x l ih =>
   simp only[gk]
   rcases List.mem_cons.1 h with rfl|h
   ·rw[hu];simp
   ·split
    ·exact List.mem_cons_of_mem _ (ih h)
    ·exact ih h
def fr (n j:Nat):Array Bool:=((List.range n).map fun i=>decide (i≤j)).toArray
def fD (nt j:Nat) (fl kt:List Nat) (l:List Oper):Bool:=
 decide (j<l.length)&&(fl.all fun i=>decide (i<j))&&fl.Nodup &&
 (l.all fun o=>match o.dst with|some t=>decide (t<nt)|none=>true)&&H7 (l.map (·.dst))&&H7 ((pick l fl).map (·.dst)) &&
 ((List.range l.length).all fun k=>match l[k]? with|some o=>o.after.toList.all fun e=>!Region.binds .any e||decide (e.on<k)|none=>true) &&
 ((List.range j).all fun i=>(List.range j).all fun k=>match l[i]?,l[k]? with
   | some o,some o'=>match o'.dst with|some u=>!(o.looksAt l.toArray).contains u||o.after.toList.any fun e=>decide (e.on=k)&&Region.binds .any e|none=>true
   | _,_=>true) &&
 O5 l.toArray (l.take j)&&O5 l.toArray (pick l fl) &&
 ((List.range j).all fun i=>fl.contains i||((N8 l []).getD j 0).testBit i) &&
 ((List.range l.length).all fun k=>decide (k≤j)||(List.range (j+1)).all fun i=>((N8 l []).getD k 0).testBit i) &&
 ((pick l fl).all fun o=>match o.dst with|some u=>!kt.contains u|none=>true)&&((pick l fl).all fun o=>(eS o.op).isNone) &&
 (match l[j]? with|some o=>o.guard.isNone|none=>false) &&
 oJ l.toArray (l.length-(j+1)) (j+1) (fr l.length j)&&decide ((fr l.length j).toList.count false=l.length-(j+1))
theorem jh {l:Array Bool} {n j:Nat} (hs:l.size=n) (h:∀ i,i<n→(l.getD i false=true↔i≤j)):l=fr n j:=by
 refine Array.ext (by simp[fr,hs]) fun i h1 h2=>?_
 have h3:=h i (by omega)
 have h4:l.getD i false=l[i]:=by simp[h1]
 rw[h4] at h3
 have h5:(fr n j)[i]=decide (i≤j):=by simp[fr]
 rw[h5]
 by_cases e:i≤j
 ·rw[h3.2 e,decide_eq_true e]
 ·rw[decide_eq_false e]
  cases hl:l[i]
  ·rfl
  ·exact absurd (h3.1 hl) e
theorem m7 {n i:Nat}:(Array.replicate n false).getD i false=false:=by
 rw[Array.getD_eq_getD_getElem?,Array.getElem?_replicate]
 split<;>rfl
theorem Do {nt:Nat} {n:Cx} {l:List Oper} {S:DS} {Q:Exit→DS→Prop} (j:Nat) (fl kt ks:List Nat) (hnt:S.nt=nt) (hB:fD nt j fl kt l=true)
 (h:jE P G (l.map (·.dst)) (l.take j) S (fun Sq=>mL P G (l.map (·.dst)) (pick l [j]) (cj (Sq.keep kt) (R1 P (l.take j))) (fun S'=>jE P G (l.map (·.dst)) (pick l fl) S' (fun Sf =>
  W3 (gk (pick l fl)) Sf.tmps Sq.tmps∧mL P G (l.map (·.dst)) (l.drop (j+1)) Sf (fun S''=>At Q .normal ⟨⟩ (S''.keep ks)) ⟨⟩) ⟨⟩) ⟨⟩) ⟨⟩):n.n≤S.objs.length→∀ (a:Act) (M:MS),Rel G S a M →
 wpAnyIn (q9 (n.rd.map M.β)) 0 P .any l.toArray (fun e a' w'=>∃ S' M',M'.w=w'∧Rel G S' a' M'∧Ext n.n M M'∧NewD M a a'∧Q e S') l.length (Array.replicate l.length false) a { M.w with drawn:=M.w.drawn+1 }:=by
 intro hn a M hr
 simp only[fD,Bool.and_eq_true,decide_eq_true_eq] at hB
 obtain⟨⟨⟨⟨⟨⟨⟨⟨⟨⟨⟨⟨⟨⟨⟨⟨b1,b2⟩,b3⟩,b4⟩,b5⟩,b5'⟩,b6⟩,b7⟩,b8⟩,b9⟩,b10⟩,b11⟩,b12⟩,b13⟩,b14⟩,b15⟩,b16⟩:=hB
 subst hnt
 have hdst:∀ o∈l,∀ u,o.dst=some u→u<S.nt:=fun o ho u hu=>by
  have:=List.all_eq_true.1 b4 o ho
  simpa[hu] using this
 have hpw:=C5 b5
 have hd:T1 S.nt l.toArray:=by
  refine⟨fun i o ho u hu=>hdst o (by simpa using Array.mem_of_getElem? ho) u hu,fun i k o o' u ho ho' hu hu'=>?_⟩
  have hi:l[i]?=some o:=by simpa using ho
  have hk:l[k]?=some o':=by simpa using ho'
  obtain⟨hil,hi'⟩:=List.getElem?_eq_some_iff.1 hi
  obtain⟨hkl,hk'⟩:=List.getElem?_eq_some_iff.1 hk
  rw[List.pairwise_iff_getElem] at hpw
  rcases Nat.lt_trichotomy i k with hlt|he|hlt
  ·exact absurd (show (l.map (·.dst))[i]'(by simpa using hil)=(l.map (·.dst))[k]'(by simpa using hkl) by simp[hi',hk',hu,hu']) (hpw i k (by simpa using hil) (by simpa using hkl) hlt (by simp[hi',hu]))
  ·exact he
  ·exact absurd (show (l.map (·.dst))[k]'(by simpa using hkl)=(l.map (·.dst))[i]'(by simpa using hil) by simp[hi',hk',hu,hu']) (hpw k i (by simpa using hkl) (by simpa using hil) hlt (by simp[hk',hu']))
 have hback:∀ (k:Nat) (o:Oper),l.toArray[k]?=some o→∀ e∈o.after,Region.binds .any e=true→e.on<k:=fun k o ho e he hb=>by
  have hk:l[k]?=some o:=by simpa using ho
  have:=List.all_eq_true.1 b6 k (by simpa using(List.getElem?_eq_some_iff.1 hk).1)
  rw[hk] at this
  have:=List.all_eq_true.1 this e (by simpa using he)
  simpa[hb] using this
 have hdep:∀ i,i<j→∀ o,l.toArray[i]?=some o→∀ k,k<j→∀ o',l.toArray[k]?=some o'→∀ u,o'.dst=some u→u∈o.looksAt l.toArray→∃ e∈o.after,e.on=k∧Region.binds .any e=true:=fun i hi o ho k hk o' ho' u hu hl=>by
  have h1:=List.all_eq_true.1 (List.all_eq_true.1 b7 i (by simpa using hi)) k (by simpa using hk)
  rw[show l[i]?=some o by simpa using ho,show l[k]?=some o' by simpa using ho'] at h1
  simp only[hu,Bool.or_eq_true,Bool.not_eq_true',List.any_eq_true,Bool.and_eq_true,decide_eq_true_eq] at h1
  rcases h1 with h1|⟨e,he,h2,h3⟩
  ·have:(o.looksAt l.toArray).contains u=true:=by simpa using hl
   rw[h1] at this;cases this
  ·exact⟨e,by simpa using he,h2,h3⟩
 have hmask:bg l.toArray (N8 l []):=T2 l [] (fun j _=>by simp) (fun j i oj _ h=>by simp at h)
 have hflj:∀ i∈fl,i<j:=fun i hi=>by simpa using List.all_eq_true.1 b2 i hi
 obtain⟨oj,hoj⟩:∃ o,l[j]?=some o:=⟨l[j],List.getElem?_eq_getElem b1⟩
 have hoj':l.toArray[j]?=some oj:=by simpa using hoj
 rw[hoj] at b14
 have hgj:oj.guard=none:=by simpa[Option.isNone_iff_eq_none] using b14
 have hnoal:∀ i∈fl,∀ o,l.toArray[i]?=some o→∀ t,o.op≠.alloc t:=fun i hi o ho t=>by
  have:=List.all_eq_true.1 b13 o (J1 hi (by simpa using ho))
  exact S8 (by simpa[Option.isNone_iff_eq_none] using this) t
 have hlater:∀ k listed,Closed l.toArray listed→k∈Region.ready .any l.toArray listed→j<k→∀ i,i≤j→listed.getD i false=true:=fun k listed hcl hk hjk i hi=>by
  obtain⟨_,ok,hok,hall⟩:=mem_ready.1 hk
  have h1:=List.all_eq_true.1 b11 k (by simpa using(Array.getElem?_eq_some_iff.1 hok).1)
  simp only[Bool.or_eq_true,decide_eq_true_eq] at h1
  rcases h1 with h1|h1
  ·omega
  ·exact hmask k i ok hok (List.all_eq_true.1 h1 i (by simp;omega)) listed hcl hall
 have hpre:∀ listed,Closed l.toArray listed→j∈Region.ready .any l.toArray listed→∀ i,i<j→i∉fl→listed.getD i false=true:=fun listed hcl hk i hi hif=>by
  obtain⟨_,ok,hok,hall⟩:=mem_ready.1 hk
  have h1:=List.all_eq_true.1 b10 i (by simpa using hi)
  simp only[Bool.or_eq_true,List.contains_iff_mem] at h1
  rcases h1 with h1|h1
  ·exact absurd h1 hif
  ·exact hmask j i ok hok h1 listed hcl hall
 obtain⟨hm1,he1⟩:=RelM.same (w':={ M.w with drawn:=M.w.drawn+1 }) hr.m rfl ⟨rfl,rfl,rfl,by first|exact Nat.le_refl _|exact Nat.le_succ _⟩
 have htake:∀ o∈l.take j,o∈l:=fun o ho=>List.mem_of_mem_take ho
 have hAl:∀ (k:Nat),k≤l.length→Al l.toArray (List.range k) (l.take k):=by
  have gen:∀ (m k:Nat),k+m≤l.length→Al l.toArray (List.range' k m) ((l.drop k).take m):=by
   intro m
   induction m with
   | zero=>intro k _;simp[Al,List.range']
   | succ m ih =>
     intro k hk
     have hk':k<l.length:=by omega
     rw[List.range'_succ,List.drop_eq_getElem_cons hk',List.take_succ_cons]
     exact⟨by simp,ih (k+1) (by omega)⟩
  intro k hk
  have:=gen k 0 (by omega)
  rwa [List.drop_zero,← List.range_eq_range'] at this
 obtain⟨Sq,hkq,q1,q2,q3,q4⟩:=I1 (P:=P) (G:=G) (ops:=l.toArray) (nt:=S.nt) (objs:=S.objs) (List.range j) (l.take j) S (hAl j (by omega)) rfl rfl (fun o ho=>hdst o (htake o ho))
  (by rw[List.map_take];exact hpw.take) b8 (by simpa using h)
 let Md:MS:={ M with w:={ M.w with drawn:=M.w.drawn+1 } }
 have hMd:RelF G S.nt S.objs (n8 S.tmps) a Md:=⟨hm1,hr.ob,hr.nt,hr.df,fun t d ht=>by
  obtain⟨v,h1,h2⟩:=hr.tm t d ht
  exact⟨v,h1,h2.ext he1⟩⟩
 have hobs:M.objs.length=S.objs.length:=by rw[hr.ob]
 refine I4 (P:=P) (G:=G) (nt:=S.nt) (objs:=S.objs) (ops:=l.toArray) (ks:=List.range j) (τ:=n8 Sq.tmps) (M0:=Md) (base:=Array.replicate l.length false) (dfs:=a.defers) (ro:=n.rd.map M.β)
  (Q':=fun e a' w'=>∃ S' M',M'.w=w'∧Rel G S' a' M'∧Ext n.n M M'∧NewD M a a'∧Q e S') hd q3 (fun i hi o ho k hk=>hdep i (by simpa using hi) o ho k (by simpa using hk)) hback ?_ ?_ l.length _ a Md ?_
 ·
  intro f listed a2 M2 hi i hrdy hik
  have hji:j≤i:=by simpa using hik
  have hjun:listed.getD j false≠true:=fun e=>by
   rcases hi.only j e with h|h
   ·rw[m7] at h;cases h
   ·simp at h
  have hij:i=j:=by
   rcases Nat.eq_or_lt_of_le hji with h|h
   ·exact h.symm
   ·exact absurd (hlater i listed hi.cl hrdy h j (Nat.le_refl _)) hjun
  subst hij
  have hpl:=hpre listed hi.cl hrdy
  obtain⟨β',p1,p2⟩:=hi.pd
  have half:∀ k∈List.range i,∀ o t,l.toArray[k]?=some o→o.op=.alloc t→listed.getD k false=true:=fun k hk o t ho hop =>
   hpl k (by simpa using hk) fun hf=>hnoal k hf o ho t hop
  obtain⟨bs,c1,c2,c3,_⟩:=ce (P:=P) (ops:=l.toArray) (M0:=Md) (M:=M2) (a:=a2) (β':=β') (List.range i) (l.take i) (hAl i (by omega)) List.nodup_range
   (fun k hk o t u ho hop hu=>p1 k o t u hk ho hop hu (half k hk o t ho hop))
   (fun k hk m hm' o o' t t' ho ho' hop hop' hs hs' e=>p2 k m o o' t t' hk hm' ho hop (half k hk o t ho hop) ho' hop' (half m hm' o' t' ho' hop') hs hs' e)
  have hrk:Rel G (Sq.keep kt) a2 M2:=by
   refine⟨hi.rel.m,hi.rel.ob.trans q2.symm,hi.rel.nt.trans q1.symm,hi.rel.df,fun t d ht=>hi.rel.tm t d ?_⟩
   have h1:=aF ht
   have h2:=X7 ht
   unfold E3
   rw[if_pos]
   ·exact h2
   ·intro k hk o ho hu
    by_cases hf:k∈fl
    ·have:=List.all_eq_true.1 b12 o (J1 hf (by simpa using ho))
     rw[hu] at this
     simp at this
     exact absurd h1 this
    ·exact hpl k (by simpa using hk) hf
  obtain⟨MT,t1,t2,t3,t4,t5⟩:=Y9 (M0:=Md) (n:=S.objs.length) hm1 (R1 P (l.take i)) bs (Sq.keep kt) M2 hrk hi.ext (by rw[hi.rel.ob];exact Nat.le_refl _) c1 c2 c3
  have hpk:pick l [i]=[oj]:=by simp[pick,hoj]
  rw[hpk] at hkq
  obtain⟨b,hw,ht,hf⟩:=I0 _ _ _ hkq
  have hbt:b=true:=by
   unfold C0 at hw
   rw[hgj] at hw
   exact(Option.some.inj hw).symm
  subst hbt
  have hwant:Region.wanted oj (yielded l.toArray a2.tmps)=true:=by simp[Region.wanted,hgj]
  unfold wpOpIn
  simp only[hoj',hwant,if_true]
  rw[← t4]
  refine P0 (cA (ht rfl (n.rd.map M.β) a2 MT t1)) ?_
  rintro a3 w3 ⟨⟨S3,M3,rfl,r3,e3,d3,k3⟩,v,hput⟩
  have hsz3:S3.nt=S.nt:=by
   rw[← r3.nt,hput,← hi.rel.nt]
   cases oj.dst<;>simp[Act.put]
  have hpm:∀ o∈pick l fl,o∈l:=fun o ho=>let ⟨k,_,hk⟩:=J2 ho;List.mem_of_getElem? hk
  obtain⟨Sf,⟨hsame,hkf⟩,f1,f2,f3,f4⟩:=I1 (P:=P) (G:=G) (ops:=l.toArray) (nt:=S.nt) (objs:=S3.objs) fl (pick l fl) S3 (ef fun k hk=>by have:=hflj k hk;omega) hsz3 rfl (fun o ho=>hdst o (hpm o ho)) (C5 b5') b9
   (by simpa using(show jE P G (l.map (·.dst)) (pick l fl) S3 _ ⟨⟩ from k3))
  have hlt3:(listed.setIfInBounds i true).size=l.length:=by simpa using hi.sz
  have hlisj:(listed.setIfInBounds i true).getD i false=true:=by
   have:i<listed.size:=by rw[hi.sz];simpa using b1
   simp[this]
  have fin:∀ f' listed' a4 M4,Inv P G S.nt S3.objs l.toArray fl (n8 Sf.tmps) M3 (listed.setIfInBounds i true) a.defers f' listed' a4 M4→(∀ k∈fl,listed'.getD k false=true) →
   wpAnyIn (q9 (n.rd.map M.β)) 0 P .any l.toArray (fun e a' w'=>∃ S' M',M'.w=w'∧Rel G S' a' M'∧Ext n.n M M'∧NewD M a a'∧Q e S') f' listed' a4 M4.w:=by
   intro f' listed' a4 M4 hi4 hfl4
   have hL:listed'=fr l.length i:=by
    refine jh (by simpa using hi4.sz) fun k hk=>⟨fun hkl=>?_,fun hkl=>?_⟩
    ·rcases hi4.only k hkl with h1|h1
     ·rcases m9 h1 with rfl|h1
      ·exact Nat.le_refl _
      ·rcases hi.only k h1 with h2|h2
       ·rw[m7] at h2;cases h2
       ·have:k<i:=by simpa using h2
        omega
     ·have:=hflj k h1;omega
    ·by_cases hkf:k∈fl
     ·exact hfl4 k hkf
     ·refine hi4.has k ?_
      rcases Nat.eq_or_lt_of_le hkl with rfl|hlt
      ·exact hlisj
      ·exact getD_set_true (hpl k hlt hkf)
   have hf':f'=(l.drop (i+1)).length:=by rw[← hi4.cn,hL,b16];simp
   have hrel:Rel G Sf a4 M4:=⟨hi4.rel.m,by rw[hi4.rel.ob,f2],by rw[hi4.rel.nt,f1],hi4.rel.df,fun t d ht=>hi4.rel.tm t d (by
    unfold E3
    rw[if_pos]
    ·exact ht
    ·exact fun k hk _ _ _=>hfl4 k hk)⟩
   have hS3:S.objs.length≤S3.objs.length:=by rw[← r3.ob];exact Nat.le_trans t3 e3.len
   have hn4:n.n≤M4.objs.length:=by rw[hi4.rel.ob];have:=hS3;omega
   have eM4:Ext n.n M M4:=((he1.weaken (by rw[hobs];exact hn)).trans (t2.weaken hn)).trans ((e3.weaken (Nat.le_trans hn t3)).trans (hi4.ext.weaken (Nat.le_trans hn hS3)))
   rw[hf',hL]
   refine K1 (P:=P) (G:=G) (ops:=l.toArray) (ro:=n.rd.map M.β) n.n (fun S''=>At Q .normal ⟨⟩ (S''.keep ks)) (l.drop (i+1)) (i+1) _ Sf a4 M4 (fun k hk=>by simp) (by rw[List.length_drop];exact b15) hrel hn4 (by simpa using I0 _ _ _ hkf) ?_
   intro S5 a5 M5 hr5 he5 hd5 hq5
   obtain⟨M6,w6,r6,e6⟩:=Weak.keep (G:=G) (n:=n) (S:=S5) (ks:=ks) (by rw[← hr5.ob];exact he5.len) a5 M5 hr5
   exact⟨_,M6,w6,r6,eM4.trans (he5.trans e6),.same (hd5.trans hi4.df),hq5⟩
  refine I4 (P:=P) (G:=G) (nt:=S.nt) (objs:=S3.objs) (ops:=l.toArray) (ks:=fl) (τ:=n8 Sf.tmps) (M0:=M3) (base:=listed.setIfInBounds i true) (dfs:=a.defers) (ro:=n.rd.map M.β) hd f3
   (fun k hk o ho m hm'=>hdep k (hflj k hk) o ho m (hflj m hm')) hback ?_ ?_ f _ a3 M3 ?_
  ·intro f' listed' a4 M4 hi4 k hk4 hkf
   have hkj:i<k:=by
    rcases Nat.lt_or_ge i k with h|h
    ·exact h
    ·exfalso
     have h0:=(mem_ready.1 hk4).1
     have h1:listed'.getD k false=true:=by
      refine hi4.has k ?_
      rcases Nat.eq_or_lt_of_le h with rfl|hlt
      ·exact hlisj
      ·exact getD_set_true (hpl k hlt hkf)
     rcases Nat.lt_or_ge k listed'.size with h'|h'
     ·simp[h'] at h0 h1;rw[h0] at h1;cases h1
     ·simp[Array.getElem?_eq_none h'] at h1
   exact(fin _ listed' a4 M4 hi4 fun m hm'=>hlater k listed' hi4.cl hk4 hkj m (Nat.le_of_lt (hflj m hm'))).2 k hk4
  ·intro listed' a4 M4 hi4
   refine(fin 0 listed' a4 M4 hi4 fun m hm'=>?_).2
   have hnot:=List.count_eq_zero.1 hi4.cn
   have hml:m<listed'.size:=by rw[hi4.sz];have:=hflj m hm';simp;omega
   cases hv:listed'[m] with
   | true=>simp[hml,hv]
   | false=>exact absurd (by rw[← hv];exact Array.getElem_mem_toList hml) hnot
  ·refine⟨by simpa using hi.sz,O9 (mem_ready.1 hrdy).1 hi.cn,hi.cl.step hrdy,⟨r3.m,r3.ob,by rw[r3.nt,hsz3],r3.df,fun t d ht=>?_⟩,by rw[← r3.ob];exact Ext.refl M3,d3.trans hi.df,⟨fun _=>0,fun k o t u hk ho hop=>absurd hop (hnoal k hk o ho t),fun k m o o' t t' hk _ ho hop=>absurd hop (hnoal k hk o ho t)⟩,fun _ h=>.inl h,fun _ h=>h⟩
   unfold E3 at ht
   split at ht
   ·rename_i hvis
    by_cases hfd:∃ k∈fl,∃ o,l.toArray[k]?=some o∧o.dst=some t
    ·obtain⟨k,hk,o,ho,hu⟩:=hfd
     have hkl:listed.getD k false=true:=(m9 (hvis k hk o ho hu)).resolve_left (by have:=hflj k hk;omega)
     have h1:n8 Sf.tmps t=n8 Sq.tmps t:=R9 hsame (cT (J1 hk (by simpa using ho)) hu)
     obtain⟨x,x1,x2⟩:=hi.rel.tm t d (by
      unfold E3
      rw[if_pos]
      ·rw[← h1];exact ht
      ·intro m hm' o' ho' hu'
       have:=hd.2 k m o o' t ho ho' hu hu'
       subst this
       exact hkl)
     refine⟨x,?_,(t5 d x x2).ext e3⟩
     rw[hput]
     cases hdj:oj.dst with
     | none=>exact x1
     | some y =>
       have hne:y≠t:=fun e=>by
        have:=hd.2 i k oj o t hoj' ho (by rw[hdj,e]) hu
        have:=hflj k hk
        omega
       simp only[Act.put]
       rw[Array.getElem?_setIfInBounds_ne hne];exact x1
    ·have h1:n8 Sf.tmps t=n8 S3.tmps t:=f4 t fun o ho hu=>by
      obtain⟨k,hk,hk'⟩:=J2 ho
      exact hfd ⟨k,hk,o,by simpa using hk',hu⟩
     exact r3.tm t d (by rw[← h1];exact ht)
   ·cases ht
 ·intro listed a2 M2 hi
  exfalso
  have hnot:=List.count_eq_zero.1 hi.cn
  have hjl:j<listed.size:=by rw[hi.sz];simpa using b1
  have hjt:listed.getD j false=true:=by
   cases hv:listed[j] with
   | true=>simp[hjl,hv]
   | false=>exact absurd (by rw[← hv];exact Array.getElem_mem_toList hjl) hnot
  rcases hi.only j hjt with h|h
  ·rw[m7] at h;cases h
  ·simp at h
 ·refine⟨by simp,by simp,fun k o _ hk=>?_,⟨hMd.m,hMd.ob,hMd.nt,hMd.df,fun t d ht=>?_⟩,by rw[← hr.ob];exact Ext.refl Md,rfl,⟨fun _=>0,fun k o t u _ _ _ _ hk=>?_,fun k m o o' t t' _ _ _ _ hk=>?_⟩,fun k hk=>?_,fun _ h=>h⟩
  ·rw[m7] at hk;cases hk
  ·unfold E3 at ht
   split at ht
   ·rename_i hvis
    refine hMd.tm t d ?_
    rw[← q4 t fun o ho hu=>?_]
    ·exact ht
    ·obtain⟨k,hk⟩:=List.mem_iff_getElem?.1 ho
     have hkj:k<j:=by
      have:=(List.getElem?_eq_some_iff.1 hk).1
      simp at this;omega
     rw[List.getElem?_take_of_lt hkj] at hk
     have:=hvis k (by simpa using hkj) o (by simpa using hk) hu
     rw[m7] at this;cases this
   ·cases ht
  ·rw[m7] at hk;cases hk
  ·rw[m7] at hk;cases hk
  ·rw[m7] at hk;cases hk
theorem p9 {id nt:Nat} {n:Cx} {l:List Oper} {S:DS} {Q:Exit→DS→Prop} (j:Nat) (fl kt ks:List Nat) (hm:P.follows .mixedOrders=true) (hnt:S.nt=nt) (hB:fD nt j fl kt l=true)
 (h:jE P G (l.map (·.dst)) (l.take j) S (fun Sq=>mL P G (l.map (·.dst)) (pick l [j]) (cj (Sq.keep kt) (R1 P (l.take j))) (fun S'=>jE P G (l.map (·.dst)) (pick l fl) S' (fun Sf =>
  W3 (gk (pick l fl)) Sf.tmps Sq.tmps∧mL P G (l.map (·.dst)) (l.drop (j+1)) Sf (fun S''=>At Q .normal ⟨⟩ (S''.keep ks)) ⟨⟩) ⟨⟩) ⟨⟩) ⟨⟩):DT P G n (.region id l.toArray true) S Q:=
 fun hn _ a M hr=>wpIn_region_any hm (Do j fl kt ks hnt hB h hn a M hr)
end
section
variable {P:Program} {G:Es} {S:DS}
theorem rD {o:Oper} {t:TypeId} {ps:Array (Nat×Operand)} {z:List Value} {pl:List (Nat×Nat)} {qs:List (Nat×List DC)} {r:List DC} (ho:o.op=.build t ps) (hz:F6 P t=some z) (hp:z.all A9=true)
 (hpl:u5 P t=some pl) (hq:L7 G S ps.toList=some qs) (hr:am (pl[·]?) (zcells z S.objs.length).1 qs=some r):OpV P G o S (.agg r) (S.objs++(zcells z S.objs.length).2):=by
 intro a M hrel
 obtain⟨M',k1,k2,k3,k4,k5,k6⟩:=X4 z M hrel.m hp
 obtain⟨v,hrun,hv⟩:=T7 (w:=M.w) hz
 obtain⟨h1,h2⟩:=N7 hrel _ _ hq
 subst hv
 rw[hrel.ob] at k3 k5 k6
 obtain⟨ra,e1,e2,e3⟩:=V5 (M:=M') (place:=(pl[·]?)) qs _ (zcells v.cells.toList S.objs.length).1 v.cells r (by simpa using k5) (fun j d x hd hx=>k6 j d x hd (by simpa using hx)) h1
  (fun j p q hp' hq'=>by
   obtain⟨a1,a2,a3⟩:=h2 j p q hp' hq'
   exact⟨a1,a2,fun k d x hd hx=>(a3 k d x hd hx).ext k4⟩) hr
 refine⟨.agg ra,M',.inl ?_,k2,k3,k4,.agg _ _ e2 e3⟩
 rw[k1]
 unfold u5 at hpl
 split at hpl
 ·rename_i fs hu
  have hpl':=dF (P:=P) (w:=M.w) fs.toList pl hpl
  simp only[execOp,ho,Instr.build,Sem.run_bind,hrun,Result.andThen_ok,j4 hu,Array.mapM_eq_mapM_toList,Sem.run_map,hpl']
  have e1':Instr.fill (fun x=>pl.toArray[x]?) v.cells (Array.map (fun x=>(x.1,a.eval x.2)) ps).toList=some ra:=by simpa using e1
  simp only[e1']
  rfl
 ·rename_i n e hu
  obtain⟨sz,hs,rfl⟩:=Option.map_eq_some_iff.1 hpl
  have e1':Instr.fill (fun i=>some (i*sz,sz)) v.cells (Array.map (fun x=>(x.1,a.eval x.2)) ps).toList=some ra:=by
   have:=dS (p':=fun i=>some (i*sz,sz)) (fun i x h=>cR h) _ _ _ e1
   simpa using this
  simp only[execOp,ho,Instr.build,Sem.run_bind,hrun,Result.andThen_ok,j4 hu,r7 hs,e1']
  rfl
 ·cases hpl
def nD (P:Program) (G:Es) (S:DS) (t:TypeId) (ps:Array (Nat×Operand)):Out:=match F6 P t,u5 P t,L7 G S ps.toList with
 | some z,some pl,some qs=>if z.all A9=true then (match am (pl[·]?) (zcells z S.objs.length).1 qs with
   | some r=>.val (.agg r) (S.objs++(zcells z S.objs.length).2)
   | none=>.bad) else .bad
 | _,_,_=>.bad
def nj:Op→Option (TypeId×Array (Nat×Operand))
 | .build t ps=>some (t,ps)
 | _=>none
theorem mj {op:Op} {p:TypeId×Array (Nat×Operand)} (h:nj op=some p):op=.build p.1 p.2:=by
 cases op<;>simp[nj] at h
 subst h;rfl
def pZ (P:Program) (G:Es) (S:DS) (op:Op) (ty:TypeId):Option (TypeId×Array (Nat×Operand))→Out
 | some p=>nD P G S p.1 p.2
 | none=>U5 P G S op ty
def xg (P:Program) (G:Es) (dsts:List (Option Tmp)):List Oper→DS→(K:DS→Prop)→Tok K→Prop
 | [],S,K,_=>K S
 | o :: l,S,K,tk=>lf (C0 dsts S o)
  (Next P G S.objs (pZ P G S o.op o.type (nj o.op)) (fun d objs'=>xg P G dsts l (DS.put { S with objs:=objs' } o.dst d) K tk) ⟨⟩)
  (xg P G dsts l (S.put o.dst (.tup [])) K tk) ⟨⟩
theorem Z6 {dsts:List (Option Tmp)}:∀ (l:List Oper) (S:DS) (K:DS→Prop),xg P G dsts l S K ⟨⟩→RT P G dsts l S K
 | [],S,K,h=>h
 | o :: l,S,K,h=>by
   rw[xg] at h
   generalize hb:C0 dsts S o=r at h
   cases r with
   | none=>exact h.elim
   | some b =>
     refine⟨b,hb,fun e=>?_,fun e=>Z6 l _ K (h.2 e)⟩
     have h1:=h.1 e
     generalize hi:nj o.op=q at h1
     cases q with
     | none=>exact fh (fun d objs' hk=>Z6 l _ K hk) h1
     | some p =>
       simp only[pZ,nD] at h1
       split at h1
       ·rename_i z pl qs hz hpl hqs
        split at h1
        ·rename_i hp
         split at h1
         ·rename_i r hr
          exact OpT.of_val (rD (mj hi) hz hp hpl hqs hr) (Z6 l _ K h1)
         ·exact h1.elim
        ·exact h1.elim
       ·exact h1.elim
variable {n:Cx} {Q:Exit→DS→Prop}
theorem fo {id nt:Nat} {l:List Oper} (ks:List Nat) (_hnt:S.nt=nt) (h:xg P G (l.map (·.dst)) l S (fun S'=>At Q .normal ⟨⟩ (S'.keep ks)) ⟨⟩):DT P G n (.region id l.toArray false) S Q:=by
 have h1:=iE (id:=id) (n:=n) (Q:=fun e S'=>e=.normal∧Q .normal (S'.keep ks)) (gD (Z6 l S _ h) (fun S' h=>⟨rfl,h⟩))
 intro hn hd a M hr
 refine wpIn_mono (h1 hn hd a M hr) ?_
 rintro e a' w' ⟨S',M',rfl,hr',he,hnd,rfl,hq⟩
 obtain⟨M2,w2,r2,e2⟩:=Weak.keep (G:=G) (n:=n) (S:=S') (ks:=ks) (by rw[← hr'.ob];exact he.len) a' M' hr'
 exact⟨_,M2,w2,r2,he.trans e2,hnd,hq⟩
end
attribute [simp] xg nj pZ nD
mutual
def P8 (e:Nat→Nat):DC→DC
 | .im c=>.im c
 | .ptr o off=>.ptr (e o) off
 | .ept o gen idx off=>.ept (e o) gen idx off
 | .vec o gen off len=>.vec (e o) gen off len
 | .fn f caps=>.fn f (rnL e caps)
 | .map o=>.map (e o)
 | .yld o=>.yld (e o)
 | .itr o=>.itr (e o)
 | .dead=>.dead
def rnL (e:Nat→Nat):List DC→List DC
 | []=>[]
 | c :: r=>P8 e c :: rnL e r
end
theorem aH (e:Nat→Nat):∀ l:List DC,rnL e l=l.map (P8 e)
 | []=>rfl
 | c :: r=>by rw[rnL,aH e r];rfl
mutual
def bN (e:Nat→Nat):DV→DV
 | .one c=>.one (P8 e c)
 | .agg l=>.agg (rnL e l)
 | .tup l=>.tup (rnVL e l)
def rnVL (e:Nat→Nat):List DV→List DV
 | []=>[]
 | c :: r=>bN e c :: rnVL e r
end
theorem cO (e:Nat→Nat):∀ l:List DV,rnVL e l=l.map (bN e)
 | []=>rfl
 | c :: r=>by rw[rnVL,cO e r];rfl
def N0 (e:Nat→Nat):DObj→DObj
 | .row c=>.row (rnL e c)
 | .vec sz es g nl=>.vec sz (es.map (rnL e)) g nl
 | .map ks es=>.map ks (es.map fun x=>(x.1,rnL e x.2))
 | .loop r=>.loop { r with tm:=r.tm.map fun x=>(x.1,bN e x.2) }
 | .iter l c=>.iter l c
 | .liter b s c=>.liter b s c
 | .gone=>.gone
theorem fC (e:Nat→Nat) (d:DObj):(N0 e d).isIt=d.isIt:=by cases d<;>rfl
theorem J9 (e:Nat→Nat) (d:DObj):(N0 e d).blk=d.blk:=by cases d<;>rfl
def C4 (es:List Nat) (n o:Nat):Nat:=(es[o]?).getD (n+(o-es.length))
theorem jg (e:Nat→Nat) (l:List DC):G1 (rnL e l)=bN e (G1 l):=by
 match l with
 | []=>rfl
 | [c]=>rfl
 | a :: b :: r=>rfl
theorem jW (e:Nat→Nat) (l:List IC):rnL e (l.map .im)=l.map .im:=by
 rw[aH,List.map_map];rfl
theorem jm {e:Nat→Nat} {l:List DC} {j:Nat} {d:DC} (h:(rnL e l)[j]?=some d):∃ d0,l[j]?=some d0∧d=P8 e d0:=by
 rw[aH,List.getElem?_map,Option.map_eq_some_iff] at h
 obtain⟨d0,h1,h2⟩:=h
 exact⟨d0,h1,h2.symm⟩
theorem K4 (e:Nat→Nat) (l:List DC):(rnL e l).length=l.length:=by rw[aH,List.length_map]
structure See (e:Nat→Nat) (M0 M:MS):Prop where
 w:M0.w=M.w
 ok:∀ b,M0.ok b→M.ok b
 lt:∀ o,o<M0.objs.length→e o<M.objs.length
 get:∀ o d,o<M0.objs.length→M.objs[e o]?=some d→∃ d0,M0.objs[o]?=some d0∧d=N0 e d0
 β:∀ o,o<M0.objs.length→M.β (e o)=M0.β o
theorem RepC.rn {e:Nat→Nat} {M0 M:MS} (h:See e M0 M) {c:DC} {v:Value} (r:RepC M0 c v):RepC M (P8 e c) v:=by
 induction r with
 | im c v hi=>exact .im c v (h.w ▸ hi.mono fun b hb=>⟨h.ok b hb,rfl⟩)
 | ptr o off v h1 ho hc =>
   refine .ptr _ off v h1 (h.lt o ho) fun c hc'=>?_
   obtain⟨d0,g1,g2⟩:=h.get o _ ho hc'
   cases d0<;>simp only[N0,reduceCtorEq] at g2
   rw[h.β o ho];exact hc _ g1
 | ept o gen idx off v h1 ho hc =>
   refine .ept _ gen idx off v h1 (h.lt o ho) fun sz es g nl hc'=>?_
   obtain⟨d0,g1,g2⟩:=h.get o _ ho hc'
   cases d0<;>simp only[N0,reduceCtorEq] at g2
   injection g2 with a1 a2 a3 a4
   subst a1;subst a3;subst a4
   rw[h.β o ho];exact hc _ _ _ _ g1
 | vec o gen off len v h1 ho hc =>
   refine .vec _ gen off len v h1 (h.lt o ho) fun sz es g nl hc'=>?_
   obtain⟨d0,g1,g2⟩:=h.get o _ ho hc'
   cases d0<;>simp only[N0,reduceCtorEq] at g2
   injection g2 with a1 a2 a3 a4
   subst a1;subst a3;subst a4
   rw[h.β o ho,← h.w];exact hc _ _ _ _ g1
 | fn f caps vs hl _ ih =>
   refine .fn f _ vs (by rw[K4];exact hl) fun j c v hj hv=>?_
   obtain⟨d0,g1,rfl⟩:=jm hj
   exact ih j d0 v g1 hv
 | map o v h1 ho hc =>
   refine .map _ v h1 (h.lt o ho) fun ks c hc'=>?_
   obtain⟨d0,g1,g2⟩:=h.get o _ ho hc'
   cases d0<;>simp only[N0,reduceCtorEq] at g2
   rw[h.β o ho];exact hc _ _ g1
 | yld o v h1 ho hc =>
   refine .yld _ v h1 (h.lt o ho) fun r hc'=>?_
   obtain⟨d0,g1,g2⟩:=h.get o _ ho hc'
   cases d0<;>simp only[N0,reduceCtorEq] at g2
   rw[h.β o ho];exact hc _ g1
 | itr o v h1 ho hc =>
   refine .itr _ v h1 (h.lt o ho) fun d hc' hi=>?_
   obtain⟨d0,g1,g2⟩:=h.get o _ ho hc'
   rw[h.β o ho];exact hc _ g1 (by rw[g2,fC] at hi;exact hi)
 | dead v h1=>exact .dead v h1
theorem vE {e:Nat→Nat} {l:List DV} {j:Nat} {d:DV} (h:(rnVL e l)[j]?=some d):∃ d0,l[j]?=some d0∧d=bN e d0:=by
 rw[cO,List.getElem?_map,Option.map_eq_some_iff] at h
 obtain⟨d0,h1,h2⟩:=h
 exact⟨d0,h1,h2.symm⟩
theorem RepV.rn {e:Nat→Nat} {M0 M:MS} (h:See e M0 M) {c:DV} {v:Value} (r:RepV M0 c v):RepV M (bN e c) v:=by
 induction r with
 | one c v hc=>exact .one _ _ (hc.rn h)
 | agg l cs hl hc =>
   refine .agg _ cs (by rw[K4];exact hl) fun j c v hj hv=>?_
   obtain⟨d0,g1,rfl⟩:=jm hj
   exact(hc j d0 v g1 hv).rn h
 | tup l vs hl _ ih =>
   refine .tup _ vs (by rw[cO,List.length_map];exact hl) fun j c v hj hv=>?_
   obtain⟨d0,g1,rfl⟩:=vE hj
   exact ih j d0 v g1 hv
theorem RelO.rn {e:Nat→Nat} {M0 M:MS} (h:See e M0 M) {o:Nat} (ho:o<M0.objs.length) {d:DObj} (r:RelO M0 o d):RelO M (e o) (N0 e d):=by
 have hh:M.w.heap[M.β (e o)]?=M0.w.heap[M0.β o]?:=by rw[h.β o ho,h.w]
 cases d with
 | row cells =>
   obtain⟨c,T,h1,h2,h3⟩:=r
   refine⟨c,T,hh.trans h1,by rw[K4];exact h2,fun j d v hj hv=>?_⟩
   obtain⟨d0,g1,rfl⟩:=jm hj
   exact(h3 j d0 v g1 hv).rn h
 | vec sz es g nl =>
   obtain⟨h0,hf⟩:=r
   refine⟨fun hn=>by simp only[h0 hn,List.map_nil],fun hn=>?_⟩
   obtain⟨hz,c,T,h1,h2,h3,h4⟩:=hf hn
   refine⟨hz,c,T,hh.trans h1,by simpa using h2,fun i x hx=>?_,fun i x j d v hx hd hv=>?_⟩
   ·rw[List.getElem?_map,Option.map_eq_some_iff] at hx
    obtain⟨x0,g1,rfl⟩:=hx
    rw[K4];exact h3 i x0 g1
   ·rw[List.getElem?_map,Option.map_eq_some_iff] at hx
    obtain⟨x0,g1,rfl⟩:=hx
    obtain⟨d0,g2,rfl⟩:=jm hd
    exact(h4 i x0 j d0 v g1 g2 hv).rn h
 | map ks es =>
   obtain⟨ents,clock,h1,hst,hsh,h2,h3⟩:=r
   refine⟨ents,clock,hh.trans h1,by rw[h.β o ho];exact hst,fun x hx=>?_,by simpa using h2,fun i x en hx he=>?_⟩
   ·obtain⟨x0,g1,rfl⟩:=List.mem_map.1 hx
    exact hsh x0 g1
   ·rw[List.getElem?_map,Option.map_eq_some_iff] at hx
    obtain⟨x0,g1,rfl⟩:=hx
    obtain⟨a1,a2,a3⟩:=h3 i x0 en g1 he
    exact⟨a1,a2,by simp only[jg];exact a3.rn h⟩
 | loop lr =>
   obtain⟨fn,tmps,D,h1,h2,h3⟩:=r
   refine⟨fn,tmps,D,hh.trans h1,h2,fun t d ht=>?_⟩
   obtain⟨d0,g1,rfl⟩:=jt (f:=bN e) ht
   obtain⟨v,e1,e2⟩:=h3 t d0 g1
   exact⟨v,e1,e2.rn h⟩
 | iter left cur =>
   obtain⟨bm,seen,ents,clock,h1,h2,h3,h4,h5,h6,h7⟩:=r
   have hE:∀ {x:List Value×List IC} {en:MapEntry},X3 M0 x en→X3 M x en:=fun {x en} ⟨b1,b2,b3⟩=>⟨b1,b2,by
    have:=b3.rn h
    rw[← jg,jW] at this;exact this⟩
   exact⟨bm,seen,ents,clock,hh.trans h1,h.ok bm h2,by rw[← h.w];exact h3,h4,h5,fun i x en a b=>hE (h6 i x en a b),fun x hx=>by
    obtain⟨en,a,b,c⟩:=h7 x hx
    exact⟨en,a,b,hE c⟩⟩
 | liter b seen c=>exact hh.trans r
 | gone=>trivial
structure Part (e:Nat→Nat) (M0 M:MS):Prop where
 w:M0.w=M.w
 ok:∀ b,M.ok b→M0.ok b
 lt:∀ o,e o<M.objs.length→o<M0.objs.length
 get:∀ o d0,M0.objs[o]?=some d0→M.objs[e o]?=some (N0 e d0)
 β:∀ o,M0.β o=M.β (e o)
theorem RepC.un {e:Nat→Nat} {M0 M:MS} (h:Part e M0 M) {c:DC} {v:Value} {d:DC} (r:RepC M d v):d=P8 e c→RepC M0 c v:=by
 induction r generalizing c with
 | im x v hi=>intro hd;cases c<;>simp only[P8,reduceCtorEq] at hd;cases hd;exact .im _ v (h.w.symm ▸ hi.mono fun b hb=>⟨h.ok b hb,rfl⟩)
 | ptr o off v h1 ho hc =>
   intro hd;cases c<;>simp only[P8,reduceCtorEq] at hd;cases hd
   refine .ptr _ off v h1 (h.lt _ ho) fun c hc'=>?_
   rw[h.β];exact hc _ (h.get _ _ hc')
 | ept o gen idx off v h1 ho hc =>
   intro hd;cases c<;>simp only[P8,reduceCtorEq] at hd;cases hd
   refine .ept _ gen idx off v h1 (h.lt _ ho) fun sz es g nl hc'=>?_
   rw[h.β];exact hc _ _ _ _ (h.get _ _ hc')
 | vec o gen off len v h1 ho hc =>
   intro hd;cases c<;>simp only[P8,reduceCtorEq] at hd;cases hd
   refine .vec _ gen off len v h1 (h.lt _ ho) fun sz es g nl hc'=>?_
   rw[h.β,h.w];exact hc _ _ _ _ (h.get _ _ hc')
 | fn f caps vs hl _ ih =>
   intro hd;cases c<;>simp only[P8,reduceCtorEq] at hd;cases hd
   refine .fn f _ vs (by rw[K4] at hl;exact hl) fun j c v hj hv=>?_
   exact ih j (P8 e c) v (by rw[aH,List.getElem?_map,hj];rfl) hv rfl
 | map o v h1 ho hc =>
   intro hd;cases c<;>simp only[P8,reduceCtorEq] at hd;cases hd
   refine .map _ v h1 (h.lt _ ho) fun ks c hc'=>?_
   rw[h.β];exact hc _ _ (h.get _ _ hc')
 | yld o v h1 ho hc =>
   intro hd;cases c<;>simp only[P8,reduceCtorEq] at hd;cases hd
   refine .yld _ v h1 (h.lt _ ho) fun r hc'=>?_
   rw[h.β];exact hc _ (h.get _ _ hc')
 | itr o v h1 ho hc =>
   intro hd;cases c<;>simp only[P8,reduceCtorEq] at hd;cases hd
   refine .itr _ v h1 (h.lt _ ho) fun d hc' hi=>?_
   rw[h.β];exact hc _ (h.get _ _ hc') (by rw[fC];exact hi)
 | dead v h1=>intro hd;cases c<;>simp only[P8,reduceCtorEq] at hd;exact .dead v h1
theorem RepV.un {e:Nat→Nat} {M0 M:MS} (h:Part e M0 M) {c:DV} {v:Value} {d:DV} (r:RepV M d v):d=bN e c→RepV M0 c v:=by
 induction r generalizing c with
 | one x v hc=>intro hd;cases c<;>simp only[bN,reduceCtorEq] at hd;cases hd;exact .one _ _ (hc.un h rfl)
 | agg l cs hl hc =>
   intro hd;cases c<;>simp only[bN,reduceCtorEq] at hd;cases hd
   refine .agg _ cs (by rw[K4] at hl;exact hl) fun j c v hj hv=>?_
   exact(hc j (P8 e c) v (by rw[aH,List.getElem?_map,hj];rfl) hv).un h rfl
 | tup l vs hl _ ih =>
   intro hd;cases c<;>simp only[bN,reduceCtorEq] at hd;cases hd
   refine .tup _ vs (by rw[cO,List.length_map] at hl;exact hl) fun j c v hj hv=>?_
   exact ih j (bN e c) v (by rw[cO,List.getElem?_map,hj];rfl) hv rfl
theorem RelO.un {e:Nat→Nat} {M0 M:MS} (h:Part e M0 M) {o:Nat} {d:DObj} (r:RelO M (e o) (N0 e d)):RelO M0 o d:=by
 have hh:M0.w.heap[M0.β o]?=M.w.heap[M.β (e o)]?:=by rw[h.β o,h.w]
 cases d with
 | row cells =>
   obtain⟨c,T,h1,h2,h3⟩:=r
   refine⟨c,T,hh.trans h1,by rw[K4] at h2;exact h2,fun j d v hj hv=>?_⟩
   exact(h3 j (P8 e d) v (by rw[aH,List.getElem?_map,hj];rfl) hv).un h rfl
 | vec sz es g nl =>
   obtain⟨h0,hf⟩:=r
   refine⟨fun hn=>by simpa using h0 hn,fun hn=>?_⟩
   obtain⟨hz,c,T,h1,h2,h3,h4⟩:=hf hn
   refine⟨hz,c,T,hh.trans h1,by simpa using h2,fun i x hx=>?_,fun i x j d v hx hd hv=>?_⟩
   ·have:=h3 i (rnL e x) (by rw[List.getElem?_map,hx];rfl)
    rw[K4] at this;exact this
   ·exact(h4 i (rnL e x) j (P8 e d) v (by rw[List.getElem?_map,hx];rfl) (by rw[aH,List.getElem?_map,hd];rfl) hv).un h rfl
 | map ks es =>
   obtain⟨ents,clock,h1,hst,hsh,h2,h3⟩:=r
   refine⟨ents,clock,hh.trans h1,by rw[h.β o];exact hst,fun x hx=>?_,by simpa using h2,fun i x en hx he=>?_⟩
   ·exact hsh (x.1,rnL e x.2) (List.mem_map.2 ⟨x,hx,rfl⟩)
   ·obtain⟨a1,a2,a3⟩:=h3 i (x.1,rnL e x.2) en (by rw[List.getElem?_map,hx];rfl) he
    exact⟨a1,a2,a3.un h (jg e x.2)⟩
 | loop lr =>
   obtain⟨fn,tmps,D,h1,h2,h3⟩:=r
   refine⟨fn,tmps,D,hh.trans h1,h2,fun t d ht=>?_⟩
   have gm:∀ (l:List (Nat×DV)) (t:Nat) (d:DV),n8 l t=some d→n8 (l.map fun x=>(x.1,bN e x.2)) t=some (bN e d):=by
    intro l
    induction l with
    | nil=>intro t d h;cases h
    | cons p r ih =>
      intro t d h
      simp only[n8,List.map_cons] at h ⊢
      split at h
      ·rename_i hp;rw[if_pos hp];cases h;rfl
      ·rename_i hp;rw[if_neg hp];exact ih t d h
   obtain⟨v,e1,e2⟩:=h3 t (bN e d) (gm _ _ _ ht)
   exact⟨v,e1,e2.un h rfl⟩
 | iter left cur =>
   obtain⟨bm,seen,ents,clock,h1,h2,h3,h4,h5,h6,h7⟩:=r
   have hE:∀ {x:List Value×List IC} {en:MapEntry},X3 M x en→X3 M0 x en:=fun {x en} ⟨b1,b2,b3⟩=>⟨b1,b2,b3.un h (by rw[← jg,jW])⟩
   exact⟨bm,seen,ents,clock,hh.trans h1,h.ok bm h2,by rw[h.w];exact h3,h4,h5,fun i x en a b=>hE (h6 i x en a b),fun x hx=>by
    obtain⟨en,a,b,c⟩:=h7 x hx
    exact⟨en,a,b,hE c⟩⟩
 | liter b seen c=>exact hh.trans r
 | gone=>trivial
theorem aZ {es:List Nat} {n o:Nat} (h:o<es.length):C4 es n o=es[o]:=by simp[C4,h]
theorem iq {es:List Nat} {n o:Nat} (h:es.length≤o):C4 es n o=n+(o-es.length):=by simp[C4,List.getElem?_eq_none h]
theorem dV {es:List Nat} {n o:Nat} (hes:∀ x∈es,x<n):C4 es n o<n↔o<es.length:=by
 constructor
 ·intro h
  refine Nat.lt_of_not_le fun hge=>?_
  rw[iq hge] at h;omega
 ·intro h;rw[aZ h];exact hes _ (List.getElem_mem h)
theorem yz {es:List Nat} {n:Nat} (hes:∀ x∈es,x<n) (hnd:es.Nodup) {i j:Nat} (h:C4 es n i=C4 es n j):i=j:=by
 by_cases hi:i<es.length
 ·have hj:j<es.length:=(dV hes).1 (h ▸ (dV hes).2 hi)
  rw[aZ hi,aZ hj] at h
  exact(List.getElem_inj hnd).1 h
 ·have hj:¬ j<es.length:=fun hj=>hi ((dV hes).1 (h ▸ (dV hes).2 hj))
  rw[iq (by omega),iq (by omega)] at h;omega
def fH:List Nat→List DObj→List DObj→List DObj
 | k :: ks,d :: ds,objs=>fH ks ds (objs.set k d)
 | _,_,objs=>objs
theorem P3:∀ (ks:List Nat) (ds objs:List DObj),(fH ks ds objs).length=objs.length
 | [],_,_=>by simp[fH]
 | _ :: _,[],_=>by simp[fH]
 | k :: ks,d :: ds,objs=>by rw[fH,P3 ks ds];simp
theorem eO:∀ (ks:List Nat) (ds objs:List DObj) (p:Nat),p∉ks→(fH ks ds objs)[p]?=objs[p]?
 | [],_,_,_,_=>by simp[fH]
 | _ :: _,[],_,_,_=>by simp[fH]
 | k :: ks,d :: ds,objs,p,h=>by
   rw[fH,eO ks ds _ p (fun hp=>h (by simp[hp])),List.getElem?_set_ne (fun e=>h (by simp[e]))]
theorem oy:∀ (ks:List Nat) (ds objs:List DObj) (i:Nat),ks.Nodup→(∀ x∈ks,x<objs.length)→ks.length≤ds.length→(hi:i<ks.length)→(fH ks ds objs)[ks[i]]?=ds[i]?
 | [],_,_,_,_,_,_,hi=>by simp at hi
 | k :: ks,[],objs,i,_,_,hl,_=>by simp at hl
 | k :: ks,d :: ds,objs,i,hn,hlt,hl,hi=>by
   rw[List.nodup_cons] at hn
   rw[fH]
   cases i with
   | zero =>
     simp only[List.getElem_cons_zero,List.getElem?_cons_zero]
     rw[eO ks ds _ k hn.1,List.getElem?_set_self (hlt k (by simp))]
   | succ i =>
     simp only[List.getElem_cons_succ,List.getElem?_cons_succ]
     exact oy ks ds _ i hn.2 (fun x hx=>by simpa using hlt x (by simp[hx])) (by simpa using hl) (by simpa using hi)
def s8 (es:List Nat) (objs o:List DObj):List DObj:=
 fH es ((o.take es.length).map (N0 (C4 es objs.length))) objs++(o.drop es.length).map (N0 (C4 es objs.length))
theorem aa {es:List Nat} {objs o:List DObj} (hes:∀ x∈es,x<objs.length) (hnd:es.Nodup) (hl:es.length≤o.length) (i:Nat):(s8 es objs o)[C4 es objs.length i]?=(o[i]?).map (N0 (C4 es objs.length)):=by
 unfold s8
 by_cases hi:i<es.length
 ·have h1:=(dV (n:=objs.length) hes).2 hi
  rw[List.getElem?_append_left (by rw[P3];exact h1),aZ hi]
  rw[oy es _ objs i hnd hes (by simp;omega) hi,List.getElem?_map,List.getElem?_take_of_lt hi]
 ·rw[iq (by omega),List.getElem?_append_right (by rw[P3];omega),P3,List.getElem?_map,List.getElem?_drop]
  rw[show es.length+(objs.length+(i-es.length)-objs.length)=i by omega]
theorem fP {es:List Nat} {objs o:List DObj} {p:Nat} (hp:p<objs.length) (hn:p∉es):(s8 es objs o)[p]?=objs[p]?:=by
 unfold s8
 rw[List.getElem?_append_left (by rw[P3];exact hp),eO _ _ _ _ hn]
theorem lA {es:List Nat} {objs o:List DObj}:(s8 es objs o).length=objs.length+(o.length-es.length):=by
 simp[s8,P3]
theorem nb {es:List Nat} {objs o:List DObj} (hes:∀ x∈es,x<objs.length) (hnd:es.Nodup) (hl:es.length≤o.length) {p:Nat} {d:DObj} (h:(s8 es objs o)[p]?=some d) :
 (∃ i d0,p=C4 es objs.length i∧o[i]?=some d0∧d=N0 (C4 es objs.length) d0)∨(p<objs.length∧p∉es∧objs[p]?=some d):=by
 by_cases hp:p<objs.length
 ·by_cases hm:p∈es
  ·obtain⟨i,hi,rfl⟩:=List.mem_iff_getElem.1 hm
   rw[← aZ (n:=objs.length) hi,aa hes hnd hl,Option.map_eq_some_iff] at h
   obtain⟨d0,h1,h2⟩:=h
   exact .inl ⟨i,d0,(aZ hi).symm,h1,h2.symm⟩
  ·rw[fP hp hm] at h;exact .inr ⟨hp,hm,h⟩
 ·have he:p=C4 es objs.length (es.length+(p-objs.length)):=by rw[iq (by omega)];omega
  rw[he,aa hes hnd hl,Option.map_eq_some_iff] at h
  obtain⟨d0,h1,h2⟩:=h
  exact .inl ⟨_,d0,he,h1,h2.symm⟩
section
variable {P:Program} {G:Es}
theorem DCall.embed {f:FuncId} {args0:List DV} {objs0 objs:List DObj} {Q0:DV→List DObj→Prop} (es:List Nat) (h:DCall P G f args0 objs0 Q0)
 (hl:es.length=objs0.length) (hnd:es.Nodup) (hes:∀ x∈es,x<objs.length)
 (hobj:∀ i d,objs0[i]?=some d→objs[C4 es objs.length i]?=some (N0 (C4 es objs.length) d)) :
 DCall P G f (args0.map (bN (C4 es objs.length))) objs (fun d o=>∃ d0 o0,Q0 d0 o0∧objs0.length≤o0.length∧d=bN (C4 es objs.length) d0∧o=s8 es objs o0):=by
 intro M vs hm hob hvs hrep
 subst hob
 generalize he:C4 es M.objs.length=e at *
 have heb:∀ o,C4 es M.objs.length o=e o:=fun o=>congrFun he o
 have hei:∀ {i j},e i=e j→i=j:=fun {i j} h=>yz (n:=M.objs.length) hes hnd (by rw[heb,heb];exact h)
 have helt:∀ {i},e i<M.objs.length↔i<es.length:=fun {i}=>by rw[← heb];exact dV hes
 have hmem:∀ {i},i<es.length→e i∈es:=fun {i} hi=>by rw[← heb,aZ hi];exact List.getElem_mem hi
 have hofmem:∀ {p},p∈es→∃ i,i<es.length∧p=e i:=fun {p} hp=>by
  obtain⟨i,hi,rfl⟩:=List.mem_iff_getElem.1 hp
  exact⟨i,hi,by rw[← heb,aZ hi]⟩
 obtain⟨M0,hM0⟩:∃ M0:MS,M0={ w:=M.w,β:=fun i=>M.β (e i),objs:=objs0,F:=fun b=>M.F b∨∃ p d,p∉es∧M.objs[p]?=some d∧d.blk=true∧M.β p=b }:=⟨_,rfl⟩
 have hw0:M0.w=M.w:=by rw[hM0]
 have hb0:∀ i,M0.β i=M.β (e i):=fun i=>by rw[hM0]
 have ho0:M0.objs=objs0:=by rw[hM0]
 have hF0:∀ b,M0.F b↔M.F b∨∃ p d,p∉es∧M.objs[p]?=some d∧d.blk=true∧M.β p=b:=fun b=>by rw[hM0]
 have hlive:∀ b,M0.live b→M.live b:=fun b ⟨o,d,h1,h2,h3⟩=>by
  rw[ho0] at h1;rw[hb0] at h3
  exact⟨e o,N0 e d,hobj o d h1,by rw[J9];exact h2,h3⟩
 have hlive':∀ b,M.live b→M0.live b∨∃ p d,p∉es∧M.objs[p]?=some d∧d.blk=true∧M.β p=b:=fun b ⟨o,d,h1,h2,h3⟩=>by
  by_cases hm':o∈es
  ·obtain⟨i,hi,rfl⟩:=hofmem hm'
   have hio:i<objs0.length:=by omega
   have:=hobj i objs0[i] (by simp[hio])
   rw[h1] at this;cases this
   exact .inl ⟨i,objs0[i],by rw[ho0];simp[hio],by rw[J9] at h2;exact h2,by rw[hb0];exact h3⟩
  ·exact .inr ⟨o,d,hm',h1,h2,h3⟩
 have hok:∀ b,M0.ok b↔M.ok b:=fun b=>by
  simp only[MS.ok,MS.free,hw0]
  constructor
  ·rintro⟨⟨h1,h2⟩,h3⟩
   rw[hF0] at h3
   exact⟨⟨h1,fun hv=>(hlive' b hv).elim h2 fun hx=>h3 (.inr hx)⟩,fun hf=>h3 (.inl hf)⟩
  ·rintro⟨⟨h1,h2⟩,h3⟩
   rw[hF0]
   exact⟨⟨h1,fun hv=>h2 (hlive b hv)⟩,fun hx=>hx.elim h3 fun ⟨p,d,_,a1,a2,a3⟩=>h2 ⟨p,d,a1,a2,a3⟩⟩
 have hpart:Part e M0 M:=⟨hw0,fun b hb=>(hok b).2 hb,fun o ho=>by rw[ho0,← hl];exact helt.1 ho,fun o d0 hd=>hobj o d0 (by rw[← ho0];exact hd),hb0⟩
 have hm0:RelM G M0:=by
  refine⟨fun o d ho=>?_,fun o d ho hb=>?_,fun o o' d d' ho ho' hb hb' hβ=>?_,fun g l hg=>?_,fun b hb=>?_,fun o d ho hb hF=>?_⟩
  ·exact(hm.objs (e o) (N0 e d) (hpart.get o d ho)).un hpart
  ·rw[hb0,hw0];exact hm.lt (e o) _ (hpart.get o d ho) (by rw[J9];exact hb)
  ·rw[hb0,hb0] at hβ
   exact hei (hm.inj _ _ _ _ (hpart.get o d ho) (hpart.get o' d' ho') (by rw[J9];exact hb) (by rw[J9];exact hb') hβ)
  ·rw[hw0];exact(hm.glob g l hg).mono fun b hb=>⟨(hok b).2 hb,rfl⟩
  ·rw[hw0]
   rcases (hF0 b).1 hb with hb|⟨p,d,_,h1,h2,h3⟩
   ·exact hm.fl b hb
   ·exact h3 ▸ hm.lt p d h1 h2
  ·rw[hb0] at hF
   rcases (hF0 _).1 hF with hF|⟨p,d',hp,h1,h2,h3⟩
   ·exact hm.own _ _ (hpart.get o d ho) (by rw[J9];exact hb) hF
   ·have:=hm.inj _ _ _ _ h1 (hpart.get o d ho) h2 (by rw[J9];exact hb) h3
    have ho':o<objs0.length:=by rw[← ho0];exact g9 ho
    exact hp (this ▸ hmem (by omega))
 have hvs0:vs.size=args0.length:=by simpa using hvs
 rw[← hw0]
 refine(h M0 vs hm0 ho0 hvs0 fun j d v hd hv=>(hrep j (bN e d) v (by rw[List.getElem?_map,hd];rfl) hv).un hpart rfl).mono ?_
 rintro ex w' ⟨v,d,M1,rfl,rfl,hm1,hv,hx,hq⟩
 have hlen1:es.length≤M1.objs.length:=by rw[hl];exact hx.len
 obtain⟨M2,hM2⟩:∃ M2:MS,M2={ w:=M1.w,β:=fun p=>if p<M.objs.length then (match es.idxOf? p with|some i=>M1.β i|none=>M.β p) else M1.β (es.length+(p-M.objs.length)),objs:=s8 es M.objs M1.objs,F:=M.F }:=⟨_,rfl⟩
 have hw2:M2.w=M1.w:=by rw[hM2]
 have ho2:M2.objs=s8 es M.objs M1.objs:=by rw[hM2]
 have hF2:M2.F=M.F:=by rw[hM2]
 have hb2:∀ i,M2.β (e i)=M1.β i:=fun i=>by
  rw[hM2]
  simp only
  by_cases hi:i<es.length
  ·rw[if_pos (helt.2 hi)]
   have hidx:es.idxOf? (e i)=some i:=by
    rw[List.idxOf?,List.findIdx?_eq_some_iff_getElem]
    refine⟨hi,by rw[← heb,aZ hi];simp,fun j hj=>?_⟩
    rw[← heb,aZ hi]
    simp only[beq_iff_eq]
    intro hE
    have:=(List.getElem_inj hnd).1 hE;omega
   rw[hidx]
  ·rw[if_neg (fun hlt=>hi (helt.1 hlt)),← heb,iq (by omega)]
   congr 1;omega
 have hb2':∀ p,p<M.objs.length→p∉es→M2.β p=M.β p:=fun p hp hn=>by
  rw[hM2]
  simp only
  rw[if_pos hp]
  have:es.idxOf? p=none:=by
   rw[List.idxOf?,List.findIdx?_eq_none_iff]
   intro x hx
   simp only[beq_eq_false_iff_ne,ne_eq]
   rintro rfl;exact hn hx
  rw[this]
 have hcases:∀ {p d},M2.objs[p]?=some d→(∃ i d0,p=e i∧M1.objs[i]?=some d0∧d=N0 e d0)∨(p<M.objs.length∧p∉es∧M.objs[p]?=some d):=fun {p d} hd=>by
  rw[ho2] at hd
  have:=nb hes hnd hlen1 hd
  rw[he] at this;exact this
 have hget:∀ i,M2.objs[e i]?=(M1.objs[i]?).map (N0 e):=fun i=>by
  have:=aa hes hnd hlen1 i
  rw[he] at this
  rw[ho2];exact this
 have hother:∀ p,p<M.objs.length→p∉es→M2.objs[p]?=M.objs[p]?:=fun p hp hn=>by rw[ho2];exact fP hp hn
 have hfr:∀ b,b<M.w.heap.size→¬ M0.live b→b<M1.w.heap.size∧M1.w.heap[b]?=M.w.heap[b]?∧¬ M1.live b:=fun b hb hn=>by
  have:=hx.free b ⟨by rw[hw0];exact hb,hn⟩
  rw[hw0] at this
  exact⟨this.1.1,this.2,this.1.2⟩
 have hpF:∀ {p d},p<M.objs.length→p∉es→M.objs[p]?=some d→d.blk=true→M0.F (M.β p):=fun {p d} _ hn hd hb=>(hF0 _).2 (.inr ⟨p,d,hn,hd,hb,rfl⟩)
 have hpnl:∀ {p d},p∉es→M.objs[p]?=some d→d.blk=true→¬ M0.live (M.β p):=fun {p d} hn hd hb ⟨o,d',h1,h2,h3⟩=>by
  rw[hb0] at h3
  have h4:=hpart.get o d' h1
  have:=hm.inj _ _ _ _ h4 hd (by rw[J9];exact h2) hb h3
  rw[ho0] at h1
  have:=g9 h1
  subst_vars
  exact hn (hmem (by omega))
 have hlive2:∀ b,M2.live b→M1.live b∨∃ p d,p∉es∧p<M.objs.length∧M.objs[p]?=some d∧d.blk=true∧M.β p=b:=fun b ⟨p,d,h1,h2,h3⟩=>by
  rcases hcases h1 with⟨i,d0,rfl,h4,rfl⟩|⟨h4,h5,h6⟩
  ·rw[hb2] at h3;rw[J9] at h2
   exact .inl ⟨i,d0,h4,h2,h3⟩
  ·rw[hb2' p h4 h5] at h3
   exact .inr ⟨p,d,h5,h4,h6,h2,h3⟩
 have hF1:∀ b,M0.F b→M1.F b:=hx.other.1
 have hin:∀ {i d},objs0[i]?=some d→i<es.length:=fun {i d} hd=>by have:=g9 hd;omega
 have hsame:∀ {p d},p<M.objs.length→p∉es→M.objs[p]?=some d→d.blk=true→M1.w.heap[M.β p]?=M.w.heap[M.β p]?:=fun {p d} hp hn hd hb=>(hfr _ (hm.lt p d hd hb) (hpnl hn hd hb)).2.1
 have hext:Ext M.objs.length M M2:=by
  refine⟨by rw[ho2,lA];omega,fun b hb=>?_,⟨fun b hb=>by rw[hF2];exact hb,fun b hb=>by rw[hF2];exact hb.2⟩,by rw[hw2,← hw0];exact hx.hs,fun p hp c' hc=>?_,fun p hp sz es' g nl hc=>?_,fun p hp ks es' hc=>?_,fun p hp r' hc=>?_,fun p hp d' hc hit=>?_,fun p hp r hc=>?_,by rw[hw2,← hw0];exact hx.io⟩
  ·obtain⟨a1,a2,a3⟩:=hfr b hb.1 fun hv=>hb.2 (hlive b hv)
   exact⟨⟨by rw[hw2];exact a1,fun hv=>(hlive2 b hv).elim a3 fun ⟨p,d,_,_,h1,h2,h3⟩=>hb.2 ⟨p,d,h1,h2,h3⟩⟩,by rw[hw2];exact a2⟩
  ·rcases hcases hc with⟨i,d0,rfl,h4,h5⟩|⟨_,h5,h6⟩
   ·cases d0<;>simp only[N0,reduceCtorEq] at h5
    have hi:=helt.1 hp
    obtain⟨⟨c,h6⟩,h7⟩:=hx.row i (by omega) _ h4
    rw[ho0] at h6
    exact⟨⟨_,hobj i _ h6⟩,by rw[hb2,h7,hb0]⟩
   ·exact⟨⟨c',h6⟩,hb2' p hp h5⟩
  ·rcases hcases hc with⟨i,d0,rfl,h4,h5⟩|⟨_,h5,h6⟩
   ·cases d0<;>simp only[N0,reduceCtorEq] at h5
    injection h5 with a1 a2 a3 a4
    subst a1;subst a3;subst a4
    have hi:=helt.1 hp
    obtain⟨sz0,es0,g0,nl0,h6,h7,h8⟩:=hx.vec i (by omega) _ _ _ _ h4
    rw[ho0] at h6
    refine⟨sz0,_,g0,nl0,hobj i _ h6,h7,fun e'=>?_⟩
    obtain⟨b1,b2,b3⟩:=h8 e'
    refine⟨b1,b2,fun hn=>?_⟩
    obtain⟨c1,c2⟩:=b3 hn
    rw[hb2,hw2,← hb0,← hw0]
    exact⟨c1,c2⟩
   ·refine⟨sz,es',g,nl,h6,Nat.le_refl _,fun _=>⟨rfl,rfl,fun hn=>?_⟩⟩
    rw[hb2' p hp h5]
    refine⟨rfl,?_⟩
    simp only[H9,hw2]
    rw[hsame hp h5 h6 (by simp[DObj.blk,hn])]
  ·rcases hcases hc with⟨i,d0,rfl,h4,h5⟩|⟨_,h5,h6⟩
   ·cases d0<;>simp only[N0,reduceCtorEq] at h5
    injection h5 with a1 a2
    subst a1
    have hi:=helt.1 hp
    obtain⟨⟨k,c,h6⟩,h7⟩:=hx.map i (by omega) _ _ h4
    rw[ho0] at h6
    exact⟨⟨_,_,hobj i _ h6⟩,by rw[hb2,h7,hb0]⟩
   ·exact⟨⟨_,es',h6⟩,hb2' p hp h5⟩
  ·rcases hcases hc with⟨i,d0,rfl,h4,h5⟩|⟨_,h5,h6⟩
   ·cases d0<;>simp only[N0,reduceCtorEq] at h5
    have hi:=helt.1 hp
    obtain⟨⟨c,h6⟩,h7⟩:=hx.lp i (by omega) _ h4
    rw[ho0] at h6
    exact⟨⟨_,hobj i _ h6⟩,by rw[hb2,h7,hb0]⟩
   ·exact⟨⟨r',h6⟩,hb2' p hp h5⟩
  ·rcases hcases hc with⟨i,d0,rfl,h4,h5⟩|⟨_,h5,h6⟩
   ·have hi:=helt.1 hp
    obtain⟨⟨d1,h6,i1⟩,h7⟩:=hx.it i (by omega) _ h4 (by rw[h5,fC] at hit;exact hit)
    rw[ho0] at h6
    exact⟨⟨_,hobj i _ h6,by rw[fC];exact i1⟩,by rw[hb2,h7,hb0]⟩
   ·exact⟨⟨_,h6,hit⟩,hb2' p hp h5⟩
  ·by_cases hn:p∈es
   ·obtain⟨i,hi,rfl⟩:=hofmem hn
    have hio:i<objs0.length:=by omega
    have h6:=hobj i objs0[i] (by simp[hio])
    rw[hc] at h6
    cases hd:objs0[i] with
    | loop r0 =>
      obtain⟨⟨r',h7⟩,h8⟩:=hx.lp' i (by omega) r0 (by rw[ho0];simp[hio,hd])
      exact⟨⟨_,by rw[hget,h7];rfl⟩,by rw[hb2,h8,hb0]⟩
    | _=>rw[hd] at h6;simp[N0] at h6
   ·exact⟨⟨r,by rw[hother p hp hn];exact hc⟩,hb2' p hp hn⟩
 have hok1:∀ b,M1.ok b→M2.ok b:=fun b ⟨⟨h1,h2⟩,h3⟩=>by
  refine⟨⟨by rw[hw2];exact h1,fun hv=>(hlive2 b hv).elim h2 fun ⟨p,d,h4,h5,h6,h7,h8⟩=>h3 (hF1 b (h8 ▸ hpF h5 h4 h6 h7))⟩,?_⟩
  rw[hF2];exact fun hf=>h3 (hF1 b ((hF0 b).2 (.inl hf)))
 have hsee:See e M1 M2:=by
  refine⟨hw2.symm,hok1,fun o ho=>?_,fun o d ho hd=>?_,fun o _=>hb2 o⟩
  ·have:=hget o
   rw[List.getElem?_eq_getElem ho] at this
   exact g9 this
  ·rw[hget,Option.map_eq_some_iff] at hd
   obtain⟨d0,h1,h2⟩:=hd
   exact⟨d0,h1,h2.symm⟩
 refine⟨v,bN e d,M2,rfl,hw2,?_,hv.rn hsee,hext,d,M1.objs,hq,by rw[← hl];exact hlen1,rfl,ho2⟩
 refine⟨fun p d hp=>?_,fun p d hp hb=>?_,fun p p' d d' hp hp' hb hb' hβ=>?_,fun g l hg=>(hm.glob g l hg).mono hext.ok,fun b hF=>?_,fun p d hp hb=>?_⟩
 ·rcases hcases hp with⟨i,d0,rfl,h4,rfl⟩|⟨h4,h5,h6⟩
  ·exact(hm1.objs i d0 h4).rn hsee (g9 h4)
  ·exact(hm.objs p d h6).ext hext (fun _=>hb2' p h4 h5) (fun hb=>by rw[hw2];exact hsame h4 h5 h6 hb)
 ·rcases hcases hp with⟨i,d0,rfl,h4,rfl⟩|⟨h4,h5,h6⟩
  ·rw[hb2,hw2];exact hm1.lt i d0 h4 (by rw[J9] at hb;exact hb)
  ·rw[hb2' p h4 h5,hw2];exact(hfr _ (hm.lt p d h6 hb) (hpnl h5 h6 hb)).1
 ·rcases hcases hp with⟨i,d0,rfl,h4,rfl⟩|⟨h4,h5,h6⟩
  ·rw[J9] at hb
   rcases hcases hp' with⟨i',d0',rfl,h4',rfl⟩|⟨h4',h5',h6'⟩
   ·rw[J9] at hb'
    rw[hb2,hb2] at hβ
    rw[hm1.inj i i' d0 d0' h4 h4' hb hb' hβ]
   ·rw[hb2,hb2' p' h4' h5'] at hβ
    exact absurd (hF1 _ (hβ ▸ hpF h4' h5' h6' hb')) (hm1.own i d0 h4 hb)
  ·rcases hcases hp' with⟨i',d0',rfl,h4',rfl⟩|⟨h4',h5',h6'⟩
   ·rw[J9] at hb'
    rw[hb2,hb2' p h4 h5] at hβ
    exact absurd (hF1 _ (hβ ▸ hpF h4 h5 h6 hb)) (hm1.own i' d0' h4' hb')
   ·rw[hb2' p h4 h5,hb2' p' h4' h5'] at hβ
    exact hm.inj p p' d d' h6 h6' hb hb' hβ
 ·rw[hF2] at hF
  rw[hw2]
  have h1:=hm.fl b hF
  have:=hm1.fl b (hF1 b ((hF0 b).2 (.inl hF)))
  exact this
 ·rw[hF2]
  rcases hcases hp with⟨i,d0,rfl,h4,rfl⟩|⟨h4,h5,h6⟩
  ·rw[hb2]
   exact fun hF=>hm1.own i d0 h4 (by rw[J9] at hb;exact hb) (hF1 _ ((hF0 _).2 (.inl hF)))
  ·rw[hb2' p h4 h5];exact hm.own p d h6 hb
def B7 (es:List Nat) (objs:List DObj):Nat→List DObj→Prop
 | _,[]=>True
 | i,d :: r=>objs[C4 es objs.length i]?=some (N0 (C4 es objs.length) d)∧B7 es objs (i+1) r
theorem ph {es:List Nat} {objs:List DObj}:∀ (l:List DObj) (k:Nat),B7 es objs k l→∀ i d,l[i]?=some d→objs[C4 es objs.length (k+i)]?=some (N0 (C4 es objs.length) d)
 | [],_,_,i,d,hd=>by simp at hd
 | x :: l,k,h,i,d,hd=>by
   cases i with
   | zero=>simp at hd;subst hd;exact h.1
   | succ i =>
     have:=ph l (k+1) h.2 i d (by simpa using hd)
     rw[show k+1+i=k+(i+1) by omega] at this;exact this
theorem A3 {es:List Nat} {objs objs0:List DObj} (h:B7 es objs 0 objs0):∀ i d,objs0[i]?=some d→objs[C4 es objs.length i]?=some (N0 (C4 es objs.length) d):=fun i d hd=>by
 have:=ph objs0 0 h i d hd
 rw[Nat.zero_add] at this;exact this
theorem CallE.embed {f:FuncId} {args args0:List DV} {objs objs0 o1:List DObj} {d0:DV} {Q:DV→List DObj→Prop} {t:Tok Q} (es:List Nat) (h:DCall P G f args0 objs0 (fun d o=>d=d0∧o=o1))
 (ha:args0.map (bN (C4 es objs.length))=args) (hl:es.length=objs0.length) (hnd:es.Nodup) (hes:∀ x∈es,x<objs.length)
 (hobj:∀ i d,objs0[i]?=some d→objs[C4 es objs.length i]?=some (N0 (C4 es objs.length) d)) (hq:Q (bN (C4 es objs.length) d0) (s8 es objs o1)):CallE P G f args objs Q t:=by
 subst ha
 refine(DCall.embed es h hl hnd hes hobj).mono fun d o ⟨d',o',⟨h1,h2⟩,_,h3,h4⟩=>?_
 subst h1;subst h2;subst h3;subst h4
 exact hq
end
end Go.Ab
