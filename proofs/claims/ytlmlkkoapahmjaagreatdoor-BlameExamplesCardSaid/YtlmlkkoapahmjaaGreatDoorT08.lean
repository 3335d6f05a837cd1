/- Part 8 of the proofs. -/
import Derived.Test.YtlmlkkoapahmjaaGreatDoorT07
set_option linter.all false
set_option maxHeartbeats 100000000
namespace Go.Ab
open Go
section
variable {P:Program} {G:IK} {nt:Nat} {objs:List DObj} {ops:Array Oper}
def bi (P:Program):List Oper->List (Nat×List Value)
 | []=>[]
 | o :: l=>match lC o.op,o.dst with
   | some t,some u=>match E2 P t with
     | some z=>(u,z) :: bi P l
     | none=>bi P l
   | _,_=>bi P l
theorem kW {M0 M:MS} {a:Act} {β':Nat->Nat}:∀ (is:List Nat) (l:List Oper),Al ops is l->is.Nodup ->
 (∀ i∈is,∀ o t u,ops[i]?=some o->o.op=.alloc t->o.dst=some u->∃ z,E2 P t=some z/\Hid M0 a M (u,z) (β' i)) ->
 (∀ i∈is,∀ k∈is,∀ o o' t t',ops[i]?=some o->ops[k]?=some o'->o.op=.alloc t->o'.op=.alloc t'->o.dst.isSome=true->o'.dst.isSome=true->β' i=β' k->i=k) ->
 ∃ bs:List Nat,(bi P l).length=bs.length/\(∀ (m:Nat) (x:Nat×List Value) (b:Nat),(bi P l)[m]?=some x->bs[m]?=some b->Hid M0 a M x b)/\bs.Nodup /\
  ∀ b∈bs,∃ i∈is,∃ o t,ops[i]?=some o/\o.op=.alloc t/\o.dst.isSome=true/\b=β' i
 | [],[],_,_,_,_=>⟨[],rfl,(λm x b h=>by simp[bi] at h),List.nodup_nil,(λb h=>by cases h)⟩
 | i :: is,o :: l,ha,hnd,h1,h2=>by
   obtain⟨ho,ha⟩:=ha;rw[List.nodup_cons] at hnd;obtain⟨bs,e1,e2,e3,e4⟩:=kW is l ha hnd.2 (λk hk=>h1 k (by simp[hk])) (λk hk m hm=>h2 k (by simp[hk]) m (by simp[hm]))
   have wide:∃ bs:List Nat,(bi P l).length=bs.length/\(∀ (m:Nat) (x:Nat×List Value) (b:Nat),(bi P l)[m]?=some x->bs[m]?=some b->Hid M0 a M x b)/\bs.Nodup /\
    ∀ b∈bs,∃ k∈i :: is,∃ o t,ops[k]?=some o/\o.op=.alloc t/\o.dst.isSome=true/\b=β' k:=
    ⟨bs,e1,e2,e3,λb hb=>let ⟨k,hk,r⟩:=e4 b hb;⟨k,by simp[hk],r⟩⟩
   simp only[bi];split
   ·rename_i t u hal hdst;have hop:=ml hal;obtain⟨z,hz,hh⟩:=h1 i (by simp) o t u ho hop hdst;rw[hz];refine⟨β' i :: bs,by simp[e1],λm x b hx hb=>?_,?_,λb hb=>?_⟩
    ·cases m with
     | zero=>simp at hx hb;subst hx;subst hb;exact hh
     | succ m=>exact e2 m x b (by simpa using hx) (by simpa using hb)
    ·rw[List.nodup_cons];refine⟨λhmem=>?_,e3⟩;obtain⟨k,hk,o',t',ho',hop',hs',he⟩:=e4 _ hmem;have:=h2 i (by simp) k (by simp[hk]) o o' t t' ho ho' hop hop' (by simp[hdst]) hs' he;exact hnd.1 (this ▸ hk)
    ·rcases List.mem_cons.1 hb with rfl|hb
     ·exact⟨i,by simp,o,t,ho,hop,by simp[hdst],rfl⟩
     ·obtain⟨k,hk,r⟩:=e4 b hb;exact⟨k,by simp[hk],r⟩
   ·exact wide
 | [],_ :: _,h,_,_,_=>h.elim
 | _ :: _,[],h,_,_,_=>h.elim
def pick (l:List Oper):List Nat->List Oper
 | []=>[]
 | i :: r=>match l[i]? with
   | some o=>o :: pick l r
   | none=>pick l r
theorem oq {l:List Oper}:∀ {is:List Nat},(∀ i∈is,i<l.length)->Al l.toArray is (pick l is)
 | [],_=>trivial
 | i :: r,h=>by
   have hi:l[i]?=some (l[i]'(h i (by simp))):=List.getElem?_eq_getElem _;simp only[pick,hi];exact⟨by simp[hi],oq λk hk=>h k (by simp[hk])⟩
theorem aS {l:List Oper}:∀ {is:List Nat} {o:Oper},o∈pick l is->∃ i∈is,l[i]?=some o
 | [],o,h=>by cases h
 | i :: r,o,h=>by
   simp only[pick] at h;split at h
   ·rename_i o' ho';rcases List.mem_cons.1 h with rfl|h
    ·exact⟨i,by simp,ho'⟩
    ·obtain⟨k,hk,e⟩:=aS h;exact⟨k,by simp[hk],e⟩
   ·obtain⟨k,hk,e⟩:=aS h;exact⟨k,by simp[hk],e⟩
theorem cK {l:List Oper} {is:List Nat} {i:Nat} {o:Oper} (hi:i∈is) (ho:l[i]?=some o):o∈pick l is:=by
 induction is with
 | nil=>cases hi
 | cons k r ih =>
   simp only[pick];rcases List.mem_cons.1 hi with rfl|hi
   ·rw[ho];simp
   ·split
    ·exact List.mem_cons_of_mem _ (ih hi)
    ·exact ih hi
def U3:List (Option Tmp)->Bool
 | []=>true
 | x :: r=>(x.isNone || !r.contains x)&&U3 r
theorem K3:∀ {l:List (Option Tmp)},U3 l=true->l.Pairwise (λx y=>x.isSome=true->x≠y)
 | [],_=>List.Pairwise.nil
 | x :: r,h=>by
   simp only[U3,Bool.and_eq_true,Bool.or_eq_true] at h;refine List.pairwise_cons.2 ⟨λy hy hs e=>?_,K3 h.2⟩;rcases h.1 with h1|h1
   ·simp[Option.isNone_iff_eq_none] at h1;rw[h1] at hs;cases hs
   ·simp at h1;exact h1 (e ▸ hy)
def nP:List Oper->List Nat
 | []=>[]
 | o :: l=>match o.dst with
   | some u=>u :: nP l
   | none=>nP l
theorem pf {u:Nat} {l:List Oper} {o:Oper} (h:o∈l) (hu:o.dst=some u):u∈nP l:=by
 induction l with
 | nil=>cases h
 | cons x l ih =>
   simp only[nP];rcases List.mem_cons.1 h with rfl|h
   ·rw[hu];simp
   ·split
    ·exact List.mem_cons_of_mem _ (ih h)
    ·exact ih h
def lq (n j:Nat):Array Bool:=((List.range n).map λi=>decide (i<=j)).toArray
def np (nt j:Nat) (fl kt:List Nat) (l:List Oper):Bool:=
 decide (j<l.length)&&(fl.all λi=>decide (i<j))&&fl.Nodup &&
 (l.all λo=>match o.dst with|some t=>decide (t<nt)|none=>true)&&U3 (l.map (·.dst))&&U3 ((pick l fl).map (·.dst)) &&
 ((List.range l.length).all λk=>match l[k]? with|some o=>o.after.toList.all λe=>!Region.binds .any e||decide (e.on<k)|none=>true) &&
 ((List.range j).all λi=>(List.range j).all λk=>match l[i]?,l[k]? with
   | some o,some o'=>match o'.dst with|some u=>!(o.looksAt l.toArray).contains u||o.after.toList.any λe=>decide (e.on=k)&&Region.binds .any e|none=>true
   | _,_=>true) &&
 cN l.toArray (l.take j)&&cN l.toArray (pick l fl) &&
 ((List.range j).all λi=>fl.contains i||((cm l []).getD j 0).testBit i) &&
 ((List.range l.length).all λk=>decide (k<=j)||(List.range (j+1)).all λi=>((cm l []).getD k 0).testBit i) &&
 ((pick l fl).all λo=>match o.dst with|some u=>!kt.contains u|none=>true)&&((pick l fl).all λo=>(lC o.op).isNone) &&
 (match l[j]? with|some o=>o.guard.isNone|none=>false) &&
 rA l.toArray (l.length-(j+1)) (j+1) (lq l.length j)&&decide ((lq l.length j).toList.count false=l.length-(j+1))
theorem tt {l:Array Bool} {n j:Nat} (hs:l.size=n) (h:∀ i,i<n->(l.getD i false=true↔i<=j)):l=lq n j:=by
 refine Array.ext (by simp[lq,hs]) λi h1 h2=>?_;have h3:=h i (by omega);have h4:l.getD i false=l[i]:=by simp[h1]
 rw[h4] at h3;have h5:(lq n j)[i]=decide (i<=j):=by simp[lq]
 rw[h5];by_cases e:i<=j
 ·rw[h3.2 e,decide_eq_true e]
 ·rw[decide_eq_false e];cases hl:l[i]
  ·rfl
  ·exact absurd (h3.1 hl) e
theorem o5 {n i:Nat}:(Array.replicate n false).getD i false=false:=by
 rw[Array.getD_eq_getD_getElem?,Array.getElem?_replicate];split<;>rfl
theorem HG {nt:Nat} {n:Cx} {l:List Oper} {S:DS} {Q:Exit->DS->Prop} (j:Nat) (fl kt ks:List Nat) (hnt:S.nt=nt) (hB:np nt j fl kt l=true)
 (h:qE P G (l.map (·.dst)) (l.take j) S (λSq=>qo P G (l.map (·.dst)) (pick l [j]) (kZ (Sq.keep kt) (bi P (l.take j))) (λS'=>qE P G (l.map (·.dst)) (pick l fl) S' (λSf =>
  eH (nP (pick l fl)) Sf.tmps Sq.tmps/\qo P G (l.map (·.dst)) (l.drop (j+1)) Sf (λS''=>At Q .normal ⟨⟩ (S''.keep ks)) ⟨⟩) ⟨⟩) ⟨⟩) ⟨⟩):n.n<=S.objs.length->∀ (a:Act) (M:MS),Rel G S a M ->
 wpAnyIn (w7 (n.rd.map M.β)) 0 P .any l.toArray (λe a' w'=>∃ S' M',M'.w=w'/\Rel G S' a' M'/\Ext n.n M M'/\NewD M a a'/\Q e S') l.length (Array.replicate l.length false) a { M.w with drawn:=M.w.drawn+1 }:=by
 intro hn a M hr;simp only[np,Bool.and_eq_true,decide_eq_true_eq] at hB;obtain⟨⟨⟨⟨⟨⟨⟨⟨⟨⟨⟨⟨⟨⟨⟨⟨b1,b2⟩,b3⟩,b4⟩,b5⟩,b5'⟩,b6⟩,b7⟩,b8⟩,b9⟩,b10⟩,b11⟩,b12⟩,b13⟩,b14⟩,b15⟩,b16⟩:=hB;subst hnt;have hdst:∀ o∈l,∀ u,o.dst=some u->u<S.nt:=λo ho u hu=>by
  have:=List.all_eq_true.1 b4 o ho;simpa[hu] using this
 have hpw:=K3 b5;have hd:gZ S.nt l.toArray:=by
  refine⟨λi o ho u hu=>hdst o (by simpa using Array.mem_of_getElem? ho) u hu,λi k o o' u ho ho' hu hu'=>?_⟩;have hi:l[i]?=some o:=by simpa using ho
  have hk:l[k]?=some o':=by simpa using ho'
  obtain⟨hil,hi'⟩:=List.getElem?_eq_some_iff.1 hi;obtain⟨hkl,hk'⟩:=List.getElem?_eq_some_iff.1 hk;rw[List.pairwise_iff_getElem] at hpw;rcases Nat.lt_trichotomy i k with hlt|he|hlt
  ·exact absurd (show (l.map (·.dst))[i]'(by simpa using hil)=(l.map (·.dst))[k]'(by simpa using hkl) by simp[hi',hk',hu,hu']) (hpw i k (by simpa using hil) (by simpa using hkl) hlt (by simp[hi',hu]))
  ·exact he
  ·exact absurd (show (l.map (·.dst))[k]'(by simpa using hkl)=(l.map (·.dst))[i]'(by simpa using hil) by simp[hi',hk',hu,hu']) (hpw k i (by simpa using hkl) (by simpa using hil) hlt (by simp[hk',hu']))
 have hback:∀ (k:Nat) (o:Oper),l.toArray[k]?=some o->∀ e∈o.after,Region.binds .any e=true->e.on<k:=λk o ho e he hb=>by
  have hk:l[k]?=some o:=by simpa using ho
  have:=List.all_eq_true.1 b6 k (by simpa using(List.getElem?_eq_some_iff.1 hk).1);rw[hk] at this;have:=List.all_eq_true.1 this e (by simpa using he);simpa[hb] using this
 have hdep:∀ i,i<j->∀ o,l.toArray[i]?=some o->∀ k,k<j->∀ o',l.toArray[k]?=some o'->∀ u,o'.dst=some u->u∈o.looksAt l.toArray->∃ e∈o.after,e.on=k/\Region.binds .any e=true:=λi hi o ho k hk o' ho' u hu hl=>by
  have h1:=List.all_eq_true.1 (List.all_eq_true.1 b7 i (by simpa using hi)) k (by simpa using hk);rw[show l[i]?=some o by simpa using ho,show l[k]?=some o' by simpa using ho'] at h1;simp only[hu,Bool.or_eq_true,Bool.not_eq_true',List.any_eq_true,Bool.and_eq_true,decide_eq_true_eq] at h1;rcases h1 with h1|⟨e,he,h2,h3⟩
  ·have:(o.looksAt l.toArray).contains u=true:=by simpa using hl
   rw[h1] at this;cases this
  ·exact⟨e,by simpa using he,h2,h3⟩
 have hmask:iw l.toArray (cm l []):=bM l [] (λj _=>by simp) (λj i oj _ h=>by simp at h);have hflj:∀ i∈fl,i<j:=λi hi=>by simpa using List.all_eq_true.1 b2 i hi
 obtain⟨oj,hoj⟩:∃ o,l[j]?=some o:=⟨l[j],List.getElem?_eq_getElem b1⟩
 have hoj':l.toArray[j]?=some oj:=by simpa using hoj
 rw[hoj] at b14;have hgj:oj.guard=none:=by simpa[Option.isNone_iff_eq_none] using b14
 have hnoal:∀ i∈fl,∀ o,l.toArray[i]?=some o->∀ t,o.op≠.alloc t:=λi hi o ho t=>by
  have:=List.all_eq_true.1 b13 o (cK hi (by simpa using ho));exact gT (by simpa[Option.isNone_iff_eq_none] using this) t
 have hlater:∀ k listed,Closed l.toArray listed->k∈Region.ready .any l.toArray listed->j<k->∀ i,i<=j->listed.getD i false=true:=λk listed hcl hk hjk i hi=>by
  obtain⟨_,ok,hok,hall⟩:=mem_ready.1 hk;have h1:=List.all_eq_true.1 b11 k (by simpa using(Array.getElem?_eq_some_iff.1 hok).1);simp only[Bool.or_eq_true,decide_eq_true_eq] at h1;rcases h1 with h1|h1
  ·omega
  ·exact hmask k i ok hok (List.all_eq_true.1 h1 i (by simp;omega)) listed hcl hall
 have hpre:∀ listed,Closed l.toArray listed->j∈Region.ready .any l.toArray listed->∀ i,i<j->i∉fl->listed.getD i false=true:=λlisted hcl hk i hi hif=>by
  obtain⟨_,ok,hok,hall⟩:=mem_ready.1 hk;have h1:=List.all_eq_true.1 b10 i (by simpa using hi);simp only[Bool.or_eq_true,List.contains_iff_mem] at h1;rcases h1 with h1|h1
  ·exact absurd h1 hif
  ·exact hmask j i ok hok h1 listed hcl hall
 obtain⟨hm1,he1⟩:=RelM.same (w':={ M.w with drawn:=M.w.drawn+1 }) hr.m rfl ⟨rfl,rfl,rfl,by first|exact Nat.le_refl _|exact Nat.le_succ _⟩;have htake:∀ o∈l.take j,o∈l:=λo ho=>List.mem_of_mem_take ho;have hAl:∀ (k:Nat),k<=l.length->Al l.toArray (List.range k) (l.take k):=by
  have gen:∀ (m k:Nat),k+m<=l.length->Al l.toArray (List.range' k m) ((l.drop k).take m):=by
   intro m;induction m with
   | zero=>intro k _;simp[Al,List.range']
   | succ m ih =>
     intro k hk;have hk':k<l.length:=by omega
     rw[List.range'_succ,List.drop_eq_getElem_cons hk',List.take_succ_cons];exact⟨by simp,ih (k+1) (by omega)⟩
  intro k hk;have:=gen k 0 (by omega);rwa [List.drop_zero,<- List.range_eq_range'] at this
 obtain⟨Sq,hkq,q1,q2,q3,q4⟩:=T3 (P:=P) (G:=G) (ops:=l.toArray) (nt:=S.nt) (objs:=S.objs) (List.range j) (l.take j) S (hAl j (by omega)) rfl rfl (λo ho=>hdst o (htake o ho))
  (by rw[List.map_take];exact hpw.take) b8 (by simpa using h)
 let Md:MS:={ M with w:={ M.w with drawn:=M.w.drawn+1 } }
 have hMd:RelF G S.nt S.objs (n9 S.tmps) a Md:=⟨hm1,hr.ob,hr.nt,hr.df,λt d ht=>by
  obtain⟨v,h1,h2⟩:=hr.tm t d ht;exact⟨v,h1,h2.ext he1⟩⟩
 have hobs:M.objs.length=S.objs.length:=by rw[hr.ob]
 refine L5 (P:=P) (G:=G) (nt:=S.nt) (objs:=S.objs) (ops:=l.toArray) (ks:=List.range j) (τ:=n9 Sq.tmps) (M0:=Md) (base:=Array.replicate l.length false) (dfs:=a.defers) (ro:=n.rd.map M.β)
  (Q':=λe a' w'=>∃ S' M',M'.w=w'/\Rel G S' a' M'/\Ext n.n M M'/\NewD M a a'/\Q e S') hd q3 (λi hi o ho k hk=>hdep i (by simpa using hi) o ho k (by simpa using hk)) hback ?_ ?_ l.length _ a Md ?_
 ·
  intro f listed a2 M2 hi i hrdy hik;have hji:j<=i:=by simpa using hik
  have hjun:listed.getD j false≠true:=λe=>by
   rcases hi.only j e with h|h
   ·rw[o5] at h;cases h
   ·simp at h
  have hij:i=j:=by
   rcases Nat.eq_or_lt_of_le hji with h|h
   ·exact h.symm
   ·exact absurd (hlater i listed hi.cl hrdy h j (Nat.le_refl _)) hjun
  subst hij;have hpl:=hpre listed hi.cl hrdy;obtain⟨β',p1,p2⟩:=hi.pd;have half:∀ k∈List.range i,∀ o t,l.toArray[k]?=some o->o.op=.alloc t->listed.getD k false=true:=λk hk o t ho hop =>
   hpl k (by simpa using hk) λhf=>hnoal k hf o ho t hop
  obtain⟨bs,c1,c2,c3,_⟩:=kW (P:=P) (ops:=l.toArray) (M0:=Md) (M:=M2) (a:=a2) (β':=β') (List.range i) (l.take i) (hAl i (by omega)) List.nodup_range
   (λk hk o t u ho hop hu=>p1 k o t u hk ho hop hu (half k hk o t ho hop))
   (λk hk m hm' o o' t t' ho ho' hop hop' hs hs' e=>p2 k m o o' t t' hk hm' ho hop (half k hk o t ho hop) ho' hop' (half m hm' o' t' ho' hop') hs hs' e)
  have hrk:Rel G (Sq.keep kt) a2 M2:=by
   refine⟨hi.rel.m,hi.rel.ob.trans q2.symm,hi.rel.nt.trans q1.symm,hi.rel.df,λt d ht=>hi.rel.tm t d ?_⟩;have h1:=fx ht;have h2:=dA ht;unfold O8;rw[if_pos]
   ·exact h2
   ·intro k hk o ho hu;by_cases hf:k∈fl
    ·have:=List.all_eq_true.1 b12 o (cK hf (by simpa using ho));rw[hu] at this;simp at this;exact absurd h1 this
    ·exact hpl k (by simpa using hk) hf
  obtain⟨MT,t1,t2,t3,t4,t5⟩:=gB (M0:=Md) (n:=S.objs.length) hm1 (bi P (l.take i)) bs (Sq.keep kt) M2 hrk hi.ext (by rw[hi.rel.ob];exact Nat.le_refl _) c1 c2 c3;have hpk:pick l [i]=[oj]:=by simp[pick,hoj]
  rw[hpk] at hkq;obtain⟨b,hw,ht,hf⟩:=N9 _ _ _ hkq;have hbt:b=true:=by
   unfold C0 at hw;rw[hgj] at hw;exact(Option.some.inj hw).symm
  subst hbt;have hwant:Region.wanted oj (yielded l.toArray a2.tmps)=true:=by simp[Region.wanted,hgj]
  unfold wpOpIn;simp only[hoj',hwant,if_true];rw[<- t4];refine aH (ow (ht rfl (n.rd.map M.β) a2 MT t1)) ?_;rintro a3 w3 ⟨⟨S3,M3,rfl,r3,e3,d3,k3⟩,v,hput⟩;have hsz3:S3.nt=S.nt:=by
   rw[<- r3.nt,hput,<- hi.rel.nt];cases oj.dst<;>simp[Act.put]
  have hpm:∀ o∈pick l fl,o∈l:=λo ho=>let ⟨k,_,hk⟩:=aS ho;List.mem_of_getElem? hk
  obtain⟨Sf,⟨hsame,hkf⟩,f1,f2,f3,f4⟩:=T3 (P:=P) (G:=G) (ops:=l.toArray) (nt:=S.nt) (objs:=S3.objs) fl (pick l fl) S3 (oq λk hk=>by have:=hflj k hk;omega) hsz3 rfl (λo ho=>hdst o (hpm o ho)) (K3 b5') b9
   (by simpa using(show qE P G (l.map (·.dst)) (pick l fl) S3 _ ⟨⟩ from k3))
  have hlt3:(listed.setIfInBounds i true).size=l.length:=by simpa using hi.sz
  have hlisj:(listed.setIfInBounds i true).getD i false=true:=by
   have:i<listed.size:=by rw[hi.sz];simpa using b1
   simp[this]
  have fin:∀ f' listed' a4 M4,Inv P G S.nt S3.objs l.toArray fl (n9 Sf.tmps) M3 (listed.setIfInBounds i true) a.defers f' listed' a4 M4->(∀ k∈fl,listed'.getD k false=true) ->
   wpAnyIn (w7 (n.rd.map M.β)) 0 P .any l.toArray (λe a' w'=>∃ S' M',M'.w=w'/\Rel G S' a' M'/\Ext n.n M M'/\NewD M a a'/\Q e S') f' listed' a4 M4.w:=by
   intro f' listed' a4 M4 hi4 hfl4;have hL:listed'=lq l.length i:=by
    refine tt (by simpa using hi4.sz) λk hk=>⟨λhkl=>?_,λhkl=>?_⟩
    ·rcases hi4.only k hkl with h1|h1
     ·rcases p9 h1 with rfl|h1
      ·exact Nat.le_refl _
      ·rcases hi.only k h1 with h2|h2
       ·rw[o5] at h2;cases h2
       ·have:k<i:=by simpa using h2
        omega
     ·have:=hflj k h1;omega
    ·by_cases hkf:k∈fl
     ·exact hfl4 k hkf
     ·refine hi4.has k ?_;rcases Nat.eq_or_lt_of_le hkl with rfl|hlt
      ·exact hlisj
      ·exact getD_set_true (hpl k hlt hkf)
   have hf':f'=(l.drop (i+1)).length:=by rw[<- hi4.cn,hL,b16];simp
   have hrel:Rel G Sf a4 M4:=⟨hi4.rel.m,by rw[hi4.rel.ob,f2],by rw[hi4.rel.nt,f1],hi4.rel.df,λt d ht=>hi4.rel.tm t d (by
    unfold O8;rw[if_pos]
    ·exact ht
    ·exact λk hk _ _ _=>hfl4 k hk)⟩
   have hS3:S.objs.length<=S3.objs.length:=by rw[<- r3.ob];exact Nat.le_trans t3 e3.len
   have hn4:n.n<=M4.objs.length:=by rw[hi4.rel.ob];have:=hS3;omega
   have eM4:Ext n.n M M4:=((he1.weaken (by rw[hobs];exact hn)).trans (t2.weaken hn)).trans ((e3.weaken (Nat.le_trans hn t3)).trans (hi4.ext.weaken (Nat.le_trans hn hS3)));rw[hf',hL];refine T0 (P:=P) (G:=G) (ops:=l.toArray) (ro:=n.rd.map M.β) n.n (λS''=>At Q .normal ⟨⟩ (S''.keep ks)) (l.drop (i+1)) (i+1) _ Sf a4 M4 (λk hk=>by simp) (by rw[List.length_drop];exact b15) hrel hn4 (by simpa using N9 _ _ _ hkf) ?_;intro S5 a5 M5 hr5 he5 hd5 hq5;obtain⟨M6,w6,r6,e6⟩:=Weak.keep (G:=G) (n:=n) (S:=S5) (ks:=ks) (by rw[<- hr5.ob];exact he5.len) a5 M5 hr5;exact⟨_,M6,w6,r6,eM4.trans (he5.trans e6),.same (hd5.trans hi4.df),hq5⟩
  refine L5 (P:=P) (G:=G) (nt:=S.nt) (objs:=S3.objs) (ops:=l.toArray) (ks:=fl) (τ:=n9 Sf.tmps) (M0:=M3) (base:=listed.setIfInBounds i true) (dfs:=a.defers) (ro:=n.rd.map M.β) hd f3
   (λk hk o ho m hm'=>hdep k (hflj k hk) o ho m (hflj m hm')) hback ?_ ?_ f _ a3 M3 ?_
  ·intro f' listed' a4 M4 hi4 k hk4 hkf;have hkj:i<k:=by
    rcases Nat.lt_or_ge i k with h|h
    ·exact h
    ·exfalso;have h0:=(mem_ready.1 hk4).1;have h1:listed'.getD k false=true:=by
      refine hi4.has k ?_;rcases Nat.eq_or_lt_of_le h with rfl|hlt
      ·exact hlisj
      ·exact getD_set_true (hpl k hlt hkf)
     rcases Nat.lt_or_ge k listed'.size with h'|h'
     ·simp[h'] at h0 h1;rw[h0] at h1;cases h1
     ·simp[Array.getElem?_eq_none h'] at h1
   exact(fin _ listed' a4 M4 hi4 λm hm'=>hlater k listed' hi4.cl hk4 hkj m (Nat.le_of_lt (hflj m hm'))).2 k hk4
  ·intro listed' a4 M4 hi4;refine(fin 0 listed' a4 M4 hi4 λm hm'=>?_).2;have hnot:=List.count_eq_zero.1 hi4.cn;have hml:m<listed'.size:=by rw[hi4.sz];have:=hflj m hm';simp;omega
   cases hv:listed'[m] with
   | true=>simp[hml,hv]
   | false=>exact absurd (by rw[<- hv];exact Array.getElem_mem_toList hml) hnot
  ·refine⟨by simpa using hi.sz,fa (mem_ready.1 hrdy).1 hi.cn,hi.cl.step hrdy,⟨r3.m,r3.ob,by rw[r3.nt,hsz3],r3.df,λt d ht=>?_⟩,by rw[<- r3.ob];exact Ext.refl M3,d3.trans hi.df,⟨λ_=>0,λk o t u hk ho hop=>absurd hop (hnoal k hk o ho t),λk m o o' t t' hk _ ho hop=>absurd hop (hnoal k hk o ho t)⟩,λ_ h=>.inl h,λ_ h=>h⟩;unfold O8 at ht;split at ht
   ·rename_i hvis;by_cases hfd:∃ k∈fl,∃ o,l.toArray[k]?=some o/\o.dst=some t
    ·obtain⟨k,hk,o,ho,hu⟩:=hfd;have hkl:listed.getD k false=true:=(p9 (hvis k hk o ho hu)).resolve_left (by have:=hflj k hk;omega);have h1:n9 Sf.tmps t=n9 Sq.tmps t:=eG hsame (pf (cK hk (by simpa using ho)) hu);obtain⟨x,x1,x2⟩:=hi.rel.tm t d (by
      unfold O8;rw[if_pos]
      ·rw[<- h1];exact ht
      ·intro m hm' o' ho' hu';have:=hd.2 k m o o' t ho ho' hu hu';subst this;exact hkl)
     refine⟨x,?_,(t5 d x x2).ext e3⟩;rw[hput];cases hdj:oj.dst with
     | none=>exact x1
     | some y =>
       have hne:y≠t:=λe=>by
        have:=hd.2 i k oj o t hoj' ho (by rw[hdj,e]) hu;have:=hflj k hk;omega
       simp only[Act.put];rw[Array.getElem?_setIfInBounds_ne hne];exact x1
    ·have h1:n9 Sf.tmps t=n9 S3.tmps t:=f4 t λo ho hu=>by
      obtain⟨k,hk,hk'⟩:=aS ho;exact hfd ⟨k,hk,o,by simpa using hk',hu⟩
     exact r3.tm t d (by rw[<- h1];exact ht)
   ·cases ht
 ·intro listed a2 M2 hi;exfalso;have hnot:=List.count_eq_zero.1 hi.cn;have hjl:j<listed.size:=by rw[hi.sz];simpa using b1
  have hjt:listed.getD j false=true:=by
   cases hv:listed[j] with
   | true=>simp[hjl,hv]
   | false=>exact absurd (by rw[<- hv];exact Array.getElem_mem_toList hjl) hnot
  rcases hi.only j hjt with h|h
  ·rw[o5] at h;cases h
  ·simp at h
 ·refine⟨by simp,by simp,λk o _ hk=>?_,⟨hMd.m,hMd.ob,hMd.nt,hMd.df,λt d ht=>?_⟩,by rw[<- hr.ob];exact Ext.refl Md,rfl,⟨λ_=>0,λk o t u _ _ _ _ hk=>?_,λk m o o' t t' _ _ _ _ hk=>?_⟩,λk hk=>?_,λ_ h=>h⟩
  ·rw[o5] at hk;cases hk
  ·unfold O8 at ht;split at ht
   ·rename_i hvis;refine hMd.tm t d ?_;rw[<- q4 t λo ho hu=>?_]
    ·exact ht
    ·obtain⟨k,hk⟩:=List.mem_iff_getElem?.1 ho;have hkj:k<j:=by
      have:=(List.getElem?_eq_some_iff.1 hk).1;simp at this;omega
     rw[List.getElem?_take_of_lt hkj] at hk;have:=hvis k (by simpa using hkj) o (by simpa using hk) hu;rw[o5] at this;cases this
   ·cases ht
  ·rw[o5] at hk;cases hk
  ·rw[o5] at hk;cases hk
  ·rw[o5] at hk;cases hk
theorem J0 {id nt:Nat} {n:Cx} {l:List Oper} {S:DS} {Q:Exit->DS->Prop} (j:Nat) (fl kt ks:List Nat) (hm:P.follows .mixedOrders=true) (hnt:S.nt=nt) (hB:np nt j fl kt l=true)
 (h:qE P G (l.map (·.dst)) (l.take j) S (λSq=>qo P G (l.map (·.dst)) (pick l [j]) (kZ (Sq.keep kt) (bi P (l.take j))) (λS'=>qE P G (l.map (·.dst)) (pick l fl) S' (λSf =>
  eH (nP (pick l fl)) Sf.tmps Sq.tmps/\qo P G (l.map (·.dst)) (l.drop (j+1)) Sf (λS''=>At Q .normal ⟨⟩ (S''.keep ks)) ⟨⟩) ⟨⟩) ⟨⟩) ⟨⟩):DT P G n (.region id l.toArray true) S Q:=
 λhn _ a M hr=>wpIn_region_any hm (HG j fl kt ks hnt hB h hn a M hr)
end
section
variable {P:Program} {G:IK} {S:DS}
theorem tb {o:Oper} {t:TypeId} {ps:Array (Nat×Operand)} {z:List Value} {pl:List (Nat×Nat)} {qs:List (Nat×List DC)} {r:List DC} (ho:o.op=.build t ps) (hz:E2 P t=some z) (hp:z.all w8=true)
 (hpl:l5 P t=some pl) (hq:O5 G S ps.toList=some qs) (hr:bb (pl[·]?) (zcells z S.objs.length).1 qs=some r):OpV P G o S (.agg r) (S.objs++(zcells z S.objs.length).2):=by
 intro a M hrel;obtain⟨M',k1,k2,k3,k4,k5,k6⟩:=W2 z M hrel.m hp;obtain⟨v,hrun,hv⟩:=aa (w:=M.w) hz;obtain⟨h1,h2⟩:=R7 hrel _ _ hq;subst hv;rw[hrel.ob] at k3 k5 k6
 obtain⟨ra,e1,e2,e3⟩:=ae (M:=M') (place:=(pl[·]?)) qs _ (zcells v.cells.toList S.objs.length).1 v.cells r (by simpa using k5) (λj d x hd hx=>k6 j d x hd (by simpa using hx)) h1
  (λj p q hp' hq'=>by
   obtain⟨a1,a2,a3⟩:=h2 j p q hp' hq';exact⟨a1,a2,λk d x hd hx=>(a3 k d x hd hx).ext k4⟩) hr
 refine⟨.agg ra,M',.inl ?_,k2,k3,k4,.agg _ _ e2 e3⟩;rw[k1];unfold l5 at hpl;split at hpl
 ·rename_i fs hu;have hpl':=gH (P:=P) (w:=M.w) fs.toList pl hpl;simp only[execOp,ho,Instr.build,Sem.run_bind,hrun,Result.andThen_ok,e8 hu,Array.mapM_eq_mapM_toList,Sem.run_map,hpl'];have e1':Instr.fill (λx=>pl.toArray[x]?) v.cells (Array.map (λx=>(x.1,a.eval x.2)) ps).toList=some ra:=by simpa using e1
  simp only[e1'];rfl
 ·rename_i n e hu;obtain⟨sz,hs,rfl⟩:=Option.map_eq_some_iff.1 hpl;have e1':Instr.fill (λi=>some (i*sz,sz)) v.cells (Array.map (λx=>(x.1,a.eval x.2)) ps).toList=some ra:=by
   have:=gW (p':=λi=>some (i*sz,sz)) (λi x h=>iB h) _ _ _ e1;simpa using this
  simp only[execOp,ho,Instr.build,Sem.run_bind,hrun,Result.andThen_ok,e8 hu,o3 hs,e1'];rfl
 ·cases hpl
def nW (P:Program) (G:IK) (S:DS) (t:TypeId) (ps:Array (Nat×Operand)):Out:=match E2 P t,l5 P t,O5 G S ps.toList with
 | some z,some pl,some qs=>if z.all w8=true then (match bb (pl[·]?) (zcells z S.objs.length).1 qs with
   | some r=>.val (.agg r) (S.objs++(zcells z S.objs.length).2)
   | none=>.bad) else .bad
 | _,_,_=>.bad
def vc:Op->Option (TypeId×Array (Nat×Operand))
 | .build t ps=>some (t,ps)
 | _=>none
theorem vb {op:Op} {p:TypeId×Array (Nat×Operand)} (h:vc op=some p):op=.build p.1 p.2:=by
 cases op<;>simp[vc] at h;subst h;rfl
def qP (P:Program) (G:IK) (S:DS) (op:Op) (ty:TypeId):Option (TypeId×Array (Nat×Operand))->Out
 | some p=>nW P G S p.1 p.2
 | none=>T1 P G S op ty
def EV (P:Program) (G:IK) (dsts:List (Option Tmp)):List Oper->DS->(K:DS->Prop)->Tok K->Prop
 | [],S,K,_=>K S
 | o :: l,S,K,tk=>ld (C0 dsts S o)
  (Next P G S.objs (qP P G S o.op o.type (vc o.op)) (λd objs'=>EV P G dsts l (DS.put { S with objs:=objs' } o.dst d) K tk) ⟨⟩)
  (EV P G dsts l (S.put o.dst (.tup [])) K tk) ⟨⟩
theorem dT {dsts:List (Option Tmp)}:∀ (l:List Oper) (S:DS) (K:DS->Prop),EV P G dsts l S K ⟨⟩->RT P G dsts l S K
 | [],S,K,h=>h
 | o :: l,S,K,h=>by
   rw[EV] at h;generalize hb:C0 dsts S o=r at h;cases r with
   | none=>exact h.elim
   | some b =>
     refine⟨b,hb,λe=>?_,λe=>dT l _ K (h.2 e)⟩;have h1:=h.1 e;generalize hi:vc o.op=q at h1;cases q with
     | none=>exact fh (λd objs' hk=>dT l _ K hk) h1
     | some p =>
       simp only[qP,nW] at h1;split at h1
       ·rename_i z pl qs hz hpl hqs;split at h1
        ·rename_i hp;split at h1
         ·rename_i r hr;exact OpT.of_val (tb (vb hi) hz hp hpl hqs hr) (dT l _ K h1)
         ·exact h1.elim
        ·exact h1.elim
       ·exact h1.elim
variable {n:Cx} {Q:Exit->DS->Prop}
theorem M7 {id nt:Nat} {l:List Oper} (ks:List Nat) (_hnt:S.nt=nt) (h:EV P G (l.map (·.dst)) l S (λS'=>At Q .normal ⟨⟩ (S'.keep ks)) ⟨⟩):DT P G n (.region id l.toArray false) S Q:=by
 have h1:=iy (id:=id) (n:=n) (Q:=λe S'=>e=.normal/\Q .normal (S'.keep ks)) (gC (dT l S _ h) (λS' h=>⟨rfl,h⟩));intro hn hd a M hr;refine wpIn_mono (h1 hn hd a M hr) ?_;rintro e a' w' ⟨S',M',rfl,hr',he,hnd,rfl,hq⟩;obtain⟨M2,w2,r2,e2⟩:=Weak.keep (G:=G) (n:=n) (S:=S') (ks:=ks) (by rw[<- hr'.ob];exact he.len) a' M' hr';exact⟨_,M2,w2,r2,he.trans e2,hnd,hq⟩
end
attribute [simp] EV vc qP nW
mutual
def gI (e:Nat->Nat):DC->DC
 | .im c=>.im c
 | .ptr o off=>.ptr (e o) off
 | .ept o gen idx off=>.ept (e o) gen idx off
 | .vec o gen off len=>.vec (e o) gen off len
 | .fn f caps=>.fn f (rnL e caps)
 | .map o=>.map (e o)
 | .yld o=>.yld (e o)
 | .itr o=>.itr (e o)
 | .dead=>.dead
def rnL (e:Nat->Nat):List DC->List DC
 | []=>[]
 | c :: r=>gI e c :: rnL e r
end
theorem ab (e:Nat->Nat):∀ l:List DC,rnL e l=l.map (gI e)
 | []=>rfl
 | c :: r=>by rw[rnL,ab e r];rfl
mutual
def ja (e:Nat->Nat):DV->DV
 | .one c=>.one (gI e c)
 | .agg l=>.agg (rnL e l)
 | .tup l=>.tup (rnVL e l)
def rnVL (e:Nat->Nat):List DV->List DV
 | []=>[]
 | c :: r=>ja e c :: rnVL e r
end
theorem cH (e:Nat->Nat):∀ l:List DV,rnVL e l=l.map (ja e)
 | []=>rfl
 | c :: r=>by rw[rnVL,cH e r];rfl
def cb (e:Nat->Nat):DObj->DObj
 | .row c=>.row (rnL e c)
 | .vec sz es g nl=>.vec sz (es.map (rnL e)) g nl
 | .map ks es=>.map ks (es.map λx=>(x.1,rnL e x.2))
 | .loop r=>.loop { r with tm:=r.tm.map λx=>(x.1,ja e x.2) }
 | .iter l c=>.iter l c
 | .liter b s c=>.liter b s c
 | .gone=>.gone
theorem fD (e:Nat->Nat) (d:DObj):(cb e d).isIt=d.isIt:=by cases d<;>rfl
theorem H6 (e:Nat->Nat) (d:DObj):(cb e d).blk=d.blk:=by cases d<;>rfl
def p7 (es:List Nat) (n o:Nat):Nat:=(es[o]?).getD (n+(o-es.length))
theorem jn (e:Nat->Nat) (l:List DC):D7 (rnL e l)=ja e (D7 l):=by
 match l with
 | []=>rfl
 | [c]=>rfl
 | a :: b :: r=>rfl
theorem eI (e:Nat->Nat) (l:List IC):rnL e (l.map .im)=l.map .im:=by
 rw[ab,List.map_map];rfl
theorem jp {e:Nat->Nat} {l:List DC} {j:Nat} {d:DC} (h:(rnL e l)[j]?=some d):∃ d0,l[j]?=some d0/\d=gI e d0:=by
 rw[ab,List.getElem?_map,Option.map_eq_some_iff] at h;obtain⟨d0,h1,h2⟩:=h;exact⟨d0,h1,h2.symm⟩
theorem I1 (e:Nat->Nat) (l:List DC):(rnL e l).length=l.length:=by rw[ab,List.length_map]
structure See (e:Nat->Nat) (M0 M:MS):Prop where
 w:M0.w=M.w
 ok:∀ b,M0.ok b->M.ok b
 lt:∀ o,o<M0.objs.length->e o<M.objs.length
 get:∀ o d,o<M0.objs.length->M.objs[e o]?=some d->∃ d0,M0.objs[o]?=some d0/\d=cb e d0
 β:∀ o,o<M0.objs.length->M.β (e o)=M0.β o
theorem RepC.rn {e:Nat->Nat} {M0 M:MS} (h:See e M0 M) {c:DC} {v:Value} (r:RepC M0 c v):RepC M (gI e c) v:=by
 induction r with
 | im c v hi=>exact .im c v (h.w ▸ hi.mono λb hb=>⟨h.ok b hb,rfl⟩)
 | ptr o off v h1 ho hc =>
   refine .ptr _ off v h1 (h.lt o ho) λc hc'=>?_;obtain⟨d0,g1,g2⟩:=h.get o _ ho hc';cases d0<;>simp only[cb,reduceCtorEq] at g2;rw[h.β o ho];exact hc _ g1
 | ept o gen idx off v h1 ho hc =>
   refine .ept _ gen idx off v h1 (h.lt o ho) λsz es g nl hc'=>?_;obtain⟨d0,g1,g2⟩:=h.get o _ ho hc';cases d0<;>simp only[cb,reduceCtorEq] at g2;injection g2 with a1 a2 a3 a4
   subst a1;subst a3;subst a4;rw[h.β o ho];exact hc _ _ _ _ g1
 | vec o gen off len v h1 ho hc =>
   refine .vec _ gen off len v h1 (h.lt o ho) λsz es g nl hc'=>?_;obtain⟨d0,g1,g2⟩:=h.get o _ ho hc';cases d0<;>simp only[cb,reduceCtorEq] at g2;injection g2 with a1 a2 a3 a4
   subst a1;subst a3;subst a4;rw[h.β o ho,<- h.w];exact hc _ _ _ _ g1
 | fn f caps vs hl _ ih =>
   refine .fn f _ vs (by rw[I1];exact hl) λj c v hj hv=>?_;obtain⟨d0,g1,rfl⟩:=jp hj;exact ih j d0 v g1 hv
 | map o v h1 ho hc =>
   refine .map _ v h1 (h.lt o ho) λks c hc'=>?_;obtain⟨d0,g1,g2⟩:=h.get o _ ho hc';cases d0<;>simp only[cb,reduceCtorEq] at g2;rw[h.β o ho];exact hc _ _ g1
 | yld o v h1 ho hc =>
   refine .yld _ v h1 (h.lt o ho) λr hc'=>?_;obtain⟨d0,g1,g2⟩:=h.get o _ ho hc';cases d0<;>simp only[cb,reduceCtorEq] at g2;rw[h.β o ho];exact hc _ g1
 | itr o v h1 ho hc =>
   refine .itr _ v h1 (h.lt o ho) λd hc' hi=>?_;obtain⟨d0,g1,g2⟩:=h.get o _ ho hc';rw[h.β o ho];exact hc _ g1 (by rw[g2,fD] at hi;exact hi)
 | dead v h1=>exact .dead v h1
theorem xr {e:Nat->Nat} {l:List DV} {j:Nat} {d:DV} (h:(rnVL e l)[j]?=some d):∃ d0,l[j]?=some d0/\d=ja e d0:=by
 rw[cH,List.getElem?_map,Option.map_eq_some_iff] at h;obtain⟨d0,h1,h2⟩:=h;exact⟨d0,h1,h2.symm⟩
theorem RepV.rn {e:Nat->Nat} {M0 M:MS} (h:See e M0 M) {c:DV} {v:Value} (r:RepV M0 c v):RepV M (ja e c) v:=by
 induction r with
 | one c v hc=>exact .one _ _ (hc.rn h)
 | agg l cs hl hc =>
   refine .agg _ cs (by rw[I1];exact hl) λj c v hj hv=>?_;obtain⟨d0,g1,rfl⟩:=jp hj;exact(hc j d0 v g1 hv).rn h
 | tup l vs hl _ ih =>
   refine .tup _ vs (by rw[cH,List.length_map];exact hl) λj c v hj hv=>?_;obtain⟨d0,g1,rfl⟩:=xr hj;exact ih j d0 v g1 hv
theorem RelO.rn {e:Nat->Nat} {M0 M:MS} (h:See e M0 M) {o:Nat} (ho:o<M0.objs.length) {d:DObj} (r:RelO M0 o d):RelO M (e o) (cb e d):=by
 have hh:M.w.heap[M.β (e o)]?=M0.w.heap[M0.β o]?:=by rw[h.β o ho,h.w]
 cases d with
 | row cells =>
   obtain⟨c,T,h1,h2,h3⟩:=r;refine⟨c,T,hh.trans h1,by rw[I1];exact h2,λj d v hj hv=>?_⟩;obtain⟨d0,g1,rfl⟩:=jp hj;exact(h3 j d0 v g1 hv).rn h
 | vec sz es g nl =>
   obtain⟨h0,hf⟩:=r;refine⟨λhn=>by simp only[h0 hn,List.map_nil],λhn=>?_⟩;obtain⟨hz,c,T,h1,h2,h3,h4⟩:=hf hn;refine⟨hz,c,T,hh.trans h1,by simpa using h2,λi x hx=>?_,λi x j d v hx hd hv=>?_⟩
   ·rw[List.getElem?_map,Option.map_eq_some_iff] at hx;obtain⟨x0,g1,rfl⟩:=hx;rw[I1];exact h3 i x0 g1
   ·rw[List.getElem?_map,Option.map_eq_some_iff] at hx;obtain⟨x0,g1,rfl⟩:=hx;obtain⟨d0,g2,rfl⟩:=jp hd;exact(h4 i x0 j d0 v g1 g2 hv).rn h
 | map ks es =>
   obtain⟨ents,clock,h1,hst,hsh,h2,h3⟩:=r;refine⟨ents,clock,hh.trans h1,by rw[h.β o ho];exact hst,λx hx=>?_,by simpa using h2,λi x en hx he=>?_⟩
   ·obtain⟨x0,g1,rfl⟩:=List.mem_map.1 hx;exact hsh x0 g1
   ·rw[List.getElem?_map,Option.map_eq_some_iff] at hx;obtain⟨x0,g1,rfl⟩:=hx;obtain⟨a1,a2,a3⟩:=h3 i x0 en g1 he;exact⟨a1,a2,by simp only[jn];exact a3.rn h⟩
 | loop lr =>
   obtain⟨fn,tmps,D,h1,h2,h3⟩:=r;refine⟨fn,tmps,D,hh.trans h1,h2,λt d ht=>?_⟩;obtain⟨d0,g1,rfl⟩:=jw (f:=ja e) ht;obtain⟨v,e1,e2⟩:=h3 t d0 g1;exact⟨v,e1,e2.rn h⟩
 | iter left cur =>
   obtain⟨bm,seen,ents,clock,h1,h2,h3,h4,h5,h6,h7⟩:=r;have hE:∀ {x:List Value×List IC} {en:MapEntry},W1 M0 x en->W1 M x en:=λ{x en} ⟨b1,b2,b3⟩=>⟨b1,b2,by
    have:=b3.rn h;rw[<- jn,eI] at this;exact this⟩
   exact⟨bm,seen,ents,clock,hh.trans h1,h.ok bm h2,by rw[<- h.w];exact h3,h4,h5,λi x en a b=>hE (h6 i x en a b),λx hx=>by
    obtain⟨en,a,b,c⟩:=h7 x hx;exact⟨en,a,b,hE c⟩⟩
 | liter b seen c=>exact hh.trans r
 | gone=>trivial
structure Part (e:Nat->Nat) (M0 M:MS):Prop where
 w:M0.w=M.w
 ok:∀ b,M.ok b->M0.ok b
 lt:∀ o,e o<M.objs.length->o<M0.objs.length
 get:∀ o d0,M0.objs[o]?=some d0->M.objs[e o]?=some (cb e d0)
 β:∀ o,M0.β o=M.β (e o)
theorem RepC.un {e:Nat->Nat} {M0 M:MS} (h:Part e M0 M) {c:DC} {v:Value} {d:DC} (r:RepC M d v):d=gI e c->RepC M0 c v:=by
 induction r generalizing c with
 | im x v hi=>intro hd;cases c<;>simp only[gI,reduceCtorEq] at hd;cases hd;exact .im _ v (h.w.symm ▸ hi.mono λb hb=>⟨h.ok b hb,rfl⟩)
 | ptr o off v h1 ho hc =>
   intro hd;cases c<;>simp only[gI,reduceCtorEq] at hd;cases hd;refine .ptr _ off v h1 (h.lt _ ho) λc hc'=>?_;rw[h.β];exact hc _ (h.get _ _ hc')
 | ept o gen idx off v h1 ho hc =>
   intro hd;cases c<;>simp only[gI,reduceCtorEq] at hd;cases hd;refine .ept _ gen idx off v h1 (h.lt _ ho) λsz es g nl hc'=>?_;rw[h.β];exact hc _ _ _ _ (h.get _ _ hc')
 | vec o gen off len v h1 ho hc =>
   intro hd;cases c<;>simp only[gI,reduceCtorEq] at hd;cases hd;refine .vec _ gen off len v h1 (h.lt _ ho) λsz es g nl hc'=>?_;rw[h.β,h.w];exact hc _ _ _ _ (h.get _ _ hc')
 | fn f caps vs hl _ ih =>
   intro hd;cases c<;>simp only[gI,reduceCtorEq] at hd;cases hd;refine .fn f _ vs (by rw[I1] at hl;exact hl) λj c v hj hv=>?_;exact ih j (gI e c) v (by rw[ab,List.getElem?_map,hj];rfl) hv rfl
 | map o v h1 ho hc =>
   intro hd;cases c<;>simp only[gI,reduceCtorEq] at hd;cases hd;refine .map _ v h1 (h.lt _ ho) λks c hc'=>?_;rw[h.β];exact hc _ _ (h.get _ _ hc')
 | yld o v h1 ho hc =>
   intro hd;cases c<;>simp only[gI,reduceCtorEq] at hd;cases hd;refine .yld _ v h1 (h.lt _ ho) λr hc'=>?_;rw[h.β];exact hc _ (h.get _ _ hc')
 | itr o v h1 ho hc =>
   intro hd;cases c<;>simp only[gI,reduceCtorEq] at hd;cases hd;refine .itr _ v h1 (h.lt _ ho) λd hc' hi=>?_;rw[h.β];exact hc _ (h.get _ _ hc') (by rw[fD];exact hi)
 | dead v h1=>intro hd;cases c<;>simp only[gI,reduceCtorEq] at hd;exact .dead v h1
theorem RepV.un {e:Nat->Nat} {M0 M:MS} (h:Part e M0 M) {c:DV} {v:Value} {d:DV} (r:RepV M d v):d=ja e c->RepV M0 c v:=by
 induction r generalizing c with
 | one x v hc=>intro hd;cases c<;>simp only[ja,reduceCtorEq] at hd;cases hd;exact .one _ _ (hc.un h rfl)
 | agg l cs hl hc =>
   intro hd;cases c<;>simp only[ja,reduceCtorEq] at hd;cases hd;refine .agg _ cs (by rw[I1] at hl;exact hl) λj c v hj hv=>?_;exact(hc j (gI e c) v (by rw[ab,List.getElem?_map,hj];rfl) hv).un h rfl
 | tup l vs hl _ ih =>
   intro hd;cases c<;>simp only[ja,reduceCtorEq] at hd;cases hd;refine .tup _ vs (by rw[cH,List.length_map] at hl;exact hl) λj c v hj hv=>?_;exact ih j (ja e c) v (by rw[cH,List.getElem?_map,hj];rfl) hv rfl
theorem RelO.un {e:Nat->Nat} {M0 M:MS} (h:Part e M0 M) {o:Nat} {d:DObj} (r:RelO M (e o) (cb e d)):RelO M0 o d:=by
 have hh:M0.w.heap[M0.β o]?=M.w.heap[M.β (e o)]?:=by rw[h.β o,h.w]
 cases d with
 | row cells =>
   obtain⟨c,T,h1,h2,h3⟩:=r;refine⟨c,T,hh.trans h1,by rw[I1] at h2;exact h2,λj d v hj hv=>?_⟩;exact(h3 j (gI e d) v (by rw[ab,List.getElem?_map,hj];rfl) hv).un h rfl
 | vec sz es g nl =>
   obtain⟨h0,hf⟩:=r;refine⟨λhn=>by simpa using h0 hn,λhn=>?_⟩;obtain⟨hz,c,T,h1,h2,h3,h4⟩:=hf hn;refine⟨hz,c,T,hh.trans h1,by simpa using h2,λi x hx=>?_,λi x j d v hx hd hv=>?_⟩
   ·have:=h3 i (rnL e x) (by rw[List.getElem?_map,hx];rfl);rw[I1] at this;exact this
   ·exact(h4 i (rnL e x) j (gI e d) v (by rw[List.getElem?_map,hx];rfl) (by rw[ab,List.getElem?_map,hd];rfl) hv).un h rfl
 | map ks es =>
   obtain⟨ents,clock,h1,hst,hsh,h2,h3⟩:=r;refine⟨ents,clock,hh.trans h1,by rw[h.β o];exact hst,λx hx=>?_,by simpa using h2,λi x en hx he=>?_⟩
   ·exact hsh (x.1,rnL e x.2) (List.mem_map.2 ⟨x,hx,rfl⟩)
   ·obtain⟨a1,a2,a3⟩:=h3 i (x.1,rnL e x.2) en (by rw[List.getElem?_map,hx];rfl) he;exact⟨a1,a2,a3.un h (jn e x.2)⟩
 | loop lr =>
   obtain⟨fn,tmps,D,h1,h2,h3⟩:=r;refine⟨fn,tmps,D,hh.trans h1,h2,λt d ht=>?_⟩;have gm:∀ (l:List (Nat×DV)) (t:Nat) (d:DV),n9 l t=some d->n9 (l.map λx=>(x.1,ja e x.2)) t=some (ja e d):=by
    intro l;induction l with
    | nil=>intro t d h;cases h
    | cons p r ih =>
      intro t d h;simp only[n9,List.map_cons] at h ⊢;split at h
      ·rename_i hp;rw[if_pos hp];cases h;rfl
      ·rename_i hp;rw[if_neg hp];exact ih t d h
   obtain⟨v,e1,e2⟩:=h3 t (ja e d) (gm _ _ _ ht);exact⟨v,e1,e2.un h rfl⟩
 | iter left cur =>
   obtain⟨bm,seen,ents,clock,h1,h2,h3,h4,h5,h6,h7⟩:=r;have hE:∀ {x:List Value×List IC} {en:MapEntry},W1 M x en->W1 M0 x en:=λ{x en} ⟨b1,b2,b3⟩=>⟨b1,b2,b3.un h (by rw[<- jn,eI])⟩
   exact⟨bm,seen,ents,clock,hh.trans h1,h.ok bm h2,by rw[h.w];exact h3,h4,h5,λi x en a b=>hE (h6 i x en a b),λx hx=>by
    obtain⟨en,a,b,c⟩:=h7 x hx;exact⟨en,a,b,hE c⟩⟩
 | liter b seen c=>exact hh.trans r
 | gone=>trivial
theorem aD {es:List Nat} {n o:Nat} (h:o<es.length):p7 es n o=es[o]:=by simp[p7,h]
theorem gY {es:List Nat} {n o:Nat} (h:es.length<=o):p7 es n o=n+(o-es.length):=by simp[p7,List.getElem?_eq_none h]
theorem dN {es:List Nat} {n o:Nat} (hes:∀ x∈es,x<n):p7 es n o<n↔o<es.length:=by
 constructor
 ·intro h;refine Nat.lt_of_not_le λhge=>?_;rw[gY hge] at h;omega
 ·intro h;rw[aD h];exact hes _ (List.getElem_mem h)
theorem BM {es:List Nat} {n:Nat} (hes:∀ x∈es,x<n) (hnd:es.Nodup) {i j:Nat} (h:p7 es n i=p7 es n j):i=j:=by
 by_cases hi:i<es.length
 ·have hj:j<es.length:=(dN hes).1 (h ▸ (dN hes).2 hi);rw[aD hi,aD hj] at h;exact(List.getElem_inj hnd).1 h
 ·have hj:¬ j<es.length:=λhj=>hi ((dN hes).1 (h ▸ (dN hes).2 hj));rw[gY (by omega),gY (by omega)] at h;omega
def fG:List Nat->List DObj->List DObj->List DObj
 | k :: ks,d :: ds,objs=>fG ks ds (objs.set k d)
 | _,_,objs=>objs
theorem M9:∀ (ks:List Nat) (ds objs:List DObj),(fG ks ds objs).length=objs.length
 | [],_,_=>by simp[fG]
 | _ :: _,[],_=>by simp[fG]
 | k :: ks,d :: ds,objs=>by rw[fG,M9 ks ds];simp
theorem eK:∀ (ks:List Nat) (ds objs:List DObj) (p:Nat),p∉ks->(fG ks ds objs)[p]?=objs[p]?
 | [],_,_,_,_=>by simp[fG]
 | _ :: _,[],_,_,_=>by simp[fG]
 | k :: ks,d :: ds,objs,p,h=>by
   rw[fG,eK ks ds _ p (λhp=>h (by simp[hp])),List.getElem?_set_ne (λe=>h (by simp[e]))]
theorem oU:∀ (ks:List Nat) (ds objs:List DObj) (i:Nat),ks.Nodup->(∀ x∈ks,x<objs.length)->ks.length<=ds.length->(hi:i<ks.length)->(fG ks ds objs)[ks[i]]?=ds[i]?
 | [],_,_,_,_,_,_,hi=>by simp at hi
 | k :: ks,[],objs,i,_,_,hl,_=>by simp at hl
 | k :: ks,d :: ds,objs,i,hn,hlt,hl,hi=>by
   rw[List.nodup_cons] at hn;rw[fG];cases i with
   | zero =>
     simp only[List.getElem_cons_zero,List.getElem?_cons_zero];rw[eK ks ds _ k hn.1,List.getElem?_set_self (hlt k (by simp))]
   | succ i =>
     simp only[List.getElem_cons_succ,List.getElem?_cons_succ];exact oU ks ds _ i hn.2 (λx hx=>by simpa using hlt x (by simp[hx])) (by simpa using hl) (by simpa using hi)
def n3 (es:List Nat) (objs o:List DObj):List DObj:=
 fG es ((o.take es.length).map (cb (p7 es objs.length))) objs++(o.drop es.length).map (cb (p7 es objs.length))
theorem eN {es:List Nat} {objs o:List DObj} (hes:∀ x∈es,x<objs.length) (hnd:es.Nodup) (hl:es.length<=o.length) (i:Nat):(n3 es objs o)[p7 es objs.length i]?=(o[i]?).map (cb (p7 es objs.length)):=by
 unfold n3;by_cases hi:i<es.length
 ·have h1:=(dN (n:=objs.length) hes).2 hi;rw[List.getElem?_append_left (by rw[M9];exact h1),aD hi];rw[oU es _ objs i hnd hes (by simp;omega) hi,List.getElem?_map,List.getElem?_take_of_lt hi]
 ·rw[gY (by omega),List.getElem?_append_right (by rw[M9];omega),M9,List.getElem?_map,List.getElem?_drop];rw[show es.length+(objs.length+(i-es.length)-objs.length)=i by omega]
theorem fN {es:List Nat} {objs o:List DObj} {p:Nat} (hp:p<objs.length) (hn:p∉es):(n3 es objs o)[p]?=objs[p]?:=by
 unfold n3;rw[List.getElem?_append_left (by rw[M9];exact hp),eK _ _ _ _ hn]
theorem lA {es:List Nat} {objs o:List DObj}:(n3 es objs o).length=objs.length+(o.length-es.length):=by
 simp[n3,M9]
theorem ny {es:List Nat} {objs o:List DObj} (hes:∀ x∈es,x<objs.length) (hnd:es.Nodup) (hl:es.length<=o.length) {p:Nat} {d:DObj} (h:(n3 es objs o)[p]?=some d) :
 (∃ i d0,p=p7 es objs.length i/\o[i]?=some d0/\d=cb (p7 es objs.length) d0)\/(p<objs.length/\p∉es/\objs[p]?=some d):=by
 by_cases hp:p<objs.length
 ·by_cases hm:p∈es
  ·obtain⟨i,hi,rfl⟩:=List.mem_iff_getElem.1 hm;rw[<- aD (n:=objs.length) hi,eN hes hnd hl,Option.map_eq_some_iff] at h;obtain⟨d0,h1,h2⟩:=h;exact .inl ⟨i,d0,(aD hi).symm,h1,h2.symm⟩
  ·rw[fN hp hm] at h;exact .inr ⟨hp,hm,h⟩
 ·have he:p=p7 es objs.length (es.length+(p-objs.length)):=by rw[gY (by omega)];omega
  rw[he,eN hes hnd hl,Option.map_eq_some_iff] at h;obtain⟨d0,h1,h2⟩:=h;exact .inl ⟨_,d0,he,h1,h2.symm⟩
section
variable {P:Program} {G:IK}
theorem DCall.embed {f:FuncId} {args0:List DV} {objs0 objs:List DObj} {Q0:DV->List DObj->Prop} (es:List Nat) (h:DCall P G f args0 objs0 Q0)
 (hl:es.length=objs0.length) (hnd:es.Nodup) (hes:∀ x∈es,x<objs.length)
 (hobj:∀ i d,objs0[i]?=some d->objs[p7 es objs.length i]?=some (cb (p7 es objs.length) d)) :
 DCall P G f (args0.map (ja (p7 es objs.length))) objs (λd o=>∃ d0 o0,Q0 d0 o0/\objs0.length<=o0.length/\d=ja (p7 es objs.length) d0/\o=n3 es objs o0):=by
 intro M vs hm hob hvs hrep;subst hob;generalize he:p7 es M.objs.length=e at *;have heb:∀ o,p7 es M.objs.length o=e o:=λo=>congrFun he o;have hei:∀ {i j},e i=e j->i=j:=λ{i j} h=>BM (n:=M.objs.length) hes hnd (by rw[heb,heb];exact h);have helt:∀ {i},e i<M.objs.length↔i<es.length:=λ{i}=>by rw[<- heb];exact dN hes
 have hmem:∀ {i},i<es.length->e i∈es:=λ{i} hi=>by rw[<- heb,aD hi];exact List.getElem_mem hi
 have hofmem:∀ {p},p∈es->∃ i,i<es.length/\p=e i:=λ{p} hp=>by
  obtain⟨i,hi,rfl⟩:=List.mem_iff_getElem.1 hp;exact⟨i,hi,by rw[<- heb,aD hi]⟩
 obtain⟨M0,hM0⟩:∃ M0:MS,M0={ w:=M.w,β:=λi=>M.β (e i),objs:=objs0,F:=λb=>M.F b\/∃ p d,p∉es/\M.objs[p]?=some d/\d.blk=true/\M.β p=b }:=⟨_,rfl⟩
 have hw0:M0.w=M.w:=by rw[hM0]
 have hb0:∀ i,M0.β i=M.β (e i):=λi=>by rw[hM0]
 have ho0:M0.objs=objs0:=by rw[hM0]
 have hF0:∀ b,M0.F b↔M.F b\/∃ p d,p∉es/\M.objs[p]?=some d/\d.blk=true/\M.β p=b:=λb=>by rw[hM0]
 have hlive:∀ b,M0.live b->M.live b:=λb ⟨o,d,h1,h2,h3⟩=>by
  rw[ho0] at h1;rw[hb0] at h3;exact⟨e o,cb e d,hobj o d h1,by rw[H6];exact h2,h3⟩
 have hlive':∀ b,M.live b->M0.live b\/∃ p d,p∉es/\M.objs[p]?=some d/\d.blk=true/\M.β p=b:=λb ⟨o,d,h1,h2,h3⟩=>by
  by_cases hm':o∈es
  ·obtain⟨i,hi,rfl⟩:=hofmem hm';have hio:i<objs0.length:=by omega
   have:=hobj i objs0[i] (by simp[hio]);rw[h1] at this;cases this;exact .inl ⟨i,objs0[i],by rw[ho0];simp[hio],by rw[H6] at h2;exact h2,by rw[hb0];exact h3⟩
  ·exact .inr ⟨o,d,hm',h1,h2,h3⟩
 have hok:∀ b,M0.ok b↔M.ok b:=λb=>by
  simp only[MS.ok,MS.free,hw0];constructor
  ·rintro⟨⟨h1,h2⟩,h3⟩;rw[hF0] at h3;exact⟨⟨h1,λhv=>(hlive' b hv).elim h2 λhx=>h3 (.inr hx)⟩,λhf=>h3 (.inl hf)⟩
  ·rintro⟨⟨h1,h2⟩,h3⟩;rw[hF0];exact⟨⟨h1,λhv=>h2 (hlive b hv)⟩,λhx=>hx.elim h3 λ⟨p,d,_,a1,a2,a3⟩=>h2 ⟨p,d,a1,a2,a3⟩⟩
 have hpart:Part e M0 M:=⟨hw0,λb hb=>(hok b).2 hb,λo ho=>by rw[ho0,<- hl];exact helt.1 ho,λo d0 hd=>hobj o d0 (by rw[<- ho0];exact hd),hb0⟩
 have hm0:RelM G M0:=by
  refine⟨λo d ho=>?_,λo d ho hb=>?_,λo o' d d' ho ho' hb hb' hβ=>?_,λg l hg=>?_,λb hb=>?_,λo d ho hb hF=>?_⟩
  ·exact(hm.objs (e o) (cb e d) (hpart.get o d ho)).un hpart
  ·rw[hb0,hw0];exact hm.lt (e o) _ (hpart.get o d ho) (by rw[H6];exact hb)
  ·rw[hb0,hb0] at hβ;exact hei (hm.inj _ _ _ _ (hpart.get o d ho) (hpart.get o' d' ho') (by rw[H6];exact hb) (by rw[H6];exact hb') hβ)
  ·rw[hw0];exact(hm.glob g l hg).mono λb hb=>⟨(hok b).2 hb,rfl⟩
  ·rw[hw0];rcases (hF0 b).1 hb with hb|⟨p,d,_,h1,h2,h3⟩
   ·exact hm.fl b hb
   ·exact h3 ▸ hm.lt p d h1 h2
  ·rw[hb0] at hF;rcases (hF0 _).1 hF with hF|⟨p,d',hp,h1,h2,h3⟩
   ·exact hm.own _ _ (hpart.get o d ho) (by rw[H6];exact hb) hF
   ·have:=hm.inj _ _ _ _ h1 (hpart.get o d ho) h2 (by rw[H6];exact hb) h3;have ho':o<objs0.length:=by rw[<- ho0];exact e7 ho
    exact hp (this ▸ hmem (by omega))
 have hvs0:vs.size=args0.length:=by simpa using hvs
 rw[<- hw0];refine(h M0 vs hm0 ho0 hvs0 λj d v hd hv=>(hrep j (ja e d) v (by rw[List.getElem?_map,hd];rfl) hv).un hpart rfl).mono ?_;rintro ex w' ⟨v,d,M1,rfl,rfl,hm1,hv,hx,hq⟩;have hlen1:es.length<=M1.objs.length:=by rw[hl];exact hx.len
 obtain⟨M2,hM2⟩:∃ M2:MS,M2={ w:=M1.w,β:=λp=>if p<M.objs.length then (match es.idxOf? p with|some i=>M1.β i|none=>M.β p) else M1.β (es.length+(p-M.objs.length)),objs:=n3 es M.objs M1.objs,F:=M.F }:=⟨_,rfl⟩
 have hw2:M2.w=M1.w:=by rw[hM2]
 have ho2:M2.objs=n3 es M.objs M1.objs:=by rw[hM2]
 have hF2:M2.F=M.F:=by rw[hM2]
 have hb2:∀ i,M2.β (e i)=M1.β i:=λi=>by
  rw[hM2];simp only;by_cases hi:i<es.length
  ·rw[if_pos (helt.2 hi)];have hidx:es.idxOf? (e i)=some i:=by
    rw[List.idxOf?,List.findIdx?_eq_some_iff_getElem];refine⟨hi,by rw[<- heb,aD hi];simp,λj hj=>?_⟩;rw[<- heb,aD hi];simp only[beq_iff_eq];intro hE;have:=(List.getElem_inj hnd).1 hE;omega
   rw[hidx]
  ·rw[if_neg (λhlt=>hi (helt.1 hlt)),<- heb,gY (by omega)]
   congr 1;omega
 have hb2':∀ p,p<M.objs.length->p∉es->M2.β p=M.β p:=λp hp hn=>by
  rw[hM2];simp only;rw[if_pos hp];have:es.idxOf? p=none:=by
   rw[List.idxOf?,List.findIdx?_eq_none_iff];intro x hx;simp only[beq_eq_false_iff_ne,ne_eq];rintro rfl;exact hn hx
  rw[this]
 have hcases:∀ {p d},M2.objs[p]?=some d->(∃ i d0,p=e i/\M1.objs[i]?=some d0/\d=cb e d0)\/(p<M.objs.length/\p∉es/\M.objs[p]?=some d):=λ{p d} hd=>by
  rw[ho2] at hd;have:=ny hes hnd hlen1 hd;rw[he] at this;exact this
 have hget:∀ i,M2.objs[e i]?=(M1.objs[i]?).map (cb e):=λi=>by
  have:=eN hes hnd hlen1 i;rw[he] at this;rw[ho2];exact this
 have hother:∀ p,p<M.objs.length->p∉es->M2.objs[p]?=M.objs[p]?:=λp hp hn=>by rw[ho2];exact fN hp hn
 have hfr:∀ b,b<M.w.heap.size->¬ M0.live b->b<M1.w.heap.size/\M1.w.heap[b]?=M.w.heap[b]?/\¬ M1.live b:=λb hb hn=>by
  have:=hx.free b ⟨by rw[hw0];exact hb,hn⟩;rw[hw0] at this;exact⟨this.1.1,this.2,this.1.2⟩
 have hpF:∀ {p d},p<M.objs.length->p∉es->M.objs[p]?=some d->d.blk=true->M0.F (M.β p):=λ{p d} _ hn hd hb=>(hF0 _).2 (.inr ⟨p,d,hn,hd,hb,rfl⟩);have hpnl:∀ {p d},p∉es->M.objs[p]?=some d->d.blk=true->¬ M0.live (M.β p):=λ{p d} hn hd hb ⟨o,d',h1,h2,h3⟩=>by
  rw[hb0] at h3;have h4:=hpart.get o d' h1;have:=hm.inj _ _ _ _ h4 hd (by rw[H6];exact h2) hb h3;rw[ho0] at h1;have:=e7 h1
  subst_vars
  exact hn (hmem (by omega))
 have hlive2:∀ b,M2.live b->M1.live b\/∃ p d,p∉es/\p<M.objs.length/\M.objs[p]?=some d/\d.blk=true/\M.β p=b:=λb ⟨p,d,h1,h2,h3⟩=>by
  rcases hcases h1 with⟨i,d0,rfl,h4,rfl⟩|⟨h4,h5,h6⟩
  ·rw[hb2] at h3;rw[H6] at h2;exact .inl ⟨i,d0,h4,h2,h3⟩
  ·rw[hb2' p h4 h5] at h3;exact .inr ⟨p,d,h5,h4,h6,h2,h3⟩
 have hF1:∀ b,M0.F b->M1.F b:=hx.other.1;have hin:∀ {i d},objs0[i]?=some d->i<es.length:=λ{i d} hd=>by have:=e7 hd;omega
 have hsame:∀ {p d},p<M.objs.length->p∉es->M.objs[p]?=some d->d.blk=true->M1.w.heap[M.β p]?=M.w.heap[M.β p]?:=λ{p d} hp hn hd hb=>(hfr _ (hm.lt p d hd hb) (hpnl hn hd hb)).2.1;have hext:Ext M.objs.length M M2:=by
  refine⟨by rw[ho2,lA];omega,λb hb=>?_,⟨λb hb=>by rw[hF2];exact hb,λb hb=>by rw[hF2];exact hb.2⟩,by rw[hw2,<- hw0];exact hx.hs,λp hp c' hc=>?_,λp hp sz es' g nl hc=>?_,λp hp ks es' hc=>?_,λp hp r' hc=>?_,λp hp d' hc hit=>?_,λp hp r hc=>?_,by rw[hw2,<- hw0];exact hx.io⟩
  ·obtain⟨a1,a2,a3⟩:=hfr b hb.1 λhv=>hb.2 (hlive b hv);exact⟨⟨by rw[hw2];exact a1,λhv=>(hlive2 b hv).elim a3 λ⟨p,d,_,_,h1,h2,h3⟩=>hb.2 ⟨p,d,h1,h2,h3⟩⟩,by rw[hw2];exact a2⟩
  ·rcases hcases hc with⟨i,d0,rfl,h4,h5⟩|⟨_,h5,h6⟩
   ·cases d0<;>simp only[cb,reduceCtorEq] at h5;have hi:=helt.1 hp;obtain⟨⟨c,h6⟩,h7⟩:=hx.row i (by omega) _ h4;rw[ho0] at h6;exact⟨⟨_,hobj i _ h6⟩,by rw[hb2,h7,hb0]⟩
   ·exact⟨⟨c',h6⟩,hb2' p hp h5⟩
  ·rcases hcases hc with⟨i,d0,rfl,h4,h5⟩|⟨_,h5,h6⟩
   ·cases d0<;>simp only[cb,reduceCtorEq] at h5;injection h5 with a1 a2 a3 a4
    subst a1;subst a3;subst a4;have hi:=helt.1 hp;obtain⟨sz0,es0,g0,nl0,h6,h7,h8⟩:=hx.vec i (by omega) _ _ _ _ h4;rw[ho0] at h6;refine⟨sz0,_,g0,nl0,hobj i _ h6,h7,λe'=>?_⟩;obtain⟨b1,b2,b3⟩:=h8 e';refine⟨b1,b2,λhn=>?_⟩;obtain⟨c1,c2⟩:=b3 hn;rw[hb2,hw2,<- hb0,<- hw0];exact⟨c1,c2⟩
   ·refine⟨sz,es',g,nl,h6,Nat.le_refl _,λ_=>⟨rfl,rfl,λhn=>?_⟩⟩;rw[hb2' p hp h5];refine⟨rfl,?_⟩;simp only[F7,hw2];rw[hsame hp h5 h6 (by simp[DObj.blk,hn])]
  ·rcases hcases hc with⟨i,d0,rfl,h4,h5⟩|⟨_,h5,h6⟩
   ·cases d0<;>simp only[cb,reduceCtorEq] at h5;injection h5 with a1 a2
    subst a1;have hi:=helt.1 hp;obtain⟨⟨k,c,h6⟩,h7⟩:=hx.map i (by omega) _ _ h4;rw[ho0] at h6;exact⟨⟨_,_,hobj i _ h6⟩,by rw[hb2,h7,hb0]⟩
   ·exact⟨⟨_,es',h6⟩,hb2' p hp h5⟩
  ·rcases hcases hc with⟨i,d0,rfl,h4,h5⟩|⟨_,h5,h6⟩
   ·cases d0<;>simp only[cb,reduceCtorEq] at h5;have hi:=helt.1 hp;obtain⟨⟨c,h6⟩,h7⟩:=hx.lp i (by omega) _ h4;rw[ho0] at h6;exact⟨⟨_,hobj i _ h6⟩,by rw[hb2,h7,hb0]⟩
   ·exact⟨⟨r',h6⟩,hb2' p hp h5⟩
  ·rcases hcases hc with⟨i,d0,rfl,h4,h5⟩|⟨_,h5,h6⟩
   ·have hi:=helt.1 hp;obtain⟨⟨d1,h6,i1⟩,h7⟩:=hx.it i (by omega) _ h4 (by rw[h5,fD] at hit;exact hit);rw[ho0] at h6;exact⟨⟨_,hobj i _ h6,by rw[fD];exact i1⟩,by rw[hb2,h7,hb0]⟩
   ·exact⟨⟨_,h6,hit⟩,hb2' p hp h5⟩
  ·by_cases hn:p∈es
   ·obtain⟨i,hi,rfl⟩:=hofmem hn;have hio:i<objs0.length:=by omega
    have h6:=hobj i objs0[i] (by simp[hio]);rw[hc] at h6;cases hd:objs0[i] with
    | loop r0 =>
      obtain⟨⟨r',h7⟩,h8⟩:=hx.lp' i (by omega) r0 (by rw[ho0];simp[hio,hd]);exact⟨⟨_,by rw[hget,h7];rfl⟩,by rw[hb2,h8,hb0]⟩
    | _=>rw[hd] at h6;simp[cb] at h6
   ·exact⟨⟨r,by rw[hother p hp hn];exact hc⟩,hb2' p hp hn⟩
 have hok1:∀ b,M1.ok b->M2.ok b:=λb ⟨⟨h1,h2⟩,h3⟩=>by
  refine⟨⟨by rw[hw2];exact h1,λhv=>(hlive2 b hv).elim h2 λ⟨p,d,h4,h5,h6,h7,h8⟩=>h3 (hF1 b (h8 ▸ hpF h5 h4 h6 h7))⟩,?_⟩;rw[hF2];exact λhf=>h3 (hF1 b ((hF0 b).2 (.inl hf)))
 have hsee:See e M1 M2:=by
  refine⟨hw2.symm,hok1,λo ho=>?_,λo d ho hd=>?_,λo _=>hb2 o⟩
  ·have:=hget o;rw[List.getElem?_eq_getElem ho] at this;exact e7 this
  ·rw[hget,Option.map_eq_some_iff] at hd;obtain⟨d0,h1,h2⟩:=hd;exact⟨d0,h1,h2.symm⟩
 refine⟨v,ja e d,M2,rfl,hw2,?_,hv.rn hsee,hext,d,M1.objs,hq,by rw[<- hl];exact hlen1,rfl,ho2⟩;refine⟨λp d hp=>?_,λp d hp hb=>?_,λp p' d d' hp hp' hb hb' hβ=>?_,λg l hg=>(hm.glob g l hg).mono hext.ok,λb hF=>?_,λp d hp hb=>?_⟩
 ·rcases hcases hp with⟨i,d0,rfl,h4,rfl⟩|⟨h4,h5,h6⟩
  ·exact(hm1.objs i d0 h4).rn hsee (e7 h4)
  ·exact(hm.objs p d h6).ext hext (λ_=>hb2' p h4 h5) (λhb=>by rw[hw2];exact hsame h4 h5 h6 hb)
 ·rcases hcases hp with⟨i,d0,rfl,h4,rfl⟩|⟨h4,h5,h6⟩
  ·rw[hb2,hw2];exact hm1.lt i d0 h4 (by rw[H6] at hb;exact hb)
  ·rw[hb2' p h4 h5,hw2];exact(hfr _ (hm.lt p d h6 hb) (hpnl h5 h6 hb)).1
 ·rcases hcases hp with⟨i,d0,rfl,h4,rfl⟩|⟨h4,h5,h6⟩
  ·rw[H6] at hb;rcases hcases hp' with⟨i',d0',rfl,h4',rfl⟩|⟨h4',h5',h6'⟩
   ·rw[H6] at hb';rw[hb2,hb2] at hβ;rw[hm1.inj i i' d0 d0' h4 h4' hb hb' hβ]
   ·rw[hb2,hb2' p' h4' h5'] at hβ;exact absurd (hF1 _ (hβ ▸ hpF h4' h5' h6' hb')) (hm1.own i d0 h4 hb)
  ·rcases hcases hp' with⟨i',d0',rfl,h4',rfl⟩|⟨h4',h5',h6'⟩
   ·rw[H6] at hb';rw[hb2,hb2' p h4 h5] at hβ;exact absurd (hF1 _ (hβ ▸ hpF h4 h5 h6 hb)) (hm1.own i' d0' h4' hb')
   ·rw[hb2' p h4 h5,hb2' p' h4' h5'] at hβ;exact hm.inj p p' d d' h6 h6' hb hb' hβ
 ·rw[hF2] at hF;rw[hw2];have h1:=hm.fl b hF;have:=hm1.fl b (hF1 b ((hF0 b).2 (.inl hF)));exact this
 ·rw[hF2];rcases hcases hp with⟨i,d0,rfl,h4,rfl⟩|⟨h4,h5,h6⟩
  ·rw[hb2];exact λhF=>hm1.own i d0 h4 (by rw[H6] at hb;exact hb) (hF1 _ ((hF0 _).2 (.inl hF)))
  ·rw[hb2' p h4 h5];exact hm.own p d h6 hb
def o6 (es:List Nat) (objs:List DObj):Nat->List DObj->Prop
 | _,[]=>True
 | i,d :: r=>objs[p7 es objs.length i]?=some (cb (p7 es objs.length) d)/\o6 es objs (i+1) r
theorem pI {es:List Nat} {objs:List DObj}:∀ (l:List DObj) (k:Nat),o6 es objs k l->∀ i d,l[i]?=some d->objs[p7 es objs.length (k+i)]?=some (cb (p7 es objs.length) d)
 | [],_,_,i,d,hd=>by simp at hd
 | x :: l,k,h,i,d,hd=>by
   cases i with
   | zero=>simp at hd;subst hd;exact h.1
   | succ i =>
     have:=pI l (k+1) h.2 i d (by simpa using hd);rw[show k+1+i=k+(i+1) by omega] at this;exact this
theorem n4 {es:List Nat} {objs objs0:List DObj} (h:o6 es objs 0 objs0):∀ i d,objs0[i]?=some d->objs[p7 es objs.length i]?=some (cb (p7 es objs.length) d):=λi d hd=>by
 have:=pI objs0 0 h i d hd;rw[Nat.zero_add] at this;exact this
theorem CallE.embed {f:FuncId} {args args0:List DV} {objs objs0 o1:List DObj} {d0:DV} {Q:DV->List DObj->Prop} {t:Tok Q} (es:List Nat) (h:DCall P G f args0 objs0 (λd o=>d=d0/\o=o1))
 (ha:args0.map (ja (p7 es objs.length))=args) (hl:es.length=objs0.length) (hnd:es.Nodup) (hes:∀ x∈es,x<objs.length)
 (hobj:∀ i d,objs0[i]?=some d->objs[p7 es objs.length i]?=some (cb (p7 es objs.length) d)) (hq:Q (ja (p7 es objs.length) d0) (n3 es objs o1)):CallE P G f args objs Q t:=by
 subst ha;refine(DCall.embed es h hl hnd hes hobj).mono λd o ⟨d',o',⟨h1,h2⟩,_,h3,h4⟩=>?_;subst h1;subst h2;subst h3;subst h4;exact hq
end
section
variable {P:Program} {G:IK} {nt:Nat} {objs:List DObj} {ops:Array Oper}
def tQ (P:Program) (G:IK) (S:DS) (t:TypeId) (ps:Array (Nat×Operand)):Out:=match E2 P t,l5 P t,O5 G S ps.toList with
 | some z,some pl,some qs=>if z.all w8=true then (match bb (pl[·]?) (z.map λv=>.im (.raw v)) qs with
   | some r=>.val (.agg r) S.objs
   | none=>.bad) else .bad
 | _,_,_=>.bad
def xc (P:Program) (G:IK) (S:DS) (op:Op) (ty:TypeId):Option (TypeId×Array (Nat×Operand))->Out
 | some p=>tQ P G S p.1 p.2
 | none=>aJ P G S op ty
def Cy (P:Program) (G:IK) (S:DS) (op:Op) (ty:TypeId):Out:=xc P G S op ty (vc op)
def zZ (P:Program) (G:IK) (dsts:List (Option Tmp)) (S:DS) (o:Oper) (R:DV->Prop) (_t:Tok R):Option TypeId->Prop
 | some t=>(o.guard=none/\GI P t=true)/\R (.one .dead)
 | none=>ld (C0 dsts S o) (lj P G S.objs (Cy P G (S.keep (O4 o.op)) o.op o.type) R ⟨⟩) (R (.tup [])) ⟨⟩
def HU (P:Program) (G:IK) (dsts:List (Option Tmp)):List Oper->DS->(K:DS->Prop)->Tok K->Prop
 | [],S,K,_=>K S
 | o :: l,S,K,tk=>zZ P G dsts S o (λd=>HU P G dsts l (S.put o.dst d) K tk) ⟨⟩ (lC o.op)
attribute [simp] HU zZ Cy xc tQ
theorem RelM.nilCell {M:MS} (hm:RelM G M) {o j:Nat} {c:List DC} (ho:M.objs[o]?=some (.row c)) (hj:c[j]?=some (.im (.raw (.slice none 0 0)))) :
 let M':MS:={ M with objs:=M.objs.set o (.row (c.set j (.vec M.objs.length 0 0 0)))++[.vec 0 [] 0 true] }
 RelM G M'/\Ext M.objs.length M M':=by
 have hol:=e7 ho;have hjl:=e7 hj;have hm1:RelM G (M.idle (.vec 0 [] 0 true)):=hm.idle rfl ⟨λ_=>rfl,λh=>by cases h⟩;have he1:Ext M.objs.length M (M.idle (.vec 0 [] 0 true)):=Ext.idle (M:=M) rfl;have ho1:(M.idle (.vec 0 [] 0 true)).objs[o]?=some (.row c):=by simp only[MS.idle];rw[List.getElem?_append_left hol];exact ho
 have hr:=hm1.objs o _ ho1;obtain⟨cs,T,h1,h2,h3⟩:=hr;have hself:∀ (b:Nat) (x:Obj),(M.idle (.vec 0 [] 0 true)).w.heap[b]?=some x->({ (M.idle (.vec 0 [] 0 true)).w with heap:=(M.idle (.vec 0 [] 0 true)).w.heap.setIfInBounds b x }:World)=(M.idle (.vec 0 [] 0 true)).w:=λb x hx=>aA hx;have hturn:(M.idle (.vec 0 [] 0 true)).turn o (.cells cs T (0,0)) (.row (c.set j (.vec M.objs.length 0 0 0)))={ M with objs:=M.objs.set o (.row (c.set j (.vec M.objs.length 0 0 0)))++[.vec 0 [] 0 true] }:=by
  unfold MS.turn;rw[hself _ _ h1];simp only[MS.idle];rw[List.set_append_left _ _ hol]
 have hx:=Ext.turn (x:=.cells cs T (0,0)) (d':=.row (c.set j (.vec M.objs.length 0 0 0))) ho1 rfl trivial h1 rfl;have hm2:=hm1.turn (x:=.cells cs T (0,0)) (d':=.row (c.set j (.vec M.objs.length 0 0 0))) ho1 rfl trivial h1 rfl (by
  refine⟨cs,T,?_,by rw[List.length_set];exact h2,λi d v hd hv=>?_⟩
  ·have:=hself _ _ h1;unfold MS.turn;rw[this];exact h1
  ·by_cases e:i=j
   ·subst e;rw[List.getElem?_set_self hjl] at hd;cases hd;have hc:=h3 i _ v hj hv;have hv0:v=.slice none 0 0:=by
     cases hc with
     | im _ _ hc=>cases hc;rfl
    subst hv0;refine .vec _ 0 0 0 _ rfl (by simp[MS.turn,MS.idle]) λsz es g nl hg=>?_;have hg':(.vec 0 [] 0 true:DObj)=.vec sz es g nl:=by
     have:((M.idle (.vec 0 [] 0 true)).turn o (.cells cs T (0,0)) (.row (c.set i (.vec M.objs.length 0 0 0)))).objs[M.objs.length]?=some (.vec 0 [] 0 true):=by
      simp only[MS.turn,MS.idle];rw[List.getElem?_set_ne (by omega)];simp
     rw[this] at hg;cases hg;rfl
    cases hg';exact⟨Nat.le_refl _,λ_=>⟨λ_=>⟨rfl,rfl,rfl⟩,λh=>by cases h⟩⟩
   ·rw[List.getElem?_set_ne (Ne.symm e)] at hd;exact(h3 i d v hd hv).ext hx)
 rw[hturn] at hm2 hx;exact⟨hm2,he1.trans (hx.weaken (by simp[MS.idle]))⟩
theorem Weak.nilCell {n:Cx} {S:DS} (o j:Nat) {c:List DC} (ho:S.objs[o]?=some (.row c)) (hj:c[j]?=some (.im (.raw (.slice none 0 0)))) :
 Weak G n S { S with objs:=S.objs.set o (.row (c.set j (.vec S.objs.length 0 0 0)))++[.vec 0 [] 0 true] }:=by
 intro hn a M hr;obtain⟨h1,h2⟩:=hr.m.nilCell (by rw[hr.ob];exact ho) hj;refine⟨{ M with objs:=M.objs.set o (.row (c.set j (.vec M.objs.length 0 0 0)))++[.vec 0 [] 0 true] },rfl,⟨h1,by simp only[hr.ob],hr.nt,hr.df,λt d ht=>?_⟩,h2.weaken (by rw[hr.ob];exact hn)⟩;obtain⟨v,e1,e2⟩:=hr.tm t d ht;exact⟨v,e1,e2.ext h2⟩
end
inductive FlV:DV->Prop
 | one (v:Value):FlV (.one (.im (.raw v)))
 | agg (l:List DC):(∀ d∈l,∃ v,d=.im (.raw v))->FlV (.agg l)
 | tup (l:List DV):(∀ d∈l,FlV d)->FlV (.tup l)
theorem RepV.flat {M M':MS} {d:DV} {v:Value} (r:RepV M d v) (hf:FlV d):RepV M' d v:=by
 induction r with
 | one c v hc =>
   cases hf;cases hc with
   | im _ _ hc=>cases hc with
     | raw _ h=>exact .one _ _ (.im _ _ (.raw _ h))
 | agg l cs h1 h2 =>
   cases hf with
   | agg _ hall =>
     refine .agg _ _ h1 λj c v hj hv=>?_;obtain⟨c0,rfl⟩:=hall c (List.mem_of_getElem? hj);cases h2 j _ v hj hv with
     | im _ _ hc=>cases hc with
       | raw _ h=>exact .im _ _ (.raw _ h)
 | tup l vs h1 _ ih =>
   cases hf with
   | tup _ hall=>exact .tup _ _ h1 λj d v hj hv=>ih j d v hj hv (hall d (List.mem_of_getElem? hj))
theorem Cw (l:List DC):FlV (.agg l)↔∀ d∈l,∃ v,d=.im (.raw v):=⟨λh=>by cases h;assumption,.agg l⟩
theorem Cv (l:List DV):FlV (.tup l)↔∀ d∈l,FlV d:=⟨λh=>by cases h;assumption,.tup l⟩
attribute [simp] FlV.one Cw Cv
section
variable {P:Program} {G:IK}
theorem DCall.thaw {f:FuncId} {args args0:List DV} {d0:DV} {objs:List DObj} (h:∀ objs,DCall P G f args0 objs (λd o=>d=d0/\o=objs)) (ha:args0=args.map (eU 0 objs)) (hd:FlV d0) :
 DCall P G f args objs (λd objs'=>d=d0/\objs'=objs):=by
 intro M vs hm hob hvs hrep;subst hob;have hm0:=hm.drop (Nat.zero_le M.objs.length);refine(h [] (M.drop 0) vs hm0 (by simp[MS.drop,Q7]) (by rw[ha];simpa using hvs) λj d v hd hv=>?_).mono ?_
 ·rw[ha,List.getElem?_map,Option.map_eq_some_iff] at hd;obtain⟨d1,h1,rfl⟩:=hd;exact(hrep j d1 v h1 hv).drop hm (Nat.zero_le _)
 rintro e w' ⟨v,d,M1,rfl,rfl,hm1,hv,he,rfl,hq⟩;have same:∀ b,b<M.w.heap.size->b<M1.w.heap.size/\M1.w.heap[b]?=M.w.heap[b]?:=λb hb=>by
  have:=he.free b ⟨hb,λ⟨o,d,h1,_⟩=>by simp[MS.drop,Q7] at h1⟩;exact⟨this.1.1,this.2⟩
 have hext:Ext M.objs.length M { w:=M1.w,β:=M.β,objs:=M.objs,F:=M.F }:=by
  refine⟨Nat.le_refl _,λb hb=>⟨⟨(same b hb.1).1,hb.2⟩,(same b hb.1).2⟩,cq M,he.hs,λo _ c' hc=>⟨⟨c',hc⟩,rfl⟩,λo _ sz es g nl hv=>⟨sz,es,g,nl,hv,Nat.le_refl _,λ_=>⟨rfl,rfl,λhn=>⟨rfl,?_⟩⟩⟩,λo _ ks es hc=>⟨⟨ks,es,hc⟩,rfl⟩,λo _ r hc=>⟨⟨r,hc⟩,rfl⟩,λo _ d hc hi=>⟨⟨d,hc,hi⟩,rfl⟩,λo _ r hc=>⟨⟨r,hc⟩,rfl⟩,he.io⟩;simp only[F7];rw[(same _ (hm.lt o _ hv (by simp[DObj.blk,hn]))).2]
 exact⟨v,d,{ w:=M1.w,β:=M.β,objs:=M.objs,F:=M.F },rfl,rfl,
  ⟨λo d ho=>(hm.objs o d ho).ext hext (λ_=>rfl) (λhb=>(same _ (hm.lt o d ho hb)).2),λo d ho hb=>(same _ (hm.lt o d ho hb)).1,hm.inj,λg l hg=>(hm.glob g l hg).mono hext.ok,
   λb hb=>(same b (hm.fl b hb)).1,hm.own⟩,hv.flat hd,hext,rfl,rfl⟩
theorem CallE.thaw {f:FuncId} {args args0:List DV} {d0:DV} {objs:List DObj} {Q:DV->List DObj->Prop} {t:Tok Q} (h:∀ objs,DCall P G f args0 objs (λd o=>d=d0/\o=objs)) (ha:args0=args.map (eU 0 objs)) (hd:FlV d0) (hq:Q d0 objs):CallE P G f args objs Q t:=
 (DCall.thaw h ha hd).mono λd' objs' ⟨h1,h2⟩=>by rw[h1,h2];exact hq
theorem CallE.here {f:FuncId} {args:List DV} {d0:DV} {objs:List DObj} {Q:DV->List DObj->Prop} {t:Tok Q} (h:DCall P G f args objs (λd o=>d=d0/\o=objs)) (hq:Q d0 objs):CallE P G f args objs Q t:=
 h.mono λd' objs' ⟨h1,h2⟩=>by rw[h1,h2];exact hq
theorem RepC.fnOf {M:MS} {g:Fn} {cs:List IC} {v:Value} (h:RepC M (.im (.fn g cs)) v):RepC M (.fn g (cs.map .im)) v:=by
 cases h with
 | im _ _ h=>cases h with
   | fn _ _ vs h1 h2 =>
     refine .fn g _ vs (by simpa using h1) λj c v hj hv=>?_;rw[List.getElem?_map,Option.map_eq_some_iff] at hj;obtain⟨c0,h3,rfl⟩:=hj;exact .im _ _ (h2 j c0 v h3 hv)
theorem DCall.fnArg2 {f:FuncId} {a:DV} {g:Fn} {cs:List IC} {objs:List DObj} {Q:DV->List DObj->Prop} (h:DCall P G f [a,.one (.fn g (cs.map .im))] objs Q):DCall P G f [a,.one (.im (.fn g cs))] objs Q:=by
 intro M vs hm hob hvs hrep;refine h M vs hm hob hvs λj d v hd hv=>?_;match j with
 | 0=>exact hrep 0 d v hd hv
 | 1 =>
   simp at hd;subst hd;have:=hrep 1 _ v rfl hv;cases this with
   | one _ _ hc=>exact .one _ _ hc.fnOf
 | j+2=>simp at hd
end
section
variable {P:Program} {G:IK} {S:DS}
def s6 (k:Nat):List DObj:=List.replicate k .gone
theorem px {G:IK} {M:MS} (hm:RelM G M):∀ k,RelM G { M with objs:=M.objs++s6 k }/\Ext M.objs.length M { M with objs:=M.objs++s6 k }
 | 0=>by simp only[s6,List.replicate_zero,List.append_nil];exact⟨hm,Ext.refl M⟩
 | k+1=>by
   obtain⟨h1,h2⟩:=px hm k;have e:({ M with objs:=M.objs++s6 (k+1) }:MS)=MS.idle { M with objs:=M.objs++s6 k } .gone:=by
    simp only[MS.idle,s6,List.replicate_succ',List.append_assoc]
   rw[e];exact⟨h1.idle rfl trivial,h2.trans ((Ext.idle rfl).weaken (by simp))⟩
theorem DCall.freeze {f:FuncId} {args args0:List DV} {objs o1:List DObj} {d0:DV} (m:Nat) (h:DCall P G f args0 (Q7 m objs) (λd o=>d=d0/\o=o1)) (hm:m<=objs.length) (hl:o1.length=m)
 (ha:args0=args.map (eU m objs)) (hnl:∀ o r,m<=o->objs[o]?≠some (.loop r)) :
 DCall P G f args objs (λd o=>d=d0/\o=o1++s6 (objs.length-m)):=by
 intro M vs hM hob hvs hrep;subst hob;have hlen:(Q7 m M.objs).length=m:=by simp[Q7];omega
 refine(h (M.drop m) vs (hM.drop hm) rfl (by rw[ha];simpa using hvs) λj d v hd hv=>?_).mono ?_
 ·rw[ha,List.getElem?_map,Option.map_eq_some_iff] at hd;obtain⟨d1,h1,rfl⟩:=hd;exact(hrep j d1 v h1 hv).drop hM hm
 rintro e w' ⟨v,d,M1,rfl,rfl,hm1,hv,he,rfl,hq⟩;rw[hlen] at he;obtain⟨g1,g2⟩:=px hm1 (M.objs.length-m);have hl1:M1.objs.length=m:=by rw[hq];exact hl
 have hall:Ext m M { M1 with objs:=M1.objs++s6 (M.objs.length-m) }:=(Ext.drop hm).trans (he.trans (g2.weaken (by omega)));have hg:∀ o,m<=o->∀ d,(M1.objs++s6 (M.objs.length-m))[o]?=some d->d=.gone:=λo ho d hd=>by
  rw[List.getElem?_append_right (by omega)] at hd;simp only[s6,List.getElem?_replicate] at hd;split at hd<;>simp_all
 refine⟨v,d,{ M1 with objs:=M1.objs++s6 (M.objs.length-m) },rfl,rfl,g1,hv.ext g2,?_,rfl,by rw[hq]⟩;refine⟨by simp[s6];omega,hall.free,hall.other,hall.hs,λo ho c' hc=>?_,λo ho sz es' g nl hc=>?_,λo ho ks es' hc=>?_,λo ho r' hc=>?_,λo ho d' hc hit=>?_,λo ho r hc=>?_,hall.io⟩;all_goals rcases Nat.lt_or_ge o m with hlt|hge
 ·exact hall.row o hlt c' hc
 ·cases hg o hge _ hc
 ·exact hall.vec o hlt sz es' g nl hc
 ·cases hg o hge _ hc
 ·exact hall.map o hlt ks es' hc
 ·cases hg o hge _ hc
 ·exact hall.lp o hlt r' hc
 ·cases hg o hge _ hc
 ·exact hall.it o hlt d' hc hit
 ·rw[hg o hge _ hc] at hit;cases hit
 ·exact hall.lp' o hlt r hc
 ·exact absurd hc (hnl o r hge)
def w0:DObj->Bool
 | .loop _=>false
 | _=>true
theorem CallE.freeze {f:FuncId} {args args0:List DV} {objs objs0 o1:List DObj} {d0:DV} {Q:DV->List DObj->Prop} {t:Tok Q} (m:Nat) (h:DCall P G f args0 objs0 (λd o=>d=d0/\o=o1)) (ho:objs0=Q7 m objs) (ha:args0=args.map (eU m objs)) (hm:m<=objs.length) (hl:o1.length=m)
 (hnl:(objs.drop m).all w0=true) (hq:Q d0 (o1++s6 (objs.length-m))):CallE P G f args objs Q t:=
 (DCall.freeze m (ho ▸ h) hm hl ha λo r h1 h2=>by
  have h3:(objs.drop m)[o-m]?=some (.loop r):=by rw[List.getElem?_drop,show m+(o-m)=o by omega];exact h2
  have:=List.all_eq_true.1 hnl _ (List.mem_of_getElem? h3);cases this).mono λd o ⟨h1,h2⟩=>by rw[h1,h2];exact hq
def nilV (objs:List DObj):DV->DV
 | .one (.vec o g off len)=>match objs[o]? with
   | some (.vec _ _ g' nl)=>if g=g'/\nl=true then .one (.im (.raw (.slice none 0 0))) else .one (.vec o g off len)
   | _=>.one (.vec o g off len)
 | d=>d
theorem RepV.nilV {M:MS} {d:DV} {v:Value} (r:RepV M d v):RepV M (nilV M.objs d) v:=by
 cases r with
 | one c v hc =>
   cases hc with
   | vec o g off len v h1 h2 h3 =>
     simp only[Go.Ab.nilV];split
     ·rename_i sz es g' nl ho;split
      ·rename_i h4;obtain⟨rfl,rfl⟩:=h4;obtain⟨_,_,rfl⟩:=((h3 _ _ _ _ ho).2 rfl).1 rfl;exact .one _ _ (.im _ _ (.raw _ rfl))
      ·exact .one _ _ (.vec o g off len v h1 h2 h3)
     ·exact .one _ _ (.vec o g off len v h1 h2 h3)
   | im c v h=>exact .one _ _ (.im c v h)
   | ptr o off v h1 h2 h3=>exact .one _ _ (.ptr o off v h1 h2 h3)
   | ept o g i off v h1 h2 h3=>exact .one _ _ (.ept o g i off v h1 h2 h3)
   | fn f cs vs h1 h2=>exact .one _ _ (.fn f cs vs h1 h2)
   | map o v h1 h2 h3=>exact .one _ _ (.map o v h1 h2 h3)
   | yld o v h1 h2 h3=>exact .one _ _ (.yld o v h1 h2 h3)
   | itr o v h1 h2 h3=>exact .one _ _ (.itr o v h1 h2 h3)
   | dead v h1=>exact .one _ _ (.dead v h1)
 | agg l cs h1 h2=>exact .agg l cs h1 h2
 | tup l vs h1 h2=>exact .tup l vs h1 h2
theorem DCall.nil {f:FuncId} {args:List DV} {objs:List DObj} {Q:DV->List DObj->Prop} (h:DCall P G f args objs (λd objs'=>Q (nilV objs' d) objs')):DCall P G f args objs Q:=
 λM vs h1 h2 h3 h4=>(h M vs h1 h2 h3 h4).mono λ_ _ ⟨v,d,M',a1,a2,a3,a4,a5,a6⟩=>⟨v,nilV M'.objs d,M',a1,a2,a3,a4.nilV,a5,a6⟩
def emptyV (objs:List DObj):DV->DV
 | .one (.vec o g off 0)=>match objs[o]? with
   | some (.vec _ _ g' _)=>if g=g' then .one (.im (.sl [])) else .one (.vec o g off 0)
   | _=>.one (.vec o g off 0)
 | d=>d
theorem RepV.emptyV {M:MS} {d:DV} {v:Value} (r:RepV M d v):RepV M (emptyV M.objs d) v:=by
 unfold Go.Ab.emptyV;split
 ·rename_i o g off;split
  ·rename_i sz es g' nl ho;split
   ·rename_i h4;subst h4;cases r with
    | one _ _ hc=>cases hc with
      | vec _ _ _ _ _ h1 h2 h3 =>
        obtain⟨h5,h6⟩:=(h3 _ _ _ _ ho).2 rfl;cases nl with
        | true =>
          obtain⟨_,_,rfl⟩:=h5 rfl;exact .one _ _ (.im _ _ .slnil)
        | false =>
          obtain⟨x,cap,rfl,_⟩:=h6 rfl;exact .one _ _ (.im _ _ (.slz _ _))
   ·exact r
  ·exact r
 ·exact r
theorem CallE.empty {f:FuncId} {args args':List DV} {objs:List DObj} {Q:DV->List DObj->Prop} {t:Tok Q} (ha:args'=args.map (emptyV objs)) (h:CallE P G f args' objs Q t):CallE P G f args objs Q t:=by
 intro M vs hM hob hvs hrep;subst ha;refine h M vs hM hob (by simpa using hvs) λj d v hd hv=>?_;rw[List.getElem?_map,Option.map_eq_some_iff] at hd;obtain⟨d1,h1,rfl⟩:=hd;rw[<- hob];exact(hrep j d1 v h1 hv).emptyV
def H9 (objs:List DObj):DV->DV×List DObj
 | .one (.im (.raw (.slice none 0 0)))=>(.one (.vec objs.length 0 0 0),objs++[.vec 1 [] 0 true])
 | d=>(d,objs)
theorem CallE.idle {f:FuncId} {args:List DV} {objs:List DObj} {Q:DV->List DObj->Prop} {t:Tok Q} (h:CallE P G f args objs (λd o=>Q (H9 o d).1 (H9 o d).2) ⟨⟩):CallE P G f args objs Q t:=by
 intro M vs h1 h2 h3 h4;refine(h M vs h1 h2 h3 h4).mono λ_ _ ⟨v,d,M',a1,a2,a3,a4,a5,a6⟩=>?_;have a7:Q (H9 M'.objs d).1 (H9 M'.objs d).2:=a6;clear a6;generalize hx:H9 M'.objs d=x at a7;unfold H9 at hx;split at hx
 ·subst hx;refine⟨v,_,M'.idle (.vec 1 [] 0 true),a1,a2,a3.idle rfl ⟨λ_=>rfl,(λh=>by cases h)⟩,?_,a5.trans ((Ext.idle rfl).weaken a5.len),a7⟩;cases a4 with
  | one _ _ hc=>cases hc with
    | im _ _ hc=>cases hc with
      | raw _ hv =>
        refine .one _ _ (.vec _ _ _ _ _ rfl (by simp[MS.idle]) λsz es g nl ho=>?_);have:(M'.idle (DObj.vec 1 [] 0 true)).objs[M'.objs.length]?=some (DObj.vec 1 [] 0 true):=by simp[MS.idle]
        rw[this] at ho;cases ho;exact⟨Nat.le_refl _,λ_=>⟨λ_=>⟨rfl,rfl,rfl⟩,(λh=>by cases h)⟩⟩
 ·subst hx;exact⟨v,d,M',a1,a2,a3,a4,a5,a7⟩
end
def cr (p:List Nat) (o:Oper):Oper:={ dst:=o.dst,op:=o.op,type:=o.type,pos:=o.pos,after:=o.after.map λe=>{ on:=p.idxOf e.on,ground:=e.ground },guard:=o.guard }
def p5 (p:List Nat) (l:List Oper):List Nat->List Oper
 | []=>[]
 | k :: r=>match l[k]? with
   | some o=>cr p o :: p5 p l r
   | none=>p5 p l r
def nv (p:List Nat) (l:List Oper):Bool:=
 decide (p.length=l.length)&&p.Nodup&&(p.all λk=>decide (k<l.length))&&(l.all λo=>o.guard.isNone)&&((List.range l.length).all λk=>p.contains k)
theorem gL {p:List Nat} {l:List Oper}:∀ {q:List Nat},(∀ k∈q,k<l.length)->∀ i:Nat,(p5 p l q)[i]?=(q[i]?).bind λ(k:Nat)=>(l[k]?).map (cr p)
 | [],_,i=>by simp[p5]
 | k :: r,h,i=>by
   have hk:l[k]?=some (l[k]'(h k (by simp))):=List.getElem?_eq_getElem _;simp only[p5,hk];cases i with
   | zero=>simp[hk]
   | succ i=>simpa using gL (q:=r) (λk hk=>h k (by simp[hk])) i
theorem aP {p:List Nat} {l:List Oper}:∀ {q:List Nat},(∀ k∈q,k<l.length)->(p5 p l q).length=q.length
 | [],_=>rfl
 | k :: r,h=>by
   have hk:l[k]?=some (l[k]'(h k (by simp))):=List.getElem?_eq_getElem _;simp only[p5,hk,List.length_cons];rw[aP λk hk=>h k (by simp[hk])]
theorem dG {L:Array Bool} {i:Nat} (h:i<L.size):L.getD i true=L.getD i false:=by
 simp[h]
section
variable {P:Program} {p:List Nat} {l:List Oper} {F:Fence} {n:Nat} {Q:Exit->Act->World->Prop}
structure PermOk (p:List Nat) (l:List Oper):Prop where
 len:p.length=l.length
 nd:p.Nodup
 lt:∀ k∈p,k<l.length
 gd:∀ o∈l,o.guard=none
 sur:∀ k,k<l.length->k∈p
theorem iC (h:nv p l=true):PermOk p l:=by
 simp only[nv,Bool.and_eq_true,decide_eq_true_eq,List.all_eq_true,List.mem_range,List.contains_iff_mem,Option.isNone_iff_eq_none] at h;obtain⟨⟨⟨⟨h1,h2⟩,h3⟩,h4⟩,h5⟩:=h;exact⟨h1,h2,h3,h4,h5⟩
theorem eJ (hp:PermOk p l) {L L':Array Bool} (hL:L.size=l.length) (hL':L'.size=l.length) (hR:∀ i k,p[i]?=some k->L'.getD i false=L.getD k false) {i k:Nat} (h:p[i]?=some k) :
 i∈Region.ready .any (p5 p l p).toArray L'↔k∈Region.ready .any l.toArray L:=by
 have hi:i<p.length:=e7 h;have hk:k<l.length:=hp.lt k (List.mem_of_getElem? h);have e2:l[k]?=some l[k]:=List.getElem?_eq_getElem hk;have e1:(p5 p l p)[i]?=some (cr p l[k]):=by rw[gL hp.lt,h,Option.bind_some,e2,Option.map_some]
 have hlen:(p5 p l p).length=p.length:=aP hp.lt;simp only[Region.ready,List.mem_filter,List.mem_range,List.size_toArray,hlen,List.getElem?_toArray,e1,e2,Option.map_some,Option.getD_some,Bool.and_eq_true,hi,hk,true_and];rw[dG (by rw[hL',<- hp.len];exact hi),dG (by rw[hL];exact hk),hR i k h];refine and_congr_right λ_=>?_;have hall:((cr p l[k]).after.all λe=>!Region.binds .any e||L'.getD e.on false)=(l[k].after.all λe=>!Region.binds .any e||L.getD e.on false):=by
  simp only[cr,Array.all_map]
  congr 1
  funext e;have hb:Region.binds .any { on:=p.idxOf e.on,ground:=e.ground }=Region.binds .any e:=by cases e;rfl
  have hg:L'.getD (p.idxOf e.on) false=L.getD e.on false:=by
   by_cases hm:e.on∈p
   ·exact hR _ _ (by rw[List.getElem?_eq_getElem (List.idxOf_lt_length_of_mem hm)];simp)
   ·have h1:¬ e.on<l.length:=λhlt=>hm (hp.sur _ hlt);rw[List.idxOf_eq_length hm,hp.len];simp[Array.getD,hL,hL',h1]
  simp only[Function.comp_apply,hb,hg]
 rw[hall]
theorem jG (hp:PermOk p l):∀ (f:Nat) (L L':Array Bool) (a:Act) (w:World),L.size=l.length->L'.size=l.length->(∀ i k,p[i]?=some k->L'.getD i false=L.getD k false) ->
 wpAnyIn F n P .any (p5 p l p).toArray Q f L' a w->wpAnyIn F n P .any l.toArray Q f L a w:=by
 have back:∀ {L:Array Bool} {k:Nat},k∈Region.ready .any l.toArray L->∃ i,p[i]?=some k:=λhk=>by
  simp only[Region.ready,List.mem_filter,List.mem_range,List.size_toArray] at hk;exact List.mem_iff_getElem?.1 (hp.sur _ hk.1)
 have forth:∀ {L':Array Bool} {i:Nat},i∈Region.ready .any (p5 p l p).toArray L'->∃ k,p[i]?=some k:=λhi=>by
  simp only[Region.ready,List.mem_filter,List.mem_range,List.size_toArray,aP hp.lt] at hi;exact⟨_,List.getElem?_eq_getElem hi.1⟩
 have nil:∀ {L L':Array Bool},L.size=l.length->L'.size=l.length->(∀ i k,p[i]?=some k->L'.getD i false=L.getD k false)->(Region.ready .any (p5 p l p).toArray L'=[]↔Region.ready .any l.toArray L=[]):=λ{L L'} hL hL' hR=>by
  simp only[List.eq_nil_iff_forall_not_mem];constructor
  ·intro h k hk;obtain⟨i,hi⟩:=back hk;exact h i ((eJ hp hL hL' hR hi).2 hk)
  ·intro h i hi;obtain⟨k,hk⟩:=forth hi;exact h k ((eJ hp hL hL' hR hk).1 hi)
 intro f;induction f with
 | zero=>exact λL L' a w hL hL' hR h=>⟨(nil hL hL' hR).1 h.1,h.2⟩
 | succ f ih =>
   intro L L' a w hL hL' hR h;refine⟨λh0=>h.1 ((nil hL hL' hR).2 h0),λk hk=>?_⟩;obtain⟨i,hi⟩:=back hk;have h1:=h.2 i ((eJ hp hL hL' hR hi).2 hk);have hkl:k<l.length:=hp.lt k (List.mem_of_getElem? hi);have hip:i<p.length:=e7 hi;have e2:l[k]?=some l[k]:=List.getElem?_eq_getElem hkl;have e1:(p5 p l p)[i]?=some (cr p l[k]):=by rw[gL hp.lt,hi,Option.bind_some,e2,Option.map_some]
   have hg:l[k].guard=none:=hp.gd _ (List.getElem_mem hkl);have hw:∀ o y,o.guard=none->Region.wanted o y=true:=λo y h=>by simp[Region.wanted,h]
   unfold wpOpIn at h1 ⊢;simp only[List.getElem?_toArray,e1,hw (cr p l[k]) _ hg,if_true] at h1;simp only[List.getElem?_toArray,e2,hw _ _ hg,if_true];have h2:l[k].wpIn F n P a w (wpAnyIn F n P .any (p5 p l p).toArray Q f (L'.setIfInBounds i true)) Q:=h1;refine Oper.wpIn_mono (λa w hh=>ih _ _ a w (by simpa using hL) (by simpa using hL') (λi' k' hi'=>?_) hh) h2;have hne:i=i'↔k=k':=⟨λe=>by subst e;rw[hi] at hi';exact Option.some.inj hi',λe=>by
    subst e;have hip':i'<p.length:=e7 hi';have g1:p[i]=k:=by rw[List.getElem?_eq_getElem hip] at hi;exact Option.some.inj hi
    have g2:p[i']=k:=by rw[List.getElem?_eq_getElem hip'] at hi';exact Option.some.inj hi'
    rcases Nat.lt_trichotomy i i' with h|h|h
    ·exact absurd (g1.trans g2.symm) (List.pairwise_iff_getElem.1 hp.nd i i' hip hip' h)
    ·exact h
    ·exact absurd (g2.trans g1.symm) (List.pairwise_iff_getElem.1 hp.nd i' i hip' hip h)⟩
   have h3:=hR i' k' hi';by_cases e:i=i'
   ·have e':=hne.1 e;subst e;subst e';have h4:i<L'.size:=by rw[hL',<- hp.len];exact hip
    have h5:k<L.size:=by rw[hL];exact hkl
    simp[Array.getElem?_setIfInBounds,h4,h5]
   ·have e':k≠k':=λh=>e (hne.2 h);simp only[Array.getD_eq_getD_getElem?,Array.getElem?_setIfInBounds_ne e,Array.getElem?_setIfInBounds_ne e'] at h3 ⊢;exact h3
end
end Go.Ab
