/- Part 8 of the proofs. -/
import Derived.Test.YtlmlkkoapahmjaaGreatDoorS07
set_option linter.all false
set_option maxHeartbeats 100000000
namespace Go.Ab
open Go
section
variable {P:Program} {G:Hn} {nt:Nat} {objs:List DObj} {ops:Array Oper}
def ak (P:Program):List Oper->List (Nat×List Value)
 | []=>[]
 | o :: l=>match kL o.op,o.dst with
   | some t,some u=>match E5 P t with
     | some z=>(u,z) :: ak P l
     | none=>ak P l
   | _,_=>ak P l
theorem ft {M0 M:MS} {a:Act} {β':Nat->Nat}:∀ (is:List Nat) (l:List Oper),Al ops is l->is.Nodup ->
 (∀ i∈is,∀ o t u,ops[i]?=some o->o.op=.alloc t->o.dst=some u->∃ z,E5 P t=some z/\Hid M0 a M (u,z) (β' i)) ->
 (∀ i∈is,∀ k∈is,∀ o o' t t',ops[i]?=some o->ops[k]?=some o'->o.op=.alloc t->o'.op=.alloc t'->o.dst.isSome=true->o'.dst.isSome=true->β' i=β' k->i=k) ->
 ∃ bs:List Nat,(ak P l).length=bs.length/\(∀ (m:Nat) (x:Nat×List Value) (b:Nat),(ak P l)[m]?=some x->bs[m]?=some b->Hid M0 a M x b)/\bs.Nodup /\
  ∀ b∈bs,∃ i∈is,∃ o t,ops[i]?=some o/\o.op=.alloc t/\o.dst.isSome=true/\b=β' i
 | [],[],_,_,_,_=>⟨[],rfl,(λm x b h=>by simp[ak] at h),List.nodup_nil,(λb h=>by cases h)⟩
 | i :: is,o :: l,ha,hnd,h1,h2=>by
   obtain⟨ho,ha⟩:=ha;rw[List.nodup_cons] at hnd;obtain⟨bs,e1,e2,e3,e4⟩:=ft is l ha hnd.2 (λk hk=>h1 k (by simp[hk])) (λk hk m hm=>h2 k (by simp[hk]) m (by simp[hm]))
   have wide:∃ bs:List Nat,(ak P l).length=bs.length/\(∀ (m:Nat) (x:Nat×List Value) (b:Nat),(ak P l)[m]?=some x->bs[m]?=some b->Hid M0 a M x b)/\bs.Nodup /\
    ∀ b∈bs,∃ k∈i :: is,∃ o t,ops[k]?=some o/\o.op=.alloc t/\o.dst.isSome=true/\b=β' k:=
    ⟨bs,e1,e2,e3,λb hb=>let ⟨k,hk,r⟩:=e4 b hb;⟨k,by simp[hk],r⟩⟩
   simp only[ak];split
   ·rename_i t u hal hdst;have hop:=iA hal;obtain⟨z,hz,hh⟩:=h1 i (by simp) o t u ho hop hdst;rw[hz];refine⟨β' i :: bs,by simp[e1],λm x b hx hb=>?_,?_,λb hb=>?_⟩
    ·cases m with
     | zero=>simp at hx hb;subst hx;subst hb;exact hh
     | succ m=>exact e2 m x b (by simpa using hx) (by simpa using hb)
    ·rw[List.nodup_cons];refine⟨λhmem=>?_,e3⟩;obtain⟨k,hk,o',t',ho',hop',hs',he⟩:=e4 _ hmem;have:=h2 i (by simp) k (by simp[hk]) o o' t t' ho ho' hop hop' (by simp[hdst]) hs' he;exact hnd.1 (this ▸ hk)
    ·rcases List.mem_cons.1 hb with rfl|hb
     ·exact⟨i,by simp,o,t,ho,hop,by simp[hdst],rfl⟩
     ·obtain⟨k,hk,r⟩:=e4 b hb;exact⟨k,by simp[hk],r⟩
   ·exact wide
 | [],_ :: _,h,_,_,_=>h.elim
 | _ :: _,[],h,_,_,_=>h.elim
def pick (l:List Oper):List Nat->List Oper
 | []=>[]
 | i :: r=>match l[i]? with
   | some o=>o :: pick l r
   | none=>pick l r
theorem jN {l:List Oper}:∀ {is:List Nat},(∀ i∈is,i<l.length)->Al l.toArray is (pick l is)
 | [],_=>trivial
 | i :: r,h=>by
   have hi:l[i]?=some (l[i]'(h i (by simp))):=List.getElem?_eq_getElem _;simp only[pick,hi];exact⟨by simp[hi],jN λk hk=>h k (by simp[hk])⟩
theorem V5 {l:List Oper}:∀ {is:List Nat} {o:Oper},o∈pick l is->∃ i∈is,l[i]?=some o
 | [],o,h=>by cases h
 | i :: r,o,h=>by
   simp only[pick] at h;split at h
   ·rename_i o' ho';rcases List.mem_cons.1 h with rfl|h
    ·exact⟨i,by simp,ho'⟩
    ·obtain⟨k,hk,e⟩:=V5 h;exact⟨k,by simp[hk],e⟩
   ·obtain⟨k,hk,e⟩:=V5 h;exact⟨k,by simp[hk],e⟩
theorem V2 {l:List Oper} {is:List Nat} {i:Nat} {o:Oper} (hi:i∈is) (ho:l[i]?=some o):o∈pick l is:=by
 induction is with
 | nil=>cases hi
 | cons k r ih =>
   simp only[pick];rcases List.mem_cons.1 hi with rfl|hi
   ·rw[ho];simp
   ·split
    ·exact List.mem_cons_of_mem _ (ih hi)
    ·exact ih hi
def V9:List (Option Tmp)->Bool
 | []=>true
 | x :: r=>(x.isNone || !r.contains x)&&V9 r
theorem G2:∀ {l:List (Option Tmp)},V9 l=true->l.Pairwise (λx y=>x.isSome=true->x≠y)
 | [],_=>List.Pairwise.nil
 | x :: r,h=>by
   simp only[V9,Bool.and_eq_true,Bool.or_eq_true] at h;refine List.pairwise_cons.2 ⟨λy hy hs e=>?_,G2 h.2⟩;rcases h.1 with h1|h1
   ·simp[Option.isNone_iff_eq_none] at h1;rw[h1] at hs;cases hs
   ·simp at h1;exact h1 (e ▸ hy)
def lO:List Oper->List Nat
 | []=>[]
 | o :: l=>match o.dst with
   | some u=>u :: lO l
   | none=>lO l
theorem ky {u:Nat} {l:List Oper} {o:Oper} (h:o∈l) (hu:o.dst=some u):u∈lO l:=by
 induction l with
 | nil=>cases h
 | cons x l ih =>
   simp only[lO];rcases List.mem_cons.1 h with rfl|h
   ·rw[hu];simp
   ·split
    ·exact List.mem_cons_of_mem _ (ih h)
    ·exact ih h
def jS (n j:Nat):Array Bool:=((List.range n).map λi=>decide (i<=j)).toArray
def fS (nt j:Nat) (fl kt:List Nat) (l:List Oper):Bool:=
 decide (j<l.length)&&(fl.all λi=>decide (i<j))&&fl.Nodup &&
 (l.all λo=>match o.dst with|some t=>decide (t<nt)|none=>true)&&V9 (l.map (·.dst))&&V9 ((pick l fl).map (·.dst)) &&
 ((List.range l.length).all λk=>match l[k]? with|some o=>o.after.toList.all λe=>!Region.binds .any e||decide (e.on<k)|none=>true) &&
 ((List.range j).all λi=>(List.range j).all λk=>match l[i]?,l[k]? with
   | some o,some o'=>match o'.dst with|some u=>!(o.looksAt l.toArray).contains u||o.after.toList.any λe=>decide (e.on=k)&&Region.binds .any e|none=>true
   | _,_=>true) &&
 aP l.toArray (l.take j)&&aP l.toArray (pick l fl) &&
 ((List.range j).all λi=>fl.contains i||((br l []).getD j 0).testBit i) &&
 ((List.range l.length).all λk=>decide (k<=j)||(List.range (j+1)).all λi=>((br l []).getD k 0).testBit i) &&
 ((pick l fl).all λo=>match o.dst with|some u=>!kt.contains u|none=>true)&&((pick l fl).all λo=>(kL o.op).isNone) &&
 (match l[j]? with|some o=>o.guard.isNone|none=>false) &&
 qU l.toArray (l.length-(j+1)) (j+1) (jS l.length j)&&decide ((jS l.length j).toList.count false=l.length-(j+1))
theorem nh {l:Array Bool} {n j:Nat} (hs:l.size=n) (h:∀ i,i<n->(l.getD i false=true↔i<=j)):l=jS n j:=by
 refine Array.ext (by simp[jS,hs]) λi h1 h2=>?_;have h3:=h i (by omega);have h4:l.getD i false=l[i]:=by simp[h1]
 rw[h4] at h3;have h5:(jS n j)[i]=decide (i<=j):=by simp[jS]
 rw[h5];by_cases e:i<=j
 ·rw[h3.2 e,decide_eq_true e]
 ·rw[decide_eq_false e];cases hl:l[i]
  ·rfl
  ·exact absurd (h3.1 hl) e
theorem l5 {n i:Nat}:(Array.replicate n false).getD i false=false:=by
 rw[Array.getD_eq_getD_getElem?,Array.getElem?_replicate];split<;>rfl
theorem Gk {nt:Nat} {n:Cx} {l:List Oper} {S:DS} {Q:Exit->DS->Prop} (j:Nat) (fl kt ks:List Nat) (hnt:S.nt=nt) (hB:fS nt j fl kt l=true)
 (h:rX P G (l.map (·.dst)) (l.take j) S (λSq=>nX P G (l.map (·.dst)) (pick l [j]) (iO (Sq.keep kt) (ak P (l.take j))) (λS'=>rX P G (l.map (·.dst)) (pick l fl) S' (λSf =>
  cO (lO (pick l fl)) Sf.tmps Sq.tmps/\nX P G (l.map (·.dst)) (l.drop (j+1)) Sf (λS''=>At Q .normal ⟨⟩ (S''.keep ks)) ⟨⟩) ⟨⟩) ⟨⟩) ⟨⟩):n.n<=S.objs.length->∀ (a:Act) (M:MS),Rel G S a M ->
 wpAnyIn (u9 (n.rd.map M.β)) 0 P .any l.toArray (λe a' w'=>∃ S' M',M'.w=w'/\Rel G S' a' M'/\Ext n.n M M'/\NewD M a a'/\Q e S') l.length (Array.replicate l.length false) a { M.w with drawn:=M.w.drawn+1 }:=by
 intro hn a M hr;simp only[fS,Bool.and_eq_true,decide_eq_true_eq] at hB;obtain⟨⟨⟨⟨⟨⟨⟨⟨⟨⟨⟨⟨⟨⟨⟨⟨b1,b2⟩,b3⟩,b4⟩,b5⟩,b5'⟩,b6⟩,b7⟩,b8⟩,b9⟩,b10⟩,b11⟩,b12⟩,b13⟩,b14⟩,b15⟩,b16⟩:=hB;subst hnt;have hdst:∀ o∈l,∀ u,o.dst=some u->u<S.nt:=λo ho u hu=>by
  have:=List.all_eq_true.1 b4 o ho;simpa[hu] using this
 have hpw:=G2 b5;have hd:fi S.nt l.toArray:=by
  refine⟨λi o ho u hu=>hdst o (by simpa using Array.mem_of_getElem? ho) u hu,λi k o o' u ho ho' hu hu'=>?_⟩;have hi:l[i]?=some o:=by simpa using ho
  have hk:l[k]?=some o':=by simpa using ho'
  obtain⟨hil,hi'⟩:=List.getElem?_eq_some_iff.1 hi;obtain⟨hkl,hk'⟩:=List.getElem?_eq_some_iff.1 hk;rw[List.pairwise_iff_getElem] at hpw;rcases Nat.lt_trichotomy i k with hlt|he|hlt
  ·exact absurd (show (l.map (·.dst))[i]'(by simpa using hil)=(l.map (·.dst))[k]'(by simpa using hkl) by simp[hi',hk',hu,hu']) (hpw i k (by simpa using hil) (by simpa using hkl) hlt (by simp[hi',hu]))
  ·exact he
  ·exact absurd (show (l.map (·.dst))[k]'(by simpa using hkl)=(l.map (·.dst))[i]'(by simpa using hil) by simp[hi',hk',hu,hu']) (hpw k i (by simpa using hkl) (by simpa using hil) hlt (by simp[hk',hu']))
 have hback:∀ (k:Nat) (o:Oper),l.toArray[k]?=some o->∀ e∈o.after,Region.binds .any e=true->e.on<k:=λk o ho e he hb=>by
  have hk:l[k]?=some o:=by simpa using ho
  have:=List.all_eq_true.1 b6 k (by simpa using(List.getElem?_eq_some_iff.1 hk).1);rw[hk] at this;have:=List.all_eq_true.1 this e (by simpa using he);simpa[hb] using this
 have hdep:∀ i,i<j->∀ o,l.toArray[i]?=some o->∀ k,k<j->∀ o',l.toArray[k]?=some o'->∀ u,o'.dst=some u->u∈o.looksAt l.toArray->∃ e∈o.after,e.on=k/\Region.binds .any e=true:=λi hi o ho k hk o' ho' u hu hl=>by
  have h1:=List.all_eq_true.1 (List.all_eq_true.1 b7 i (by simpa using hi)) k (by simpa using hk);rw[show l[i]?=some o by simpa using ho,show l[k]?=some o' by simpa using ho'] at h1;simp only[hu,Bool.or_eq_true,Bool.not_eq_true',List.any_eq_true,Bool.and_eq_true,decide_eq_true_eq] at h1;rcases h1 with h1|⟨e,he,h2,h3⟩
  ·have:(o.looksAt l.toArray).contains u=true:=by simpa using hl
   rw[h1] at this;cases this
  ·exact⟨e,by simpa using he,h2,h3⟩
 have hmask:fx l.toArray (br l []):=af l [] (λj _=>by simp) (λj i oj _ h=>by simp at h);have hflj:∀ i∈fl,i<j:=λi hi=>by simpa using List.all_eq_true.1 b2 i hi
 obtain⟨oj,hoj⟩:∃ o,l[j]?=some o:=⟨l[j],List.getElem?_eq_getElem b1⟩
 have hoj':l.toArray[j]?=some oj:=by simpa using hoj
 rw[hoj] at b14;have hgj:oj.guard=none:=by simpa[Option.isNone_iff_eq_none] using b14
 have hnoal:∀ i∈fl,∀ o,l.toArray[i]?=some o->∀ t,o.op≠.alloc t:=λi hi o ho t=>by
  have:=List.all_eq_true.1 b13 o (V2 hi (by simpa using ho));exact bj (by simpa[Option.isNone_iff_eq_none] using this) t
 have hlater:∀ k listed,Closed l.toArray listed->k∈Region.ready .any l.toArray listed->j<k->∀ i,i<=j->listed.getD i false=true:=λk listed hcl hk hjk i hi=>by
  obtain⟨_,ok,hok,hall⟩:=mem_ready.1 hk;have h1:=List.all_eq_true.1 b11 k (by simpa using(Array.getElem?_eq_some_iff.1 hok).1);simp only[Bool.or_eq_true,decide_eq_true_eq] at h1;rcases h1 with h1|h1
  ·omega
  ·exact hmask k i ok hok (List.all_eq_true.1 h1 i (by simp;omega)) listed hcl hall
 have hpre:∀ listed,Closed l.toArray listed->j∈Region.ready .any l.toArray listed->∀ i,i<j->i∉fl->listed.getD i false=true:=λlisted hcl hk i hi hif=>by
  obtain⟨_,ok,hok,hall⟩:=mem_ready.1 hk;have h1:=List.all_eq_true.1 b10 i (by simpa using hi);simp only[Bool.or_eq_true,List.contains_iff_mem] at h1;rcases h1 with h1|h1
  ·exact absurd h1 hif
  ·exact hmask j i ok hok h1 listed hcl hall
 obtain⟨hm1,he1⟩:=RelM.same (w':={ M.w with drawn:=M.w.drawn+1 }) hr.m rfl ⟨rfl,rfl,rfl,by first|exact Nat.le_refl _|exact Nat.le_succ _⟩;have htake:∀ o∈l.take j,o∈l:=λo ho=>List.mem_of_mem_take ho;have hAl:∀ (k:Nat),k<=l.length->Al l.toArray (List.range k) (l.take k):=by
  have gen:∀ (m k:Nat),k+m<=l.length->Al l.toArray (List.range' k m) ((l.drop k).take m):=by
   intro m;induction m with
   | zero=>intro k _;simp[Al,List.range']
   | succ m ih =>
     intro k hk;have hk':k<l.length:=by omega
     rw[List.range'_succ,List.drop_eq_getElem_cons hk',List.take_succ_cons];exact⟨by simp,ih (k+1) (by omega)⟩
  intro k hk;have:=gen k 0 (by omega);rwa [List.drop_zero,<- List.range_eq_range'] at this
 obtain⟨Sq,hkq,q1,q2,q3,q4⟩:=V1 (P:=P) (G:=G) (ops:=l.toArray) (nt:=S.nt) (objs:=S.objs) (List.range j) (l.take j) S (hAl j (by omega)) rfl rfl (λo ho=>hdst o (htake o ho))
  (by rw[List.map_take];exact hpw.take) b8 (by simpa using h)
 let Md:MS:={ M with w:={ M.w with drawn:=M.w.drawn+1 } }
 have hMd:RelF G S.nt S.objs (m8 S.tmps) a Md:=⟨hm1,hr.ob,hr.nt,hr.df,λt d ht=>by
  obtain⟨v,h1,h2⟩:=hr.tm t d ht;exact⟨v,h1,h2.ext he1⟩⟩
 have hobs:M.objs.length=S.objs.length:=by rw[hr.ob]
 refine H8 (P:=P) (G:=G) (nt:=S.nt) (objs:=S.objs) (ops:=l.toArray) (ks:=List.range j) (τ:=m8 Sq.tmps) (M0:=Md) (base:=Array.replicate l.length false) (dfs:=a.defers) (ro:=n.rd.map M.β)
  (Q':=λe a' w'=>∃ S' M',M'.w=w'/\Rel G S' a' M'/\Ext n.n M M'/\NewD M a a'/\Q e S') hd q3 (λi hi o ho k hk=>hdep i (by simpa using hi) o ho k (by simpa using hk)) hback ?_ ?_ l.length _ a Md ?_
 ·
  intro f listed a2 M2 hi i hrdy hik;have hji:j<=i:=by simpa using hik
  have hjun:listed.getD j false≠true:=λe=>by
   rcases hi.only j e with h|h
   ·rw[l5] at h;cases h
   ·simp at h
  have hij:i=j:=by
   rcases Nat.eq_or_lt_of_le hji with h|h
   ·exact h.symm
   ·exact absurd (hlater i listed hi.cl hrdy h j (Nat.le_refl _)) hjun
  subst hij;have hpl:=hpre listed hi.cl hrdy;obtain⟨β',p1,p2⟩:=hi.pd;have half:∀ k∈List.range i,∀ o t,l.toArray[k]?=some o->o.op=.alloc t->listed.getD k false=true:=λk hk o t ho hop =>
   hpl k (by simpa using hk) λhf=>hnoal k hf o ho t hop
  obtain⟨bs,c1,c2,c3,_⟩:=ft (P:=P) (ops:=l.toArray) (M0:=Md) (M:=M2) (a:=a2) (β':=β') (List.range i) (l.take i) (hAl i (by omega)) List.nodup_range
   (λk hk o t u ho hop hu=>p1 k o t u hk ho hop hu (half k hk o t ho hop))
   (λk hk m hm' o o' t t' ho ho' hop hop' hs hs' e=>p2 k m o o' t t' hk hm' ho hop (half k hk o t ho hop) ho' hop' (half m hm' o' t' ho' hop') hs hs' e)
  have hrk:Rel G (Sq.keep kt) a2 M2:=by
   refine⟨hi.rel.m,hi.rel.ob.trans q2.symm,hi.rel.nt.trans q1.symm,hi.rel.df,λt d ht=>hi.rel.tm t d ?_⟩;have h1:=dG ht;have h2:=bH ht;unfold K8;rw[if_pos]
   ·exact h2
   ·intro k hk o ho hu;by_cases hf:k∈fl
    ·have:=List.all_eq_true.1 b12 o (V2 hf (by simpa using ho));rw[hu] at this;simp at this;exact absurd h1 this
    ·exact hpl k (by simpa using hk) hf
  obtain⟨MT,t1,t2,t3,t4,t5⟩:=bZ (M0:=Md) (n:=S.objs.length) hm1 (ak P (l.take i)) bs (Sq.keep kt) M2 hrk hi.ext (by rw[hi.rel.ob];exact Nat.le_refl _) c1 c2 c3;have hpk:pick l [i]=[oj]:=by simp[pick,hoj]
  rw[hpk] at hkq;obtain⟨b,hw,ht,hf⟩:=J0 _ _ _ hkq;have hbt:b=true:=by
   unfold C2 at hw;rw[hgj] at hw;exact(Option.some.inj hw).symm
  subst hbt;have hwant:Region.wanted oj (yielded l.toArray a2.tmps)=true:=by simp[Region.wanted,hgj]
  unfold wpOpIn;simp only[hoj',hwant,if_true];rw[<- t4];refine Y5 (jQ (ht rfl (n.rd.map M.β) a2 MT t1)) ?_;rintro a3 w3 ⟨⟨S3,M3,rfl,r3,e3,d3,k3⟩,v,hput⟩;have hsz3:S3.nt=S.nt:=by
   rw[<- r3.nt,hput,<- hi.rel.nt];cases oj.dst<;>simp[Act.put]
  have hpm:∀ o∈pick l fl,o∈l:=λo ho=>let ⟨k,_,hk⟩:=V5 ho;List.mem_of_getElem? hk
  obtain⟨Sf,⟨hsame,hkf⟩,f1,f2,f3,f4⟩:=V1 (P:=P) (G:=G) (ops:=l.toArray) (nt:=S.nt) (objs:=S3.objs) fl (pick l fl) S3 (jN λk hk=>by have:=hflj k hk;omega) hsz3 rfl (λo ho=>hdst o (hpm o ho)) (G2 b5') b9
   (by simpa using(show rX P G (l.map (·.dst)) (pick l fl) S3 _ ⟨⟩ from k3))
  have hlt3:(listed.setIfInBounds i true).size=l.length:=by simpa using hi.sz
  have hlisj:(listed.setIfInBounds i true).getD i false=true:=by
   have:i<listed.size:=by rw[hi.sz];simpa using b1
   simp[this]
  have fin:∀ f' listed' a4 M4,Inv P G S.nt S3.objs l.toArray fl (m8 Sf.tmps) M3 (listed.setIfInBounds i true) a.defers f' listed' a4 M4->(∀ k∈fl,listed'.getD k false=true) ->
   wpAnyIn (u9 (n.rd.map M.β)) 0 P .any l.toArray (λe a' w'=>∃ S' M',M'.w=w'/\Rel G S' a' M'/\Ext n.n M M'/\NewD M a a'/\Q e S') f' listed' a4 M4.w:=by
   intro f' listed' a4 M4 hi4 hfl4;have hL:listed'=jS l.length i:=by
    refine nh (by simpa using hi4.sz) λk hk=>⟨λhkl=>?_,λhkl=>?_⟩
    ·rcases hi4.only k hkl with h1|h1
     ·rcases o9 h1 with rfl|h1
      ·exact Nat.le_refl _
      ·rcases hi.only k h1 with h2|h2
       ·rw[l5] at h2;cases h2
       ·have:k<i:=by simpa using h2
        omega
     ·have:=hflj k h1;omega
    ·by_cases hkf:k∈fl
     ·exact hfl4 k hkf
     ·refine hi4.has k ?_;rcases Nat.eq_or_lt_of_le hkl with rfl|hlt
      ·exact hlisj
      ·exact getD_set_true (hpl k hlt hkf)
   have hf':f'=(l.drop (i+1)).length:=by rw[<- hi4.cn,hL,b16];simp
   have hrel:Rel G Sf a4 M4:=⟨hi4.rel.m,by rw[hi4.rel.ob,f2],by rw[hi4.rel.nt,f1],hi4.rel.df,λt d ht=>hi4.rel.tm t d (by
    unfold K8;rw[if_pos]
    ·exact ht
    ·exact λk hk _ _ _=>hfl4 k hk)⟩
   have hS3:S.objs.length<=S3.objs.length:=by rw[<- r3.ob];exact Nat.le_trans t3 e3.len
   have hn4:n.n<=M4.objs.length:=by rw[hi4.rel.ob];have:=hS3;omega
   have eM4:Ext n.n M M4:=((he1.weaken (by rw[hobs];exact hn)).trans (t2.weaken hn)).trans ((e3.weaken (Nat.le_trans hn t3)).trans (hi4.ext.weaken (Nat.le_trans hn hS3)));rw[hf',hL];refine O3 (P:=P) (G:=G) (ops:=l.toArray) (ro:=n.rd.map M.β) n.n (λS''=>At Q .normal ⟨⟩ (S''.keep ks)) (l.drop (i+1)) (i+1) _ Sf a4 M4 (λk hk=>by simp) (by rw[List.length_drop];exact b15) hrel hn4 (by simpa using J0 _ _ _ hkf) ?_;intro S5 a5 M5 hr5 he5 hd5 hq5;obtain⟨M6,w6,r6,e6⟩:=Weak.keep (G:=G) (n:=n) (S:=S5) (ks:=ks) (by rw[<- hr5.ob];exact he5.len) a5 M5 hr5;exact⟨_,M6,w6,r6,eM4.trans (he5.trans e6),.same (hd5.trans hi4.df),hq5⟩
  refine H8 (P:=P) (G:=G) (nt:=S.nt) (objs:=S3.objs) (ops:=l.toArray) (ks:=fl) (τ:=m8 Sf.tmps) (M0:=M3) (base:=listed.setIfInBounds i true) (dfs:=a.defers) (ro:=n.rd.map M.β) hd f3
   (λk hk o ho m hm'=>hdep k (hflj k hk) o ho m (hflj m hm')) hback ?_ ?_ f _ a3 M3 ?_
  ·intro f' listed' a4 M4 hi4 k hk4 hkf;have hkj:i<k:=by
    rcases Nat.lt_or_ge i k with h|h
    ·exact h
    ·exfalso;have h0:=(mem_ready.1 hk4).1;have h1:listed'.getD k false=true:=by
      refine hi4.has k ?_;rcases Nat.eq_or_lt_of_le h with rfl|hlt
      ·exact hlisj
      ·exact getD_set_true (hpl k hlt hkf)
     rcases Nat.lt_or_ge k listed'.size with h'|h'
     ·simp[h'] at h0 h1;rw[h0] at h1;cases h1
     ·simp[Array.getElem?_eq_none h'] at h1
   exact(fin _ listed' a4 M4 hi4 λm hm'=>hlater k listed' hi4.cl hk4 hkj m (Nat.le_of_lt (hflj m hm'))).2 k hk4
  ·intro listed' a4 M4 hi4;refine(fin 0 listed' a4 M4 hi4 λm hm'=>?_).2;have hnot:=List.count_eq_zero.1 hi4.cn;have hml:m<listed'.size:=by rw[hi4.sz];have:=hflj m hm';simp;omega
   cases hv:listed'[m] with
   | true=>simp[hml,hv]
   | false=>exact absurd (by rw[<- hv];exact Array.getElem_mem_toList hml) hnot
  ·refine⟨by simpa using hi.sz,bV (mem_ready.1 hrdy).1 hi.cn,hi.cl.step hrdy,⟨r3.m,r3.ob,by rw[r3.nt,hsz3],r3.df,λt d ht=>?_⟩,by rw[<- r3.ob];exact Ext.refl M3,d3.trans hi.df,⟨λ_=>0,λk o t u hk ho hop=>absurd hop (hnoal k hk o ho t),λk m o o' t t' hk _ ho hop=>absurd hop (hnoal k hk o ho t)⟩,λ_ h=>.inl h,λ_ h=>h⟩;unfold K8 at ht;split at ht
   ·rename_i hvis;by_cases hfd:∃ k∈fl,∃ o,l.toArray[k]?=some o/\o.dst=some t
    ·obtain⟨k,hk,o,ho,hu⟩:=hfd;have hkl:listed.getD k false=true:=(o9 (hvis k hk o ho hu)).resolve_left (by have:=hflj k hk;omega);have h1:m8 Sf.tmps t=m8 Sq.tmps t:=bI hsame (ky (V2 hk (by simpa using ho)) hu);obtain⟨x,x1,x2⟩:=hi.rel.tm t d (by
      unfold K8;rw[if_pos]
      ·rw[<- h1];exact ht
      ·intro m hm' o' ho' hu';have:=hd.2 k m o o' t ho ho' hu hu';subst this;exact hkl)
     refine⟨x,?_,(t5 d x x2).ext e3⟩;rw[hput];cases hdj:oj.dst with
     | none=>exact x1
     | some y =>
       have hne:y≠t:=λe=>by
        have:=hd.2 i k oj o t hoj' ho (by rw[hdj,e]) hu;have:=hflj k hk;omega
       simp only[Act.put];rw[Array.getElem?_setIfInBounds_ne hne];exact x1
    ·have h1:m8 Sf.tmps t=m8 S3.tmps t:=f4 t λo ho hu=>by
      obtain⟨k,hk,hk'⟩:=V5 ho;exact hfd ⟨k,hk,o,by simpa using hk',hu⟩
     exact r3.tm t d (by rw[<- h1];exact ht)
   ·cases ht
 ·intro listed a2 M2 hi;exfalso;have hnot:=List.count_eq_zero.1 hi.cn;have hjl:j<listed.size:=by rw[hi.sz];simpa using b1
  have hjt:listed.getD j false=true:=by
   cases hv:listed[j] with
   | true=>simp[hjl,hv]
   | false=>exact absurd (by rw[<- hv];exact Array.getElem_mem_toList hjl) hnot
  rcases hi.only j hjt with h|h
  ·rw[l5] at h;cases h
  ·simp at h
 ·refine⟨by simp,by simp,λk o _ hk=>?_,⟨hMd.m,hMd.ob,hMd.nt,hMd.df,λt d ht=>?_⟩,by rw[<- hr.ob];exact Ext.refl Md,rfl,⟨λ_=>0,λk o t u _ _ _ _ hk=>?_,λk m o o' t t' _ _ _ _ hk=>?_⟩,λk hk=>?_,λ_ h=>h⟩
  ·rw[l5] at hk;cases hk
  ·unfold K8 at ht;split at ht
   ·rename_i hvis;refine hMd.tm t d ?_;rw[<- q4 t λo ho hu=>?_]
    ·exact ht
    ·obtain⟨k,hk⟩:=List.mem_iff_getElem?.1 ho;have hkj:k<j:=by
      have:=(List.getElem?_eq_some_iff.1 hk).1;simp at this;omega
     rw[List.getElem?_take_of_lt hkj] at hk;have:=hvis k (by simpa using hkj) o (by simpa using hk) hu;rw[l5] at this;cases this
   ·cases ht
  ·rw[l5] at hk;cases hk
  ·rw[l5] at hk;cases hk
  ·rw[l5] at hk;cases hk
theorem q8 {id nt:Nat} {n:Cx} {l:List Oper} {S:DS} {Q:Exit->DS->Prop} (j:Nat) (fl kt ks:List Nat) (hm:P.follows .mixedOrders=true) (hnt:S.nt=nt) (hB:fS nt j fl kt l=true)
 (h:rX P G (l.map (·.dst)) (l.take j) S (λSq=>nX P G (l.map (·.dst)) (pick l [j]) (iO (Sq.keep kt) (ak P (l.take j))) (λS'=>rX P G (l.map (·.dst)) (pick l fl) S' (λSf =>
  cO (lO (pick l fl)) Sf.tmps Sq.tmps/\nX P G (l.map (·.dst)) (l.drop (j+1)) Sf (λS''=>At Q .normal ⟨⟩ (S''.keep ks)) ⟨⟩) ⟨⟩) ⟨⟩) ⟨⟩):DT P G n (.region id l.toArray true) S Q:=
 λhn _ a M hr=>wpIn_region_any hm (Gk j fl kt ks hnt hB h hn a M hr)
end
section
variable {P:Program} {G:Hn} {S:DS}
theorem si {o:Oper} {t:TypeId} {ps:Array (Nat×Operand)} {z:List Value} {pl:List (Nat×Nat)} {qs:List (Nat×List DC)} {r:List DC} (ho:o.op=.build t ps) (hz:E5 P t=some z) (hp:z.all v7=true)
 (hpl:l7 P t=some pl) (hq:L9 G S ps.toList=some qs) (hr:ab (pl[·]?) (zcells z S.objs.length).1 qs=some r):OpV P G o S (.agg r) (S.objs++(zcells z S.objs.length).2):=by
 intro a M hrel;obtain⟨M',k1,k2,k3,k4,k5,k6⟩:=X3 z M hrel.m hp;obtain⟨v,hrun,hv⟩:=X7 (w:=M.w) hz;obtain⟨h1,h2⟩:=N2 hrel _ _ hq;subst hv;rw[hrel.ob] at k3 k5 k6
 obtain⟨ra,e1,e2,e3⟩:=W0 (M:=M') (place:=(pl[·]?)) qs _ (zcells v.cells.toList S.objs.length).1 v.cells r (by simpa using k5) (λj d x hd hx=>k6 j d x hd (by simpa using hx)) h1
  (λj p q hp' hq'=>by
   obtain⟨a1,a2,a3⟩:=h2 j p q hp' hq';exact⟨a1,a2,λk d x hd hx=>(a3 k d x hd hx).ext k4⟩) hr
 refine⟨.agg ra,M',.inl ?_,k2,k3,k4,.agg _ _ e2 e3⟩;rw[k1];unfold l7 at hpl;split at hpl
 ·rename_i fs hu;have hpl':=dJ (P:=P) (w:=M.w) fs.toList pl hpl;simp only[execOp,ho,Instr.build,Sem.run_bind,hrun,Result.andThen_ok,e8 hu,Array.mapM_eq_mapM_toList,Sem.run_map,hpl'];have e1':Instr.fill (λx=>pl.toArray[x]?) v.cells (Array.map (λx=>(x.1,a.eval x.2)) ps).toList=some ra:=by simpa using e1
  simp only[e1'];rfl
 ·rename_i n e hu;obtain⟨sz,hs,rfl⟩:=Option.map_eq_some_iff.1 hpl;have e1':Instr.fill (λi=>some (i*sz,sz)) v.cells (Array.map (λx=>(x.1,a.eval x.2)) ps).toList=some ra:=by
   have:=dR (p':=λi=>some (i*sz,sz)) (λi x h=>cS h) _ _ _ e1;simpa using this
  simp only[execOp,ho,Instr.build,Sem.run_bind,hrun,Result.andThen_ok,e8 hu,o5 hs,e1'];rfl
 ·cases hpl
def nR (P:Program) (G:Hn) (S:DS) (t:TypeId) (ps:Array (Nat×Operand)):Out:=match E5 P t,l7 P t,L9 G S ps.toList with
 | some z,some pl,some qs=>if z.all v7=true then (match ab (pl[·]?) (zcells z S.objs.length).1 qs with
   | some r=>.val (.agg r) (S.objs++(zcells z S.objs.length).2)
   | none=>.bad) else .bad
 | _,_,_=>.bad
def nC:Op->Option (TypeId×Array (Nat×Operand))
 | .build t ps=>some (t,ps)
 | _=>none
theorem mA {op:Op} {p:TypeId×Array (Nat×Operand)} (h:nC op=some p):op=.build p.1 p.2:=by
 cases op<;>simp[nC] at h;subst h;rfl
def qo (P:Program) (G:Hn) (S:DS) (op:Op) (ty:TypeId):Option (TypeId×Array (Nat×Operand))->Out
 | some p=>nR P G S p.1 p.2
 | none=>U9 P G S op ty
def DI (P:Program) (G:Hn) (dsts:List (Option Tmp)):List Oper->DS->(K:DS->Prop)->Tok K->Prop
 | [],S,K,_=>K S
 | o :: l,S,K,tk=>lT (C2 dsts S o)
  (Next P G S.objs (qo P G S o.op o.type (nC o.op)) (λd objs'=>DI P G dsts l (DS.put { S with objs:=objs' } o.dst d) K tk) ⟨⟩)
  (DI P G dsts l (S.put o.dst (.tup [])) K tk) ⟨⟩
theorem ed {dsts:List (Option Tmp)}:∀ (l:List Oper) (S:DS) (K:DS->Prop),DI P G dsts l S K ⟨⟩->RT P G dsts l S K
 | [],S,K,h=>h
 | o :: l,S,K,h=>by
   rw[DI] at h;generalize hb:C2 dsts S o=r at h;cases r with
   | none=>exact h.elim
   | some b =>
     refine⟨b,hb,λe=>?_,λe=>ed l _ K (h.2 e)⟩;have h1:=h.1 e;generalize hi:nC o.op=q at h1;cases q with
     | none=>exact fu (λd objs' hk=>ed l _ K hk) h1
     | some p =>
       simp only[qo,nR] at h1;split at h1
       ·rename_i z pl qs hz hpl hqs;split at h1
        ·rename_i hp;split at h1
         ·rename_i r hr;exact OpT.of_val (si (mA hi) hz hp hpl hqs hr) (ed l _ K h1)
         ·exact h1.elim
        ·exact h1.elim
       ·exact h1.elim
variable {n:Cx} {Q:Exit->DS->Prop}
theorem O2 {id nt:Nat} {l:List Oper} (ks:List Nat) (_hnt:S.nt=nt) (h:DI P G (l.map (·.dst)) l S (λS'=>At Q .normal ⟨⟩ (S'.keep ks)) ⟨⟩):DT P G n (.region id l.toArray false) S Q:=by
 have h1:=iT (id:=id) (n:=n) (Q:=λe S'=>e=.normal/\Q .normal (S'.keep ks)) (gR (ed l S _ h) (λS' h=>⟨rfl,h⟩));intro hn hd a M hr;refine wpIn_mono (h1 hn hd a M hr) ?_;rintro e a' w' ⟨S',M',rfl,hr',he,hnd,rfl,hq⟩;obtain⟨M2,w2,r2,e2⟩:=Weak.keep (G:=G) (n:=n) (S:=S') (ks:=ks) (by rw[<- hr'.ob];exact he.len) a' M' hr';exact⟨_,M2,w2,r2,he.trans e2,hnd,hq⟩
end
attribute [simp] DI nC qo nR
mutual
def jz (e:Nat->Nat):DC->DC
 | .im c=>.im c
 | .ptr o off=>.ptr (e o) off
 | .ept o gen idx off=>.ept (e o) gen idx off
 | .vec o gen off len=>.vec (e o) gen off len
 | .fn f caps=>.fn f (rnL e caps)
 | .map o=>.map (e o)
 | .yld o=>.yld (e o)
 | .itr o=>.itr (e o)
 | .dead=>.dead
def rnL (e:Nat->Nat):List DC->List DC
 | []=>[]
 | c :: r=>jz e c :: rnL e r
end
theorem aw (e:Nat->Nat):∀ l:List DC,rnL e l=l.map (jz e)
 | []=>rfl
 | c :: r=>by rw[rnL,aw e r];rfl
mutual
def jx (e:Nat->Nat):DV->DV
 | .one c=>.one (jz e c)
 | .agg l=>.agg (rnL e l)
 | .tup l=>.tup (rnVL e l)
def rnVL (e:Nat->Nat):List DV->List DV
 | []=>[]
 | c :: r=>jx e c :: rnVL e r
end
theorem cQ (e:Nat->Nat):∀ l:List DV,rnVL e l=l.map (jx e)
 | []=>rfl
 | c :: r=>by rw[rnVL,cQ e r];rfl
def eQ (e:Nat->Nat):DObj->DObj
 | .row c=>.row (rnL e c)
 | .vec sz es g nl=>.vec sz (es.map (rnL e)) g nl
 | .map ks es=>.map ks (es.map λx=>(x.1,rnL e x.2))
 | .loop r=>.loop { r with tm:=r.tm.map λx=>(x.1,jx e x.2) }
 | .iter l c=>.iter l c
 | .liter b s c=>.liter b s c
 | .gone=>.gone
theorem fR (e:Nat->Nat) (d:DObj):(eQ e d).isIt=d.isIt:=by cases d<;>rfl
theorem J8 (e:Nat->Nat) (d:DObj):(eQ e d).blk=d.blk:=by cases d<;>rfl
def D6 (es:List Nat) (n o:Nat):Nat:=(es[o]?).getD (n+(o-es.length))
theorem jv (e:Nat->Nat) (l:List DC):F3 (rnL e l)=jx e (F3 l):=by
 match l with
 | []=>rfl
 | [c]=>rfl
 | a :: b :: r=>rfl
theorem nn (e:Nat->Nat) (l:List IC):rnL e (l.map .im)=l.map .im:=by
 rw[aw,List.map_map];rfl
theorem jy {e:Nat->Nat} {l:List DC} {j:Nat} {d:DC} (h:(rnL e l)[j]?=some d):∃ d0,l[j]?=some d0/\d=jz e d0:=by
 rw[aw,List.getElem?_map,Option.map_eq_some_iff] at h;obtain⟨d0,h1,h2⟩:=h;exact⟨d0,h1,h2.symm⟩
theorem K3 (e:Nat->Nat) (l:List DC):(rnL e l).length=l.length:=by rw[aw,List.length_map]
structure See (e:Nat->Nat) (M0 M:MS):Prop where
 w:M0.w=M.w
 ok:∀ b,M0.ok b->M.ok b
 lt:∀ o,o<M0.objs.length->e o<M.objs.length
 get:∀ o d,o<M0.objs.length->M.objs[e o]?=some d->∃ d0,M0.objs[o]?=some d0/\d=eQ e d0
 β:∀ o,o<M0.objs.length->M.β (e o)=M0.β o
theorem RepC.rn {e:Nat->Nat} {M0 M:MS} (h:See e M0 M) {c:DC} {v:Value} (r:RepC M0 c v):RepC M (jz e c) v:=by
 induction r with
 | im c v hi=>exact .im c v (h.w ▸ hi.mono λb hb=>⟨h.ok b hb,rfl⟩)
 | ptr o off v h1 ho hc =>
   refine .ptr _ off v h1 (h.lt o ho) λc hc'=>?_;obtain⟨d0,g1,g2⟩:=h.get o _ ho hc';cases d0<;>simp only[eQ,reduceCtorEq] at g2;rw[h.β o ho];exact hc _ g1
 | ept o gen idx off v h1 ho hc =>
   refine .ept _ gen idx off v h1 (h.lt o ho) λsz es g nl hc'=>?_;obtain⟨d0,g1,g2⟩:=h.get o _ ho hc';cases d0<;>simp only[eQ,reduceCtorEq] at g2;injection g2 with a1 a2 a3 a4
   subst a1;subst a3;subst a4;rw[h.β o ho];exact hc _ _ _ _ g1
 | vec o gen off len v h1 ho hc =>
   refine .vec _ gen off len v h1 (h.lt o ho) λsz es g nl hc'=>?_;obtain⟨d0,g1,g2⟩:=h.get o _ ho hc';cases d0<;>simp only[eQ,reduceCtorEq] at g2;injection g2 with a1 a2 a3 a4
   subst a1;subst a3;subst a4;rw[h.β o ho,<- h.w];exact hc _ _ _ _ g1
 | fn f caps vs hl _ ih =>
   refine .fn f _ vs (by rw[K3];exact hl) λj c v hj hv=>?_;obtain⟨d0,g1,rfl⟩:=jy hj;exact ih j d0 v g1 hv
 | map o v h1 ho hc =>
   refine .map _ v h1 (h.lt o ho) λks c hc'=>?_;obtain⟨d0,g1,g2⟩:=h.get o _ ho hc';cases d0<;>simp only[eQ,reduceCtorEq] at g2;rw[h.β o ho];exact hc _ _ g1
 | yld o v h1 ho hc =>
   refine .yld _ v h1 (h.lt o ho) λr hc'=>?_;obtain⟨d0,g1,g2⟩:=h.get o _ ho hc';cases d0<;>simp only[eQ,reduceCtorEq] at g2;rw[h.β o ho];exact hc _ g1
 | itr o v h1 ho hc =>
   refine .itr _ v h1 (h.lt o ho) λd hc' hi=>?_;obtain⟨d0,g1,g2⟩:=h.get o _ ho hc';rw[h.β o ho];exact hc _ g1 (by rw[g2,fR] at hi;exact hi)
 | dead v h1=>exact .dead v h1
theorem wD {e:Nat->Nat} {l:List DV} {j:Nat} {d:DV} (h:(rnVL e l)[j]?=some d):∃ d0,l[j]?=some d0/\d=jx e d0:=by
 rw[cQ,List.getElem?_map,Option.map_eq_some_iff] at h;obtain⟨d0,h1,h2⟩:=h;exact⟨d0,h1,h2.symm⟩
theorem RepV.rn {e:Nat->Nat} {M0 M:MS} (h:See e M0 M) {c:DV} {v:Value} (r:RepV M0 c v):RepV M (jx e c) v:=by
 induction r with
 | one c v hc=>exact .one _ _ (hc.rn h)
 | agg l cs hl hc =>
   refine .agg _ cs (by rw[K3];exact hl) λj c v hj hv=>?_;obtain⟨d0,g1,rfl⟩:=jy hj;exact(hc j d0 v g1 hv).rn h
 | tup l vs hl _ ih =>
   refine .tup _ vs (by rw[cQ,List.length_map];exact hl) λj c v hj hv=>?_;obtain⟨d0,g1,rfl⟩:=wD hj;exact ih j d0 v g1 hv
theorem RelO.rn {e:Nat->Nat} {M0 M:MS} (h:See e M0 M) {o:Nat} (ho:o<M0.objs.length) {d:DObj} (r:RelO M0 o d):RelO M (e o) (eQ e d):=by
 have hh:M.w.heap[M.β (e o)]?=M0.w.heap[M0.β o]?:=by rw[h.β o ho,h.w]
 cases d with
 | row cells =>
   obtain⟨c,T,h1,h2,h3⟩:=r;refine⟨c,T,hh.trans h1,by rw[K3];exact h2,λj d v hj hv=>?_⟩;obtain⟨d0,g1,rfl⟩:=jy hj;exact(h3 j d0 v g1 hv).rn h
 | vec sz es g nl =>
   obtain⟨h0,hf⟩:=r;refine⟨λhn=>by simp only[h0 hn,List.map_nil],λhn=>?_⟩;obtain⟨hz,c,T,h1,h2,h3,h4⟩:=hf hn;refine⟨hz,c,T,hh.trans h1,by simpa using h2,λi x hx=>?_,λi x j d v hx hd hv=>?_⟩
   ·rw[List.getElem?_map,Option.map_eq_some_iff] at hx;obtain⟨x0,g1,rfl⟩:=hx;rw[K3];exact h3 i x0 g1
   ·rw[List.getElem?_map,Option.map_eq_some_iff] at hx;obtain⟨x0,g1,rfl⟩:=hx;obtain⟨d0,g2,rfl⟩:=jy hd;exact(h4 i x0 j d0 v g1 g2 hv).rn h
 | map ks es =>
   obtain⟨ents,clock,h1,hst,hsh,h2,h3⟩:=r;refine⟨ents,clock,hh.trans h1,by rw[h.β o ho];exact hst,λx hx=>?_,by simpa using h2,λi x en hx he=>?_⟩
   ·obtain⟨x0,g1,rfl⟩:=List.mem_map.1 hx;exact hsh x0 g1
   ·rw[List.getElem?_map,Option.map_eq_some_iff] at hx;obtain⟨x0,g1,rfl⟩:=hx;obtain⟨a1,a2,a3⟩:=h3 i x0 en g1 he;exact⟨a1,a2,by simp only[jv];exact a3.rn h⟩
 | loop lr =>
   obtain⟨fn,tmps,D,h1,h2,h3⟩:=r;refine⟨fn,tmps,D,hh.trans h1,h2,λt d ht=>?_⟩;obtain⟨d0,g1,rfl⟩:=jE (f:=jx e) ht;obtain⟨v,e1,e2⟩:=h3 t d0 g1;exact⟨v,e1,e2.rn h⟩
 | iter left cur =>
   obtain⟨bm,seen,ents,clock,h1,h2,h3,h4,h5,h6,h7⟩:=r;have hE:∀ {x:List Value×List IC} {en:MapEntry},X2 M0 x en->X2 M x en:=λ{x en} ⟨b1,b2,b3⟩=>⟨b1,b2,by
    have:=b3.rn h;rw[<- jv,nn] at this;exact this⟩
   exact⟨bm,seen,ents,clock,hh.trans h1,h.ok bm h2,by rw[<- h.w];exact h3,h4,h5,λi x en a b=>hE (h6 i x en a b),λx hx=>by
    obtain⟨en,a,b,c⟩:=h7 x hx;exact⟨en,a,b,hE c⟩⟩
 | liter b seen c=>exact hh.trans r
 | gone=>trivial
structure Part (e:Nat->Nat) (M0 M:MS):Prop where
 w:M0.w=M.w
 ok:∀ b,M.ok b->M0.ok b
 lt:∀ o,e o<M.objs.length->o<M0.objs.length
 get:∀ o d0,M0.objs[o]?=some d0->M.objs[e o]?=some (eQ e d0)
 β:∀ o,M0.β o=M.β (e o)
theorem RepC.un {e:Nat->Nat} {M0 M:MS} (h:Part e M0 M) {c:DC} {v:Value} {d:DC} (r:RepC M d v):d=jz e c->RepC M0 c v:=by
 induction r generalizing c with
 | im x v hi=>intro hd;cases c<;>simp only[jz,reduceCtorEq] at hd;cases hd;exact .im _ v (h.w.symm ▸ hi.mono λb hb=>⟨h.ok b hb,rfl⟩)
 | ptr o off v h1 ho hc =>
   intro hd;cases c<;>simp only[jz,reduceCtorEq] at hd;cases hd;refine .ptr _ off v h1 (h.lt _ ho) λc hc'=>?_;rw[h.β];exact hc _ (h.get _ _ hc')
 | ept o gen idx off v h1 ho hc =>
   intro hd;cases c<;>simp only[jz,reduceCtorEq] at hd;cases hd;refine .ept _ gen idx off v h1 (h.lt _ ho) λsz es g nl hc'=>?_;rw[h.β];exact hc _ _ _ _ (h.get _ _ hc')
 | vec o gen off len v h1 ho hc =>
   intro hd;cases c<;>simp only[jz,reduceCtorEq] at hd;cases hd;refine .vec _ gen off len v h1 (h.lt _ ho) λsz es g nl hc'=>?_;rw[h.β,h.w];exact hc _ _ _ _ (h.get _ _ hc')
 | fn f caps vs hl _ ih =>
   intro hd;cases c<;>simp only[jz,reduceCtorEq] at hd;cases hd;refine .fn f _ vs (by rw[K3] at hl;exact hl) λj c v hj hv=>?_;exact ih j (jz e c) v (by rw[aw,List.getElem?_map,hj];rfl) hv rfl
 | map o v h1 ho hc =>
   intro hd;cases c<;>simp only[jz,reduceCtorEq] at hd;cases hd;refine .map _ v h1 (h.lt _ ho) λks c hc'=>?_;rw[h.β];exact hc _ _ (h.get _ _ hc')
 | yld o v h1 ho hc =>
   intro hd;cases c<;>simp only[jz,reduceCtorEq] at hd;cases hd;refine .yld _ v h1 (h.lt _ ho) λr hc'=>?_;rw[h.β];exact hc _ (h.get _ _ hc')
 | itr o v h1 ho hc =>
   intro hd;cases c<;>simp only[jz,reduceCtorEq] at hd;cases hd;refine .itr _ v h1 (h.lt _ ho) λd hc' hi=>?_;rw[h.β];exact hc _ (h.get _ _ hc') (by rw[fR];exact hi)
 | dead v h1=>intro hd;cases c<;>simp only[jz,reduceCtorEq] at hd;exact .dead v h1
theorem RepV.un {e:Nat->Nat} {M0 M:MS} (h:Part e M0 M) {c:DV} {v:Value} {d:DV} (r:RepV M d v):d=jx e c->RepV M0 c v:=by
 induction r generalizing c with
 | one x v hc=>intro hd;cases c<;>simp only[jx,reduceCtorEq] at hd;cases hd;exact .one _ _ (hc.un h rfl)
 | agg l cs hl hc =>
   intro hd;cases c<;>simp only[jx,reduceCtorEq] at hd;cases hd;refine .agg _ cs (by rw[K3] at hl;exact hl) λj c v hj hv=>?_;exact(hc j (jz e c) v (by rw[aw,List.getElem?_map,hj];rfl) hv).un h rfl
 | tup l vs hl _ ih =>
   intro hd;cases c<;>simp only[jx,reduceCtorEq] at hd;cases hd;refine .tup _ vs (by rw[cQ,List.length_map] at hl;exact hl) λj c v hj hv=>?_;exact ih j (jx e c) v (by rw[cQ,List.getElem?_map,hj];rfl) hv rfl
theorem RelO.un {e:Nat->Nat} {M0 M:MS} (h:Part e M0 M) {o:Nat} {d:DObj} (r:RelO M (e o) (eQ e d)):RelO M0 o d:=by
 have hh:M0.w.heap[M0.β o]?=M.w.heap[M.β (e o)]?:=by rw[h.β o,h.w]
 cases d with
 | row cells =>
   obtain⟨c,T,h1,h2,h3⟩:=r;refine⟨c,T,hh.trans h1,by rw[K3] at h2;exact h2,λj d v hj hv=>?_⟩;exact(h3 j (jz e d) v (by rw[aw,List.getElem?_map,hj];rfl) hv).un h rfl
 | vec sz es g nl =>
   obtain⟨h0,hf⟩:=r;refine⟨λhn=>by simpa using h0 hn,λhn=>?_⟩;obtain⟨hz,c,T,h1,h2,h3,h4⟩:=hf hn;refine⟨hz,c,T,hh.trans h1,by simpa using h2,λi x hx=>?_,λi x j d v hx hd hv=>?_⟩
   ·have:=h3 i (rnL e x) (by rw[List.getElem?_map,hx];rfl);rw[K3] at this;exact this
   ·exact(h4 i (rnL e x) j (jz e d) v (by rw[List.getElem?_map,hx];rfl) (by rw[aw,List.getElem?_map,hd];rfl) hv).un h rfl
 | map ks es =>
   obtain⟨ents,clock,h1,hst,hsh,h2,h3⟩:=r;refine⟨ents,clock,hh.trans h1,by rw[h.β o];exact hst,λx hx=>?_,by simpa using h2,λi x en hx he=>?_⟩
   ·exact hsh (x.1,rnL e x.2) (List.mem_map.2 ⟨x,hx,rfl⟩)
   ·obtain⟨a1,a2,a3⟩:=h3 i (x.1,rnL e x.2) en (by rw[List.getElem?_map,hx];rfl) he;exact⟨a1,a2,a3.un h (jv e x.2)⟩
 | loop lr =>
   obtain⟨fn,tmps,D,h1,h2,h3⟩:=r;refine⟨fn,tmps,D,hh.trans h1,h2,λt d ht=>?_⟩;have gm:∀ (l:List (Nat×DV)) (t:Nat) (d:DV),m8 l t=some d->m8 (l.map λx=>(x.1,jx e x.2)) t=some (jx e d):=by
    intro l;induction l with
    | nil=>intro t d h;cases h
    | cons p r ih =>
      intro t d h;simp only[m8,List.map_cons] at h ⊢;split at h
      ·rename_i hp;rw[if_pos hp];cases h;rfl
      ·rename_i hp;rw[if_neg hp];exact ih t d h
   obtain⟨v,e1,e2⟩:=h3 t (jx e d) (gm _ _ _ ht);exact⟨v,e1,e2.un h rfl⟩
 | iter left cur =>
   obtain⟨bm,seen,ents,clock,h1,h2,h3,h4,h5,h6,h7⟩:=r;have hE:∀ {x:List Value×List IC} {en:MapEntry},X2 M x en->X2 M0 x en:=λ{x en} ⟨b1,b2,b3⟩=>⟨b1,b2,b3.un h (by rw[<- jv,nn])⟩
   exact⟨bm,seen,ents,clock,hh.trans h1,h.ok bm h2,by rw[h.w];exact h3,h4,h5,λi x en a b=>hE (h6 i x en a b),λx hx=>by
    obtain⟨en,a,b,c⟩:=h7 x hx;exact⟨en,a,b,hE c⟩⟩
 | liter b seen c=>exact hh.trans r
 | gone=>trivial
theorem aU {es:List Nat} {n o:Nat} (h:o<es.length):D6 es n o=es[o]:=by simp[D6,h]
theorem iE {es:List Nat} {n o:Nat} (h:es.length<=o):D6 es n o=n+(o-es.length):=by simp[D6,List.getElem?_eq_none h]
theorem dV {es:List Nat} {n o:Nat} (hes:∀ x∈es,x<n):D6 es n o<n↔o<es.length:=by
 constructor
 ·intro h;refine Nat.lt_of_not_le λhge=>?_;rw[iE hge] at h;omega
 ·intro h;rw[aU h];exact hes _ (List.getElem_mem h)
theorem AT {es:List Nat} {n:Nat} (hes:∀ x∈es,x<n) (hnd:es.Nodup) {i j:Nat} (h:D6 es n i=D6 es n j):i=j:=by
 by_cases hi:i<es.length
 ·have hj:j<es.length:=(dV hes).1 (h ▸ (dV hes).2 hi);rw[aU hi,aU hj] at h;exact(List.getElem_inj hnd).1 h
 ·have hj:¬ j<es.length:=λhj=>hi ((dV hes).1 (h ▸ (dV hes).2 hj));rw[iE (by omega),iE (by omega)] at h;omega
def ig:List Nat->List DObj->List DObj->List DObj
 | k :: ks,d :: ds,objs=>ig ks ds (objs.set k d)
 | _,_,objs=>objs
theorem O6:∀ (ks:List Nat) (ds objs:List DObj),(ig ks ds objs).length=objs.length
 | [],_,_=>by simp[ig]
 | _ :: _,[],_=>by simp[ig]
 | k :: ks,d :: ds,objs=>by rw[ig,O6 ks ds];simp
theorem eU:∀ (ks:List Nat) (ds objs:List DObj) (p:Nat),p∉ks->(ig ks ds objs)[p]?=objs[p]?
 | [],_,_,_,_=>by simp[ig]
 | _ :: _,[],_,_,_=>by simp[ig]
 | k :: ks,d :: ds,objs,p,h=>by
   rw[ig,eU ks ds _ p (λhp=>h (by simp[hp])),List.getElem?_set_ne (λe=>h (by simp[e]))]
theorem oH:∀ (ks:List Nat) (ds objs:List DObj) (i:Nat),ks.Nodup->(∀ x∈ks,x<objs.length)->ks.length<=ds.length->(hi:i<ks.length)->(ig ks ds objs)[ks[i]]?=ds[i]?
 | [],_,_,_,_,_,_,hi=>by simp at hi
 | k :: ks,[],objs,i,_,_,hl,_=>by simp at hl
 | k :: ks,d :: ds,objs,i,hn,hlt,hl,hi=>by
   rw[List.nodup_cons] at hn;rw[ig];cases i with
   | zero =>
     simp only[List.getElem_cons_zero,List.getElem?_cons_zero];rw[eU ks ds _ k hn.1,List.getElem?_set_self (hlt k (by simp))]
   | succ i =>
     simp only[List.getElem_cons_succ,List.getElem?_cons_succ];exact oH ks ds _ i hn.2 (λx hx=>by simpa using hlt x (by simp[hx])) (by simpa using hl) (by simpa using hi)
def u7 (es:List Nat) (objs o:List DObj):List DObj:=
 ig es ((o.take es.length).map (eQ (D6 es objs.length))) objs++(o.drop es.length).map (eQ (D6 es objs.length))
theorem eX {es:List Nat} {objs o:List DObj} (hes:∀ x∈es,x<objs.length) (hnd:es.Nodup) (hl:es.length<=o.length) (i:Nat):(u7 es objs o)[D6 es objs.length i]?=(o[i]?).map (eQ (D6 es objs.length)):=by
 unfold u7;by_cases hi:i<es.length
 ·have h1:=(dV (n:=objs.length) hes).2 hi;rw[List.getElem?_append_left (by rw[O6];exact h1),aU hi];rw[oH es _ objs i hnd hes (by simp;omega) hi,List.getElem?_map,List.getElem?_take_of_lt hi]
 ·rw[iE (by omega),List.getElem?_append_right (by rw[O6];omega),O6,List.getElem?_map,List.getElem?_drop];rw[show es.length+(objs.length+(i-es.length)-objs.length)=i by omega]
theorem fZ {es:List Nat} {objs o:List DObj} {p:Nat} (hp:p<objs.length) (hn:p∉es):(u7 es objs o)[p]?=objs[p]?:=by
 unfold u7;rw[List.getElem?_append_left (by rw[O6];exact hp),eU _ _ _ _ hn]
theorem lI {es:List Nat} {objs o:List DObj}:(u7 es objs o).length=objs.length+(o.length-es.length):=by
 simp[u7,O6]
theorem nw {es:List Nat} {objs o:List DObj} (hes:∀ x∈es,x<objs.length) (hnd:es.Nodup) (hl:es.length<=o.length) {p:Nat} {d:DObj} (h:(u7 es objs o)[p]?=some d) :
 (∃ i d0,p=D6 es objs.length i/\o[i]?=some d0/\d=eQ (D6 es objs.length) d0)\/(p<objs.length/\p∉es/\objs[p]?=some d):=by
 by_cases hp:p<objs.length
 ·by_cases hm:p∈es
  ·obtain⟨i,hi,rfl⟩:=List.mem_iff_getElem.1 hm;rw[<- aU (n:=objs.length) hi,eX hes hnd hl,Option.map_eq_some_iff] at h;obtain⟨d0,h1,h2⟩:=h;exact .inl ⟨i,d0,(aU hi).symm,h1,h2.symm⟩
  ·rw[fZ hp hm] at h;exact .inr ⟨hp,hm,h⟩
 ·have he:p=D6 es objs.length (es.length+(p-objs.length)):=by rw[iE (by omega)];omega
  rw[he,eX hes hnd hl,Option.map_eq_some_iff] at h;obtain⟨d0,h1,h2⟩:=h;exact .inl ⟨_,d0,he,h1,h2.symm⟩
section
variable {P:Program} {G:Hn}
theorem DCall.embed {f:FuncId} {args0:List DV} {objs0 objs:List DObj} {Q0:DV->List DObj->Prop} (es:List Nat) (h:DCall P G f args0 objs0 Q0)
 (hl:es.length=objs0.length) (hnd:es.Nodup) (hes:∀ x∈es,x<objs.length)
 (hobj:∀ i d,objs0[i]?=some d->objs[D6 es objs.length i]?=some (eQ (D6 es objs.length) d)) :
 DCall P G f (args0.map (jx (D6 es objs.length))) objs (λd o=>∃ d0 o0,Q0 d0 o0/\objs0.length<=o0.length/\d=jx (D6 es objs.length) d0/\o=u7 es objs o0):=by
 intro M vs hm hob hvs hrep;subst hob;generalize he:D6 es M.objs.length=e at *;have heb:∀ o,D6 es M.objs.length o=e o:=λo=>congrFun he o;have hei:∀ {i j},e i=e j->i=j:=λ{i j} h=>AT (n:=M.objs.length) hes hnd (by rw[heb,heb];exact h);have helt:∀ {i},e i<M.objs.length↔i<es.length:=λ{i}=>by rw[<- heb];exact dV hes
 have hmem:∀ {i},i<es.length->e i∈es:=λ{i} hi=>by rw[<- heb,aU hi];exact List.getElem_mem hi
 have hofmem:∀ {p},p∈es->∃ i,i<es.length/\p=e i:=λ{p} hp=>by
  obtain⟨i,hi,rfl⟩:=List.mem_iff_getElem.1 hp;exact⟨i,hi,by rw[<- heb,aU hi]⟩
 obtain⟨M0,hM0⟩:∃ M0:MS,M0={ w:=M.w,β:=λi=>M.β (e i),objs:=objs0,F:=λb=>M.F b\/∃ p d,p∉es/\M.objs[p]?=some d/\d.blk=true/\M.β p=b }:=⟨_,rfl⟩
 have hw0:M0.w=M.w:=by rw[hM0]
 have hb0:∀ i,M0.β i=M.β (e i):=λi=>by rw[hM0]
 have ho0:M0.objs=objs0:=by rw[hM0]
 have hF0:∀ b,M0.F b↔M.F b\/∃ p d,p∉es/\M.objs[p]?=some d/\d.blk=true/\M.β p=b:=λb=>by rw[hM0]
 have hlive:∀ b,M0.live b->M.live b:=λb ⟨o,d,h1,h2,h3⟩=>by
  rw[ho0] at h1;rw[hb0] at h3;exact⟨e o,eQ e d,hobj o d h1,by rw[J8];exact h2,h3⟩
 have hlive':∀ b,M.live b->M0.live b\/∃ p d,p∉es/\M.objs[p]?=some d/\d.blk=true/\M.β p=b:=λb ⟨o,d,h1,h2,h3⟩=>by
  by_cases hm':o∈es
  ·obtain⟨i,hi,rfl⟩:=hofmem hm';have hio:i<objs0.length:=by omega
   have:=hobj i objs0[i] (by simp[hio]);rw[h1] at this;cases this;exact .inl ⟨i,objs0[i],by rw[ho0];simp[hio],by rw[J8] at h2;exact h2,by rw[hb0];exact h3⟩
  ·exact .inr ⟨o,d,hm',h1,h2,h3⟩
 have hok:∀ b,M0.ok b↔M.ok b:=λb=>by
  simp only[MS.ok,MS.free,hw0];constructor
  ·rintro⟨⟨h1,h2⟩,h3⟩;rw[hF0] at h3;exact⟨⟨h1,λhv=>(hlive' b hv).elim h2 λhx=>h3 (.inr hx)⟩,λhf=>h3 (.inl hf)⟩
  ·rintro⟨⟨h1,h2⟩,h3⟩;rw[hF0];exact⟨⟨h1,λhv=>h2 (hlive b hv)⟩,λhx=>hx.elim h3 λ⟨p,d,_,a1,a2,a3⟩=>h2 ⟨p,d,a1,a2,a3⟩⟩
 have hpart:Part e M0 M:=⟨hw0,λb hb=>(hok b).2 hb,λo ho=>by rw[ho0,<- hl];exact helt.1 ho,λo d0 hd=>hobj o d0 (by rw[<- ho0];exact hd),hb0⟩
 have hm0:RelM G M0:=by
  refine⟨λo d ho=>?_,λo d ho hb=>?_,λo o' d d' ho ho' hb hb' hβ=>?_,λg l hg=>?_,λb hb=>?_,λo d ho hb hF=>?_⟩
  ·exact(hm.objs (e o) (eQ e d) (hpart.get o d ho)).un hpart
  ·rw[hb0,hw0];exact hm.lt (e o) _ (hpart.get o d ho) (by rw[J8];exact hb)
  ·rw[hb0,hb0] at hβ;exact hei (hm.inj _ _ _ _ (hpart.get o d ho) (hpart.get o' d' ho') (by rw[J8];exact hb) (by rw[J8];exact hb') hβ)
  ·rw[hw0];exact(hm.glob g l hg).mono λb hb=>⟨(hok b).2 hb,rfl⟩
  ·rw[hw0];rcases (hF0 b).1 hb with hb|⟨p,d,_,h1,h2,h3⟩
   ·exact hm.fl b hb
   ·exact h3 ▸ hm.lt p d h1 h2
  ·rw[hb0] at hF;rcases (hF0 _).1 hF with hF|⟨p,d',hp,h1,h2,h3⟩
   ·exact hm.own _ _ (hpart.get o d ho) (by rw[J8];exact hb) hF
   ·have:=hm.inj _ _ _ _ h1 (hpart.get o d ho) h2 (by rw[J8];exact hb) h3;have ho':o<objs0.length:=by rw[<- ho0];exact e7 ho
    exact hp (this ▸ hmem (by omega))
 have hvs0:vs.size=args0.length:=by simpa using hvs
 rw[<- hw0];refine(h M0 vs hm0 ho0 hvs0 λj d v hd hv=>(hrep j (jx e d) v (by rw[List.getElem?_map,hd];rfl) hv).un hpart rfl).mono ?_;rintro ex w' ⟨v,d,M1,rfl,rfl,hm1,hv,hx,hq⟩;have hlen1:es.length<=M1.objs.length:=by rw[hl];exact hx.len
 obtain⟨M2,hM2⟩:∃ M2:MS,M2={ w:=M1.w,β:=λp=>if p<M.objs.length then (match es.idxOf? p with|some i=>M1.β i|none=>M.β p) else M1.β (es.length+(p-M.objs.length)),objs:=u7 es M.objs M1.objs,F:=M.F }:=⟨_,rfl⟩
 have hw2:M2.w=M1.w:=by rw[hM2]
 have ho2:M2.objs=u7 es M.objs M1.objs:=by rw[hM2]
 have hF2:M2.F=M.F:=by rw[hM2]
 have hb2:∀ i,M2.β (e i)=M1.β i:=λi=>by
  rw[hM2];simp only;by_cases hi:i<es.length
  ·rw[if_pos (helt.2 hi)];have hidx:es.idxOf? (e i)=some i:=by
    rw[List.idxOf?,List.findIdx?_eq_some_iff_getElem];refine⟨hi,by rw[<- heb,aU hi];simp,λj hj=>?_⟩;rw[<- heb,aU hi];simp only[beq_iff_eq];intro hE;have:=(List.getElem_inj hnd).1 hE;omega
   rw[hidx]
  ·rw[if_neg (λhlt=>hi (helt.1 hlt)),<- heb,iE (by omega)]
   congr 1;omega
 have hb2':∀ p,p<M.objs.length->p∉es->M2.β p=M.β p:=λp hp hn=>by
  rw[hM2];simp only;rw[if_pos hp];have:es.idxOf? p=none:=by
   rw[List.idxOf?,List.findIdx?_eq_none_iff];intro x hx;simp only[beq_eq_false_iff_ne,ne_eq];rintro rfl;exact hn hx
  rw[this]
 have hcases:∀ {p d},M2.objs[p]?=some d->(∃ i d0,p=e i/\M1.objs[i]?=some d0/\d=eQ e d0)\/(p<M.objs.length/\p∉es/\M.objs[p]?=some d):=λ{p d} hd=>by
  rw[ho2] at hd;have:=nw hes hnd hlen1 hd;rw[he] at this;exact this
 have hget:∀ i,M2.objs[e i]?=(M1.objs[i]?).map (eQ e):=λi=>by
  have:=eX hes hnd hlen1 i;rw[he] at this;rw[ho2];exact this
 have hother:∀ p,p<M.objs.length->p∉es->M2.objs[p]?=M.objs[p]?:=λp hp hn=>by rw[ho2];exact fZ hp hn
 have hfr:∀ b,b<M.w.heap.size->¬ M0.live b->b<M1.w.heap.size/\M1.w.heap[b]?=M.w.heap[b]?/\¬ M1.live b:=λb hb hn=>by
  have:=hx.free b ⟨by rw[hw0];exact hb,hn⟩;rw[hw0] at this;exact⟨this.1.1,this.2,this.1.2⟩
 have hpF:∀ {p d},p<M.objs.length->p∉es->M.objs[p]?=some d->d.blk=true->M0.F (M.β p):=λ{p d} _ hn hd hb=>(hF0 _).2 (.inr ⟨p,d,hn,hd,hb,rfl⟩);have hpnl:∀ {p d},p∉es->M.objs[p]?=some d->d.blk=true->¬ M0.live (M.β p):=λ{p d} hn hd hb ⟨o,d',h1,h2,h3⟩=>by
  rw[hb0] at h3;have h4:=hpart.get o d' h1;have:=hm.inj _ _ _ _ h4 hd (by rw[J8];exact h2) hb h3;rw[ho0] at h1;have:=e7 h1
  subst_vars
  exact hn (hmem (by omega))
 have hlive2:∀ b,M2.live b->M1.live b\/∃ p d,p∉es/\p<M.objs.length/\M.objs[p]?=some d/\d.blk=true/\M.β p=b:=λb ⟨p,d,h1,h2,h3⟩=>by
  rcases hcases h1 with⟨i,d0,rfl,h4,rfl⟩|⟨h4,h5,h6⟩
  ·rw[hb2] at h3;rw[J8] at h2;exact .inl ⟨i,d0,h4,h2,h3⟩
  ·rw[hb2' p h4 h5] at h3;exact .inr ⟨p,d,h5,h4,h6,h2,h3⟩
 have hF1:∀ b,M0.F b->M1.F b:=hx.other.1;have hin:∀ {i d},objs0[i]?=some d->i<es.length:=λ{i d} hd=>by have:=e7 hd;omega
 have hsame:∀ {p d},p<M.objs.length->p∉es->M.objs[p]?=some d->d.blk=true->M1.w.heap[M.β p]?=M.w.heap[M.β p]?:=λ{p d} hp hn hd hb=>(hfr _ (hm.lt p d hd hb) (hpnl hn hd hb)).2.1;have hext:Ext M.objs.length M M2:=by
  refine⟨by rw[ho2,lI];omega,λb hb=>?_,⟨λb hb=>by rw[hF2];exact hb,λb hb=>by rw[hF2];exact hb.2⟩,by rw[hw2,<- hw0];exact hx.hs,λp hp c' hc=>?_,λp hp sz es' g nl hc=>?_,λp hp ks es' hc=>?_,λp hp r' hc=>?_,λp hp d' hc hit=>?_,λp hp r hc=>?_,by rw[hw2,<- hw0];exact hx.io⟩
  ·obtain⟨a1,a2,a3⟩:=hfr b hb.1 λhv=>hb.2 (hlive b hv);exact⟨⟨by rw[hw2];exact a1,λhv=>(hlive2 b hv).elim a3 λ⟨p,d,_,_,h1,h2,h3⟩=>hb.2 ⟨p,d,h1,h2,h3⟩⟩,by rw[hw2];exact a2⟩
  ·rcases hcases hc with⟨i,d0,rfl,h4,h5⟩|⟨_,h5,h6⟩
   ·cases d0<;>simp only[eQ,reduceCtorEq] at h5;have hi:=helt.1 hp;obtain⟨⟨c,h6⟩,h7⟩:=hx.row i (by omega) _ h4;rw[ho0] at h6;exact⟨⟨_,hobj i _ h6⟩,by rw[hb2,h7,hb0]⟩
   ·exact⟨⟨c',h6⟩,hb2' p hp h5⟩
  ·rcases hcases hc with⟨i,d0,rfl,h4,h5⟩|⟨_,h5,h6⟩
   ·cases d0<;>simp only[eQ,reduceCtorEq] at h5;injection h5 with a1 a2 a3 a4
    subst a1;subst a3;subst a4;have hi:=helt.1 hp;obtain⟨sz0,es0,g0,nl0,h6,h7,h8⟩:=hx.vec i (by omega) _ _ _ _ h4;rw[ho0] at h6;refine⟨sz0,_,g0,nl0,hobj i _ h6,h7,λe'=>?_⟩;obtain⟨b1,b2,b3⟩:=h8 e';refine⟨b1,b2,λhn=>?_⟩;obtain⟨c1,c2⟩:=b3 hn;rw[hb2,hw2,<- hb0,<- hw0];exact⟨c1,c2⟩
   ·refine⟨sz,es',g,nl,h6,Nat.le_refl _,λ_=>⟨rfl,rfl,λhn=>?_⟩⟩;rw[hb2' p hp h5];refine⟨rfl,?_⟩;simp only[H3,hw2];rw[hsame hp h5 h6 (by simp[DObj.blk,hn])]
  ·rcases hcases hc with⟨i,d0,rfl,h4,h5⟩|⟨_,h5,h6⟩
   ·cases d0<;>simp only[eQ,reduceCtorEq] at h5;injection h5 with a1 a2
    subst a1;have hi:=helt.1 hp;obtain⟨⟨k,c,h6⟩,h7⟩:=hx.map i (by omega) _ _ h4;rw[ho0] at h6;exact⟨⟨_,_,hobj i _ h6⟩,by rw[hb2,h7,hb0]⟩
   ·exact⟨⟨_,es',h6⟩,hb2' p hp h5⟩
  ·rcases hcases hc with⟨i,d0,rfl,h4,h5⟩|⟨_,h5,h6⟩
   ·cases d0<;>simp only[eQ,reduceCtorEq] at h5;have hi:=helt.1 hp;obtain⟨⟨c,h6⟩,h7⟩:=hx.lp i (by omega) _ h4;rw[ho0] at h6;exact⟨⟨_,hobj i _ h6⟩,by rw[hb2,h7,hb0]⟩
   ·exact⟨⟨r',h6⟩,hb2' p hp h5⟩
  ·rcases hcases hc with⟨i,d0,rfl,h4,h5⟩|⟨_,h5,h6⟩
   ·have hi:=helt.1 hp;obtain⟨⟨d1,h6,i1⟩,h7⟩:=hx.it i (by omega) _ h4 (by rw[h5,fR] at hit;exact hit);rw[ho0] at h6;exact⟨⟨_,hobj i _ h6,by rw[fR];exact i1⟩,by rw[hb2,h7,hb0]⟩
   ·exact⟨⟨_,h6,hit⟩,hb2' p hp h5⟩
  ·by_cases hn:p∈es
   ·obtain⟨i,hi,rfl⟩:=hofmem hn;have hio:i<objs0.length:=by omega
    have h6:=hobj i objs0[i] (by simp[hio]);rw[hc] at h6;cases hd:objs0[i] with
    | loop r0 =>
      obtain⟨⟨r',h7⟩,h8⟩:=hx.lp' i (by omega) r0 (by rw[ho0];simp[hio,hd]);exact⟨⟨_,by rw[hget,h7];rfl⟩,by rw[hb2,h8,hb0]⟩
    | _=>rw[hd] at h6;simp[eQ] at h6
   ·exact⟨⟨r,by rw[hother p hp hn];exact hc⟩,hb2' p hp hn⟩
 have hok1:∀ b,M1.ok b->M2.ok b:=λb ⟨⟨h1,h2⟩,h3⟩=>by
  refine⟨⟨by rw[hw2];exact h1,λhv=>(hlive2 b hv).elim h2 λ⟨p,d,h4,h5,h6,h7,h8⟩=>h3 (hF1 b (h8 ▸ hpF h5 h4 h6 h7))⟩,?_⟩;rw[hF2];exact λhf=>h3 (hF1 b ((hF0 b).2 (.inl hf)))
 have hsee:See e M1 M2:=by
  refine⟨hw2.symm,hok1,λo ho=>?_,λo d ho hd=>?_,λo _=>hb2 o⟩
  ·have:=hget o;rw[List.getElem?_eq_getElem ho] at this;exact e7 this
  ·rw[hget,Option.map_eq_some_iff] at hd;obtain⟨d0,h1,h2⟩:=hd;exact⟨d0,h1,h2.symm⟩
 refine⟨v,jx e d,M2,rfl,hw2,?_,hv.rn hsee,hext,d,M1.objs,hq,by rw[<- hl];exact hlen1,rfl,ho2⟩;refine⟨λp d hp=>?_,λp d hp hb=>?_,λp p' d d' hp hp' hb hb' hβ=>?_,λg l hg=>(hm.glob g l hg).mono hext.ok,λb hF=>?_,λp d hp hb=>?_⟩
 ·rcases hcases hp with⟨i,d0,rfl,h4,rfl⟩|⟨h4,h5,h6⟩
  ·exact(hm1.objs i d0 h4).rn hsee (e7 h4)
  ·exact(hm.objs p d h6).ext hext (λ_=>hb2' p h4 h5) (λhb=>by rw[hw2];exact hsame h4 h5 h6 hb)
 ·rcases hcases hp with⟨i,d0,rfl,h4,rfl⟩|⟨h4,h5,h6⟩
  ·rw[hb2,hw2];exact hm1.lt i d0 h4 (by rw[J8] at hb;exact hb)
  ·rw[hb2' p h4 h5,hw2];exact(hfr _ (hm.lt p d h6 hb) (hpnl h5 h6 hb)).1
 ·rcases hcases hp with⟨i,d0,rfl,h4,rfl⟩|⟨h4,h5,h6⟩
  ·rw[J8] at hb;rcases hcases hp' with⟨i',d0',rfl,h4',rfl⟩|⟨h4',h5',h6'⟩
   ·rw[J8] at hb';rw[hb2,hb2] at hβ;rw[hm1.inj i i' d0 d0' h4 h4' hb hb' hβ]
   ·rw[hb2,hb2' p' h4' h5'] at hβ;exact absurd (hF1 _ (hβ ▸ hpF h4' h5' h6' hb')) (hm1.own i d0 h4 hb)
  ·rcases hcases hp' with⟨i',d0',rfl,h4',rfl⟩|⟨h4',h5',h6'⟩
   ·rw[J8] at hb';rw[hb2,hb2' p h4 h5] at hβ;exact absurd (hF1 _ (hβ ▸ hpF h4 h5 h6 hb)) (hm1.own i' d0' h4' hb')
   ·rw[hb2' p h4 h5,hb2' p' h4' h5'] at hβ;exact hm.inj p p' d d' h6 h6' hb hb' hβ
 ·rw[hF2] at hF;rw[hw2];have h1:=hm.fl b hF;have:=hm1.fl b (hF1 b ((hF0 b).2 (.inl hF)));exact this
 ·rw[hF2];rcases hcases hp with⟨i,d0,rfl,h4,rfl⟩|⟨h4,h5,h6⟩
  ·rw[hb2];exact λhF=>hm1.own i d0 h4 (by rw[J8] at hb;exact hb) (hF1 _ ((hF0 _).2 (.inl hF)))
  ·rw[hb2' p h4 h5];exact hm.own p d h6 hb
def D5 (es:List Nat) (objs:List DObj):Nat->List DObj->Prop
 | _,[]=>True
 | i,d :: r=>objs[D6 es objs.length i]?=some (eQ (D6 es objs.length) d)/\D5 es objs (i+1) r
theorem px {es:List Nat} {objs:List DObj}:∀ (l:List DObj) (k:Nat),D5 es objs k l->∀ i d,l[i]?=some d->objs[D6 es objs.length (k+i)]?=some (eQ (D6 es objs.length) d)
 | [],_,_,i,d,hd=>by simp at hd
 | x :: l,k,h,i,d,hd=>by
   cases i with
   | zero=>simp at hd;subst hd;exact h.1
   | succ i =>
     have:=px l (k+1) h.2 i d (by simpa using hd);rw[show k+1+i=k+(i+1) by omega] at this;exact this
theorem C4 {es:List Nat} {objs objs0:List DObj} (h:D5 es objs 0 objs0):∀ i d,objs0[i]?=some d->objs[D6 es objs.length i]?=some (eQ (D6 es objs.length) d):=λi d hd=>by
 have:=px objs0 0 h i d hd;rw[Nat.zero_add] at this;exact this
theorem CallE.embed {f:FuncId} {args args0:List DV} {objs objs0 o1:List DObj} {d0:DV} {Q:DV->List DObj->Prop} {t:Tok Q} (es:List Nat) (h:DCall P G f args0 objs0 (λd o=>d=d0/\o=o1))
 (ha:args0.map (jx (D6 es objs.length))=args) (hl:es.length=objs0.length) (hnd:es.Nodup) (hes:∀ x∈es,x<objs.length)
 (hobj:∀ i d,objs0[i]?=some d->objs[D6 es objs.length i]?=some (eQ (D6 es objs.length) d)) (hq:Q (jx (D6 es objs.length) d0) (u7 es objs o1)):CallE P G f args objs Q t:=by
 subst ha;refine(DCall.embed es h hl hnd hes hobj).mono λd o ⟨d',o',⟨h1,h2⟩,_,h3,h4⟩=>?_;subst h1;subst h2;subst h3;subst h4;exact hq
end
end Go.Ab
