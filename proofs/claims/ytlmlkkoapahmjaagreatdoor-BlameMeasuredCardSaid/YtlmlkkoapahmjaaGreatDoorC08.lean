/- Part 26 of the proofs. -/
import Derived.Shelf.Sort.Plain
import Derived.Shelf.Slices.In.SortNone
import Derived.Test.YtlmlkkoapahmjaaGreatDoorR09
import Derived.Test.YtlmlkkoapahmjaaGreatDoorR14
import Derived.Test.YtlmlkkoapahmjaaGreatDoorC07
set_option linter.all false
set_option maxHeartbeats 100000000
namespace Go.Proofs
open Go Go.Ab
variable {G:LY}
attribute [simp] p5 cw N7 fm u6 A5 nilV J0 ZK
theorem Ae {c:Case} (hs:S7 c=true) (h0:F7 c=0):aw c=true:=by
 obtain⟨he,hf⟩:=E6 h0;have hd:=vR hf he;unfold aw Id;simp only[Bool.and_eq_true,Bool.or_eq_true,decide_eq_true_eq];exact⟨hs,he,by omega⟩
theorem qR {c:Case} (h:aw c=true):S7 c=true:=by
 unfold aw at h;simp only[Bool.and_eq_true] at h;exact h.1
theorem Ex {n k:Nat} (h:k<n):dt k∈W3 n:=listS_mem.2 (.inr (.inr ⟨k,h,rfl,rfl⟩))
theorem AX {c:Case} (h0:F7 c=0) {s:Susp} (hs:s∈W3 c.pieces.length):fW c s=0/\iq c s=B4 (n8 c) s:=by
 have e:fW c s=0:=by
  unfold fW;rw[if_neg (by simp[h0]),if_pos (Cu hs)]
 exact⟨e,by unfold iq;rw[if_pos e]⟩
structure MsF (c:Case) (k:Nat) (x:Piece) (a b:Int):Prop where
 q1:nN c (k:Int) a b=0
 q2:FG c (k:Int) a b=bB c k x a b
 q3:aw (bB c k x a b)=true
 q4:eF (bB c k x a b).p
 q5:KC (bB c k x a b)
 q6:fW (bB c k x a b) (dt k)=0
 q7:iq (bB c k x a b) (dt k)=0↔(gp c (k:Int)).1<=a/\b<=(gp c (k:Int)).2
theorem Ec {c:Case} (he:s9 c=0) {k:Nat} (hk:k<c.pieces.length):V8 c (k:Int)=0/\ij c (k:Int)=I6 c k:=by
 have e:V8 c (k:Int)=0:=by
  unfold V8;rw[if_neg (by simp[he]),if_pos ⟨by omega,by omega⟩]
 exact⟨e,by unfold ij;rw[if_pos e,Int.toNat_natCast]⟩
theorem EQ {c:Case} (he:s9 c=0) {k:Nat} {x:Piece} {y:Link} (hx:c.pieces[k]?=some x) (hy:c.loop.links[k]?=some y):gp c (k:Int)=(I6 c k).foldl (G1 c y) (x.lo,x.hi):=by
 unfold gp;rw[Int.toNat_natCast,hx,hy,(Ec he (e7 hx)).2]
theorem LD {c:Case} {k:Nat} {x:Piece} {a b:Int} (hp:eF c.p) (hq:aw c=true) (h:MsOk c k x a b):MsF c k x a b:=by
 have h0:=AI h;obtain⟨hx,⟨h1,h2,h3⟩,hc0⟩:=h;obtain⟨he,_⟩:=E6 hc0;have hlt:=e7 hx;have hlen:=(F5 (C2 he).2).e;have hy:c.loop.links[k]?=some c.loop.links[k]:=List.getElem?_eq_getElem (by omega);have e1:nN c (k:Int) a b=0:=by
  rw[AJ a b he hx,if_pos];simp only[O6,decide_eq_true_eq];omega
 have hsm:S7 (bB c k x a b)=true:=by
  have:=qR hq;unfold S7 at this ⊢;rw[fS];exact this
 have hr:=Ae hsm h0;have hp':eF (bB c k x a b).p:=hp;obtain⟨_,hk',_⟩:=lJ hp' hr;have hA:dt k∈W3 (bB c k x a b).pieces.length:=by rw[fS];exact Ex hlt
 obtain⟨k1,k2⟩:=AX h0 hA;refine⟨e1,vH e1 hx,hr,hp',hk',k1,?_⟩;have hx':(bB c k x a b).pieces[k]?=some (qr x a b):=by rw[fT,if_pos rfl,hx];rfl
 rw[k2,tS h0 hx' hy,EQ he hx hy,sf,pu hx];have hs:(x.lo,x.hi).1<=a/\b<=(x.lo,x.hi).2:=⟨h1,h3⟩
 constructor
 ·intro h;refine⟨hs,λl hl d hd=>?_⟩;have h4:=h l hl;unfold pP at h4;rw[FF,hd] at h4;simp only[Bool.not_eq_false',O6,decide_eq_true_eq] at h4;have e5:(qr x a b).lo=a/\(qr x a b).hi=b:=⟨rfl,rfl⟩
  omega
 ·rintro⟨_,h⟩ l hl;unfold pP;rw[FF];cases hd:qp c c.loop.links[k] l with
  | none=>rfl
  | some d =>
    have h4:=h l hl d hd;simp only[Bool.not_eq_false',O6,decide_eq_true_eq];have e5:(qr x a b).lo=a/\(qr x a b).hi=b:=⟨rfl,rfl⟩
    omega
open Go Go.Ab Tryz
attribute [simp] p5 cw N7 fm u6 A5 nilV J0 ZK
structure LessOk (c z:Case):Prop where
 q1:F7 c=0
 q2:F7 z=0
 q3:(fp c).1<=(fp z).1
 q4:(fp z).2<=(fp c).2
 q5:∀ s,(s∈aq z 2\/s∈aq z 1)->s∈aq c 2\/s∈aq c 1
 q6:∀ s∈aq c 2,s∈aq z 2
theorem GR {c z:Case} (h0:F7 c=0) (h1:F7 z=0) (hn:z.pieces.length=c.pieces.length) (hs:sP (n8 z) (n8 c)):LessOk c z:=by
 have g:=pZ h0;have g1:=pZ h1;rw[hn] at g1;obtain⟨_,_,e3,e4⟩:=lj h0;obtain⟨_,_,f3,f4⟩:=lj h1;rw[hn] at f3;refine⟨h0,h1,?_,?_,λs h=>?_,λs h=>?_⟩
 ·rw[e4,f4];exact(zF g g1 hs).1
 ·rw[e4,f4];exact(zF g g1 hs).2
 ·rw[f3,f3] at h;rw[e3,e3];exact Di g g1 hs h
 ·rw[e3] at h;rw[f3];exact zD g g1 hs h
@[simp] abbrev QV:List Nat:=[0,1,2,3,4,5,6,7,8,9,10,11,12,13,14,16,18,68,73,74,75,76,88,90,91,92,93,99]
theorem Ed (c z:Case) (hG:p8 G) (hN:E5 G) (hS:v8 G) (hU:U4 G) (hR:A0 G) (hC:K5 G) (hK:bE G) (hF:jD G) (hk:KC c) (hkz:KC z) (hok:LessOk c z):zP prog G 29 [n4 c,n4 z] (bv true):=by
 refine zf func29 ntmps29 ?_;try simp only[iv]
 obtain⟨h0,h1,o1,o2,o3,o4⟩:=hok;have c1:=eD (G:=G) c hG hN hS hU hR hC hK hk;have c2:=eD (G:=G) z hG hN hS hU hR hC hK hkz;have c3:=mL (G:=G) c hG hN hS hU hR hC hF hk;have c4:=mL (G:=G) z hG hN hS hU hR hC hF hkz;rw[h0] at c1 c3;rw[h1] at c2 c4;have l1:=gH c 2 hk.q;have l2:=gH c 1 hk.q;have l3:=gH z 2 hkz.q;have l4:=gH z 1 hkz.q;generalize aq c 2=a at *;generalize aq c 1=b at *;generalize aq z 2=s at *;generalize aq z 1=o at *;generalize fp c=N at *;generalize fp z=M at *;obtain⟨n1,n2⟩:=N;obtain⟨m1,m2⟩:=M;simp only at o1 o2;have f1:¬ m1<n1:=by omega
 have f2:¬ n2<m2:=by omega
 have d1:=λx=>qi (G:=G) a x (by omega);have d2:=λx=>qi (G:=G) b x (by omega);have d3:=λx=>qi (G:=G) s x (by omega);simp only[n4,j4,E9,C5,j6,E0,rI,List.map_cons,List.map_nil] at c1 c2 c3 c4 d1 d2 d3 ⊢;have hs:=za f1 f2;repeat' first|(with_reducible first|refine zz ?_|refine And.intro (by omega) ?_|refine zE QV ?_)|simp -dsimp[hs]|refine zp c1 ?_|refine zp c2 ?_|refine zp c3 ?_|refine zp c4 ?_|refine i8 ?_ ?_<;>intro h<;>try exact h.elim
 all_goals try clear hs
 obtain⟨RES,hRES⟩:∃ r,r=s++o:=⟨_,rfl⟩
 have hap:n3 (s.map j6)++n3 (o.map j6)=n3 (RES.map j6):=by rw[hRES,List.map_append,cR]
 have hrl:s.length+o.length=RES.length:=by rw[hRES,List.length_append]
 have hri:(s.length:Int)+(o.length:Int)=(RES.length:Int):=by omega
 have hrm:∀ x∈RES,x∈a\/x∈b:=λx hx=>o3 x (by rw[hRES,List.mem_append] at hx;exact hx);have hrz:RES.length<1000000:=by omega
 clear c1 c2 c3 c4 hRES;refine i6 (ι:={ k:Nat // k<=RES.length }) (λk=>⟨101,[(5,.one (.im (.sl (a.map j6)))),(6,.one (.im (.sl (b.map j6)))),(8,.one (.im (.sl (s.map j6)))),(73,.one (.vec 4 2 0 RES.length)),(74,iv (RES.length:Int)),(75,iv (k.1:Int))],[.row ((j4 c).map .im),.row ((j4 z).map .im),.row [.im (rI n1),.im (rI n2)],.row [.im (rI m1),.im (rI m2)],.vec 2 (n3 (RES.map j6)) 2 false]⟩) (λk=>RES.length-k.1) ⟨0,by omega⟩ (zw [5,6,8,73,74,75] 5 (by simp[hap,hrl,hri])) ?_;rintro⟨k,hkl⟩;simp only[iv,rI,bv];by_cases hlt:k<RES.length
 ·have hw:=zk k;have hx0:RES[k]?=some RES[k]:=by simp[hlt]
  have e1:=hrm RES[k] (List.getElem_mem hlt);have d5:=d1 RES[k];have d6:=d2 RES[k];generalize hx:RES[k]=x at *;have hsx:(x∈a/\decide (x∈a)=true/\True)\/(x∉a/\decide (x∈a)=false/\decide (x∈b)=true):=by
   by_cases h:x∈a
   ·exact .inl ⟨h,by simp[h],trivial⟩
   ·exact .inr ⟨h,by simp[h],by rcases e1 with e1|e1<;>simp_all⟩
  clear e1;have hs:True:=trivial;rcases hsx with⟨_,h5,h6⟩|⟨_,h5,h6⟩
  ·rw[h5] at d5;have hs:=za hx (za hlt (za hw hx0));repeat' first|(with_reducible first|refine zz ?_|refine zE QV ?_)|simp -dsimp[hs]|refine zp d5 ?_|refine i8 ?_ ?_<;>intro h<;>try exact h.elim
   all_goals try clear hs
   all_goals exact zn ⟨k+1,by omega⟩ (zw [5,6,8,73,74,75] 5)
  ·rw[h5] at d5;rw[h6] at d6;have hs:=za hx (za hlt (za hw hx0));repeat' first|(with_reducible first|refine zz ?_|refine zE QV ?_)|simp -dsimp[hs]|refine zp d5 ?_|refine zp d6 ?_|refine i8 ?_ ?_<;>intro h<;>try exact h.elim
   all_goals try clear hs
   all_goals exact zn ⟨k+1,by omega⟩ (zw [5,6,8,73,74,75] 5)
 ·obtain rfl:k=RES.length:=by omega
  have hs:=hlt;repeat' first|(with_reducible first|refine zz ?_|refine zE QV ?_)|simp -dsimp[hs]|refine i8 ?_ ?_<;>intro h<;>try exact h.elim
  all_goals try clear hs
  refine i6 (ι:={ k:Nat // k<=a.length }) (λk=>⟨101,[(8,.one (.im (.sl (s.map j6)))),(90,.one (.im (.sl (a.map j6)))),(91,iv (a.length:Int)),(92,iv (k.1:Int))],[.row ((j4 c).map .im)]⟩) (λk=>a.length-k.1) ⟨0,by omega⟩ (zw [8,90,91,92] 1) ?_;rintro⟨k,hkl⟩;simp only[iv,rI,bv];by_cases hlt:k<a.length
  ·have hw:=zk k;have hx0:a[k]?=some a[k]:=by simp[hlt]
   have e1:=o4 a[k] (List.getElem_mem hlt);have d5:=d3 a[k];rw[decide_eq_true e1] at d5;generalize hx:a[k]=x at *;have hs:=za hx (za hlt (za hw hx0));repeat' first|(with_reducible first|refine zz ?_|refine zE QV ?_)|simp -dsimp[hs]|refine zp d5 ?_|refine i8 ?_ ?_<;>intro h<;>try exact h.elim
   all_goals try clear hs
   all_goals exact zn ⟨k+1,by omega⟩ (zw [8,90,91,92] 1)
  ·obtain rfl:k=a.length:=by omega
   have hs:=hlt;repeat' first|(with_reducible first|refine zz ?_|refine zr ?_|refine zE QV ?_)|simp -dsimp[hs]|refine i8 ?_ ?_<;>intro h<;>try exact h.elim
   all_goals try clear hs
end Go.Proofs
namespace Go.Ab
open Go
section
variable {P:Program} {G:LY}
theorem Dj {l:List Oper} {nt:Nat} {objs:List DObj} {Sq S0:DS} {ks fo fn:List Nat} {Mb M2 Mp MT:MS} {al:List Nat} {base listed:Array Bool} {dfs:List Deferred} {f i:Nat} {a2:Act} {oj:Oper} {ro:Option Nat} {KK:DS->Prop} {Q':Exit->Act->World->Prop}
 (hd:bH nt l.toArray) (hi:Inv2 P G nt objs l.toArray ks (n9 Sq.tmps) Mb Mp al base dfs (f+1) listed a2 M2)
 (hoj:l[i]?=some oj) (hg:oj.guard=none) (hfo:∀ k∈fo,k∈ks) (hfn:∀ k∈fn,listed.getD k false≠true/\k≠i) (hik:i∉ks)
 (hdf:N6 ((pick l (fo++fn)).map (·.dst))=true) (hnl:aA l.toArray (pick l (fo++fn))=true) (hlt:∀ k∈fo++fn,k<l.length)
 (h0:Rel G S0 a2 MT) (h0n:S0.nt=nt) (h0w:MT.w=M2.w) (h0r:∀ d v,RepV M2 d v->RepV MT d v)
 (hkq:oW P G (l.map (·.dst)) [oj] S0 (λS'=>nc P G (l.map (·.dst)) (pick l (fo++fn)) S' (λSf=>cH (mr (pick l fo)) Sf.tmps Sq.tmps/\KK Sf) ⟨⟩) ⟨⟩)
 (hnext:∀ (Sf:DS) (a3:Act) (M3:MS) (v:Value),KK Sf->Sf.nt=nt->Sf.objs=M3.objs->Ext MT.objs.length MT M3->a3.tmps=(a2.put oj.dst v).tmps->a3.defers=a2.defers ->
  (∀ k∈fo++fn,∃ o d,l.toArray[k]?=some o/\OpS P G nt M3.objs l.toArray o d (n9 Sf.tmps)/\∀ u,o.dst=some u->n9 Sf.tmps u=some d) ->
  RelF G nt M3.objs (I0 l.toArray (fo++fn) (listed.setIfInBounds i true) (n9 Sf.tmps)) a3 M3->wpAnyIn (s6 ro) 0 P .any l.toArray Q' f (listed.setIfInBounds i true) a3 M3.w) :
 wpOpIn (s6 ro) 0 P l.toArray Q' i (wpAnyIn (s6 ro) 0 P .any l.toArray Q' f (listed.setIfInBounds i true)) a2 M2.w:=by
 have hoj':l.toArray[i]?=some oj:=by simpa using hoj
 obtain⟨b,hw,ht,_⟩:=K0 _ _ _ hkq;have hbt:b=true:=by
  unfold D8 at hw;rw[hg] at hw;exact(Option.some.inj hw).symm
 subst hbt;have hwant:Region.wanted oj (yielded l.toArray a2.tmps)=true:=by simp[Region.wanted,hg]
 rw[<- h0w];unfold wpOpIn;simp only[hoj',hwant,if_true];refine ah (ld (ht rfl ro a2 MT h0)) ?_;rintro a3 w3 ⟨⟨S3,M3,rfl,r3,e3,d3,k3⟩,v,hput⟩;have hsz3:S3.nt=nt:=by
  rw[<- r3.nt,hput,<- h0n,<- h0.nt];cases oj.dst<;>simp[Act.put]
 have hob3:S3.objs=M3.objs:=r3.ob.symm;have hpm:∀ o∈pick l (fo++fn),o∈l:=λo ho=>let ⟨k,_,hk⟩:=X9 ho;List.mem_of_getElem? hk
 have hdst:∀ o∈l,∀ u,o.dst=some u->u<nt:=λo ho u hu=>by
  obtain⟨k,hk⟩:=List.mem_iff_getElem?.1 ho;exact hd.1 k o (by simpa using hk) u hu
 obtain⟨Sf,⟨hsame,hkf⟩,f1,f2,f3,f4⟩:=L4 (P:=P) (G:=G) (ops:=l.toArray) (nt:=nt) (objs:=M3.objs) (fo++fn) (pick l (fo++fn)) S3 (jd λk hk=>hlt k hk) hsz3 hob3 (λo ho=>hdst o (hpm o ho)) (H9 hdf) hnl
  (by simpa using(show nc P G (l.map (·.dst)) (pick l (fo++fn)) S3 _ ⟨⟩ from k3))
 refine hnext Sf a3 M3 v hkf f1 f2 e3 hput d3 f3 ⟨r3.m,rfl,by rw[r3.nt,hsz3],r3.df,λt d ht=>?_⟩;unfold I0 at ht;split at ht
 ·rename_i hvis;by_cases hfd:∃ k∈fo++fn,∃ o,l.toArray[k]?=some o/\o.dst=some t
  ·obtain⟨k,hk,o,ho,hu⟩:=hfd;have hl2:=hvis k hk o ho hu;have hkfo:k∈fo:=by
    rcases List.mem_append.1 hk with h|h
    ·exact h
    ·exact absurd ((l5 hl2).resolve_left (hfn k h).2) (hfn k h).1
   have hki:k≠i:=λe=>hik (e ▸ hfo k hkfo);have hkl:listed.getD k false=true:=(l5 hl2).resolve_left hki;have h1:n9 Sf.tmps t=n9 Sq.tmps t:=cG hsame (lT (ay hkfo (by simpa using ho)) hu);obtain⟨x,x1,x2⟩:=hi.rel.tm t d (by
    unfold I0;rw[if_pos]
    ·rw[<- h1];exact ht
    ·intro m hm' o' ho' hu';have:=hd.2 k m o o' t ho ho' hu hu';subst this;exact hkl)
   refine⟨x,?_,(h0r _ _ x2).ext e3⟩;rw[hput];cases hdj:oj.dst with
   | none=>exact x1
   | some y =>
     have hne:y≠t:=λe=>hki (hd.2 i k oj o t hoj' ho (by rw[hdj,e]) hu).symm;simp only[Act.put];rw[Array.getElem?_setIfInBounds_ne hne];exact x1
  ·have h1:n9 Sf.tmps t=n9 S3.tmps t:=f4 t λo ho hu=>by
    obtain⟨k,hk,hk'⟩:=X9 ho;exact hfd ⟨k,hk,o,by simpa using hk',hu⟩
   exact r3.tm t d (by rw[<- h1];exact ht)
 ·cases ht
end
def rg (i m:Nat):List Nat:=List.range' (i+1) m
def Ff (l:List Oper) (al:List Nat) (i:Nat) (fo:List Nat):Bool:=
 decide al.Nodup&&al.all λk=>match l[k]? with|some o=>(fj o.op).isNone||(decide (k<i) && !fo.contains k)|none=>false
section
variable (P:Program) (G:LY)
def JW (l:List Oper) (al:List Nat) (S:DS):Bool->DS
 | true=>cZ S (V2 P (pick l al))
 | false=>S
def HL (l:List Oper) (K:DS->Prop):List (Bool×List Nat×Nat×List Nat)->List Nat->Nat->DS->Prop
 | [],al,i,S=>oW P G (l.map (·.dst)) (l.drop i) (cZ S (V2 P (pick l al))) K ⟨⟩
 | (sh,fo,m,kt) :: r,al,i,Sq=>oW P G (l.map (·.dst)) (pick l [i]) (JW P l al (Sq.keep kt) sh) (λS'=>nc P G (l.map (·.dst)) (pick l (fo++rg i m)) S' (λSf=>cH (mr (pick l fo)) Sf.tmps Sq.tmps/\HL l K r ((bif sh then fo else al)++rg i m) (i+1+m) Sf) ⟨⟩) ⟨⟩
end
def zo (l:List Oper):List (Bool×List Nat×Nat×List Nat)->List Nat->Nat->List Nat->Bool
 | [],al,i,_=>decide (0<i)&&decide (i<=l.length)&&((List.range l.length).all λk=>decide (k<i)||(List.range i).all λm=>((Y4 l []).getD k 0).testBit m) &&
  rt l.toArray (l.length-i) i (jh l.length (i-1))&&decide ((jh l.length (i-1)).toList.count false=l.length-i)&&Ff l al i []
 | (sh,fo,m,kt) :: r,al,i,ks=>decide (i<l.length)&&(fo.all λk=>ks.contains k)&&N6 ((pick l (fo++rg i m)).map (·.dst))&&aA l.toArray (pick l (fo++rg i m)) &&
  ((List.range i).all λm=>fo.contains m||((Y4 l []).getD i 0).testBit m)&&((List.range l.length).all λk=>decide (k<=i)||((Y4 l []).getD k 0).testBit i) &&
  ((pick l fo).all λo=>match o.dst with|some u=>!kt.contains u|none=>true)&&(match l[i]? with|some o=>o.guard.isNone&&(fj o.op).isNone|none=>false)&&decide (i+1+m<=l.length) &&
  (!sh||(Ff l al i fo&&(fo++rg i m).all λk=>match l[k]? with|some o=>(fj o.op).isNone|none=>false))&&zo l r ((bif sh then fo else al)++rg i m) (i+1+m) (fo++rg i m)
theorem mem_rg {i m k:Nat}:k∈rg i m↔i<k/\k<i+1+m:=by
 unfold rg;rw[List.mem_range'_1];omega
section
variable {P:Program} {G:LY}
theorem vw {l:List Oper} {al fo:List Nat} {i:Nat} {Mp M4:MS} {n:Cx} {listed:Array Bool} {a4:Act} {S:DS} (hok:Ff l al i fo=true) (hh:∀ k,k<i->k∉fo->listed.getD k false=true) (hpd:Pd P Mp l.toArray al listed a4 M4)
 (hmp:RelM G Mp) (hr:Rel G S a4 M4) (he:Ext n.n Mp M4) (hn:n.n<=M4.objs.length) :
 ∃ MT,Rel G (cZ S (V2 P (pick l al))) a4 MT/\Ext n.n Mp MT/\n.n<=MT.objs.length/\MT.w=M4.w/\∀ d v,RepV M4 d v->RepV MT d v:=by
 simp only[Ff,Bool.and_eq_true,decide_eq_true_eq] at hok;obtain⟨hnd,hall⟩:=hok;have hlt:∀ k∈al,k<l.length:=λk hk=>by
  have:=List.all_eq_true.1 hall k hk;split at this
  ·rename_i o ho;exact e7 ho
  ·cases this
 have half:∀ k∈al,∀ o t,l.toArray[k]?=some o->o.op=.alloc t->listed.getD k false=true:=λk hk o t ho hop=>by
  have:=List.all_eq_true.1 hall k hk;rw[show l[k]?=some o by simpa using ho] at this;simp only[hop,fj,Option.isNone_some,Bool.false_or,Bool.and_eq_true,decide_eq_true_eq,Bool.not_eq_true'] at this;exact hh k this.1 (λh=>by have h2:=this.2;rw[List.contains_iff_mem.2 h] at h2;cases h2)
 obtain⟨β',p1,p2⟩:=hpd
 obtain⟨bs,c1,c2,c3,_⟩:=gu (P:=P) (ops:=l.toArray) (M0:=Mp) (M:=M4) (a:=a4) (β':=β') al (pick l al) (jd hlt) hnd
  (λk hk o t u ho hop hu=>p1 k o t u hk ho hop hu (half k hk o t ho hop))
  (λk hk m hm' o o' t t' ho ho' hop hop' hs hs' e=>p2 k m o o' t t' hk hm' ho hop (half k hk o t ho hop) ho' hop' (half m hm' o' t' ho' hop') hs hs' e)
 exact cY (M0:=Mp) (n:=n.n) hmp (V2 P (pick l al)) bs S M4 hr he hn c1 c2 c3
end
section
variable {P:Program} {G:LY}
theorem Pd.more {Mp M:MS} {ops:Array Oper} {al al':List Nat} {listed:Array Bool} {a:Act} (h:Pd P Mp ops al listed a M) (hal:∀ k∈al',listed.getD k false=true->k∈al):Pd P Mp ops al' listed a M:=by
 obtain⟨β',h1,h2⟩:=h;exact⟨β',λi o t u hi ho hop hu hl=>h1 i o t u (hal i hi hl) ho hop hu hl,λi j o o' t t' hi hj ho hop hl ho' hop' hl'=>h2 i j o o' t t' (hal i hi hl) (hal j hj hl') ho hop hl ho' hop' hl'⟩
theorem Pd.none {Mp M:MS} {l:List Oper} {al:List Nat} {listed:Array Bool} {a:Act} (h:(al.all λk=>match l[k]? with|some o=>(fj o.op).isNone|none=>false)=true):Pd P Mp l.toArray al listed a M:=by
 have no:∀ k∈al,∀ o t,l.toArray[k]?=some o->o.op≠.alloc t:=λk hk o t ho=>by
  have:=List.all_eq_true.1 h k hk;rw[show l[k]?=some o by simpa using ho] at this;exact cb (by simpa[Option.isNone_iff_eq_none] using this) t
 exact⟨λ_=>0,λi o t u hi ho hop _ _=>absurd hop (no i hi o t ho),λi j o o' t t' hi _ ho hop _ _ _ _ _ _ _=>absurd hop (no i hi o t ho)⟩
theorem EV {l:List Oper} {nt:Nat} {n:Cx} {Q:Exit->DS->Prop} {kp:List Nat} {a:Act} {M:MS} {ro:Option Nat} (hd:bH nt l.toArray)
 (hdep:∀ (i:Nat) (o:Oper),l.toArray[i]?=some o->∀ (k:Nat) (o':Oper),l.toArray[k]?=some o'->∀ u,o'.dst=some u->u∈o.looksAt l.toArray->∃ e∈o.after,e.on=k/\Region.binds .any e=true)
 (hback:∀ (k:Nat) (o:Oper),l.toArray[k]?=some o->∀ e∈o.after,Region.binds .any e=true->e.on<k) (hmask:eG l.toArray (Y4 l [])) :
 ∀ (st:List (Bool×List Nat×Nat×List Nat)) (al:List Nat) (i:Nat) (ks:List Nat) (Sq:DS) (objs:List DObj) (Mb Mp:MS) (base:Array Bool),zo l st al i ks=true->(∀ k∈ks,k<i)->i<=l.length->(∀ k∈ks,k∈al)->Sq.nt=nt->Sq.objs=objs->n.n<=objs.length->RelM G Mp->Ext n.n M Mp->Ext n.n Mp Mb ->
  (∀ k∈ks,∃ o d,l.toArray[k]?=some o/\OpS P G nt objs l.toArray o d (n9 Sq.tmps)/\∀ u,o.dst=some u->n9 Sq.tmps u=some d) ->
  (∀ k,base.getD k false=true->k<i)->(∀ k,k<i->k∉ks->base.getD k false=true)->HL P G l (λS''=>At Q .normal ⟨⟩ (S''.keep kp)) st al i Sq ->
  ∀ f listed a2 M2,Inv2 P G nt objs l.toArray ks (n9 Sq.tmps) Mb Mp al base a.defers f listed a2 M2 ->
   wpAnyIn (s6 ro) 0 P .any l.toArray (λe a' w'=>∃ S' M',M'.w=w'/\Rel G S' a' M'/\Ext n.n M M'/\NewD M a a'/\Q e S') f listed a2 M2.w:=by
 have unl:∀ {listed:Array Bool} {k:Nat},k∈Region.ready .any l.toArray listed->listed.getD k false≠true:=λ{listed k} hk e=>by
  have h0:=(mem_ready.1 hk).1;rcases Nat.lt_or_ge k listed.size with h'|h'
  ·simp[h'] at h0 e;rw[h0] at e;cases e
  ·simp[Array.getElem?_eq_none h'] at e
 have alll:∀ {listed:Array Bool},listed.toList.count false=0->∀ m,m<listed.size->listed.getD m false=true:=λ{listed} h m hm'=>by
  have hnot:=List.count_eq_zero.1 h;cases hv:listed[m] with
  | true=>simp[hm',hv]
  | false=>exact absurd (by rw[<- hv];exact Array.getElem_mem_toList hm') hnot
 intro st;induction st with
 | nil =>
   intro al i ks Sq objs Mb Mp base hz hks hil hka hnt hob hno hmp hMMp hMb hY hb1 hb2 hK f listed a2 M2 hi;simp only[zo,Bool.and_eq_true,decide_eq_true_eq] at hz;obtain⟨⟨⟨⟨⟨z0,zl⟩,z1⟩,z2⟩,z3⟩,z4⟩:=hz
   have fin:∀ f' listed' a4 M4,Inv2 P G nt objs l.toArray ks (n9 Sq.tmps) Mb Mp al base a.defers f' listed' a4 M4->(∀ k∈ks,listed'.getD k false=true) ->
    wpAnyIn (s6 ro) 0 P .any l.toArray (λe a' w'=>∃ S' M',M'.w=w'/\Rel G S' a' M'/\Ext n.n M M'/\NewD M a a'/\Q e S') f' listed' a4 M4.w:=by
    intro f' listed' a4 M4 hi4 hfl4;have hL:listed'=jh l.length (i-1):=by
     refine pb (by simpa using hi4.sz) λk hk=>⟨λhkl=>?_,λhkl=>?_⟩
     ·rcases hi4.only k hkl with h1|h1
      ·have:=hb1 k h1;omega
      ·have:=hks k h1;omega
     ·by_cases hkf:k∈ks
      ·exact hfl4 k hkf
      ·exact hi4.has k (hb2 k (by omega) hkf)
    have hf':f'=(l.drop i).length:=by rw[<- hi4.cn,hL,z3];simp
    have hrel:Rel G Sq a4 M4:=⟨hi4.rel.m,by rw[hi4.rel.ob,hob],by rw[hi4.rel.nt,hnt],hi4.rel.df,λt d ht=>hi4.rel.tm t d (by
     unfold I0;rw[if_pos]
     ·exact ht
     ·exact λk hk _ _ _=>hfl4 k hk)⟩
    have hn4:n.n<=M4.objs.length:=by rw[hi4.rel.ob];exact hno
    obtain⟨MT,t1,t2,t3,t4,_⟩:=vw (n:=n) z4 (λk hk _=>by
     by_cases hkf:k∈ks
     ·exact hfl4 k hkf
     ·exact hi4.has k (hb2 k hk hkf)) hi4.pd hmp hrel (hMb.trans (hi4.ext.weaken hno)) hn4
    rw[hf',hL,<- t4];refine Q8 (P:=P) (G:=G) (ops:=l.toArray) (ro:=ro) n.n (λS''=>At Q .normal ⟨⟩ (S''.keep kp)) (l.drop i) i _ (cZ Sq (V2 P (pick l al))) a4 MT (λk hk=>by simp) (by rw[List.length_drop];exact z2) t1 t3 (by simpa using K0 _ _ _ hK) ?_;intro S5 a5 M5 hr5 he5 hd5 hq5;obtain⟨M6,w6,r6,e6⟩:=Weak.keep (G:=G) (n:=n) (S:=S5) (ks:=kp) (by rw[<- hr5.ob];exact he5.len) a5 M5 hr5;exact⟨_,M6,w6,r6,(hMMp.trans t2).trans (he5.trans e6),.same (hd5.trans hi4.df),hq5⟩
   refine X3 (P:=P) (G:=G) (nt:=nt) (objs:=objs) (ops:=l.toArray) (ks:=ks) (τ:=n9 Sq.tmps) (M0:=Mb) (Mp:=Mp) (al:=al) (base:=base) (dfs:=a.defers) (ro:=ro) hd hka hY
    (λk _ o ho m _ o' ho'=>hdep k o ho m o' ho') hback ?_ ?_ f listed a2 M2 hi
   ·intro f' listed' a4 M4 hi4 k hk4 hkf;have hik:i<=k:=by
     rcases Nat.lt_or_ge k i with h|h
     ·exact absurd (hi4.has k (hb2 k h hkf)) (unl hk4)
     ·exact h
    refine(fin _ listed' a4 M4 hi4 λm hm'=>?_).2 k hk4;obtain⟨_,ok,hok,hall⟩:=mem_ready.1 hk4;have h1:=List.all_eq_true.1 z1 k (by simpa using(Array.getElem?_eq_some_iff.1 hok).1);simp only[Bool.or_eq_true,decide_eq_true_eq] at h1;have h2:=h1.resolve_left (by omega);exact hmask k m ok hok (List.all_eq_true.1 h2 m (by have:=hks m hm';simp;omega)) listed' hi4.cl hall
   ·intro listed' a4 M4 hi4;exact(fin 0 listed' a4 M4 hi4 λm hm'=>alll hi4.cn m (by rw[hi4.sz];have:=hks m hm';simp;omega)).2
 | cons x r ih =>
   obtain⟨sh,fo,m,kt⟩:=x;intro al i ks Sq objs Mb Mp base hz hks hil hka hnt hob hno hmp hMMp hMb hY hb1 hb2 hK f listed a2 M2 hi;simp only[zo,Bool.and_eq_true,decide_eq_true_eq] at hz;obtain⟨⟨⟨⟨⟨⟨⟨⟨⟨⟨z0,z1⟩,z2⟩,z3⟩,z4⟩,z5⟩,z6⟩,z7⟩,z9⟩,z10⟩,z8⟩:=hz;have hfo:∀ k∈fo,k∈ks:=λk hk=>by simpa using List.all_eq_true.1 z1 k hk
   obtain⟨oi,hoi⟩:∃ o,l[i]?=some o:=⟨l[i],List.getElem?_eq_getElem z0⟩
   rw[hoi] at z7;have hz7:oi.guard=none/\fj oi.op=none:=by simpa[Option.isNone_iff_eq_none] using z7
   have hgi:=hz7.1;have hiks:i∉ks:=λh=>by have:=hks i h;omega
   have hpk:pick l [i]=[oi]:=by simp[pick,hoi]
   simp only[HL] at hK;rw[hpk] at hK;have hun:∀ {f' listed' a4 M4},Inv2 P G nt objs l.toArray ks (n9 Sq.tmps) Mb Mp al base a.defers f' listed' a4 M4->∀ k,i<=k->listed'.getD k false≠true:=λhi4 k hk e=>by
    rcases hi4.only k e with h|h
    ·have:=hb1 k h;omega
    ·have:=hks k h;omega
   refine X3 (P:=P) (G:=G) (nt:=nt) (objs:=objs) (ops:=l.toArray) (ks:=ks) (τ:=n9 Sq.tmps) (M0:=Mb) (Mp:=Mp) (al:=al) (base:=base) (dfs:=a.defers) (ro:=ro) hd hka hY
    (λk _ o ho m _ o' ho'=>hdep k o ho m o' ho') hback ?_ ?_ f listed a2 M2 hi
   ·intro f' listed' a4 M4 hi4 k hk4 hkf;obtain⟨_,ok,hok,hall⟩:=mem_ready.1 hk4;have hki:k=i:=by
     rcases Nat.lt_trichotomy k i with h|h|h
     ·exact absurd (hi4.has k (hb2 k h hkf)) (unl hk4)
     ·exact h
     ·have h1:=List.all_eq_true.1 z5 k (by simpa using(Array.getElem?_eq_some_iff.1 hok).1);simp only[Bool.or_eq_true,decide_eq_true_eq] at h1;exact absurd (hmask k i ok hok (h1.resolve_left (by omega)) listed' hi4.cl hall) (hun hi4 i (Nat.le_refl _))
    subst hki;have hpl:∀ m,m<k->m∉fo->listed'.getD m false=true:=λm hm' hmf=>by
     have h1:=List.all_eq_true.1 z4 m (by simpa using hm');simp only[Bool.or_eq_true,List.contains_iff_mem] at h1;exact hmask k m ok hok (h1.resolve_left hmf) listed' hi4.cl hall
    have hrk:Rel G (Sq.keep kt) a4 M4:=by
     refine⟨hi4.rel.m,hi4.rel.ob.trans hob.symm,hi4.rel.nt.trans hnt.symm,hi4.rel.df,λt d ht=>hi4.rel.tm t d ?_⟩;have h1:=eM ht;have h2:=cF ht;unfold I0;rw[if_pos]
     ·exact h2
     ·intro k' hk' o ho hu;by_cases hf:k'∈fo
      ·have:=List.all_eq_true.1 z6 o (ay hf (by simpa using ho));rw[hu] at this;simp at this;exact absurd h1 this
      ·exact hpl k' (hks k' hk') hf
    have hn4:n.n<=M4.objs.length:=by rw[hi4.rel.ob];exact hno
    obtain⟨MT,t1,t2,t3,t4,t5,t6⟩:∃ MT,Rel G (JW P l al (Sq.keep kt) sh) a4 MT/\Ext n.n Mp MT/\n.n<=MT.objs.length/\MT.w=M4.w/\(∀ d v,RepV M4 d v->RepV MT d v)/\(sh=false->MT=M4):=by
     cases sh with
     | false=>exact⟨M4,hrk,hMb.trans (hi4.ext.weaken hno),hn4,rfl,λ_ _ h=>h,λ_=>rfl⟩
     | true =>
       simp only[Bool.not_true,Bool.false_or,Bool.and_eq_true] at z10;obtain⟨MT,t1,t2,t3,t4,t5⟩:=vw (n:=n) z10.1 (λm hm' hmf=>hpl m hm' hmf) hi4.pd hmp hrk (hMb.trans (hi4.ext.weaken hno)) hn4;exact⟨MT,t1,t2,t3,t4,t5,λh=>by cases h⟩
    have hS0:(JW P l al (Sq.keep kt) sh).nt=nt:=by rw[<- t1.nt,hi4.rel.nt]
    refine Dj (fo:=fo) (fn:=rg k m) hd hi4 hoi hgi hfo (λm' hm'=>⟨hun hi4 m' (by have:=mem_rg.1 hm';omega),by have:=mem_rg.1 hm';omega⟩) hkf z2 z3 (λm' hm'=>?_) t1 hS0 t4 t5 hK ?_
    ·rcases List.mem_append.1 hm' with h|h
     ·have:=hks m' (hfo m' h);omega
     ·have:=mem_rg.1 h;omega
    intro Sf a3 M3 v hkf' f1 f2 e3 hput d3 f3 r3;have e3n:Ext n.n MT M3:=e3.weaken t3;have hnew:∀ m',m'∈rg k m->(listed'.setIfInBounds k true).getD m' false≠true:=λm' hm' e=>by
     have h1:=mem_rg.1 hm';rcases l5 e with h|h
     ·omega
     ·exact hun hi4 m' (by omega) h
    have common:∀ Mp',RelM G Mp'->Ext n.n M Mp'->Ext n.n Mp' M3->Mp'.w.heap.size<=M3.w.heap.size->Pd P Mp' l.toArray ((bif sh then fo else al)++rg k m) (listed'.setIfInBounds k true) a3 M3 ->
     wpAnyIn (s6 ro) 0 P .any l.toArray (λe a' w'=>∃ S' M',M'.w=w'/\Rel G S' a' M'/\Ext n.n M M'/\NewD M a a'/\Q e S') f' (listed'.setIfInBounds k true) a3 M3.w:=by
     intro Mp' q1 q2 q3 q4 q5
     refine ih ((bif sh then fo else al)++rg k m) (k+1+m) (fo++rg k m) Sf M3.objs M3 Mp' (listed'.setIfInBounds k true) z8 (λm' hm'=>?_) z9 (λm' hm'=>?_) f1 f2 (Nat.le_trans t3 e3.len) q1 q2 q3 f3 (λm' hm'=>?_) (λm' hm' hmf=>?_) hkf' f' _ a3 M3
      ⟨by simpa using hi4.sz,aS (mem_ready.1 hk4).1 hi4.cn,hi4.cl.step hk4,r3,Ext.refl M3,d3.trans hi4.df,q5,q4,λ_ h=>.inl h,λ_ h=>h⟩
     ·rcases List.mem_append.1 hm' with h|h
      ·have:=hks m' (hfo m' h);omega
      ·have:=mem_rg.1 h;omega
     ·rcases List.mem_append.1 hm' with h|h
      ·refine List.mem_append_left _ ?_;cases sh with
       | true=>exact h
       | false=>exact hka m' (hfo m' h)
      ·exact List.mem_append_right _ h
     ·rcases l5 hm' with rfl|h1
      ·omega
      ·rcases hi4.only m' h1 with h2|h2
       ·have:=hb1 m' h2;omega
       ·have:=hks m' h2;omega
     ·rcases Nat.lt_trichotomy m' k with h|h|h
      ·exact getD_set_true (hpl m' h λh2=>hmf (List.mem_append_left _ h2))
      ·subst h;have:m'<listed'.size:=by rw[hi4.sz];simpa using z0
       simp[this]
      ·exact absurd (List.mem_append_right _ (mem_rg.2 ⟨h,hm'⟩)) hmf
    cases sh with
    | true =>
      simp only[Bool.not_true,Bool.false_or,Bool.and_eq_true] at z10;exact common M3 r3.m ((hMMp.trans t2).trans e3n) ((Ext.refl M3).weaken (Nat.le_trans t3 e3.len)) (Nat.le_refl _) (Pd.none z10.2)
    | false =>
      obtain rfl:=t6 rfl;refine common Mp hmp hMMp (t2.trans e3n) (Nat.le_trans hi4.hs e3.hs) (Pd.more ((hi4.pd.step hd (by simpa using hoi) (cb hz7.2) hi4.rel.m e3).tmps hput) λm' hm' hl=>?_);rcases List.mem_append.1 hm' with h|h
      ·exact h
      ·exact absurd hl (hnew m' h)
   ·intro listed' a4 M4 hi4;exact absurd (alll hi4.cn i (by rw[hi4.sz];simpa using z0)) (hun hi4 i (Nat.le_refl _))
def gS (nt j:Nat) (st:List (Bool×List Nat×Nat×List Nat)) (l:List Oper):Bool:=
 decide (j<=l.length)&&(l.all λo=>match o.dst with|some t=>decide (t<nt)|none=>true)&&N6 (l.map (·.dst)) &&
 ((List.range l.length).all λk=>match l[k]? with|some o=>o.after.toList.all λe=>!Region.binds .any e||decide (e.on<k)|none=>true) &&
 ((List.range l.length).all λi=>(List.range l.length).all λk=>match l[i]?,l[k]? with
   | some o,some o'=>match o'.dst with|some u=>!(o.looksAt l.toArray).contains u||o.after.toList.any λe=>decide (e.on=k)&&Region.binds .any e|none=>true
   | _,_=>true) &&
 aA l.toArray (l.take j)&&zo l st (List.range j) j (List.range j)
theorem JT {nt:Nat} {n:Cx} {l:List Oper} {S:DS} {Q:Exit->DS->Prop} (j:Nat) (st:List (Bool×List Nat×Nat×List Nat)) (kp:List Nat) (hnt:S.nt=nt) (hB:gS nt j st l=true)
 (h:nc P G (l.map (·.dst)) (l.take j) S (λSq=>HL P G l (λS''=>At Q .normal ⟨⟩ (S''.keep kp)) st (List.range j) j Sq) ⟨⟩):n.n<=S.objs.length->∀ (a:Act) (M:MS),Rel G S a M ->
 wpAnyIn (s6 (n.rd.map M.β)) 0 P .any l.toArray (λe a' w'=>∃ S' M',M'.w=w'/\Rel G S' a' M'/\Ext n.n M M'/\NewD M a a'/\Q e S') l.length (Array.replicate l.length false) a { M.w with drawn:=M.w.drawn+1 }:=by
 intro hn a M hr;simp only[gS,Bool.and_eq_true,decide_eq_true_eq] at hB;obtain⟨⟨⟨⟨⟨⟨b1,b4⟩,b5⟩,b6⟩,b7⟩,b8⟩,bz⟩:=hB;subst hnt;have hdst:∀ o∈l,∀ u,o.dst=some u->u<S.nt:=λo ho u hu=>by
  have:=List.all_eq_true.1 b4 o ho;simpa[hu] using this
 have hpw:=H9 b5;have hd:bH S.nt l.toArray:=by
  refine⟨λi o ho u hu=>hdst o (by simpa using Array.mem_of_getElem? ho) u hu,λi k o o' u ho ho' hu hu'=>?_⟩;have hi:l[i]?=some o:=by simpa using ho
  have hk:l[k]?=some o':=by simpa using ho'
  obtain⟨hil,hi'⟩:=List.getElem?_eq_some_iff.1 hi;obtain⟨hkl,hk'⟩:=List.getElem?_eq_some_iff.1 hk;rw[List.pairwise_iff_getElem] at hpw;rcases Nat.lt_trichotomy i k with hlt|he|hlt
  ·exact absurd (show (l.map (·.dst))[i]'(by simpa using hil)=(l.map (·.dst))[k]'(by simpa using hkl) by simp[hi',hk',hu,hu']) (hpw i k (by simpa using hil) (by simpa using hkl) hlt (by simp[hi',hu]))
  ·exact he
  ·exact absurd (show (l.map (·.dst))[k]'(by simpa using hkl)=(l.map (·.dst))[i]'(by simpa using hil) by simp[hi',hk',hu,hu']) (hpw k i (by simpa using hkl) (by simpa using hil) hlt (by simp[hk',hu']))
 have hback:∀ (k:Nat) (o:Oper),l.toArray[k]?=some o->∀ e∈o.after,Region.binds .any e=true->e.on<k:=λk o ho e he hb=>by
  have hk:l[k]?=some o:=by simpa using ho
  have:=List.all_eq_true.1 b6 k (by simpa using(List.getElem?_eq_some_iff.1 hk).1);rw[hk] at this;have:=List.all_eq_true.1 this e (by simpa using he);simpa[hb] using this
 have hdep:∀ (i:Nat) (o:Oper),l.toArray[i]?=some o->∀ (k:Nat) (o':Oper),l.toArray[k]?=some o'->∀ u,o'.dst=some u->u∈o.looksAt l.toArray->∃ e∈o.after,e.on=k/\Region.binds .any e=true:=λi o ho k o' ho' u hu hl=>by
  have hi:l[i]?=some o:=by simpa using ho
  have hk:l[k]?=some o':=by simpa using ho'
  have h1:=List.all_eq_true.1 (List.all_eq_true.1 b7 i (by simpa using(List.getElem?_eq_some_iff.1 hi).1)) k (by simpa using(List.getElem?_eq_some_iff.1 hk).1);rw[hi,hk] at h1;simp only[hu,Bool.or_eq_true,Bool.not_eq_true',List.any_eq_true,Bool.and_eq_true,decide_eq_true_eq] at h1;rcases h1 with h1|⟨e,he,h2,h3⟩
  ·have:(o.looksAt l.toArray).contains u=true:=by simpa using hl
   rw[h1] at this;cases this
  ·exact⟨e,by simpa using he,h2,h3⟩
 have hmask:eG l.toArray (Y4 l []):=aT l [] (λj _=>by simp) (λj i oj _ h=>by simp at h);obtain⟨hm1,he1⟩:=RelM.same (w':={ M.w with drawn:=M.w.drawn+1 }) hr.m rfl ⟨rfl,rfl,rfl,by first|exact Nat.le_refl _|exact Nat.le_succ _⟩;have hAl:Al l.toArray (List.range j) (l.take j):=by
  have gen:∀ (m k:Nat),k+m<=l.length->Al l.toArray (List.range' k m) ((l.drop k).take m):=by
   intro m;induction m with
   | zero=>intro k _;simp[Al,List.range']
   | succ m ih =>
     intro k hk;have hk':k<l.length:=by omega
     rw[List.range'_succ,List.drop_eq_getElem_cons hk',List.take_succ_cons];exact⟨by simp,ih (k+1) (by omega)⟩
  have:=gen j 0 (by omega);rwa [List.drop_zero,<- List.range_eq_range'] at this
 obtain⟨Sq,hkq,q1,q2,q3,q4⟩:=L4 (P:=P) (G:=G) (ops:=l.toArray) (nt:=S.nt) (objs:=S.objs) (List.range j) (l.take j) S hAl rfl rfl (λo ho=>hdst o (List.mem_of_mem_take ho))
  (by rw[List.map_take];exact hpw.take) b8 (by simpa using h)
 let Md:MS:={ M with w:={ M.w with drawn:=M.w.drawn+1 } }
 have hobs:M.objs.length=S.objs.length:=by rw[hr.ob]
 refine EV (n:=n) (Q:=Q) (kp:=kp) (M:=M) hd hdep hback hmask st (List.range j) j (List.range j) Sq S.objs Md Md (Array.replicate l.length false) bz (λk hk=>by simpa using hk) b1 (λk hk=>hk) q1 q2 hn hm1 (he1.weaken (by rw[hobs];exact hn)) ((Ext.refl Md).weaken (by show n.n<=M.objs.length;rw[hobs];exact hn)) q3
  (λk hk=>by rw[n5] at hk;cases hk) (λk hk hk'=>absurd (by simpa using hk) hk') hkq l.length _ a Md ?_
 refine⟨by simp,by simp,λk o _ hk=>?_,⟨hm1,hr.ob,hr.nt,hr.df,λt d ht=>?_⟩,by rw[<- hr.ob];exact Ext.refl Md,rfl,⟨λ_=>0,λk o t u _ _ _ _ hk=>?_,λk m o o' t t' _ _ _ _ hk=>?_⟩,Nat.le_refl _,λk hk=>?_,λ_ h=>h⟩
 ·rw[n5] at hk;cases hk
 ·unfold I0 at ht;split at ht
  ·rename_i hvis;have h4:n9 Sq.tmps t=n9 S.tmps t:=q4 t λo ho hu=>by
    obtain⟨k,hk⟩:=List.mem_iff_getElem?.1 ho;have hkj:k<j:=by
     have:=(List.getElem?_eq_some_iff.1 hk).1;simp at this;omega
    rw[List.getElem?_take_of_lt hkj] at hk;have:=hvis k (by simpa using hkj) o (by simpa using hk) hu;rw[n5] at this;cases this
   obtain⟨v,h1,h2⟩:=hr.tm t d (by rw[<- h4];exact ht);exact⟨v,h1,h2.ext he1⟩
  ·cases ht
 ·rw[n5] at hk;cases hk
 ·rw[n5] at hk;cases hk
 ·rw[n5] at hk;cases hk
end
theorem sS {P:Program} {G:LY} {id nt:Nat} {n:Cx} {l:List Oper} {S:DS} {Q:Exit->DS->Prop} (p:List Nat) (j:Nat) (st:List (Bool×List Nat×Nat×List Nat)) (ks:List Nat) (hm:P.follows .mixedOrders=true) (hnt:S.nt=nt) (hP:jr p l=true) (hB:gS nt j st (p5 p l p)=true)
 (h:nc P G ((p5 p l p).map (·.dst)) ((p5 p l p).take j) S (λSq=>HL P G (p5 p l p) (λS''=>At Q .normal ⟨⟩ (S''.keep ks)) st (List.range j) j Sq) ⟨⟩):DT P G n (.region id l.toArray true) S Q:=
 λhn _ a M hr=>wpIn_region_any hm (by
  have hp:=dQ hP;have hl:(p5 p l p).length=l.length:=by rw[ai hp.lt,hp.len]
  have h1:=JT j st ks hnt hB h hn a M hr;rw[hl] at h1;refine fM hp _ _ _ _ _ (by simp) (by simp) (λi k hi=>?_) h1;have hi1:i<l.length:=by rw[<- hp.len];exact e7 hi
  have hk1:=hp.lt k (List.mem_of_getElem? hi);simp[hi1,hk1])
theorem sR {P:Program} {G:LY} {id nt:Nat} {n:Cx} {l:List Oper} {S:DS} {Q:Exit->DS->Prop} (p:List Nat) (j:Nat) (st:List (Bool×List Nat×Nat×List Nat)) (al ks:List Nat) (hm:P.follows .mixedOrders=true) (hnt:S.nt=nt) (hP:jr p l=true) (hB:gS nt j st (p5 p l p)=true)
 (hal:List.range j=al) (h:nc P G ((p5 p l p).map (·.dst)) ((p5 p l p).take j) S (λSq=>HL P G (p5 p l p) (λS''=>At Q .normal ⟨⟩ (S''.keep ks)) st al j Sq) ⟨⟩):DT P G n (.region id l.toArray true) S Q:=by
 subst hal;exact sS p j st ks hm hnt hP hB h
end Go.Ab
namespace Go.Proofs
open Go Go.Ab Tryz
variable {G:LY}
attribute [simp] p5 cw N7 fm u6 A5 nilV J0 HL JW rg List.range'
@[simp] abbrev Wj:List Nat:=[0,1,2,3,6,7,8,9,10,11,12,20,76]
set_option maxRecDepth 10000 in
theorem kB (c:Case) (w:Nat) (b:List Int) (hG:p8 G) (hN:E5 G) (hS:v8 G) (hU:U4 G) (hR:A0 G) (hC:K5 G) (hK:bE G) (hF:jD G) (hp:eF c.p) (hw8:w<=255) (hu:∀ n∈b,0<=n/\n<=4294967295):zP prog G 6 [n4 c,wq (w:Int),.one (.im (.sl (b.map BG)))] (bv true):=by
 refine zf func6 ntmps6 ?_;try simp only[wq]
 have a1:=Fe (G:=G) hG hN hS hU hR hC hK hF;have c1:=vC (G:=G) c hp;cases hq:aw c
 ·rw[hq] at c1;simp only[n4,j4,rI,List.map_cons,List.map_nil] at c1 ⊢;have hs:=trivial;repeat' first|(with_reducible first|refine zz ?_|refine zr ?_|refine zE Wj ?_)|simp -dsimp[hs]|refine zp a1 ?_|refine zp c1 ?_|refine i8 ?_ ?_<;>intro h<;>try exact h.elim
  all_goals try clear hs
 ·obtain⟨hsk,hk,h0⟩:=lJ hp hq;have hq':=hq;rw[hq] at c1;obtain⟨he,_⟩:=E6 h0;have hok:=F5 (C2 he).2;have hlen:=hok.e;have hl8:=hok.l;have hq16:=hk.q;have hlt:w % c.pieces.length<c.pieces.length:=Nat.mod_lt _ (by omega);have hm:((w:Int).tmod (c.pieces.length:Int))=((w % c.pieces.length:Nat):Int):=by
   rw[Int.tmod_eq_emod_of_nonneg (by omega)];omega
  have h0i:¬ (c.pieces.length:Int)=0:=by omega
  have hPn:¬ c.pieces=[]:=λe=>by rw[e] at h0i;exact h0i rfl
  generalize hj:w % c.pieces.length=k at *;have hx0:c.pieces[k]?=some c.pieces[k]:=List.getElem?_eq_getElem hlt;have hpc:=kY hok hlt;unfold U5 at hpc;have c2:=sq (G:=G) b 0 (by omega) hu;have c3:=sq (G:=G) b 1 (by omega) hu;have u1:=mD hu 0;have u2:=mD hu 1;generalize ac b 0=U at *;generalize ac b 1=V at *;have w0:IntKind.i64.wrap (w:Int)=(w:Int):=o7 (by omega) (by omega);have w1:IntKind.i64.wrap (k:Int)=(k:Int):=o7 (by omega) (by omega);generalize hx:c.pieces[k]=x at *;have w6:IntKind.i64.wrap (x.hi-x.lo)=x.hi-x.lo:=o7 (by omega) (by omega);have w7:IntKind.i64.wrap (x.hi-x.lo+1)=x.hi-x.lo+1:=o7 (by omega) (by omega);have g7:¬ x.hi-x.lo+1=0:=by omega
  have m1:0<=U % (x.hi-x.lo+1):=Int.emod_nonneg _ (by omega);have m2:U % (x.hi-x.lo+1)<x.hi-x.lo+1:=Int.emod_lt_of_pos _ (by omega);obtain⟨lo,hlo⟩:∃ n,n=x.lo+U % (x.hi-x.lo+1):=⟨_,rfl⟩
  have w8:IntKind.i64.wrap (x.lo+U.tmod (x.hi-x.lo+1))=lo:=by
   rw[Int.tmod_eq_emod_of_nonneg (by omega),<- hlo];exact o7 (by omega) (by omega)
  have hlr:x.lo<=lo/\lo<=x.hi:=by omega
  clear hlo m1 m2;have w9:IntKind.i64.wrap (x.hi-lo)=x.hi-lo:=o7 (by omega) (by omega);have w10:IntKind.i64.wrap (x.hi-lo+1)=x.hi-lo+1:=o7 (by omega) (by omega);have g8:¬ x.hi-lo+1=0:=by omega
  have m1:0<=V % (x.hi-lo+1):=Int.emod_nonneg _ (by omega);have m2:V % (x.hi-lo+1)<x.hi-lo+1:=Int.emod_lt_of_pos _ (by omega);obtain⟨hi,hhi⟩:∃ n,n=lo+V % (x.hi-lo+1):=⟨_,rfl⟩
  have w11:IntKind.i64.wrap (lo+V.tmod (x.hi-lo+1))=hi:=by
   rw[Int.tmod_eq_emod_of_nonneg (by omega),<- hhi];exact o7 (by omega) (by omega)
  have hhr:lo<=hi/\hi<=x.hi:=by omega
  clear hhi m1 m2;have s2:=dG (G:=G) lo hi;have hMs:MsOk c k x lo hi:=⟨hx0,⟨hlr.1,hhr.1,hhr.2⟩,h0⟩
  have mn:=LD hp hq' hMs;have c4:=sD (G:=G) c k x lo hi hx0 he (by simp only[O6,decide_eq_true_eq];omega) hG hN hS hR hk;have c5:=vC (G:=G) (bB c k x lo hi) mn.q4;have c6:=Ed (G:=G) c (bB c k x lo hi) hG hN hS hU hR hC hK hF hk mn.q5 (GR h0 (AI hMs) fS (GJ hMs));have c7:=zV (G:=G) c hsk;rw[mn.q3] at c5;have hset:(bB c k x lo hi).pieces.set k x=c.pieces:=by
   show (c.pieces.set k (qr x lo hi)).set k x=c.pieces;rw[List.set_set];refine List.ext_getElem? λi=>?_;rw[List.getElem?_set];by_cases h:k=i
   ·subst h;rw[if_pos rfl,if_pos hlt,hx0]
   ·rw[if_neg h]
  have hplen:(bB c k x lo hi).pieces.length=c.pieces.length:=fS;have hpx:(bB c k x lo hi).pieces[k]?=some (qr x lo hi):=by rw[fT,if_pos rfl,hx0];rfl
  have hkeep:(bB c k x lo hi).p=c.p/\(bB c k x lo hi).machine=c.machine/\(bB c k x lo hi).of=c.of/\(bB c k x lo hi).loop=c.loop:=⟨rfl,rfl,rfl,rfl⟩
  clear mn hMs;generalize bB c k x lo hi=c' at *;simp only[n4,j4,E0,rI,List.map_cons,List.map_nil] at c1 c4 s2 ⊢;have hs:=za hx (za hlt (za hm (za h0i (za hPn (za g7 (za g8 (za w0 (za w1 (za w6 (za w7 (za w8 (za w9 (za w10 w11)))))))))))));repeat' first|with_reducible refine zz ?_|simp -dsimp[hs]|refine zp a1 ?_|refine zp c1 ?_|refine zq c2 ?_|refine zq c3 ?_|refine zq s2 ?_|refine CallE.embed_ex [] c4 ?_ ?_ ?_ ?_ ?_ ?_;(focus simp[u7];done);(focus simp;done);(focus simp;done);(focus simp;done);(focus refine o9 ?_;simp[u7,r9];done);intro mmA hmmA;(try simp only[lS,mo,jS,rnVL,gR,pn,Gd,Nat.zero_add]);try simp -dsimp[sW,oC,qv]|refine sR (id:=7) (nt:=89) [0,1,2,3,4,5,6,7,8,9,10,11,12,13,18,14,15,16,17,19,20] 15 [(false,[14],0,[0,1,2,3,6,7,8,9,10,12,20,47,48,60,76]),(false,[14],2,[0,1,2,3,6,7,8,9,10,12,20,61,76]),(true,[18],0,[0,1,2,3,6,7,8,9,10,11,12,20,46,62,76])] [0,1,2,3,4,5,6,7,8,9,10,11,12,13,14] Wj mixed rfl (by kernel_rfl) (by kernel_rfl) rfl ?_|refine zM 6 89 13 Wj ?_|with_reducible refine zE Wj ?_|refine i8 ?_ ?_<;>intro h<;>try exact h.elim
  all_goals try clear hs
  refine CallE.thaw c5 (congrArg (λa=>[DV.agg a]) (pO (s:=11) (m:=mmA) (c:=c') ?_ ?_ ?_ ?_ ?_ ?_ ?_ ?_).symm) ?_ ?_
  ·simp
  ·simp
  ·simp
  ·simp
  ·simp
  ·simp
  ·intro k x hx;have hlt:=e7 hx;have a1:=iC hlt;have a3:=iB hlt;simp[a1,a3,fZ,hx]
  ·intro k x hx;have hlt:=e7 hx;have a1:=iD hlt;simp[a1,iz,hx]
  ·simp
  ·simp -dsimp;have hs:True:=trivial;all_goals try simp -dsimp[hs]
   all_goals try clear hs
   refine CallE.thaw c6 (congrArg (λa=>[n4 c,DV.agg a]) (pO (s:=11) (m:=mmA) (c:=c') ?_ ?_ ?_ ?_ ?_ ?_ ?_ ?_).symm) ?_ ?_
   ·simp
   ·simp
   ·simp
   ·simp
   ·simp
   ·simp
   ·intro k x hx;have hlt:=e7 hx;have a1:=iC hlt;have a3:=iB hlt;simp[a1,a3,fZ,hx]
   ·intro k x hx;have hlt:=e7 hx;have a1:=iD hlt;simp[a1,iz,hx]
   ·simp
   ·simp -dsimp;have h0k:¬ (c.pieces.length:Int)=0:=h0i;have hs:=za hx0 (za hlt (za hm (za h0i (za w0 (za w1 (za hpx hplen))))));repeat' first|(with_reducible first|refine zz ?_|refine zE Wj ?_)|simp -dsimp[hs]|refine i8 ?_ ?_<;>intro h<;>try exact h.elim
    all_goals try clear hs
    have hcc:(⟨c'.p,c'.machine,c'.of,c'.loop,c.pieces⟩:Case)=c:=by
     obtain⟨k1,k2,k3,k4⟩:=hkeep;rw[k1,k2,k3,k4]
    have hk':k<c'.pieces.length:=by rw[hplen];exact hlt
    have e0:c'.pieces[k]=qr x lo hi:=Option.some.inj ((List.getElem?_eq_getElem hk').symm.trans hpx);refine CallE.thaw c7 (congrArg (λa=>[DV.agg a,n4 c]) ((pO (s:=11) (m:=mmA) (c:=⟨c'.p,c'.machine,c'.of,c'.loop,c.pieces⟩) ?_ ?_ ?_ ?_ ?_ ?_ ?_ ?_).trans (by rw[hcc])).symm) ?_ ?_
    ·simp
    ·simp
    ·simp
    ·simp
    ·simp
    ·simp;simp only[e0,qr];rw[<- hset];simp[n3,List.map_set]
    ·intro k x hx;have hlt:=e7 hx;have a1:=iC hlt;have a3:=iB hlt;simp[a1,a3,fZ,hx]
    ·intro k x hx;have hlt:=e7 hx;have a1:=iD hlt;simp[a1,iz,hx]
    ·simp
    ·simp -dsimp;have hs:=trivial;repeat' first|(with_reducible first|refine zz ?_|refine zr ?_)|simp -dsimp[hs]
     all_goals try clear hs
end Go.Proofs
namespace Go.Ab
open Go Go.Sort
theorem RelM.grownS {G:LY} {M:MS} {w':World} {os:Array Obj} (h:RelM G M) (hw:w'.heap=M.w.heap++os) (hio:SameIo M.w w'):RelM G { M with w:=w' }/\Ext M.objs.length M { M with w:=w' }:=by
 have hold:∀ {b:Nat},b<M.w.heap.size->w'.heap[b]?=M.w.heap[b]?:=λ{b} hb=>by rw[hw];simp[Array.getElem?_append,hb]
 have hsz:M.w.heap.size<=w'.heap.size:=by rw[hw];simp
 have he:Ext M.objs.length M { M with w:=w' }:=
  ⟨Nat.le_refl _,λb hb=>⟨⟨Nat.lt_of_lt_of_le hb.1 hsz,hb.2⟩,hold hb.1⟩,dn M,hsz,λp _ c' hc=>⟨⟨c',hc⟩,rfl⟩,
   λp _ sz es g nl hv=>⟨sz,es,g,nl,hv,Nat.le_refl _,λ_=>⟨rfl,rfl,λhn=>⟨rfl,by simp only[I2];rw[hold (h.lt p _ hv (by simp[DObj.blk,hn]))]⟩⟩⟩,λp _ ks es hm=>⟨⟨ks,es,hm⟩,rfl⟩,
   λp _ r hm=>⟨⟨r,hm⟩,rfl⟩,λp _ d hm hi=>⟨⟨d,hm,hi⟩,rfl⟩,λp _ r hm=>⟨⟨r,hm⟩,rfl⟩,hio⟩
 exact⟨⟨λo d ho=>(h.objs o d ho).ext he (λ_=>rfl) (λhb=>hold (h.lt o d ho hb)),λo d ho hb=>Nat.lt_of_lt_of_le (h.lt o d ho hb) hsz,h.inj,λg l hg=>(h.glob g l hg).mono he.ok,λb hF=>Nat.lt_of_lt_of_le (h.fl b hF) hsz,h.own⟩,he⟩
theorem pr {l:List Int} {c:Array Value} {i:Nat} (hi:i<l.length) (hc:i<c.size):(putCells (Value.int .i64) 0 l.toArray c)[i]?=some (.int .i64 l[i]):=by
 simp only[putCells,Array.getElem?_mapIdx,Array.getElem?_eq_getElem hc,Option.map_some];rw[if_pos ⟨Nat.zero_le _,by simpa using hi⟩];simp[hi]
theorem DCall.sort {P:Program} {G:LY} {f:FuncId}
 (hS:∀ (blk cap:Nat) (zs:List Int) (w:World),Holds (Value.int .i64) w blk 0 zs.toArray->blk<w.heap.size->zs.length<4611686018427387904 ->
  Calls P f #[.slice (some ⟨blk,0,none⟩) zs.length cap] w λe w'=>e=.returned (.tuple #[])/\∃ n os,w'=grow (putRow (Value.int .i64) (Sort.ahead w n) blk 0 (zs.mergeSort λx y=>decide (x<=y)).toArray) os)
 (h0:∀ (a:Option Addr) (cap:Nat) (w:World),Calls P f #[.slice a 0 cap] w λe w'=>e=.returned (.tuple #[])/\w'=w)
 (l:List Int) (g sz:Nat) (nl:Bool) (hz:sz=1\/nl=true/\l=[]) (hl:l.length<1000000) :
 DCall P G f [.one (.vec 0 g 0 l.length)] [.vec sz (n3 (l.map Ab.encI)) g nl] (λd o=>d=.tup []/\o=[.vec sz (n3 ((l6 l).map Ab.encI)) g nl]):=by
 intro M vs hM ho hsz hr;obtain⟨v,rfl⟩:∃ v,vs=#[v]:=by
  obtain⟨vl⟩:=vs;match vl,hsz with
  | [v],_=>exact⟨v,rfl⟩
 have hv:=hr 0 _ v rfl rfl;have h1:M.objs[0]?=some (.vec sz (n3 (l.map Ab.encI)) g nl):=by rw[ho];rfl
 have hO:=hM.objs 0 _ h1;cases hv with
 | one _ _ hv =>
 cases hv with
 | vec _ _ _ _ _ _ _ hv =>
 obtain⟨_,hv⟩:=hv _ _ _ _ h1;obtain⟨hvt,hvf⟩:=hv rfl;have hnil:∀ (a:Option Addr) (cap:Nat),l=[]->Calls P f #[.slice a 0 cap] M.w λe w'=>∃ v d M',e=.returned v/\M'.w=w'/\RelM G M'/\RepV M' d v/\Ext 1 M M'/\d=.tup []/\M'.objs=[.vec sz (n3 ((l6 l).map Ab.encI)) g nl]:=λa cap hle=>by
  refine(h0 a cap M.w).mono λe w' ⟨he,hw⟩=>?_;subst hw;refine⟨_,.tup [],M,he,rfl,hM,.tup _ _ rfl (λj d v h=>by simp at h),(Ext.refl M).weaken (by simp[ho]),rfl,?_⟩;rw[ho,hle,show l6 []=[] from List.mergeSort_nil]
 cases nl with
 | true =>
   obtain⟨_,e,hv⟩:=hvt rfl;have e:l=[]:=List.eq_nil_of_length_eq_zero e;have:=hnil none 0 e;rw[hv];simpa using this
 | false =>
   obtain rfl:sz=1:=hz.resolve_right λh=>Bool.noConfusion h.1;obtain⟨x,cap,hv,hc,hx,hb⟩:=hvf rfl;by_cases e:l=[]
   ·have:=hnil (some ⟨M.β 0,x,none⟩) cap e;rw[hv];subst e;simpa using this
   have hlp:0<l.length:=List.length_pos_iff.2 e;have hx0:x=0:=by rcases hx with hx|hx<;>omega
   subst hx0;obtain⟨_,hO⟩:=hO;obtain⟨_,c,T,hh,hcs,hes,hrep⟩:=hO rfl;have hcl:l.length<=c.size:=by simpa[r8] using hcs
   have hcell:∀ j (hj:j<l.length),c[j]?=some (.int .i64 l[j]):=λj hj=>by
    have hjc:j<c.size:=by omega
    have:=hrep j [DC.im (.raw (.int .i64 l[j]))] 0 (.im (.raw (.int .i64 l[j]))) c[j] (by simp[n3,hj]) rfl (by simp[hjc]);have hcj:c[j]?=some c[j]:=by simp[hjc]
    generalize c[j]=y at this hcj;cases this with
    | im _ _ hi =>
      cases hi;exact hcj
   have hH:Holds (Value.int .i64) M.w (M.β 0) 0 l.toArray:=λj hj=>by
    have hj:j<l.length:=by simpa using hj
    refine⟨?_,?_⟩
    ·simp only[World.cell?,hh];simp[hcell j hj,hj]
    ·simp[World.frozen?,hh]
   have hlt:M.β 0<M.w.heap.size:=hM.lt 0 _ h1 rfl;rw[hv];refine(hS (M.β 0) cap l M.w hH hlt (by omega)).mono λe' w' ⟨he,n,os,hw⟩=>?_;have hmod:M.w.heap.modify (M.β 0) (onCells (putCells (Value.int .i64) 0 (l6 l).toArray))=M.w.heap.setIfInBounds (M.β 0) (.cells (putCells (Value.int .i64) 0 (l6 l).toArray c) T (0,0)):=by
    apply Array.ext_getElem?
    intro k;simp only[Array.getElem?_modify,Array.getElem?_setIfInBounds];by_cases hk:M.β 0=k
    ·subst hk;rw[if_pos rfl,if_pos rfl,if_pos hlt,hh];rfl
    ·simp[hk]
   have ha:(DObj.vec 1 (n3 (l.map Ab.encI)) g false).alike (.vec 1 (n3 ((l6 l).map Ab.encI)) g false):=⟨rfl,.inl ⟨rfl,rfl⟩⟩
   have hs:M7 (.cells (putCells (Value.int .i64) 0 (l6 l).toArray c) T (0,0))=M7 (.cells c T (0,0)):=by simp[M7,putCells]
   have hE:=Ext.turn (d':=.vec 1 (n3 ((l6 l).map Ab.encI)) g false) h1 rfl ha hh hs;have hR:=RelM.turn (d':=.vec 1 (n3 ((l6 l).map Ab.encI)) g false) hM h1 rfl ha hh hs (by
    refine⟨λh=>Bool.noConfusion h,λ_=>⟨by omega,putCells (Value.int .i64) 0 (l6 l).toArray c,T,by simp[MS.turn,Array.getElem?_setIfInBounds_self_of_lt hlt],by simpa[r8,O1,putCells] using hcl,λi x hx=>?_,λi x j d v hx hj hv=>?_⟩⟩
    ·simp only[n3,List.getElem?_map,Option.map_map] at hx;obtain⟨y,_,rfl⟩:=Option.map_eq_some_iff.1 hx;rfl
    ·simp only[n3,List.getElem?_map,Option.map_map] at hx;obtain⟨y,hy,rfl⟩:=Option.map_eq_some_iff.1 hx;have hil:i<(l6 l).length:=e7 hy;match j,hj with
     | 0,hj =>
       cases hj;have hic:i<c.size:=by rw[O1] at hil;omega
       rw[Nat.mul_one,Nat.add_zero,pr hil hic] at hv;have e:(l6 l)[i]'hil=y:=(List.getElem?_eq_some_iff.1 hy).2;cases hv;rw[e];exact .im _ _ (.raw _ rfl))
   have hg:=RelM.grownS (w':=w') (os:=os) hR (by rw[hw];simp only[grow,putRow,mapBlock,Sort.ahead,MS.turn];rw[show (l.mergeSort λx y=>decide (x<=y))=l6 l from rfl,hmod]) (by rw[hw];exact⟨rfl,rfl,rfl,Nat.le_add_right _ _⟩);refine⟨_,.tup [],_,he,?_,hg.1,.tup _ _ rfl (λj d v h=>by simp at h),?_,rfl,?_⟩
   ·rfl
   ·have hl1:M.objs.length=1:=by rw[ho];rfl
    have h2:=hg.2;rw[show (M.turn 0 (.cells (putCells (Value.int .i64) 0 (l6 l).toArray c) T (0,0)) (.vec 1 (n3 ((l6 l).map Ab.encI)) g false)).objs.length=1 by simp[MS.turn,ho]] at h2;rw[hl1] at hE;exact hE.trans h2
   ·simp[MS.turn,ho]
end Go.Ab
