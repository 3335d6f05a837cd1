/- Part 24 of the proofs. -/
import Derived.Test.YtlmlkkoapahmjaaGreatDoorS09
import Derived.Test.YtlmlkkoapahmjaaGreatDoorS14
import Derived.Test.YtlmlkkoapahmjaaGreatDoorS17
import Derived.Test.YtlmlkkoapahmjaaGreatDoorS19
import Derived.Test.YtlmlkkoapahmjaaGreatDoorS20
import Derived.Test.YtlmlkkoapahmjaaGreatDoorD02
import Derived.Test.YtlmlkkoapahmjaaGreatDoorD03
set_option linter.all false
set_option maxHeartbeats 100000000
namespace Go.Ab
open Go
def dy (a b:Susp):Prop:=a.kind<b.kind\/(a.kind=b.kind/\a.index<b.index)
instance (a b:Susp):Decidable (dy a b):=by unfold dy;infer_instance
theorem rP {a b c:Susp} (h1:dy a b) (h2:dy b c):dy a c:=by unfold dy at *;omega
theorem oK {α β:Type} (f g:α->List β):∀ l:List α,(l.flatMap f++l.flatMap g).Perm (l.flatMap λa=>f a++g a)
 | []=>by simp
 | a :: l=>by
   simp only[List.flatMap_cons,List.append_assoc];refine List.Perm.append_left _ ?_;have h:=oK f g l;refine List.Perm.trans ?_ (List.Perm.append_left (g a) h);rw[<- List.append_assoc,<- List.append_assoc];exact List.Perm.append_right _ List.perm_append_comm
def aO (i:Nat):Susp:=⟨2,i⟩
def cw (i:Nat):Susp:=⟨3,i⟩
def cm (b:Bool) (s:Susp):List Susp:=if b=true then [s] else []
def cX (b:Bool) (p h:Nat->Bool) (n:Nat):List Susp:=cm b ⟨1,0⟩++((List.range n).flatMap (λi=>cm (p i) (aO i))++(List.range n).flatMap λi=>cm (h i) (cw i))
def X8 (b:Bool) (p h:Nat->Bool) (n:Nat):List Susp:=cm b ⟨1,0⟩++(List.range n).flatMap λi=>cm (p i) (aO i)++cm (h i) (cw i)
theorem O0 (b:Bool) (p h:Nat->Bool) (n:Nat):(cX b p h n).Perm (X8 b p h n):=List.Perm.append_left _ (oK _ _ _)
theorem ifS_mem {b:Bool} {s x:Susp}:x∈cm b s↔b=true/\x=s:=by unfold cm;split<;>simp_all
theorem gp (b:Bool) (s:Susp):(cm b s).length=if b=true then 1 else 0:=by unfold cm;split<;>simp_all
theorem jd (p:Nat->Bool) (f:Nat->Susp) (hf:∀ i j,i<j->dy (f i) (f j)) (n:Nat):((List.range n).flatMap λi=>cm (p i) (f i)).Pairwise dy:=by
 rw[List.pairwise_flatMap];refine⟨λi _=>by unfold cm;split<;>simp,List.pairwise_lt_range.imp λ{i j} h x hx y hy=>?_⟩;rw[(ifS_mem.1 hx).2,(ifS_mem.1 hy).2];exact hf i j h
theorem flat_mem {p:Nat->Bool} {f:Nat->Susp} {n:Nat} {x:Susp}:(x∈(List.range n).flatMap λi=>cm (p i) (f i))↔∃ i,i<n/\p i=true/\x=f i:=by
 simp only[List.mem_flatMap,List.mem_range,ifS_mem]
theorem listS_mem {b:Bool} {p h:Nat->Bool} {n:Nat} {x:Susp}:x∈cX b p h n↔(b=true/\x=⟨1,0⟩)\/(∃ i,i<n/\p i=true/\x=aO i)\/(∃ i,i<n/\h i=true/\x=cw i):=by
 simp only[cX,List.mem_append,ifS_mem,flat_mem]
theorem ge (b:Bool) (p h:Nat->Bool) (n:Nat):(cX b p h n).Pairwise dy:=by
 unfold cX;rw[List.pairwise_append,List.pairwise_append];refine⟨by unfold cm;split<;>simp,⟨jd p aO (λi j h=>.inr ⟨rfl,by simp[aO];omega⟩) n,jd h cw (λi j h=>.inr ⟨rfl,by simp[cw];omega⟩) n,λx hx y hy=>?_⟩,λx hx y hy=>?_⟩
 ·obtain⟨i,_,_,rfl⟩:=flat_mem.1 hx;obtain⟨j,_,_,rfl⟩:=flat_mem.1 hy;exact .inl (by simp[aO,cw])
 ·rw[(ifS_mem.1 hx).2];rcases List.mem_append.1 hy with hy|hy
  ·obtain⟨j,_,_,rfl⟩:=flat_mem.1 hy;exact .inl (by simp[aO])
  ·obtain⟨j,_,_,rfl⟩:=flat_mem.1 hy;exact .inl (by simp[cw])
def cA (n:Nat):List Susp:=cX true (λ_=>true) (λ_=>true) n
theorem iu (b:Bool) (p h:Nat->Bool) (n:Nat):X8 b p h (n+1)=X8 b p h n++(cm (p n) (aO n)++cm (h n) (cw n)):=by
 simp[X8,List.range_succ]
theorem bi (b:Bool) (p h:Nat->Bool):∀ n,(X8 b p h n).length<=1+2*n
 | 0=>by simp[X8,gp];split<;>omega
 | n+1=>by
   have:=bi b p h n;rw[iu,List.length_append,List.length_append,gp,gp];split<;>split<;>omega
theorem mr {b:Bool} {p h:Nat->Bool} {n:Nat} {x:Susp} (hx:x∈X8 b p h n):0<=x.kind/\x.kind<=3/\0<=x.index/\(x.index<n\/x.index=0):=by
 rcases listS_mem.1 ((O0 b p h n).mem_iff.2 hx) with⟨_,rfl⟩|⟨i,h1,_,rfl⟩|⟨i,h1,_,rfl⟩
 ·simp
 ·simp[aO];omega
 ·simp[cw];omega
end Go.Ab
namespace Go.Proofs
open Go Go.Ab
variable {G:Hn}
def cU (a b:Susp):Int:=be [a.kind-b.kind,a.index-b.index]
theorem dM (a b:Susp):cU a b<0↔dy a b:=by
 unfold cU be be be dy;repeat' split
 all_goals omega
def eG (x:Susp):Prop:=0<=x.kind/\x.kind<=255/\0<=x.index/\x.index<=1000000000
abbrev vo:={ x:Susp // eG x }
def tb (x:vo):List IC:=j9 x.1
theorem sN (a b:Susp) (ha:eG a) (hb:eG b):DCall Tryz.prog G 61 [.agg ((j9 a).map wk),.agg ((j9 b).map wk)] [] (λd o=>d=iv (cU a b)/\o=[]):=by
 refine DCall.drop ?_;obtain⟨a1,a2,a3,a4⟩:=ha;obtain⟨b1,b2,b3,b4⟩:=hb;have w1:IntKind.i64.wrap (a.kind-b.kind)=a.kind-b.kind:=m9 (by omega) (by omega);have w2:IntKind.i64.wrap (a.index-b.index)=a.index-b.index:=m9 (by omega) (by omega);have w3:IntKind.i64.wrap a.kind=a.kind:=m9 (by omega) (by omega);have w4:IntKind.i64.wrap b.kind=b.kind:=m9 (by omega) (by omega);have c3:=BC (G:=G) [a.kind-b.kind,a.index-b.index] (by simp);have hE:cU a b=be [a.kind-b.kind,a.index-b.index]:=rfl;rw[<- hE] at c3;simp only[j9,List.map_cons,List.map_nil,rI,wk];refine i8 Tryz.func61 rfl Tryz.ntmps61 (by simp) rfl ?_;have hs:=za w1 (za w2 (za w3 w4));repeat' first|(with_reducible first|refine zz ?_|refine zr ?_|refine zE [0,1,2,3,4] ?_)|simp -dsimp[hs]|refine zt c3 ?_ ?_ ?_;(focus simp;done);focus (simp;done)|with_reducible refine And.intro ?_ ?_
def aF (G:Hn):Prop:=∀ (l:List vo) (gn sz:Nat) (nl:Bool),(sz=2\/nl=true/\l=[])->l.length<1000000 ->
 DCall Tryz.prog G 96 [.one (.vec 0 gn 0 l.length),.one (.im (.fn (.func 61) []))] [.vec sz (l8 (l.map tb)) gn nl] (λd o=>d=.tup []/\∃ l':List vo,l'.Perm l/\(l'.Pairwise λa b=>¬ cU b.1 a.1<0)/\o=[.vec sz (l8 (l'.map tb)) gn nl])
theorem sH {G:Hn} (hSF:aF G) {l r:List Susp} (hT:∀ x∈l,eG x) (hp:r.Perm l) (hr:r.Pairwise dy) (hl:l.length<1000000) (gn sz:Nat) (nl:Bool) (hz:sz=2\/nl=true/\l=[]) :
 DCall Tryz.prog G 96 [.one (.vec 0 gn 0 l.length),.one (.im (.fn (.func 61) []))] [.vec sz (l8 (l.map j9)) gn nl] (λd o=>d=.tup []/\o=[.vec sz (l8 (r.map j9)) gn nl]):=by
 have h:=hSF (l.attach.map λx=>⟨x.1,hT x.1 x.2⟩) gn sz nl (hz.imp id λh=>⟨h.1,by simpa using h.2⟩) (by simpa using hl);have e1:(l.attach.map λx=>(⟨x.1,hT x.1 x.2⟩:vo)).map tb=l.map j9:=by
  rw[List.map_map];exact(List.map_attach_eq_pmap ..).trans (List.pmap_eq_map ..)
 rw[e1] at h;simp only[List.length_map,List.length_attach] at h;refine h.mono λd o ⟨h1,l',h2,h3,h4⟩=>⟨h1,?_⟩
 have h5:(l'.map Subtype.val)=r:=by
  have h6:(l'.map Subtype.val).Perm l:=by
   have:=h2.map Subtype.val;rw[List.map_map] at this;refine this.trans ?_;have e2:(l.attach.map (Subtype.val ∘ λx=>(⟨x.1,hT x.1 x.2⟩:vo)))=l:=(List.map_attach_eq_pmap ..).trans ((List.pmap_eq_map ..).trans (List.map_id _));rw[e2]
  refine List.Perm.eq_of_pairwise (le:=λa b=>¬ cU b a<0) (λa b _ _ h1 h2=>?_) (by rw[List.pairwise_map];exact h3) (hr.imp λ{a b} h=>?_) (h6.trans hp.symm)
  ·rw[dM] at h1 h2;unfold dy at h1 h2;obtain⟨a1,a2⟩:=a;obtain⟨b1,b2⟩:=b;simp only at h1 h2;rw[Susp.mk.injEq];omega
  ·rw[dM];unfold dy at *;omega
 rw[h4,<- h5,List.map_map];rfl
@[simp] abbrev Jp:List Nat:=[0,1,2,3,4,9,10,11]
theorem qn (c:Case) (hn:c.pieces.length<100000) (hU:aF G):zP Tryz.prog G 49 [n7 c] (s7 (cA c.pieces.length)):=by
 refine zf Tryz.func49 Tryz.ntmps49 ?_;try simp only[iv]
 simp only[n7,j4];have hs:=trivial;repeat' first|(with_reducible first|refine zz ?_|refine zE Jp ?_)|simp -dsimp[hs]
 refine g9 (ι:={ p:Nat×Nat // p.1<=c.pieces.length }) (λp=>⟨24,[(3,.one (.vec 2 p.1.2 0 (X8 true (λ_=>true) (λ_=>true) p.1.1).length)),(9,iv (c.pieces.length:Int)),(10,iv (p.1.1:Int))],[.row ((j4 c).map .im),.vec 2 [] 0 true,.vec 2 (l8 ((X8 true (λ_=>true) (λ_=>true) p.1.1).map j9)) p.1.2 false]⟩) (λp=>c.pieces.length-p.1.1) ⟨(0,0),by simp⟩ (zv [3,9,10] (by simp[X8,cm])) ?_;rintro⟨⟨k,g⟩,hk⟩;simp only at hk;simp only[iv];by_cases hlt:k<c.pieces.length
 ·have hw:=zk k;have hst:=iu true (λ_=>true) (λ_=>true) k;have hln:=bi true (λ_=>true) (λ_=>true) k;simp only[cm,if_true,aO,cw,List.cons_append,List.nil_append] at hst;generalize X8 true (λ_=>true) (λ_=>true) k=L at *;have hs:=za hlt hw;repeat' first|(with_reducible first|refine zz ?_|refine And.intro (by omega) ?_|refine zE Jp ?_)|simp -dsimp[hs]|refine i7 ?_ ?_<;>intro h<;>try exact h.elim
  all_goals exact zn ⟨(k+1,g+1),by simp only;omega⟩ (zw [3,9,10] 3 (by simp[hst]))
 ·obtain rfl:k=c.pieces.length:=by omega
  have hln:=bi true (λ_=>true) (λ_=>true) c.pieces.length;have c1:=sH (G:=G) hU (l:=X8 true (λ_=>true) (λ_=>true) c.pieces.length) (r:=cA c.pieces.length) (λx hx=>by have:=mr hx;unfold eG;omega) (O0 _ _ _ _) (ge _ _ _ _) (by omega) g 2 false (.inl rfl);have hal:(cA c.pieces.length).length=(X8 true (λ_=>true) (λ_=>true) c.pieces.length).length:=(O0 _ _ _ _).length_eq;generalize X8 true (λ_=>true) (λ_=>true) c.pieces.length=L at *;generalize cA c.pieces.length=A at *;rw[<- hal] at c1;rw[<- hal];have hs:=hlt;repeat' first|(with_reducible first|refine zz ?_|refine zr ?_|refine zE Jp ?_)|simp -dsimp[hs]|refine CallE.embed [2] (c1) ?_ ?_ ?_ ?_ ?_ ?_;(focus simp[D6];done);(focus simp;done);(focus simp;done);(focus simp;done);(focus refine C4 ?_;simp[D6,D5];done);try simp -dsimp[u7,D6,hs]|refine i7 ?_ ?_<;>intro h<;>try exact h.elim
  all_goals simp
end Go.Proofs
namespace Go.Ab
open Go
def kP (p:Int×Int):List Value:=[.int .i64 p.1,.int .i64 p.2]
def Q5 (l:List (Int×Int)):List (List Value×List DC):=l.map λp=>(kP p,[.im (rB true)])
def wR (p:Int×Int) (l:List (Int×Int)):List (Int×Int):=if p∈l then l else l++[p]
theorem xh (p q:Int×Int) (l:List (Int×Int)):q∈wR p l↔q∈l\/q=p:=by
 unfold wR;split
 ·exact⟨.inl,λh=>h.elim id λe=>e ▸ ‹_›⟩
 ·simp
theorem yu (a b:Int) (p:Int×Int):v6 [.int .i64 a,.int .i64 b] (kP p)=decide (p=(a,b)):=by
 obtain⟨c,d⟩:=p;simp only[kP,v6,Bool.and_true];rw[Bool.eq_iff_iff];simp only[Bool.and_eq_true,beq_iff_eq,decide_eq_true_eq,Prod.mk.injEq];exact⟨λh=>⟨h.1.symm,h.2.symm⟩,λh=>⟨h.1.symm,h.2.symm⟩⟩
@[simp] theorem FN (l:List (Int×Int)) (a b:Int):R6 [.int .i64 a,.int .i64 b] (Q5 l) [.im (.raw (.bool false))]=[.im (.raw (.bool (decide ((a,b)∈l))))]:=by
 induction l with
 | nil=>rfl
 | cons p r ih =>
   have e:Q5 (p :: r)=(kP p,[.im (rB true)]) :: Q5 r:=rfl;rw[e];simp only[R6,V4,yu,decide_eq_true_eq] at ih ⊢;split
   ·rename_i h;subst h;simp
   ·rename_i h;rw[ih];have:((a,b)∈p :: r)=((a,b)∈r):=propext ⟨λh'=>(List.mem_cons.1 h').resolve_left λe=>h e.symm,List.mem_cons_of_mem _⟩;simp only[this]
@[simp] theorem Fs (l:List (Int×Int)) (a b:Int):R5 [.int .i64 a,.int .i64 b] [.im (.raw (.bool true))] (Q5 l)=Q5 (wR (a,b) l):=by
 have gen:∀ l:List (Int×Int),((a,b)∈l->R5 [.int .i64 a,.int .i64 b] [.im (.raw (.bool true))] (Q5 l)=Q5 l)/\((a,b)∉l->R5 [.int .i64 a,.int .i64 b] [.im (.raw (.bool true))] (Q5 l)=Q5 (l++[(a,b)])):=by
  intro l;induction l with
  | nil=>exact⟨λh=>by simp at h,λ_=>rfl⟩
  | cons p r ih =>
    have e:Q5 (p :: r)=(kP p,[.im (rB true)]) :: Q5 r:=rfl;rw[e];simp only[R5,yu,decide_eq_true_eq];constructor
    ·intro h;split
     ·rename_i hp;rw[hp];rfl
     ·rename_i hp;rw[ih.1 ((List.mem_cons.1 h).resolve_left λe=>hp e.symm)]
    ·intro h;rw[if_neg λe=>h (by simp[e]),ih.2 λe=>h (by simp[e])];rfl
 unfold wR;split
 ·exact(gen l).1 ‹_›
 ·exact(gen l).2 ‹_›
@[simp] theorem DD (l:List (Int×Int)):(Q5 l).length=l.length:=by simp[Q5]
@[simp] theorem Dy (n:Nat) (objs:List DObj) (l:List (Int×Int)):((Q5 l).map λx=>(x.1,x.2.map (fz n objs)))=Q5 l:=by
 simp[Q5,fz,DC.lt]
@[simp] theorem EE (e:Nat->Nat) (m:List (Int×Int)):((Q5 m).map λx=>(x.1,rnL e x.2))=Q5 m:=by
 simp[Q5,rnL,jz]
def BH (p:Int×Int):List IC:=[rI p.1,rI p.2]
def GV (l:List (Int×Int)):DV:=.one (.im (.sl (l.map BH)))
attribute [simp] BH GV
end Go.Ab
namespace Go.Proofs
open Go Go.Ab
def dP (n:Notes) (s w:List Int) (M:List Int) (m:Int) (i k:Nat) (a b:Nat):Prop:=a<b/\b<n.notes.length/\((∃ m'∈M,G5 n s w m' a=true/\G5 n s w m' b=true)\/((b<i\/b=i/\a<k)/\G5 n s w m a=true/\G5 n s w m b=true))
def Bspec (n:Notes) (s w:List Int) (M:List Int) (m:Int) (i k:Nat) (B:List (Int×Int)):Prop:=∀ a b:Nat,((a:Int),(b:Int))∈B↔dP n s w M m i k a b
theorem Bspec.start (n:Notes) (s w:List Int) (m:Int):Bspec n s w [] m 0 0 []:=λa b=>by
 simp[dP]
theorem Bspec.mark {n:Notes} {s w:List Int} {M:List Int} {m m':Int} {B:List (Int×Int)} (h:Bspec n s w M m n.notes.length 0 B):Bspec n s w (M++[m]) m' 0 0 B:=λa b=>by
 rw[h a b];simp only[dP,List.mem_append,List.mem_singleton];constructor
 ·rintro⟨h1,h2,h3|⟨h3,h4⟩⟩
  ·obtain⟨x,hx,h⟩:=h3;exact⟨h1,h2,.inl ⟨x,.inl hx,h⟩⟩
  ·exact⟨h1,h2,.inl ⟨m,.inr rfl,h4⟩⟩
 ·rintro⟨h1,h2,h3|⟨h3,h4⟩⟩
  ·obtain⟨x,hx|rfl,hh⟩:=h3
   ·exact⟨h1,h2,.inl ⟨x,hx,hh⟩⟩
   ·exact⟨h1,h2,.inr ⟨.inl h2,hh⟩⟩
  ·omega
theorem Bspec.row {n:Notes} {s w:List Int} {M:List Int} {m:Int} {i:Nat} {B:List (Int×Int)} (h:Bspec n s w M m i i B):Bspec n s w M m (i+1) 0 B:=λa b=>by
 rw[h a b];simp only[dP];refine and_congr_right λh1=>and_congr_right λh2=>or_congr_right (and_congr_left λ_=>?_);omega
theorem Bspec.skip {n:Notes} {s w:List Int} {M:List Int} {m:Int} {i k:Nat} {B:List (Int×Int)} (h:Bspec n s w M m i k B) (hf:¬ (G5 n s w m i=true/\G5 n s w m k=true)):Bspec n s w M m i (k+1) B:=λa b=>by
 rw[h a b];simp only[dP];refine and_congr_right λh1=>and_congr_right λh2=>or_congr_right ⟨λh3=>⟨by omega,h3.2⟩,λh3=>⟨?_,h3.2⟩⟩;rcases h3.1 with h4|⟨h4,h5⟩
 ·exact .inl h4
 ·by_cases e:a=k
  ·subst e;subst h4;exact absurd ⟨h3.2.2,h3.2.1⟩ hf
  ·exact .inr ⟨h4,by omega⟩
theorem Bspec.put {n:Notes} {s w:List Int} {M:List Int} {m:Int} {i k:Nat} {B:List (Int×Int)} (h:Bspec n s w M m i k B) (hki:k<i) (hi:i<n.notes.length) (hf:G5 n s w m i=true/\G5 n s w m k=true):Bspec n s w M m i (k+1) (wR ((k:Int),(i:Int)) B):=λa b=>by
 rw[xh,h a b];simp only[dP,Prod.mk.injEq];constructor
 ·rintro (⟨h1,h2,h3⟩|⟨h1,h2⟩)
  ·exact⟨h1,h2,h3.imp id λh3=>⟨by omega,h3.2⟩⟩
  ·obtain rfl:a=k:=by omega
   obtain rfl:b=i:=by omega
   exact⟨hki,hi,.inr ⟨.inr ⟨rfl,by omega⟩,hf.2,hf.1⟩⟩
 ·rintro⟨h1,h2,h3|⟨h3,h4⟩⟩
  ·exact .inl ⟨h1,h2,.inl h3⟩
  ·by_cases e:b=i/\a=k
   ·obtain⟨rfl,rfl⟩:=e;exact .inr ⟨rfl,rfl⟩
   ·exact .inl ⟨h1,h2,.inr ⟨by omega,h4⟩⟩
variable {G:Hn}
end Go.Proofs
namespace Go.Proofs
open Go Go.Ab
def mC (n:Notes) (s w:List Int) (M:List Int) (m:Int) (a b:Nat) (x y:Nat):Prop:=x<y/\y<n.notes.length/\((∃ m'∈M,G5 n s w m' x=true/\G5 n s w m' y=true)\/((x<a\/x=a/\y<b)/\G5 n s w m x=true/\G5 n s w m y=true))
structure Tspec (n:Notes) (s w:List Int) (M:List Int) (m:Int) (a b:Nat) (L:List Bool):Prop where
 len:L.length=144
 at':∀ x y:Nat,x<12->y<12->(L[x*12+y]?=some true↔mC n s w M m a b x y)
theorem Tspec.start (n:Notes) (s w:List Int) (m:Int):Tspec n s w [] m 0 0 (List.replicate 144 false):=⟨by simp,λx y hx hy=>by
 have:x*12+y<144:=by omega
 rw[List.getElem?_replicate,if_pos this];simp[mC]⟩
theorem Tspec.mark {n:Notes} {s w:List Int} {M:List Int} {m m':Int} {b:Nat} {L:List Bool} (h:Tspec n s w M m n.notes.length b L):Tspec n s w (M++[m]) m' 0 0 L:=⟨h.len,λx y hx hy=>by
 rw[h.at' x y hx hy];simp only[mC,List.mem_append,List.mem_singleton];constructor
 ·rintro⟨h1,h2,h3|⟨h3,h4⟩⟩
  ·obtain⟨z,hz,hh⟩:=h3;exact⟨h1,h2,.inl ⟨z,.inl hz,hh⟩⟩
  ·exact⟨h1,h2,.inl ⟨m,.inr rfl,h4⟩⟩
 ·rintro⟨h1,h2,h3|⟨h3,h4⟩⟩
  ·obtain⟨z,hz|rfl,hh⟩:=h3
   ·exact⟨h1,h2,.inl ⟨z,hz,hh⟩⟩
   ·exact⟨h1,h2,.inr ⟨.inl (by omega),hh⟩⟩
  ·omega⟩
theorem Tspec.row {n:Notes} {s w:List Int} {M:List Int} {m:Int} {a:Nat} {L:List Bool} (h:Tspec n s w M m a n.notes.length L):Tspec n s w M m (a+1) 0 L:=⟨h.len,λx y hx hy=>by
 rw[h.at' x y hx hy];simp only[mC];refine and_congr_right λh1=>and_congr_right λh2=>or_congr_right (and_congr_left λ_=>?_);omega⟩
theorem Tspec.put {n:Notes} {s w:List Int} {M:List Int} {m:Int} {a b:Nat} {L:List Bool} (h:Tspec n s w M m a b L) (hab:a<b) (hb:b<n.notes.length) (hn:n.notes.length<=12) {v:Bool} (hv:L[a*12+b]?=some v):Tspec n s w M m a (b+1) (L.set (a*12+b) (v||(G5 n s w m a&&G5 n s w m b))):=⟨by rw[List.length_set];exact h.len,λx y hx hy=>by
 have ho:=h.at' x y hx hy;by_cases e:x=a/\y=b
 ·obtain⟨rfl,rfl⟩:=e;have hl:x*12+y<L.length:=by rw[h.len];omega
  rw[List.getElem?_set_self hl];rw[hv] at ho;simp only[Option.some.injEq,Bool.or_eq_true,Bool.and_eq_true] at ho ⊢;rw[ho];simp only[mC];constructor
  ·rintro (⟨h1,h2,h3⟩|h4)
   ·exact⟨h1,h2,h3.imp id λh3=>⟨by omega,h3.2⟩⟩
   ·exact⟨hab,hb,.inr ⟨by simp,h4⟩⟩
  ·rintro⟨h1,h2,h3|⟨h3,h4⟩⟩
   ·exact .inl ⟨h1,h2,.inl h3⟩
   ·exact .inr h4
 ·have hne:a*12+b≠x*12+y:=by omega
  rw[List.getElem?_set_ne hne,ho];simp only[mC];refine and_congr_right λh1=>and_congr_right λh2=>or_congr_right (and_congr_left λ_=>?_);omega⟩
end Go.Proofs
namespace Go.Ab
open Go
def Gi (L:List Bool):List DC:=L.map λb=>.im (.raw (.bool b))
@[simp] theorem qg:∀ (n k:Nat),zcells (List.replicate n (.bool false)) k=(List.replicate n (.im (.raw (.bool false))),[])
 | 0,_=>rfl
 | n+1,k=>by rw[List.replicate_succ,List.replicate_succ,zcells,qg n k];exact λh=>by cases h
@[simp] theorem Gd (m:Nat) (O:List DObj) (L:List Bool):(Gi L).map (fz m O)=Gi L:=by
 simp only[Gi,List.map_map];exact List.map_congr_left λx _=>by simp[fz]
end Go.Ab
namespace Go.Proofs
open Go Go.Ab
variable {G:Hn}
end Go.Proofs
namespace Go.Proofs
open Go Go.Ab
variable {G:Hn}
attribute [simp] w0 fA w5 C7 nilV Q2 ZK
open Go Go.Ab Tryz
attribute [simp] w0 fA w5 C7 nilV Q2 ZK
theorem eT (c:Case) (hk:KC c):zP prog G 68 [n7 c] (iv (R8 c)):=by
 refine zf func68 ntmps68 ?_;try simp only[iv]
 have c1:=zS (G:=G) c hk;unfold R8;generalize A4 c=e at *;generalize aA c=f at *;simp only[n7,j4] at c1 ⊢;by_cases he:e=0
 ·subst he;by_cases hf:f=0
  ·subst hf;have hs:=trivial;repeat' first|(with_reducible first|refine zz ?_|refine zr ?_)|(first|refine zp c1 ?_|with_reducible refine zE [0,1,2,3,4,11,14] ?_);try simp -dsimp[hs]|refine i7 ?_ ?_<;>intro h<;>try exact h.elim
   all_goals try simp -dsimp[hs]
  ·have hs:=hf;repeat' first|(with_reducible first|refine zz ?_|refine zr ?_)|(first|refine zp c1 ?_|with_reducible refine zE [0,1,2,3,4,11,14] ?_);try simp -dsimp[hs]|refine i7 ?_ ?_<;>intro h<;>try exact h.elim
   all_goals try simp -dsimp[hs]
 ·have hs:=he;repeat' first|(with_reducible first|refine zz ?_|refine zr ?_)|(first|refine zp c1 ?_|with_reducible refine zE [0,1,2,3,4,11,14] ?_);try simp -dsimp[hs]|refine i7 ?_ ?_<;>intro h<;>try exact h.elim
  all_goals try simp -dsimp[hs]
def zD (k i:Nat):Susp:=⟨(k:Int),(i:Int)⟩
def vQ (n kd:Nat):List Susp:=⟨1,0⟩ :: (List.range (kd-2)).flatMap λj=>(List.range n).map (zD (j+2))
theorem xr (n kd:Nat) (h:2<=kd):vQ n (kd+1)=vQ n kd++(List.range n).map (zD kd):=by
 unfold vQ;rw[show kd+1-2=(kd-2)+1 by omega,List.range_succ,List.flatMap_append,List.flatMap_singleton,show kd-2+2=kd by omega];rfl
theorem Aw (n:Nat):vQ n 4=cA n:=by
 unfold vQ cA cX cm;simp only[if_true,<- List.map_eq_flatMap];simp[List.range_succ];rfl
theorem Av (n:Nat):∀ kd,kd<=4->(vQ n kd).length<=1+2*n:=by
 intro kd hk;have:kd-2=0\/kd-2=1\/kd-2=2:=by omega
 unfold vQ;rcases this with h|h|h<;>simp[h,List.range_succ]<;>omega
@[simp] abbrev Ks:List Nat:=[0,1,2,3,4,5,9,16]
theorem Ck (c:Case) (hn:c.pieces.length<100000):zP prog G 69 [n7 c] (s7 (cA c.pieces.length)):=by
 refine zf func69 ntmps69 ?_;try simp only[iv]
 simp only[n7,j4];rw[<- Aw];have hs:=trivial;repeat' first|with_reducible refine zz ?_|with_reducible refine zE Ks ?_;try simp -dsimp[hs]
 all_goals try simp -dsimp[hs]
 refine g9 (ι:={ p:Nat×Nat // 2<=p.1/\p.1<=4 }) (λp=>⟨27,[(1,.one (.ptr 0 0)),(3,.one (.vec 2 p.1.2 0 (vQ c.pieces.length p.1.1).length)),(4,iv (p.1.1:Int))],[.row ((j4 c).map .im),.vec 2 [] 0 true,.vec 2 (l8 ((vQ c.pieces.length p.1.1).map j9)) p.1.2 false]⟩) (λp=>4-p.1.1) ⟨(2,0),by simp⟩ (zv [1,3,4] (by simp[vQ])) ?_;rintro⟨⟨kd,g⟩,hk2,hk4⟩;simp only at hk2 hk4;simp only[iv];have hln:=Av c.pieces.length kd hk4;by_cases hlt:kd<=3
 ·have hlt':(kd:Int)<=3:=by omega
  have hw:=zk kd;have hst:=xr c.pieces.length kd hk2;have hw8:IntKind.u8.wrap (kd:Int)=(kd:Int):=by
   have:kd=2\/kd=3:=by omega
   rcases this with rfl|rfl<;>rfl
  generalize vQ c.pieces.length kd=L at *;have hs:=hlt';repeat' first|with_reducible refine zz ?_|with_reducible refine zE Ks ?_;try simp -dsimp[hs]|refine i7 ?_ ?_<;>intro h<;>try exact h.elim
  all_goals try simp -dsimp[hs]
  refine g9 (ι:={ p:Nat×Nat // p.1<=c.pieces.length }) (λp=>⟨27,[(1,.one (.ptr 0 0)),(3,.one (.vec 2 p.1.2 0 (L++(List.range p.1.1).map (zD kd)).length)),(4,iv (kd:Int)),(5,iv (p.1.1:Int))],[.row ((j4 c).map .im),.vec 2 [] 0 true,.vec 2 (l8 ((L++(List.range p.1.1).map (zD kd)).map j9)) p.1.2 false]⟩) (λp=>c.pieces.length-p.1.1) ⟨(0,g),by simp⟩ (zv [1,3,4,5]) ?_;rintro⟨⟨i,g2⟩,hi⟩;simp only at hi;simp only[iv];have hll:(L++(List.range i).map (zD kd)).length=L.length+i:=by simp
  by_cases hil:i<c.pieces.length
  ·have hil':(i:Int)<c.pieces.length:=by omega
   have hwi:=zk i;have hsn:(L++(List.range (i+1)).map (zD kd))=(L++(List.range i).map (zD kd))++[⟨(kd:Int),(i:Int)⟩]:=by rw[List.range_succ];simp[zD]
   generalize (L++(List.range i).map (zD kd))=X at *;have hs:=za hil (za hil' (za hwi hw8));repeat' first|(with_reducible first|refine zz ?_|refine And.intro (by omega) ?_)|with_reducible refine zE Ks ?_;try simp -dsimp[hs]|refine i7 ?_ ?_<;>intro h<;>try exact h.elim
   all_goals try simp -dsimp[hs]
   all_goals exact zn ⟨(i+1,g2+1),by simp only;omega⟩ (zw [1,3,4,5] 3 (by simp[hsn]))
  ·obtain rfl:i=c.pieces.length:=by omega
   have hil':¬ (c.pieces.length:Int)<c.pieces.length:=by omega
   rw[<- hst] at hll;rw[<- hst];have hs:=za hil (za hil' hw);repeat' first|with_reducible refine zz ?_|with_reducible refine zE Ks ?_;try simp -dsimp[hs]|refine i7 ?_ ?_<;>intro h<;>try exact h.elim
   all_goals try simp -dsimp[hs]
   all_goals exact zn ⟨(kd+1,g2),by simp only;omega,by simp only;omega⟩ (zw [1,3,4] 3)
 ·obtain rfl:kd=4:=by omega
  generalize vQ c.pieces.length 4=L at *;have hs:=trivial;repeat' first|(with_reducible first|refine zz ?_|refine zr ?_)|with_reducible refine zE Ks ?_;try simp -dsimp[hs]|refine i7 ?_ ?_<;>intro h<;>try exact h.elim
  all_goals try simp -dsimp[hs]
  all_goals simp
theorem eS (c:Case) (s:List Int) (he:A4 c=0) (ht:F4 (l4 (j7 c.p.n.notes)) s=true) (hsl:s.length<1000) (hk:KC c):zP prog G 72 [n7 c,n9 s] (bv (lC c s)):=by
 refine zf func72 ntmps72 ?_;try simp only[n9]
 obtain⟨hp0,hcb⟩:=C1 he;obtain⟨hn0,hpb,hr0⟩:=B2 hp0;have hok:=N4 hcb;have hl8:=hok.l;have hmc:1<=c.machine/\c.machine<=999:=by
  rw[L6,Bool.and_eq_true] at hcb;have:=hcb.1;simp only[cq,Bool.and_eq_true,decide_eq_true_eq] at this;exact this.2.1
 have hA:w7 c.p.n s c.machine=0:=by
  unfold w7;rw[if_neg (by simp[hn0]),if_neg (by rw[ht];decide),if_pos hmc]
 have c1:=kg (G:=G) c.p.n s c.machine hk.p.n hsl;rw[hA,if_pos rfl] at c1;have hnl:=n3 c.p.n.reg c.p.n.reg.length;have hr80:=hk.p.n.1.1;have hown:(B7 c.p.n s c.machine).length=(nums c.p.n.reg).length:=by unfold B7;rw[List.length_map]
 have hsc:T7 (dZ c s):=⟨hk.p.n.1,by show (B7 c.p.n s c.machine).length<=80;rw[hown,nums];omega,by simp[dZ],λx hx=>by simp[dZ] at hx;subst hx;omega⟩
 have c2:=tO (G:=G) (dZ c s) 0 hsc;have hnb:lC c s=(!decide (u5 (dZ c s) 0=0) || !decide (C6 (dZ c s) 0=2)):=rfl;have hcs:(¬ u5 (dZ c s) 0=0/\True/\lC c s=true)\/(u5 (dZ c s) 0=0/\C6 (dZ c s) 0=2/\lC c s=false)\/(u5 (dZ c s) 0=0/\¬ C6 (dZ c s) 0=2/\lC c s=true):=by
  rw[hnb];by_cases g1:u5 (dZ c s) 0=0<;>by_cases g2:C6 (dZ c s) 0=2<;>simp[g1,g2]
 generalize u5 (dZ c s) 0=le at *;generalize C6 (dZ c s) 0=ck at *;generalize lC c s=nb at *;simp only[iL,dZ,E4,D4,A6,l6,m7,n7,j4,List.map_cons,List.map_nil] at c1 c2 ⊢;generalize B7 c.p.n s c.machine=LT at *;have hs:True:=trivial;rcases hcs with⟨g1,g2,rfl⟩|⟨g1,g2,rfl⟩|⟨g1,g2,rfl⟩
 all_goals
  have hs:=za g1 g2;repeat' first|(with_reducible first|refine zz ?_|refine zr ?_)|refine zp c1 ?_;try simp -dsimp[hs]|refine zt c2 ?_ ?_ ?_;(focus simp;done);(focus simp;done);try simp -dsimp[hs]|with_reducible refine zE [0,1,2,4,5,7,8] ?_;try simp -dsimp[hs]
  all_goals try simp -dsimp[hs]
end Go.Proofs
namespace Go.Ab
open Go
def tg (F:List N8):List IC:=[.raw (.bool (decide ((false,false)∈F))),.raw (.bool (decide ((false,true)∈F))),.raw (.bool (decide ((true,false)∈F))),.raw (.bool (decide ((true,true)∈F)))]
def jc (F:List N8):DV:=.agg ((tg F).map .im)
theorem xQ (F:List N8):ImV (jc F):=by unfold jc;simp[tg]
attribute [simp] xQ
theorem pM {L:List N8} {so:Bool} {f x:N8}:decide (x∈am L so f)=(decide (x∈L)||(so&&decide (x=f))):=by
 unfold am;split
 ·rename_i h;rw[h.1,Bool.eq_iff_iff];simp
 ·rename_i h;rw[Bool.eq_iff_iff];simp only[Bool.or_eq_true,Bool.and_eq_true,decide_eq_true_eq];constructor
  ·exact .inl
  ·rintro (h1|⟨h1,rfl⟩)
   ·exact h1
   ·exact Classical.byContradiction λh2=>h ⟨h1,h2⟩
end Go.Ab
namespace Go.Proofs
open Go Go.Ab
variable {G:Hn}
attribute [simp] w0 fA w5 C7 nilV Q2 ZK
@[simp] abbrev Lr:List Nat:=[0,1,2,3,6,7,8,10,11,12,13,14,15,16,55,63]
@[simp] abbrev Kt:List Nat:=[2,3,6,7,10,11,12,13]
@[simp] abbrev KV:List Nat:=[0,1,2,3,6,7,8,10,11,12,13,14,15,16,55,63,64,65,66,67,68,69,70,71,72]
theorem cT (c:Case) (s:List Int) (k:Nat) (hkp:k<c.pieces.length) (he:A4 c=0) (ht:F4 (l4 (j7 c.p.n.notes)) s=true) (hsl:s.length<1000) (hk:KC c):zP Tryz.prog G 73 [n7 c,n9 s,iv (k:Int)] (jc (W4 c s k)):=by
 refine zf Tryz.func73 Tryz.ntmps73 ?_;try simp only[n9,iv]
 obtain⟨hp0,hcb⟩:=C1 he;obtain⟨hn0,hpb,hr0⟩:=B2 hp0;have hok:=N4 hcb;have hl8:=hok.l;have hlen:=hok.e;have hpl:=hk.p.p.q;have hlt2:k<c.loop.links.length:=by omega
 have hmc:1<=c.machine/\c.machine<=999:=by
  rw[L6,Bool.and_eq_true] at hcb;have:=hcb.1;simp only[cq,Bool.and_eq_true,decide_eq_true_eq] at this;exact this.2.1
 have hA:w7 c.p.n s c.machine=0:=by
  unfold w7;rw[if_neg (by simp[hn0]),if_neg (by rw[ht];decide),if_pos hmc]
 have c1:=kg (G:=G) c.p.n s c.machine hk.p.n hsl;rw[hA,if_pos rfl] at c1;have hnl:=n3 c.p.n.reg c.p.n.reg.length;have hr80:=hk.p.n.1.1;have hx0:c.pieces[k]?=some c.pieces[k]:=by simp[hkp]
 have hy0:c.loop.links[k]?=some c.loop.links[k]:=by simp[hlt2]
 have hyd:=mR hcb hy0;have hFk:W4 c s k=(Z3 c k).foldl (F6 c c.loop.links[k] c.pieces[k] (kn c s c.loop.links[k].drawing)) []:=by unfold W4;rw[hx0,hy0]
 have hdm:c.loop.links[k].drawing∈nums c.p.n.reg:=iN hr0 hcb hkp hlt2;have hpw:=(C0 hr0).1;have hix:∃ q:Nat,idx (nums c.p.n.reg) c.loop.links[k].drawing=(q:Int)/\(nums c.p.n.reg)[q]?=some c.loop.links[k].drawing:=by
  obtain⟨q,hq⟩:=List.mem_iff_getElem?.1 hdm;exact⟨q,ff (hpw.imp λh e=>by omega) hq,hq⟩
 obtain⟨q,hq1,hq2⟩:=hix;have hol:(B7 c.p.n s c.machine)[q]?=some (kn c s c.loop.links[k].drawing):=by
  unfold B7 kn;rw[List.getElem?_map,hq2];rfl
 have c2:=H0 (G:=G) c.p.n.reg (by omega);have c3:=bS (G:=G) (nums c.p.n.reg) c.loop.links[k].drawing (by rw[nums];omega);have c4:=zK (G:=G) c k hkp hlt2 hk;have c5:=λlt=>wJ (G:=G) c k _ lt hy0 hyd.1 hk;have hml:=iy c k;have hpo:=nc hok hkp;unfold U7 at hpo;have hw1:IntKind.i64.wrap 1=1:=m9 (by omega) (by omega);have hw3:IntKind.i64.wrap 3=3:=m9 (by omega) (by omega);rw[hFk];clear hFk hx0 hy0;rw[hq1] at c3;generalize hx:c.pieces[k]=x at *;generalize hy:c.loop.links[k]=y at *;generalize kn c s y.drawing=o at *;generalize hM:Z3 c k=M at *;simp only[A6,l6,m7,n7,j4,List.map_cons,List.map_nil] at c1 c2 c4 c5 ⊢;generalize B7 c.p.n s c.machine=LT at *;have hlo:q<LT.length:=e7 hol;have hLo:LT[q]=o:=(List.getElem?_eq_some_iff.1 hol).2;have hs:=za hx (za hy (za hkp (za hlt2 (za hlo hLo))));repeat' first|with_reducible refine zz ?_|simp -dsimp[hs]|refine zp c1 ?_|refine zq c2 ?_|refine zq c3 ?_|refine zp c4 ?_|refine zM 3 122 17 Lr ?_|with_reducible refine zE Lr ?_
 all_goals try clear hs
 clear c1 c2 c3 c4 hol hLo hlo;refine g9 (ι:={ j:Nat // j<=M.length }) (λp=>⟨122,[(2,iv (k:Int)),(3,.one (.ptr 0 0)),(6,.one (.ptr 1 0)),(7,.one (.ptr 2 0)),(10,iv o),(11,.one (.ptr 3 0)),(12,n9 M),(13,iv (p.1:Int))],[.row ((j4 c).map .im),.row [.im (rB false),.im (rB false),.im (rB false),.im (rB false)],.row ((tg ((M.take p.1).foldl (F6 c y x o) [])).map .im),.row [.im (rI x.lo),.im (rI x.hi)]]⟩) (λp=>M.length-p.1) ⟨0,by simp⟩ (zv Kt (by simp[tg])) ?_;rintro⟨j,hj⟩;simp only[iv,n9];by_cases hlj:j<M.length
 ·have hlj':(j:Int)<M.length:=by omega
  have hwj:=zk j;have hst:=sX c y x o hlj;have c7:=c5 M[j];generalize hv:M[j]=v at *;generalize (M.take j).foldl (F6 c y x o) []=F at *;rw[show F6 c y x o F v=am (am F (qe c y x v) (!decide (v=o),false)) (sY c y x v) (!decide (v=o),true) from rfl] at hst;have hcs:(sF c y v=none/\qe c y x v=true/\sY c y x v=false)\/∃ z,sF c y v=some z/\qe c y x v=(decide (x.lo<=z.upper)&&decide (z.lower<=x.hi))/\sY c y x v=!ap x.lo x.hi z.lower z.upper:=by
   unfold qe sY;cases sF c y v with
   | none=>exact .inl ⟨rfl,rfl,rfl⟩
   | some z=>exact .inr ⟨z,rfl,rfl,rfl⟩
  generalize qe c y x v=b1 at *;generalize sY c y x v=b2 at *;have hfs:∀ a b,decide ((a,b)∈(M.take (j+1)).foldl (F6 c y x o) [])=((decide ((a,b)∈F)||(b1&&decide ((a,b)=(!decide (v=o),false))))||(b2&&decide ((a,b)=(!decide (v=o),true)))):=λa b=>by rw[hst,pM,pM]
  clear hst;simp only[tg];have p1:=hfs false false;have p2:=hfs false true;have p3:=hfs true false;have p4:=hfs true true;clear hfs;generalize decide ((false,false)∈F)=f1 at *;generalize decide ((false,true)∈F)=f2 at *;generalize decide ((true,false)∈F)=f3 at *;generalize decide ((true,true)∈F)=f4 at *;have hs:True:=trivial;rcases hcs with⟨e1,rfl,rfl⟩|⟨z,e1,e2,e3⟩
  ·rw[e1] at c7;simp only[Option.isSome_none,Option.getD_none,vV] at c7;by_cases ho:v=o
   ·have ho':(v=o)=True:=eq_true ho;simp[ho] at p1 p2 p3 p4;cases f1<;>cases f2
    all_goals
     have hs:=za hx (za hy (za hv (za hlj (za hlj' (za hwj (za hw1 (za hw3 ho')))))));repeat' first|with_reducible refine zz ?_|simp -dsimp[hs]|refine zq c7 ?_|refine q8 (id:=12) (nt:=122) 11 [9] KV Lr mixed rfl (by kernel_rfl) ?_|with_reducible refine zE Lr ?_|refine i7 ?_ ?_<;>intro h<;>try exact h.elim
     all_goals try clear hs
    all_goals exact zn ⟨j+1,by omega⟩ (zw Kt 4 (by simp[tg,p1,p2,p3,p4]))
   ·have ho':(v=o)=False:=eq_false ho;simp[ho] at p1 p2 p3 p4;cases f3<;>cases f4
    all_goals
     have hs:=za hx (za hy (za hv (za hlj (za hlj' (za hwj (za hw1 (za hw3 ho')))))));repeat' first|with_reducible refine zz ?_|simp -dsimp[hs]|refine zq c7 ?_|refine q8 (id:=12) (nt:=122) 11 [9] KV Lr mixed rfl (by kernel_rfl) ?_|with_reducible refine zE Lr ?_|refine i7 ?_ ?_<;>intro h<;>try exact h.elim
     all_goals try clear hs
    all_goals exact zn ⟨j+1,by omega⟩ (zw Kt 4 (by simp[tg,p1,p2,p3,p4]))
  ·rw[e1] at c7;simp only[Option.isSome_some,Option.getD_some] at c7;have hA:∀ f:Bool,(f=true/\True/\True/\(f||b1)=true)\/(f=false/\x.lo<=z.upper/\z.lower<=x.hi/\(f||b1)=true)\/(f=false/\x.lo<=z.upper/\¬ z.lower<=x.hi/\(f||b1)=false)\/(f=false/\¬ x.lo<=z.upper/\True/\(f||b1)=false):=λf=>by
    cases f<;>by_cases q1:x.lo<=z.upper<;>by_cases q2:z.lower<=x.hi<;>simp[q1,q2,e2]
   have hB:∀ f:Bool,(f=true/\True/\True/\(f||b2)=true)\/(f=false/\x.lo<z.lower/\True/\(f||b2)=true)\/(f=false/\¬ x.lo<z.lower/\z.upper<x.hi/\(f||b2)=true)\/(f=false/\¬ x.lo<z.lower/\¬ z.upper<x.hi/\(f||b2)=false):=λf=>by
    have hb:b2=!decide (¬ x.lo<z.lower/\¬ z.upper<x.hi):=by
     rw[e3];unfold ap;congr 1;rw[decide_eq_decide];omega
    cases f<;>by_cases q1:x.lo<z.lower<;>by_cases q2:z.upper<x.hi<;>simp[q1,q2,hb]
   clear e2 e3;by_cases ho:v=o
   ·have ho':(v=o)=True:=eq_true ho;simp only[ho,decide_true,decide_false,Bool.not_true,Bool.not_false,Prod.mk.injEq,Bool.false_eq_true,Bool.true_eq_false,reduceCtorEq,and_self,and_true,and_false,true_and,false_and,Bool.and_true,Bool.and_false,Bool.or_false] at p1 p2 p3 p4;rcases hA f1 with⟨e5,q1,q2,r1⟩|⟨e5,q1,q2,r1⟩|⟨e5,q1,q2,r1⟩|⟨e5,q1,q2,r1⟩<;>rcases hB f2 with⟨e6,q3,q4,r2⟩|⟨e6,q3,q4,r2⟩|⟨e6,q3,q4,r2⟩|⟨e6,q3,q4,r2⟩
    all_goals
     rw[r1] at p1;rw[r2] at p2;subst e5;subst e6;clear hA hB r1 r2;have hs:=za hx (za hy (za hv (za hlj (za hlj' (za hwj (za hw1 (za hw3 (za ho' (za q1 (za q2 (za q3 q4)))))))))));repeat' first|with_reducible refine zz ?_|simp -dsimp[hs]|refine zq c7 ?_|refine q8 (id:=12) (nt:=122) 11 [9] KV Lr mixed rfl (by kernel_rfl) ?_|with_reducible refine zE Lr ?_|refine i7 ?_ ?_<;>intro h<;>try exact h.elim
     all_goals try clear hs
    all_goals exact zn ⟨j+1,by omega⟩ (zw Kt 4 (by simp[tg,p1,p2,p3,p4]))
   ·have ho':(v=o)=False:=eq_false ho;simp only[ho,decide_true,decide_false,Bool.not_true,Bool.not_false,Prod.mk.injEq,Bool.false_eq_true,Bool.true_eq_false,reduceCtorEq,and_self,and_true,and_false,true_and,false_and,Bool.and_true,Bool.and_false,Bool.or_false] at p1 p2 p3 p4;rcases hA f3 with⟨e5,q1,q2,r1⟩|⟨e5,q1,q2,r1⟩|⟨e5,q1,q2,r1⟩|⟨e5,q1,q2,r1⟩<;>rcases hB f4 with⟨e6,q3,q4,r2⟩|⟨e6,q3,q4,r2⟩|⟨e6,q3,q4,r2⟩|⟨e6,q3,q4,r2⟩
    all_goals
     rw[r1] at p3;rw[r2] at p4;subst e5;subst e6;clear hA hB r1 r2;have hs:=za hx (za hy (za hv (za hlj (za hlj' (za hwj (za hw1 (za hw3 (za ho' (za q1 (za q2 (za q3 q4)))))))))));repeat' first|with_reducible refine zz ?_|simp -dsimp[hs]|refine zq c7 ?_|refine q8 (id:=12) (nt:=122) 11 [9] KV Lr mixed rfl (by kernel_rfl) ?_|with_reducible refine zE Lr ?_|refine i7 ?_ ?_<;>intro h<;>try exact h.elim
     all_goals try clear hs
    all_goals exact zn ⟨j+1,by omega⟩ (zw Kt 4 (by simp[tg,p1,p2,p3,p4]))
 ·obtain rfl:j=M.length:=by omega
  have hlj':¬ (M.length:Int)<M.length:=by omega
  simp only[List.take_length];generalize M.foldl (F6 c y x o) []=F at *;unfold jc;simp only[tg,List.map_cons,List.map_nil];have hs:=za hlj hlj';repeat' first|(with_reducible first|refine zz ?_|refine zr ?_|refine zE Lr ?_)|simp -dsimp[hs]|refine i7 ?_ ?_<;>intro h<;>try exact h.elim
  all_goals try clear hs
end Go.Proofs
namespace Go.Proofs
open Go Go.Ab
variable {G:Hn}
attribute [simp] w0 fA w5 C7 nilV Q2 ZK
theorem iC {c:Case} (t:List Int) {k:Nat} (h:k<c.pieces.length):(m4 c t).faults.getD k []=W4 c t k:=by
 simp[m4,h]
theorem lY {O:List Int} (hO:O.Pairwise (· < ·)) (t:List Int) (h:t∈E8 O):F4 O t=true/\t.length<=O.length:=by
 obtain⟨k,_,rfl⟩:=List.mem_map.1 h;exact⟨jT hO (fM _ k),fL _ _ _⟩
end Go.Proofs
namespace Go.Ab
open Go
def s6 (f:N8):Int:=(if f.2=true then 2 else 0)+(if f.1=true then 1 else 0)
theorem bA (f:N8):0<=s6 f/\s6 f<=3:=by unfold s6;split<;>split<;>omega
theorem bB {a b:N8} (h:s6 a=s6 b):a=b:=by
 obtain⟨a1,a2⟩:=a;obtain⟨b1,b2⟩:=b;revert h;cases a1<;>cases a2<;>cases b1<;>cases b2<;>decide
def W1 (L:List N8):N8:=if (false,false)∈L then (false,false) else if (true,false)∈L then (true,false) else if (false,true)∈L then (false,true) else (true,true)
theorem uW (L:List N8):∀ x∈L,s6 (W1 L)<=s6 x:=by
 intro x hx;unfold W1;have:=bA x;split
 ·have:s6 (false,false)=0:=rfl;omega
 ·rename_i h0;have n0:s6 x≠0:=λe=>h0 ((bB (a:=x) (b:=(false,false)) (by rw[e];rfl)) ▸ hx);split
  ·have:s6 (true,false)=1:=rfl;omega
  ·rename_i h1;have n1:s6 x≠1:=λe=>h1 ((bB (a:=x) (b:=(true,false)) (by rw[e];rfl)) ▸ hx);split
   ·have:s6 (false,true)=2:=rfl;omega
   ·rename_i h2;have n2:s6 x≠2:=λe=>h2 ((bB (a:=x) (b:=(false,true)) (by rw[e];rfl)) ▸ hx);have:s6 (true,true)=3:=rfl;omega
theorem uX {L:List N8} (h:L≠[]):W1 L∈L:=by
 unfold W1;split
 ·assumption
 ·split
  ·assumption
  ·split
   ·assumption
   ·obtain⟨⟨a,b⟩,hx⟩:=List.exists_mem_of_ne_nil L h;revert hx;cases a<;>cases b<;>simp_all
theorem yt {L:List N8} {r:N8} (hr:r∈L) (h:∀ x∈L,s6 r<=s6 x):W1 L=r:=by
 have h1:=uW L r hr;have h2:=h _ (uX (List.ne_nil_of_mem hr));exact bB (by omega)
def aS (d:Desk) (i:Nat):Bool:=(W1 (d.faults.getD i [])).1
def aT (d:Desk) (i:Nat):Bool:=(W1 (d.faults.getD i [])).2
def I0 (d:Desk):List Susp:=cX d.notes (aS d) (aT d) d.faults.length
end Go.Ab
namespace Go.Proofs
open Go Go.Ab
variable {G:Hn}
theorem og (f:N8):I5 (λx=>decide (f=x)) [(false,false),(true,false),(false,true),(true,true)]=s6 f:=by
 obtain⟨a,b⟩:=f;cases a<;>cases b<;>decide
def kQ (G:Hn):Prop:=G 0=some [.raw (.bool false),.raw (.bool false)]/\G 2=some [.raw (.bool true),.raw (.bool false)]/\G 3=some [.raw (.bool false),.raw (.bool true)]
theorem sB (f:N8) (hF:kQ G):zP Tryz.prog G 101 [lN f] (iv (s6 f)):=by
 refine zf Tryz.func101 Tryz.ntmps101 ?_;try simp only[iv]
 have g1:G 0=some [.raw (.bool false),.raw (.bool false)]:=hF.1;have g2:G 2=some [.raw (.bool true),.raw (.bool false)]:=hF.2.1;have g3:G 3=some [.raw (.bool false),.raw (.bool true)]:=hF.2.2;have c1:=mB (G:=G) [(false,false),(true,false),(false,true),(true,true)] f (by simp);rw[og] at c1;simp only[lN,D3,List.map_cons,List.map_nil] at c1 ⊢;have hs:=za g1 (za g2 g3);repeat' first|(with_reducible first|refine zz ?_|refine zr ?_|refine zE [0,1,2] ?_)|simp -dsimp[hs]|refine zt c1 ?_ ?_ ?_;(focus simp;done);focus (simp;done)
theorem Dd (a b:N8) (hF:kQ G):zP Tryz.prog G 100 [lN a,lN b] (iv (s6 a-s6 b)):=by
 refine zf Tryz.func100 Tryz.ntmps100 ?_;try simp only[iv]
 have h1:=bA a;have h2:=bA b;have hw:IntKind.i64.wrap (s6 a-s6 b)=s6 a-s6 b:=m9 (by omega) (by omega);have c1:=sB (G:=G) a hF;have c2:=sB (G:=G) b hF;simp only[lN,D3,List.map_cons,List.map_nil] at c1 c2 ⊢;generalize s6 a=x at *;generalize s6 b=y at *;have hs:=hw;repeat' first|(with_reducible first|refine zz ?_|refine zr ?_)|simp -dsimp[hs]|refine zq c1 ?_|refine zq c2 ?_|refine zM 1 10 6 [0,1,2,3,4] ?_|with_reducible refine zE [0,1,2,3,4] ?_
@[simp] abbrev Lv:List Nat:=[0,1,4,5,6,9,17,27]
theorem Am (L:List N8) (hne:L≠[]) (hl:L.length<1000000) (hF:kQ G):zP Tryz.prog G 158 [.one (.im (.sl (L.map D3))),.one (.im (.fn (.func 100) []))] (lN (W1 L)):=by
 refine zf Tryz.func158 Tryz.ntmps158 ?_;try simp only[iv]
 have hlp:0<L.length:=List.length_pos_iff.2 hne;have hx1:L[0]?=some L[0]:=by simp[hlp]
 have hm0:L[0]∈L:=List.getElem_mem hlp;generalize hxe:L[0]=x0 at *;have hl1:¬ (L.length:Int)<1:=by omega
 have hs:=za hl1 (za hx1 (za hxe hlp));repeat' first|(with_reducible first|refine zz ?_|refine zE Lv ?_)|simp -dsimp[hs]|refine i7 ?_ ?_<;>intro h<;>try exact h.elim
 have hst0:∀ (j:Nat) (x:N8),j<1->L[j]?=some x->s6 x0<=s6 x:=λj x hj hjx=>by
  obtain rfl:j=0:=by omega
  rw[hx1] at hjx;cases hjx;exact Int.le_refl _
 refine g9 (ι:={ p:Nat×N8 // 1<=p.1/\p.1<=L.length/\p.2∈L/\∀ (j:Nat) (x:N8),j<p.1->L[j]?=some x->s6 p.2<=s6 x }) (λp=>⟨33,[(0,.one (.im (.sl (L.map D3)))),(1,.one (.im (.fn (.func 100) []))),(4,.one (.ptr 0 0)),(5,.one (.ptr 1 0)),(6,iv (p.1.1:Int))],[.row [.im (.raw (.bool false)),.im (.raw (.bool false))],.row ((D3 p.1.2).map .im)]⟩) (λp=>L.length-p.1.1) ⟨(1,x0),Nat.le_refl _,hlp,hm0,hst0⟩ (zv [0,1,4,5,6]) ?_;rintro⟨⟨k,m⟩,hk1,hk,hm,hmin⟩;simp only at hk1 hk hm hmin;simp only[iv];by_cases hlt:k<L.length
 ·have hx:L[k]?=some L[k]:=by simp[hlt]
  have hw:=zk k;have hmk:L[k]∈L:=List.getElem_mem hlt;generalize hy:L[k]=y at *;have c1:=Dd (G:=G) y m hF;simp only[lN,D3,List.map_cons,List.map_nil] at c1;by_cases hym:s6 y-s6 m<0
  ·have hst:∀ (j:Nat) (x:N8),j<k+1->L[j]?=some x->s6 y<=s6 x:=λj x hj hjx=>by
    by_cases e:j=k
    ·subst e;rw[hx] at hjx;cases hjx;exact Int.le_refl _
    ·have:=hmin j x (by omega) hjx;omega
   have hs:=za hx (za hy (za hlt (za hw hym)));repeat' first|with_reducible refine zz ?_|simp -dsimp[hs]|refine zp c1 ?_|refine zM 7 33 6 Lv ?_|with_reducible refine zE Lv ?_|refine i7 ?_ ?_<;>intro h<;>try exact h.elim
   all_goals exact zn ⟨(k+1,y),by simp,by simp only;omega,hmk,hst⟩ (zw [0,1,4,5,6] 2)
  ·have hst:∀ (j:Nat) (x:N8),j<k+1->L[j]?=some x->s6 m<=s6 x:=λj x hj hjx=>by
    by_cases e:j=k
    ·subst e;rw[hx] at hjx;cases hjx;omega
    ·exact hmin j x (by omega) hjx
   have hs:=za hx (za hy (za hlt (za hw hym)));repeat' first|with_reducible refine zz ?_|simp -dsimp[hs]|refine zp c1 ?_|refine zM 7 33 6 Lv ?_|with_reducible refine zE Lv ?_|refine i7 ?_ ?_<;>intro h<;>try exact h.elim
   all_goals exact zn ⟨(k+1,m),by simp,by simp only;omega,hm,hst⟩ (zw [0,1,4,5,6] 2)
 ·obtain rfl:k=L.length:=by omega
  have hb:W1 L=m:=yt hm λx hx=>by
   obtain⟨j,hj⟩:=List.mem_iff_getElem?.1 hx;exact hmin j x (e7 hj) hj
  rw[hb];have hs:=hlt;repeat' first|(with_reducible first|refine zz ?_|refine zr ?_|refine zE Lv ?_)|simp -dsimp[hs]|refine i7 ?_ ?_<;>intro h<;>try exact h.elim
theorem yr (L:List N8) (hne:L≠[]) (hl:L.length<1000000) (hF:kQ G):zP Tryz.prog G 99 [.one (.im (.sl (L.map D3))),.one (.im (.fn (.func 100) []))] (lN (W1 L)):=by
 refine zf Tryz.func99 Tryz.ntmps99 ?_;try simp only[iv]
 have c1:=Am (G:=G) L hne hl hF;simp only[lN,D3,List.map_cons,List.map_nil] at c1 ⊢;repeat' first|(with_reducible first|refine zz ?_|refine zx ?_|refine zE [0,1,4] ?_)|simp -dsimp|refine zp c1 ?_
@[simp] abbrev Jq:List Nat:=[0,2,3,4,5,6,10,18,19,20,21,28,35]
theorem pp (d:Desk) (n:Nat) (hd:DkOk n d) (hn:n<100000) (hne:∀ x∈d.faults,x≠[]) (hF:kQ G) (hU:aF G):zP Tryz.prog G 51 [rC d] (s7 (I0 d)):=by
 refine zf Tryz.func51 Tryz.ntmps51 ?_;try simp only[iv]
 have hdn:=hd.n;simp only[rC,dm,aC];have hs:True:=trivial;have h00:X8 d.notes (aS d) (aT d) 0=cm d.notes ⟨1,0⟩:=by simp[X8]
 cases hnt:d.notes
 all_goals
  rw[hnt] at h00;simp only[cm,if_true,Bool.false_eq_true,if_false] at h00;have hs:=hnt;repeat' first|(with_reducible first|refine zz ?_|refine zE Jq ?_)|simp -dsimp[hs]|refine i7 ?_ ?_<;>intro h<;>try exact h.elim
  all_goals try clear hs
 all_goals
  refine g9 (ι:={ p:Nat×Nat×Nat×Bool // p.1<=d.faults.length/\(p.2.2.1=2\/p.2.2.2=true/\X8 d.notes (aS d) (aT d) p.1=[]) }) (λp=>⟨45,[(3,.one (.vec 1 p.1.2.1 0 (X8 d.notes (aS d) (aT d) p.1.1).length)),(18,.one (.im (.sl (d.faults.map J6)))),(19,iv (d.faults.length:Int)),(20,iv (p.1.1:Int))],[.vec 2 [] 0 true,.vec p.1.2.2.1 (l8 ((X8 d.notes (aS d) (aT d) p.1.1).map j9)) p.1.2.1 p.1.2.2.2]⟩) (λp=>d.faults.length-p.1.1) ⟨(0,(if d.notes=true then 1 else 0),2,!d.notes),by simp⟩ (zw [3,18,19,20] 2 (by simp[hnt,h00,l8])) ?_;clear h00;rintro⟨⟨k,g,sz,nl⟩,hk,hz⟩;simp only at hk hz;simp only[iv];have hz':sz=2\/nl=true:=hz.imp id And.left;have hln:=bi d.notes (aS d) (aT d) k;by_cases hlt:k<d.faults.length
  ·have hw:=zk k;have hst:=iu d.notes (aS d) (aT d) k;have hfp:aS d k=(W1 d.faults[k]).1:=by simp[aS,hlt]
   have hfh:aT d k=(W1 d.faults[k]).2:=by simp[aT,hlt]
   have hm:=List.getElem_mem hlt;have c1:=yr (G:=G) d.faults[k] (hne _ hm) (hd.l _ hm) hF;generalize hx:d.faults[k]=x at *;rw[hfp,hfh] at hst;generalize W1 x=f at *;obtain⟨f1,f2⟩:=f;simp only at hst;simp only[lN,D3,List.map_cons,List.map_nil] at c1;have htk:∀ x,List.take ((X8 d.notes (aS d) (aT d) k).length+1) (l8 ((X8 d.notes (aS d) (aT d) k).map j9)++[x])=l8 ((X8 d.notes (aS d) (aT d) k).map j9)++[x]:=λx=>List.take_of_length_le (by simp[l8]);have hs:True:=trivial;cases f1<;>cases f2
   all_goals
    simp only[cm,if_true,Bool.false_eq_true,if_false,aO,cw,List.nil_append,List.append_nil,List.cons_append] at hst;have hs:=za hx (za hlt (za hw hz'));repeat' first|(with_reducible first|refine zz ?_|refine And.intro (by omega) ?_|refine zE Jq ?_)|simp -dsimp[hs]|refine zp c1 ?_|refine i7 ?_ ?_<;>intro h<;>try exact h.elim
    all_goals try clear hs
   ·exact zn ⟨(k+1,g,sz,nl),by simp only;omega,by rw[hst];exact hz⟩ (zw [3,18,19,20] 2 (by simp[hst]))
   ·exact zn ⟨(k+1,g+1,2,false),by simp only;omega,.inl rfl⟩ (zw [3,18,19,20] 2 (by simp[hst]))
   ·exact zn ⟨(k+1,g+1,2,false),by simp only;omega,.inl rfl⟩ (zw [3,18,19,20] 2 (by simp[hst]))
   ·exact zn ⟨(k+1,g+2,2,false),by simp only;omega,.inl rfl⟩ (zw [3,18,19,20] 2 (by simp[hst,htk]))
  ·obtain rfl:k=d.faults.length:=by omega
   have hE:I0 d=cX d.notes (aS d) (aT d) d.faults.length:=rfl;have c1:=sH (G:=G) hU (l:=X8 d.notes (aS d) (aT d) d.faults.length) (r:=I0 d) (λx hx=>by have:=mr hx;unfold eG;omega) (O0 _ _ _ _) (ge _ _ _ _) (by omega) g sz nl hz;have hal:(I0 d).length=(X8 d.notes (aS d) (aT d) d.faults.length).length:=(O0 _ _ _ _).length_eq;have hz2:sz=2\/nl=true/\I0 d=[]:=hz.imp id λh=>⟨h.1,List.eq_nil_of_length_eq_zero (by rw[hal,h.2];rfl)⟩
   clear hE;generalize I0 d=A at *;rw[<- hal] at c1;rw[<- hal];have hs:=za hlt hz';repeat' first|(with_reducible first|refine zz ?_|refine zr ?_|refine zE Jq ?_)|simp -dsimp[hs]|refine CallE.embed [1] (c1) ?_ ?_ ?_ ?_ ?_ ?_;(focus simp[D6];done);(focus simp;done);(focus simp;done);(focus simp;done);(focus refine C4 ?_;simp[D6,D5];done);try simp -dsimp[u7,D6,hs]|refine i7 ?_ ?_<;>intro h<;>try exact h.elim
   all_goals try clear hs
   all_goals simp
end Go.Proofs
namespace Go.Ab
open Go
def kU (s:Susp):List Value:=[.int .u8 s.kind,.int .i64 s.index]
def pt (f:Susp->Int) (K:List Susp):List (List Value×List DC):=K.map λs=>(kU s,[.im (.raw (.int .u8 (f s)))])
def ta (f:Susp->Int) (K:List Susp):List (List Value×List IC):=K.map λs=>(kU s,[.raw (.int .u8 (f s))])
theorem uG (f:Susp->Int) (s:Susp) (K:List Susp):pt f (s :: K)=(kU s,[.im (.raw (.int .u8 (f s)))]) :: pt f K:=rfl
@[simp] theorem FR (f:Susp->Int) (k n:Nat) (objs:List DObj) (l:List Susp):J4 (λx:List Value×List DC=>(J4 (frz (k+1) n objs) x.2).map λl=>(x.1,l)) (pt f l)=some (ta f l):=by
 induction l with
 | nil=>rfl
 | cons p r ih =>
   rw[uG];simp[J4,ih,ta]
@[simp] theorem EG (f:Susp->Int) (n:Nat) (objs:List DObj) (l:List Susp):((pt f l).map λx=>(x.1,x.2.map (fz n objs)))=pt f l:=by
 simp[pt,fz,DC.lt]
@[simp] theorem FZ (f:Susp->Int) (l:List Susp):fe (ta f l)=pt f l:=by simp[fe,ta,pt]
end Go.Ab
namespace Go.Proofs
open Go Go.Ab
variable {G:Hn}
attribute [simp] w0 fA w5 C7 nilV Q2 ZK
theorem th {n:Nat} {s:Susp} (h:s∈cA n):iR n s/\0<=s.kind/\s.kind<=255:=by
 unfold iR;rcases listS_mem.1 h with⟨_,rfl⟩|⟨i,h1,_,rfl⟩|⟨i,h1,_,rfl⟩
 ·simp
 ·simp[aO];omega
 ·simp[cw];omega
theorem lm (n:Nat):(cA n).length<=1+2*n:=by
 have h1:=(O0 true (λ_=>true) (λ_=>true) n).length_eq;have h2:=bi true (λ_=>true) (λ_=>true) n;unfold cA;omega
end Go.Proofs
namespace Go.Ab
open Go
def O4 (s:Susp) (i:Nat):N8:=if s.kind=2/\s.index=i then (true,false) else if s.kind=3/\s.index=i then (false,true) else (false,false)
def I1 (d:Desk) (s:Susp):Bool:=((List.range d.faults.length).all λi=>decide (O4 s i∈d.faults.getD i []))&&(d.notes==decide (s.kind=1))
theorem mU {d:Desk} {s:Susp} {i:Nat} (h:i<d.faults.length) (h2:O4 s i∉d.faults.getD i []):I1 d s=false:=by
 unfold I1;rw[Bool.and_eq_false_iff];refine .inl ?_;rw[<- Bool.not_eq_true,List.all_eq_true];exact λhall=>h2 (by simpa using hall i (List.mem_range.2 h))
theorem lk {d:Desk} {s:Susp} (h:∀ i,i<d.faults.length->O4 s i∈d.faults.getD i []):I1 d s=(d.notes==decide (s.kind=1)):=by
 unfold I1;rw[show ((List.range d.faults.length).all λi=>decide (O4 s i∈d.faults.getD i []))=true by
  rw[List.all_eq_true];exact λi hi=>by simpa using h i (List.mem_range.1 hi)]
 rfl
end Go.Ab
namespace Go.Proofs
open Go Go.Ab
variable {G:Hn}
attribute [simp] w0 fA w5 C7 nilV Q2 ZK
def er (s:Susp):List (List Value×List DC):=if s.kind=2 then [([.int .i64 s.index],[.im (.raw (.bool true)),.im (.raw (.bool false))])] else if s.kind=3 then [([.int .i64 s.index],[.im (.raw (.bool false)),.im (.raw (.bool true))])] else []
theorem tr (s:Susp) (i:Nat):R6 [.int .i64 (i:Int)] (er s) [.im (.raw (.bool false)),.im (.raw (.bool false))]=[.im (.raw (.bool (O4 s i).1)),.im (.raw (.bool (O4 s i).2))]:=by
 have hb:v6 [.int .i64 (i:Int)] [.int .i64 s.index]=decide (s.index=(i:Int)):=ai (i:Int) s.index;unfold er O4;by_cases h2:s.kind=2
 ·simp only[h2,if_true,true_and,R6,V4,hb,decide_eq_true_eq];by_cases hi:s.index=(i:Int)
  ·simp[hi]
  ·simp[hi]
 ·simp only[h2,if_false,false_and,if_false];by_cases h3:s.kind=3
  ·simp only[h3,if_true,true_and,R6,V4,hb,decide_eq_true_eq];by_cases hi:s.index=(i:Int)
   ·simp[hi]
   ·simp[hi]
  ·simp[h3,R6,V4]
@[simp] theorem Fc (n:Nat) (objs:List DObj) (s:Susp):((er s).map λx=>(x.1,x.2.map (fz n objs)))=er s:=by
 unfold er;split
 ·simp[fz]
 ·split<;>simp[fz]
@[simp] abbrev Ku:List Nat:=[0,1,3,4,5,6,7,10,11,17,26,27,28,29,38]
theorem Bi (d:Desk) (n:Nat) (s:Susp) (hd:DkOk n d) (hn:n<100000) (hs:iR n s) (hF:kQ G):zP Tryz.prog G 64 [rC d,Y9 s] (bv (I1 d s)):=by
 refine zf Tryz.func64 Tryz.ntmps64 ?_;try simp only[iv]
 have g2:G 2=some [.raw (.bool true),.raw (.bool false)]:=hF.2.1;have g3:G 3=some [.raw (.bool false),.raw (.bool true)]:=hF.2.2;have hdn:=hd.n;have hg:=tr s;have hcs:(s.kind=1/\er s=[])\/(s.kind=2/\er s=[([.int .i64 s.index],[.im (.raw (.bool true)),.im (.raw (.bool false))])])\/(s.kind=3/\er s=[([.int .i64 s.index],[.im (.raw (.bool false)),.im (.raw (.bool true))])]):=by
  unfold er;rcases hs with h|⟨h|h,_,_⟩<;>simp[h]
 have hno:=λi=>mU (d:=d) (s:=s) (i:=i);have hyes:=lk (d:=d) (s:=s);generalize I1 d s=r at *;obtain⟨kd,ix⟩:=s;simp only at hcs;simp only[rC,dm,aC];clear hs;have hs:True:=trivial;rcases hcs with⟨hkd,hw⟩|⟨hkd,hw⟩|⟨hkd,hw⟩
 all_goals
  have hw1:=hw;rw[hkd] at hw1;have hs:=za g2 (za g3 hkd);repeat' first|(with_reducible first|refine zz ?_|refine zE Ku ?_)|simp -dsimp[hs]|refine i7 ?_ ?_<;>intro h<;>try exact h.elim
  all_goals try clear hs
 all_goals
  refine g9 (ι:={ k:Nat // k<=d.faults.length/\∀ j,j<k->O4 ⟨kd,ix⟩ j∈d.faults.getD j [] }) (λp=>⟨48,[(0,rC d),(3,.one (.ptr 0 0)),(5,.one (.map 1)),(26,.one (.im (.sl (d.faults.map J6)))),(27,iv (d.faults.length:Int)),(28,iv (p.1:Int))],[.row [.im (.raw (.int .u8 kd)),.im (rI ix)],.map [.int .i64] (er ⟨kd,ix⟩)]⟩) (λp=>d.faults.length-p.1) ⟨0,by simp⟩ (zv [0,3,5,26,27,28] (by simp[hw,hw1,hkd,R5,dm,aC])) ?_;rintro⟨k,hk1,hall⟩;simp only[iv,rC,dm,aC];by_cases hlt:k<d.faults.length
  ·have hwk:=zk k;have hx0:d.faults[k]?=some d.faults[k]:=by simp[hlt]
   have hgd:d.faults.getD k []=d.faults[k]:=by simp[hlt]
   have hgk:=hg k;have hnk:=hno k hlt;rw[hgd] at hnk;have hall2:O4 ⟨kd,ix⟩ k∈d.faults[k]->∀ j,j<k+1->O4 ⟨kd,ix⟩ j∈d.faults.getD j []:=λh j hj=>by
    by_cases e:j=k
    ·subst e;rw[hgd];exact h
    ·exact hall j (by omega)
   generalize hw0:O4 ⟨kd,ix⟩ k=w at *;have c1:=gI (G:=G) d.faults[k] w (hd.l _ (List.getElem_mem hlt));generalize hx:d.faults[k]=x at *;simp only[lN,D3,List.map_cons,List.map_nil] at c1;by_cases hm:w∈x
   ·rw[decide_eq_true hm] at c1;have hs:=za hx (za hlt (za hwk hgk));repeat' first|(with_reducible first|refine zz ?_|refine zE Ku ?_)|simp -dsimp[hs]|refine zp c1 ?_|refine i7 ?_ ?_<;>intro h<;>try exact h.elim
    all_goals try clear hs
    all_goals exact zn ⟨k+1,by omega,hall2 hm⟩ (zw [0,3,5,26,27,28] 2 (by simp[dm,aC]))
   ·rw[decide_eq_false hm] at c1;have hr:=hnk hm;have hs:=za hx (za hlt (za hwk hgk));repeat' first|(with_reducible first|refine zz ?_|refine zr ?_|refine zE Ku ?_)|simp -dsimp[hs]|refine zp c1 ?_|refine i7 ?_ ?_<;>intro h<;>try exact h.elim
    all_goals try clear hs
    all_goals simp[hr]
  ·obtain rfl:k=d.faults.length:=by omega
   have hr:=hyes λi hi=>hall i hi;rw[hr];have hs:=za hlt hkd;repeat' first|(with_reducible first|refine zz ?_|refine zr ?_)|simp -dsimp[hs]|refine zM 13 48 9 Ku ?_|with_reducible refine zE Ku ?_|refine i7 ?_ ?_<;>intro h<;>try exact h.elim
   all_goals try clear hs
   all_goals simp[hkd]
end Go.Proofs
namespace Go.Proofs
open Go Go.Ab Tryz
variable {G:Hn}
attribute [simp] w0 fA w5 C7 nilV Q2 ZK
theorem yG (n:Nat) (s:Susp) (hs:iR n s) (hn:n<100000) (hF:kQ G) (d:Desk) (hd:DkOk n d):DCall prog G 63 (rC d :: [DC.ptr 0 0].map .one) [.row ((j9 s).map .im)] (λr o=>r=bv (I1 d s)/\o=[.row ((j9 s).map .im)]):=by
 refine DCall.drop ?_;have c1:=Bi (G:=G) d n s hd hn hs hF;simp only[rC,Y9,j9,rI,List.map_cons,List.map_nil] at c1;refine i8 func63 rfl ntmps63 (by simp) rfl ?_;simp only[rC,j9,rI,List.map_cons,List.map_nil];have hs:=trivial;repeat' first|(with_reducible first|refine zz ?_|refine zr ?_|refine zE [0,1,3] ?_)|simp -dsimp[hs]|refine zp c1 ?_|with_reducible refine And.intro ?_ ?_
 all_goals try clear hs
noncomputable def vh (c:Case) (s:Susp):Bool:=(r8 c).any λd=>I1 d s
noncomputable def gO (c:Case):List Susp:=if R8 c=0 then (cA c.pieces.length).filter (vh c) else []
@[simp] abbrev KW:List Nat:=[0,1,2,3,4,5,6,8,15,18,19,20,21,26]
theorem yD (c:Case) (hG:s9 G) (hN:N3 G) (hS:E7 G) (hU:aF G) (hR:E9 G) (hC:W6 G) (hF:kQ G) (hk:KC c):zP prog G 17 [n7 c] (.tup [s7 (gO c),iv (R8 c)]):=by
 refine zf func17 ntmps17 ?_;try simp only[iv]
 have c1:=nU (G:=G) c hG hN hS hR hC hk;have hq:=hk.q;by_cases h0:R8 c=0
 ·have c2:=qn (G:=G) c (by omega) hU;rw[h0,show tZ c=r8 c by unfold tZ;rw[if_pos h0]] at c1;have hdl:=dW (Q9 h0).1;have c3:=λs (h:s∈cA c.pieces.length)=>js (G:=G) (r8 c) (λd=>I1 d s) 63 [.ptr 0 0] [.row ((j9 s).map .im)] (by simp) (λd hdm=>yG c.pieces.length s (th h).1 (by omega) hF d (bq hk d hdm)) (by omega);have hO:gO c=(cA c.pieces.length).filter (vh c):=by unfold gO;rw[if_pos h0]
  have hfe:∀ s,((r8 c).any λd=>I1 d s)=vh c s:=λs=>rfl;simp only[hfe] at c3;rw[h0,hO];have hAl:=lm c.pieces.length;clear hO hfe;generalize vh c=f at *;generalize cA c.pieces.length=A at *;simp only[n7,j4,Y9,j9,jr,s7,rI,List.map_cons,List.map_nil] at c1 c2 c3 ⊢;have hs:=trivial;repeat' first|(with_reducible first|refine zz ?_|refine zE KW ?_)|simp -dsimp[hs]|refine zp c1 ?_|refine zp c2 ?_|refine i7 ?_ ?_<;>intro h<;>try exact h.elim
  all_goals try clear hs
  refine g9 (ι:={ p:Nat×Nat×Bool // p.1<=A.length }) (λp=>⟨33,[(4,.one (.im (.sl ((r8 c).map aB)))),(6,.one (.vec 2 p.1.2.1 0 ((A.take p.1.1).filter f).length)),(18,.one (.im (.sl (A.map j9)))),(19,iv (A.length:Int)),(20,iv (p.1.1:Int))],[.row ((j4 c).map .im),.vec 2 [] 0 true,.vec 2 (l8 (((A.take p.1.1).filter f).map j9)) p.1.2.1 p.1.2.2]⟩) (λp=>A.length-p.1.1) ⟨(0,0,true),by simp⟩ (zv [4,6,18,19,20] (by simp[l8])) ?_;rintro⟨⟨k,g,nl⟩,hk1⟩;simp only at hk1;simp only[iv];by_cases hlt:k<A.length
  ·have hw:=zk k;have hx0:A[k]?=some A[k]:=by simp[hlt]
   have hts:A.take (k+1)=A.take k++[A[k]]:=List.take_succ_eq_append_getElem hlt;have c4:=c3 A[k] (List.getElem_mem hlt);have hl1:=List.length_filter_le f (A.take k);rw[List.length_take] at hl1;generalize hx:A[k]=s at *;have e1:(A.take (k+1)).filter f=(A.take k).filter f++(if f s=true then [s] else []):=by
    rw[hts,List.filter_append];simp[List.filter_cons]
   generalize (A.take k).filter f=L at *;have hs:True:=trivial;cases hf:f s
   all_goals
    rw[hf] at c4;simp[hf] at e1;have hs:=za hx (za hx0 (za hlt hw));repeat' first|(with_reducible first|refine zz ?_|refine And.intro (by omega) ?_|refine zE KW ?_)|simp -dsimp[hs]|refine CallE.embed [3] (c4) ?_ ?_ ?_ ?_ ?_ ?_;(focus simp[D6];done);(focus simp;done);(focus simp;done);(focus simp;done);(focus refine C4 ?_;simp[D6,D5];done);try simp -dsimp[u7,D6,hs]|refine i7 ?_ ?_<;>intro h<;>try exact h.elim
    all_goals try clear hs
   ·all_goals exact zn ⟨(k+1,g,nl),by simp only;omega⟩ (zw [4,6,18,19,20] 3 (by simp[e1]))
   ·all_goals exact zn ⟨(k+1,g+1,false),by simp only;omega⟩ (zw [4,6,18,19,20] 3 (by simp[e1]))
  ·obtain rfl:k=A.length:=by omega
   simp only[List.take_length];have hl1:=List.length_filter_le f A;generalize A.filter f=L at *;have hs:=hlt;repeat' first|(with_reducible first|refine zz ?_|refine zr ?_|refine zE KW ?_)|simp -dsimp[hs]|refine i7 ?_ ?_<;>intro h<;>try exact h.elim
   all_goals try clear hs
   all_goals simp
 ·have hO:gO c=[]:=by unfold gO;rw[if_neg h0]
  rw[hO];simp only[n7,j4,Y9,j9,jr,rI,List.map_cons,List.map_nil] at c1 ⊢;have hs:=h0;repeat' first|(with_reducible first|refine zz ?_|refine zr ?_|refine zE KW ?_)|simp -dsimp[hs]|refine zp c1 ?_|refine i7 ?_ ?_<;>intro h<;>try exact h.elim
  all_goals try clear hs
attribute [simp] w0 fA w5 C7 nilV Q2 ZK
theorem tp (d i w:Int) (l:List Print):aI d i w l≠[]:=by
 unfold aI;have hm:N1 d i w l∈p5 (l4 (P5 d i w l++[N1 d i w l])):=by
  rw[ae];exact(List.mergeSort_perm _ _).mem_iff.2 (by simp)
 generalize p5 (l4 (P5 d i w l++[N1 d i w l]))=D at *;rcases po (λx=>decide (N1 d i w l=x)) D with h|h
 ·intro e;have h2:=congrArg List.length e;rw[List.length_drop,List.length_nil] at h2;have hlp:0<D.length:=List.length_pos_of_mem hm;omega
 ·rw[h] at hm;simp at hm
theorem xj {c:Case} (he:A4 c=0) {k:Nat} (h1:k<c.pieces.length):Z3 c k≠[]:=by
 obtain⟨hp0,hcb⟩:=C1 he;obtain⟨hn0,hpb,hr0⟩:=B2 hp0;have hok:=N4 hcb;have h2:k<c.loop.links.length:=by have:=hok.e;omega
 have hdm:=iN hr0 hcb h1 h2;have hq:=hcb;rw[L6,Bool.and_eq_true,List.all_eq_true] at hq;have h3:k<(c.loop.links.zip c.pieces).length:=by rw[List.length_zip];omega
 have h4:=hq.2 _ (List.getElem_mem h3);rw[List.getElem_zip] at h4;simp only at h4;rw[mw hr0] at h4;obtain⟨_,_,_,hh,hd,_⟩:=h4;rw[kB h1 h2];unfold M8;have hA:G3 c.p c.pieces[k].day 1 c.pieces[k].holder c.loop.links[k].drawing=0:=by
  unfold G3 B5 rJ;rw[if_neg,if_pos ⟨hh,hdm⟩];rw[if_neg (by simp[hp0]),if_pos (by simp at hd ⊢;omega)];simp
 rw[if_pos hA];exact tp _ _ _ _
theorem Bj {L:List N8} {so:Bool} {f:N8} (h:L≠[]):am L so f≠[]:=by
 unfold am;split
 ·simp
 ·exact h
theorem pL {L:List N8} {f:N8}:am L true f≠[]:=by
 unfold am;split
 ·simp
 ·rename_i h;have:f∈L:=Classical.byContradiction λh2=>h ⟨rfl,h2⟩;exact List.ne_nil_of_mem this
theorem uA {c:Case} {y:Link} {x:Piece} {o:Int} {L:List N8} {l:Int} (hx:x.lo<=x.hi):F6 c y x o L l≠[]:=by
 unfold F6;by_cases h1:qe c y x l=true
 ·rw[h1];exact Bj pL
 ·have h2:sY c y x l=true:=by
   unfold qe at h1;unfold sY;split at h1
   ·simp at h1
   ·rename_i z hz;simp only[hz,ap,Bool.and_eq_true,decide_eq_true_eq,Bool.not_eq_true',decide_eq_false_iff_not] at h1 ⊢;omega
  rw[h2];exact pL
theorem CZ {c:Case} (he:A4 c=0) (s:List Int) {k:Nat} (h1:k<c.pieces.length):W4 c s k≠[]:=by
 obtain⟨hp0,hcb⟩:=C1 he;have hok:=N4 hcb;have h2:k<c.loop.links.length:=by have:=hok.e;omega
 have hm:=xj he h1;have hp:=nc hok h1;unfold U7 at hp;have hx0:c.pieces[k]?=some c.pieces[k]:=by simp[h1]
 have hy0:c.loop.links[k]?=some c.loop.links[k]:=by simp[h2]
 unfold W4;rw[hx0,hy0];simp only;generalize Z3 c k=M at *;rw[<- List.dropLast_concat_getLast hm,List.foldl_append];exact uA hp.2.1
theorem pA {c:Case} (he:A4 c=0):∀ d∈r8 c,∀ x∈d.faults,x≠[]:=by
 intro d hd x hx;obtain⟨s,_,rfl⟩:=List.mem_map.1 hd;simp only[m4,List.mem_map,List.mem_range] at hx;obtain⟨k,hk,rfl⟩:=hx;exact CZ he s hk
def S4:List Susp->List Susp->Int
 | [],[]=>0
 | [],_ :: _=>-1
 | _ :: _,[]=>1
 | a :: x,b :: y=>if cU a b≠0 then cU a b else S4 x y
def lQ (a b:List Susp):Int:=be [(a.length:Int)-b.length,S4 a b]
def W3 (m x:List Susp):List Susp:=if lQ x m<0 then x else m
def jp:List (List Susp)->List Susp
 | []=>[]
 | x :: r=>r.foldl W3 x
def jf (l:List Susp):List IC:=[.sl (l.map j9)]
def eH (l:List Susp):Prop:=(∀ x∈l,eG x)/\l.length<100000
theorem zZ (a b:Susp) (ha:eG a) (hb:eG b) (objs:List DObj):DCall prog G 61 [Y9 a,Y9 b] objs (λd o=>d=iv (cU a b)/\o=objs):=by
 refine DCall.frame ?_ (by simp) (by simp) objs;exact(sN a b ha hb).mono λd o h=>by rw[h.1];simp
@[simp] abbrev Kg:List Nat:=[0,1,2,6,7,8,9,10,11,12,13,14,21,31,38]
theorem AX (a b:List Susp) (ha:eH a) (hb:eH b):zP prog G 60 [s7 a,s7 b,.one (.im (.fn (.func 61) []))] (iv (S4 a b)):=by
 refine zf func60 ntmps60 ?_;try simp only[iv]
 have hal:=ha.2;have hbl:=hb.2;simp only[s7];have hs:=trivial;repeat' first|(with_reducible first|refine zz ?_|refine zE Kg ?_)|simp -dsimp[hs]
 refine g9 (ι:={ k:Nat // k<=a.length/\k<=b.length/\S4 a b=S4 (a.drop k) (b.drop k) }) (λp=>⟨39,[(0,.one (.im (.sl (a.map j9)))),(1,.one (.im (.sl (b.map j9)))),(2,.one (.im (.fn (.func 61) []))),(11,.one (.im (.sl (a.map j9)))),(12,iv (a.length:Int)),(13,iv (p.1:Int))],[]⟩) (λp=>a.length-p.1) ⟨0,by simp⟩ (zv [0,1,2,11,12,13]) ?_;rintro⟨k,hka,hkb,hE⟩;have hE2:=hE;simp only[iv];by_cases hlt:k<a.length
 ·have hw:=zk k;have hx0:a[k]?=some a[k]:=by simp[hlt]
  have hxt:=ha.1 a[k] (List.getElem_mem hlt);rw[List.drop_eq_getElem_cons hlt] at hE2;by_cases hlb:k<b.length
  ·have hlb':¬ (b.length:Int)<=k:=by omega
   have hy0:b[k]?=some b[k]:=by simp[hlb]
   have hyt:=hb.1 b[k] (List.getElem_mem hlb);rw[List.drop_eq_getElem_cons hlb,S4] at hE2;generalize hx:a[k]=x at *;generalize hy:b[k]=y at *;have c1:=zZ (G:=G) x y hxt hyt;generalize cU x y=z at *;simp only[Y9,j9,rI,List.map_cons,List.map_nil] at c1;by_cases hz:z=0
   ·rw[if_neg (by simp[hz])] at hE2;have hs:=za hx (za hx0 (za hy (za hy0 (za hlt (za hlb (za hlb' (za hw hz)))))));repeat' first|(with_reducible first|refine zz ?_|refine zE Kg ?_)|simp -dsimp[hs]|refine zp c1 ?_|refine i7 ?_ ?_<;>intro h<;>try exact h.elim
    all_goals exact zn ⟨k+1,by omega,by omega,hE2⟩ (zw [0,1,2,11,12,13] 0)
   ·rw[if_pos hz] at hE2;have hs:=za hx (za hx0 (za hy (za hy0 (za hlt (za hlb (za hlb' (za hw hz)))))));repeat' first|(with_reducible first|refine zz ?_|refine zr ?_|refine zE Kg ?_)|simp -dsimp[hs]|refine zp c1 ?_|refine i7 ?_ ?_<;>intro h<;>try exact h.elim
    all_goals simp[hE2]
  ·have hkb2:k=b.length:=by omega
   have hlb':(b.length:Int)<=k:=by omega
   rw[List.drop_eq_nil_of_le (by omega:b.length<=k),S4] at hE2;generalize hx:a[k]=x at *;have hs:=za hx (za hx0 (za hlt (za hlb (za hlb' hw))));repeat' first|(with_reducible first|refine zz ?_|refine zr ?_|refine zE Kg ?_)|simp -dsimp[hs]|refine i7 ?_ ?_<;>intro h<;>try exact h.elim
   all_goals simp[hE2]
 ·have hka2:k=a.length:=by omega
  rw[List.drop_eq_nil_of_le (by omega)] at hE2;by_cases hlb:a.length<b.length
  ·have hlb':(a.length:Int)<b.length:=by omega
   rw[List.drop_eq_getElem_cons (by omega),S4] at hE2;have hs:=za hlt (za hlb hlb');repeat' first|(with_reducible first|refine zz ?_|refine zr ?_|refine zE Kg ?_)|simp -dsimp[hs]|refine i7 ?_ ?_<;>intro h<;>try exact h.elim
   all_goals simp[hE2]
  ·have hlb':¬ (a.length:Int)<b.length:=by omega
   rw[List.drop_eq_nil_of_le (by omega),S4] at hE2;have hs:=za hlt (za hlb hlb');repeat' first|(with_reducible first|refine zz ?_|refine zr ?_|refine zE Kg ?_)|simp -dsimp[hs]|refine i7 ?_ ?_<;>intro h<;>try exact h.elim
   all_goals simp[hE2]
attribute [simp] w0 fA w5 C7 nilV Q2 ZK
theorem Dc (a b:List Susp) (ha:eH a) (hb:eH b):zP prog G 58 [s7 a,s7 b] (iv (lQ a b)):=by
 refine zf func58 ntmps58 ?_;try simp only[iv]
 have hal:=ha.2;have hbl:=hb.2;have c1:=AX (G:=G) a b ha hb;have c2:=BC (G:=G) [(a.length:Int)-b.length,S4 a b] (by simp);have hE:lQ a b=be [(a.length:Int)-b.length,S4 a b]:=rfl;rw[<- hE] at c2;have hw:IntKind.i64.wrap ((a.length:Int)-b.length)=(a.length:Int)-b.length:=m9 (by omega) (by omega);generalize S4 a b=z at *;generalize lQ a b=r at *;simp only[s7] at c1 ⊢;have hs:=hw;repeat' first|(with_reducible first|refine zz ?_|refine zr ?_|refine zE [0,1,4] ?_)|simp -dsimp[hs]|refine zp c1 ?_|refine zt c2 ?_ ?_ ?_;(focus simp;done);focus (simp;done)
theorem Ak (L:List (List Susp)) (hne:L≠[]) (hl:L.length<1000000) (ht:∀ x∈L,eH x):zP prog G 108 [.one (.im (.sl (L.map jf))),.one (.im (.fn (.func 58) []))] (s7 (jp L)):=by
 refine zf func108 ntmps108 ?_;try simp only[iv]
 obtain⟨x0,r0,rfl⟩:∃ x r,L=x :: r:=by
  cases L with
  | nil=>exact absurd rfl hne
  | cons x r=>exact⟨x,r,rfl⟩
 have hE:jp (x0 :: r0)=((x0 :: r0).drop 1).foldl W3 x0:=rfl;have hl1:¬ ((x0 :: r0).length:Int)<1:=by simp;omega
 have hlp:0<(x0 :: r0).length:=by simp
 have hx1:(x0 :: r0)[0]?=some x0:=rfl;have hx2:(x0 :: r0)[0]=x0:=rfl;have hm0:x0∈(x0 :: r0):=by simp
 have hk1:1<=(x0 :: r0).length:=hlp;generalize (x0 :: r0)=L at *;generalize jp L=res at *;simp only[s7];have hs:=za hl1 (za hx1 (za hx2 hlp));repeat' first|(with_reducible first|refine zz ?_|refine zE Lv ?_)|simp -dsimp[jf,hs]|refine i7 ?_ ?_<;>intro h<;>try exact h.elim
 refine g9 (ι:={ p:Nat×List Susp // 1<=p.1/\p.1<=L.length/\p.2∈L/\res=(L.drop p.1).foldl W3 p.2 }) (λp=>⟨33,[(0,.one (.im (.sl (L.map jf)))),(1,.one (.im (.fn (.func 58) []))),(5,.one (.im (.sl (p.1.2.map j9)))),(6,iv (p.1.1:Int))],[]⟩) (λp=>L.length-p.1.1) ⟨(1,x0),Nat.le_refl _,hk1,hm0,hE⟩ (zw [0,1,5,6] 0) ?_;rintro⟨⟨k,m⟩,hk1',hk,hm,hE2⟩;simp only at hk1' hk hm hE2;simp only[iv];by_cases hlt:k<L.length
 ·have hlt':(k:Int)<L.length:=by omega
  have hw:=zk k;have hx:L[k]?=some L[k]:=by simp[hlt]
  have hmk:L[k]∈L:=List.getElem_mem hlt;rw[List.drop_eq_getElem_cons hlt,List.foldl_cons] at hE2;generalize hy:L[k]=y at *;have c1:=Dc (G:=G) y m (ht y hmk) (ht m hm);simp only[s7] at c1;unfold W3 at hE2;by_cases hym:lQ y m<0
  ·rw[if_pos hym] at hE2;have hs:=za hx (za hy (za hlt (za hlt' (za hw hym))));repeat' first|(with_reducible first|refine zz ?_|refine zE Lv ?_)|simp -dsimp[jf,hs]|refine zp c1 ?_|refine i7 ?_ ?_<;>intro h<;>try exact h.elim
   all_goals exact zn ⟨(k+1,y),by simp,by simp only;omega,hmk,hE2⟩ (zw [0,1,5,6] 0)
  ·rw[if_neg hym] at hE2;have hs:=za hx (za hy (za hlt (za hlt' (za hw hym))));repeat' first|(with_reducible first|refine zz ?_|refine zE Lv ?_)|simp -dsimp[jf,hs]|refine zp c1 ?_|refine i7 ?_ ?_<;>intro h<;>try exact h.elim
   all_goals exact zn ⟨(k+1,m),by simp,by simp only;omega,hm,hE2⟩ (zw [0,1,5,6] 0)
 ·have hlt':¬ (k:Int)<L.length:=by omega
  rw[List.drop_eq_nil_of_le (by omega)] at hE2;have hE3:res=m:=hE2;have hs:=za hlt hlt';repeat' first|(with_reducible first|refine zz ?_|refine zr ?_|refine zE Lv ?_)|simp -dsimp[hs]|refine i7 ?_ ?_<;>intro h<;>try exact h.elim
  all_goals simp[hE3]
theorem yq (L:List (List Susp)) (hne:L≠[]) (hl:L.length<1000000) (ht:∀ x∈L,eH x):zP prog G 57 [.one (.im (.sl (L.map jf))),.one (.im (.fn (.func 58) []))] (s7 (jp L)):=by
 refine zf func57 ntmps57 ?_;try simp only[iv]
 have c1:=Ak (G:=G) L hne hl ht;generalize jp L=r at *;simp only[s7] at c1 ⊢;repeat' first|(with_reducible first|refine zz ?_|refine zx ?_|refine zE [0,1,4] ?_)|simp -dsimp|refine zp c1 ?_
attribute [simp] w0 fA w5 C7 nilV Q2 ZK
theorem dT {n:Nat} {d:Desk} (hd:DkOk n d) (hn:n<40000):eH (I0 d):=by
 have hdn:=hd.n;have hl:(I0 d).length<=1+2*n:=by
  have h1:=(O0 d.notes (aS d) (aT d) d.faults.length).length_eq;have h2:=bi d.notes (aS d) (aT d) d.faults.length;unfold I0;omega
 refine⟨λx hx=>?_,by omega⟩;unfold eG;rcases listS_mem.1 hx with⟨_,rfl⟩|⟨i,h1,_,rfl⟩|⟨i,h1,_,rfl⟩
 ·simp
 ·simp[aO];omega
 ·simp[cw];omega
def dg (D:List Desk) (k:Nat):List (List IC):=(((D.take k).map I0)).map jf
theorem rq {D:List Desk} {k:Nat} (h:k<D.length):dg D (k+1)=dg D k++[[.sl ((I0 D[k]).map j9)]]:=by
 unfold dg;rw[List.take_succ_eq_append_getElem h,List.map_append,List.map_append];rfl
theorem mK {D:List Desk} {k:Nat} (h:k<=D.length):(dg D k).length=k:=by simp[dg];omega
theorem uD (D:List Desk):dg D D.length=(D.map I0).map jf:=by simp[dg]
noncomputable def gw (c:Case):List Susp:=if R8 c=0 then jp ((r8 c).map I0) else []
@[simp] abbrev KX:List Nat:=[0,1,2,3,4,5,6,8,15,17,18,19,20]
theorem vb (c:Case) (hG:s9 G) (hN:N3 G) (hS:E7 G) (hU:aF G) (hR:E9 G) (hC:W6 G) (hF:kQ G) (hk:KC c):zP prog G 16 [n7 c] (.tup [s7 (gw c),iv (R8 c)]):=by
 refine zf func16 ntmps16 ?_;try simp only[iv]
 have c1:=nU (G:=G) c hG hN hS hR hC hk;have hq:=hk.q;by_cases h0:R8 c=0
 ·rw[h0,show tZ c=r8 c by unfold tZ;rw[if_pos h0]] at c1;have hdl:=dW (Q9 h0).1;have c3:=λd (h:d∈r8 c)=>pp (G:=G) d c.pieces.length (bq hk d h) (by omega) (pA (Q9 h0).1 d h) hF hU;have hO:gw c=jp ((r8 c).map I0):=by unfold gw;rw[if_pos h0]
  have c2:=yq (G:=G) ((r8 c).map I0) (by intro e;have:=congrArg List.length e;simp at this;rw[this] at hdl;simp at hdl) (by simp;omega) (λx hx=>by
   obtain⟨d,hd,rfl⟩:=List.mem_map.1 hx;exact dT (bq hk d hd) (by omega))
  rw[h0,hO];generalize jp ((r8 c).map I0)=res at *;generalize r8 c=D at *;simp only[n7,j4,rC,jr,s7,List.map_cons,List.map_nil] at c1 c2 c3 ⊢;clear hO;have hs:=trivial;repeat' first|(with_reducible first|refine zz ?_|refine zE KX ?_)|simp -dsimp[hs]|refine zp c1 ?_|refine i7 ?_ ?_<;>intro h<;>try exact h.elim
  all_goals try clear hs
  refine g9 (ι:={ p:Nat×Nat×Bool // p.1<=D.length }) (λp=>⟨31,[(6,.one (.vec 2 p.1.2.1 0 p.1.1)),(17,.one (.im (.sl (D.map aB)))),(18,iv (D.length:Int)),(19,iv (p.1.1:Int))],[.row ((j4 c).map .im),.vec 2 [] 0 true,.vec 1 (l8 (dg D p.1.1)) p.1.2.1 p.1.2.2]⟩) (λp=>D.length-p.1.1) ⟨(0,0,true),by simp⟩ (zv [6,17,18,19] (by simp[l8,dg])) ?_;rintro⟨⟨k,g,nl⟩,hk1⟩;simp only at hk1;simp only[iv];by_cases hlt:k<D.length
  ·have hw:=zk k;have hx0:D[k]?=some D[k]:=by simp[hlt]
   have c4:=c3 D[k] (List.getElem_mem hlt);have e1:=rq hlt;have hll:=mK (D:=D) hk1;generalize hx:D[k]=d at *;generalize dg D k=L at *;generalize I0 d=f at *;have htk:List.take k (l8 L)=l8 L:=List.take_of_length_le (by simp[l8,hll]);have hs:=za hx (za hx0 (za hlt (za hw (za htk hll))));repeat' first|(with_reducible first|refine zz ?_|refine And.intro (by omega) ?_|refine zE KX ?_)|simp -dsimp[hs]|refine zp c4 ?_|refine i7 ?_ ?_<;>intro h<;>try exact h.elim
   all_goals try clear hs
   all_goals exact zn ⟨(k+1,g+1,false),by simp only;omega⟩ (zw [6,17,18,19] 3 (by simp[e1,htk,hll,L3]))
  ·obtain rfl:k=D.length:=by omega
   have hll:=mK (D:=D) (Nat.le_refl _);rw[<- uD] at c2;generalize dg D D.length=L at *;have htk:List.take D.length (l8 L)=l8 L:=List.take_of_length_le (by simp[l8,hll]);have hs:=za hlt (za htk hll);repeat' first|(with_reducible first|refine zz ?_|refine zr ?_|refine zE KX ?_)|simp -dsimp[hs]|refine CallE.freeze 0 (c2 []) ?_ ?_ ?_ ?_ ?_ ?_;(focus simp;done);(focus simp[htk,hll];done);(focus simp;done);(focus rfl);(focus simp;done);try simp -dsimp[w5]|refine i7 ?_ ?_<;>intro h<;>try exact h.elim
   all_goals try clear hs
 ·have hO:gw c=[]:=by unfold gw;rw[if_neg h0]
  rw[hO];simp only[n7,j4,jr,List.map_cons,List.map_nil] at c1 ⊢;have hs:=h0;repeat' first|(with_reducible first|refine zz ?_|refine zr ?_|refine zE KX ?_)|simp -dsimp[hs]|refine zp c1 ?_|refine i7 ?_ ?_<;>intro h<;>try exact h.elim
  all_goals try clear hs
end Go.Proofs
