/- Part 21 of the proofs. -/
import Derived.Test.YtlmlkkoapahmjaaGreatDoorT14
import Derived.Test.YtlmlkkoapahmjaaGreatDoorT16
import Derived.Test.YtlmlkkoapahmjaaGreatDoorT17
import Derived.Test.YtlmlkkoapahmjaaGreatDoorE02
import Derived.Test.YtlmlkkoapahmjaaGreatDoorE03
set_option linter.all false
set_option maxHeartbeats 100000000
namespace Go.Ab
open Go
def dt (a b:Susp):Prop:=a.kind<b.kind\/(a.kind=b.kind/\a.index<b.index)
instance (a b:Susp):Decidable (dt a b):=by unfold dt;infer_instance
theorem sL {a b c:Susp} (h1:dt a b) (h2:dt b c):dt a c:=by unfold dt at *;omega
theorem oV {α β:Type} (f g:α->List β):∀ l:List α,(l.flatMap f++l.flatMap g).Perm (l.flatMap λa=>f a++g a)
 | []=>by simp
 | a :: l=>by
   simp only[List.flatMap_cons,List.append_assoc];refine List.Perm.append_left _ ?_;have h:=oV f g l;refine List.Perm.trans ?_ (List.Perm.append_left (g a) h);rw[<- List.append_assoc,<- List.append_assoc];exact List.Perm.append_right _ List.perm_append_comm
def uz (i:Nat):Susp:=⟨2,i⟩
def vm (i:Nat):Susp:=⟨3,i⟩
def lG (b:Bool) (s:Susp):List Susp:=if b=true then [s] else []
def iI (b:Bool) (p h:Nat->Bool) (n:Nat):List Susp:=lG b ⟨1,0⟩++((List.range n).flatMap (λi=>lG (p i) (uz i))++(List.range n).flatMap λi=>lG (h i) (vm i))
def W5 (b:Bool) (p h:Nat->Bool) (n:Nat):List Susp:=lG b ⟨1,0⟩++(List.range n).flatMap λi=>lG (p i) (uz i)++lG (h i) (vm i)
theorem L7 (b:Bool) (p h:Nat->Bool) (n:Nat):(iI b p h n).Perm (W5 b p h n):=List.Perm.append_left _ (oV _ _ _)
theorem ifS_mem {b:Bool} {s x:Susp}:x∈lG b s↔b=true/\x=s:=by unfold lG;split<;>simp_all
theorem nJ (b:Bool) (s:Susp):(lG b s).length=if b=true then 1 else 0:=by unfold lG;split<;>simp_all
theorem iO (p:Nat->Bool) (f:Nat->Susp) (hf:∀ i j,i<j->dt (f i) (f j)) (n:Nat):((List.range n).flatMap λi=>lG (p i) (f i)).Pairwise dt:=by
 rw[List.pairwise_flatMap];refine⟨λi _=>by unfold lG;split<;>simp,List.pairwise_lt_range.imp λ{i j} h x hx y hy=>?_⟩;rw[(ifS_mem.1 hx).2,(ifS_mem.1 hy).2];exact hf i j h
theorem flat_mem {p:Nat->Bool} {f:Nat->Susp} {n:Nat} {x:Susp}:(x∈(List.range n).flatMap λi=>lG (p i) (f i))↔∃ i,i<n/\p i=true/\x=f i:=by
 simp only[List.mem_flatMap,List.mem_range,ifS_mem]
theorem listS_mem {b:Bool} {p h:Nat->Bool} {n:Nat} {x:Susp}:x∈iI b p h n↔(b=true/\x=⟨1,0⟩)\/(∃ i,i<n/\p i=true/\x=uz i)\/(∃ i,i<n/\h i=true/\x=vm i):=by
 simp only[iI,List.mem_append,ifS_mem,flat_mem]
theorem bx (b:Bool) (p h:Nat->Bool) (n:Nat):(iI b p h n).Pairwise dt:=by
 unfold iI;rw[List.pairwise_append,List.pairwise_append];refine⟨by unfold lG;split<;>simp,⟨iO p uz (λi j h=>.inr ⟨rfl,by simp[uz];omega⟩) n,iO h vm (λi j h=>.inr ⟨rfl,by simp[vm];omega⟩) n,λx hx y hy=>?_⟩,λx hx y hy=>?_⟩
 ·obtain⟨i,_,_,rfl⟩:=flat_mem.1 hx;obtain⟨j,_,_,rfl⟩:=flat_mem.1 hy;exact .inl (by simp[uz,vm])
 ·rw[(ifS_mem.1 hx).2];rcases List.mem_append.1 hy with hy|hy
  ·obtain⟨j,_,_,rfl⟩:=flat_mem.1 hy;exact .inl (by simp[uz])
  ·obtain⟨j,_,_,rfl⟩:=flat_mem.1 hy;exact .inl (by simp[vm])
def ec (n:Nat):List Susp:=iI true (λ_=>true) (λ_=>true) n
theorem gQ (b:Bool) (p h:Nat->Bool) (n:Nat):W5 b p h (n+1)=W5 b p h n++(lG (p n) (uz n)++lG (h n) (vm n)):=by
 simp[W5,List.range_succ]
theorem aR (b:Bool) (p h:Nat->Bool):∀ n,(W5 b p h n).length<=1+2*n
 | 0=>by simp[W5,nJ];split<;>omega
 | n+1=>by
   have:=aR b p h n;rw[gQ,List.length_append,List.length_append,nJ,nJ];split<;>split<;>omega
theorem md {b:Bool} {p h:Nat->Bool} {n:Nat} {x:Susp} (hx:x∈W5 b p h n):0<=x.kind/\x.kind<=3/\0<=x.index/\(x.index<n\/x.index=0):=by
 rcases listS_mem.1 ((L7 b p h n).mem_iff.2 hx) with⟨_,rfl⟩|⟨i,h1,_,rfl⟩|⟨i,h1,_,rfl⟩
 ·simp
 ·simp[uz];omega
 ·simp[vm];omega
end Go.Ab
namespace Go.Proofs
open Go Go.Ab
variable {G:IK}
def jb (a b:Susp):Int:=jc [a.kind-b.kind,a.index-b.index]
theorem fI (a b:Susp):jb a b<0↔dt a b:=by
 unfold jb jc jc jc dt;repeat' split
 all_goals omega
def eB (x:Susp):Prop:=0<=x.kind/\x.kind<=255/\0<=x.index/\x.index<=1000000000
abbrev wl:={ x:Susp // eB x }
def tM (x:wl):List IC:=j6 x.1
theorem tE (a b:Susp) (ha:eB a) (hb:eB b):DCall Tryz.prog G 61 [.agg ((j6 a).map wk),.agg ((j6 b).map wk)] [] (λd o=>d=iv (jb a b)/\o=[]):=by
 refine DCall.drop ?_;obtain⟨a1,a2,a3,a4⟩:=ha;obtain⟨b1,b2,b3,b4⟩:=hb;have w1:IntKind.i64.wrap (a.kind-b.kind)=a.kind-b.kind:=r9 (by omega) (by omega);have w2:IntKind.i64.wrap (a.index-b.index)=a.index-b.index:=r9 (by omega) (by omega);have w3:IntKind.i64.wrap a.kind=a.kind:=r9 (by omega) (by omega);have w4:IntKind.i64.wrap b.kind=b.kind:=r9 (by omega) (by omega);have c3:=CB (G:=G) [a.kind-b.kind,a.index-b.index] (by simp);have hE:jb a b=jc [a.kind-b.kind,a.index-b.index]:=rfl;rw[<- hE] at c3;simp only[j6,List.map_cons,List.map_nil,rI,wk];refine g9 Tryz.func61 rfl Tryz.ntmps61 (by simp) rfl ?_;have hs:=za w1 (za w2 (za w3 w4));repeat' first|(with_reducible first|refine zz ?_|refine zr ?_|refine zE [0,1,2,3,4] ?_)|simp -dsimp[hs]|refine zt c3 ?_ ?_ ?_;(focus simp;done);focus (simp;done)|with_reducible refine And.intro ?_ ?_
def S8 (G:IK):Prop:=∀ (l:List wl) (gn sz:Nat) (nl:Bool),(sz=2\/nl=true/\l=[])->l.length<1000000 ->
 DCall Tryz.prog G 96 [.one (.vec 0 gn 0 l.length),.one (.im (.fn (.func 61) []))] [.vec sz (l6 (l.map tM)) gn nl] (λd o=>d=.tup []/\∃ l':List wl,l'.Perm l/\(l'.Pairwise λa b=>¬ jb b.1 a.1<0)/\o=[.vec sz (l6 (l'.map tM)) gn nl])
theorem tx {G:IK} (hSF:S8 G) {l r:List Susp} (hT:∀ x∈l,eB x) (hp:r.Perm l) (hr:r.Pairwise dt) (hl:l.length<1000000) (gn sz:Nat) (nl:Bool) (hz:sz=2\/nl=true/\l=[]) :
 DCall Tryz.prog G 96 [.one (.vec 0 gn 0 l.length),.one (.im (.fn (.func 61) []))] [.vec sz (l6 (l.map j6)) gn nl] (λd o=>d=.tup []/\o=[.vec sz (l6 (r.map j6)) gn nl]):=by
 have h:=hSF (l.attach.map λx=>⟨x.1,hT x.1 x.2⟩) gn sz nl (hz.imp id λh=>⟨h.1,by simpa using h.2⟩) (by simpa using hl);have e1:(l.attach.map λx=>(⟨x.1,hT x.1 x.2⟩:wl)).map tM=l.map j6:=by
  rw[List.map_map];exact(List.map_attach_eq_pmap ..).trans (List.pmap_eq_map ..)
 rw[e1] at h;simp only[List.length_map,List.length_attach] at h;refine h.mono λd o ⟨h1,l',h2,h3,h4⟩=>⟨h1,?_⟩
 have h5:(l'.map Subtype.val)=r:=by
  have h6:(l'.map Subtype.val).Perm l:=by
   have:=h2.map Subtype.val;rw[List.map_map] at this;refine this.trans ?_;have e2:(l.attach.map (Subtype.val ∘ λx=>(⟨x.1,hT x.1 x.2⟩:wl)))=l:=(List.map_attach_eq_pmap ..).trans ((List.pmap_eq_map ..).trans (List.map_id _));rw[e2]
  refine List.Perm.eq_of_pairwise (le:=λa b=>¬ jb b a<0) (λa b _ _ h1 h2=>?_) (by rw[List.pairwise_map];exact h3) (hr.imp λ{a b} h=>?_) (h6.trans hp.symm)
  ·rw[fI] at h1 h2;unfold dt at h1 h2;obtain⟨a1,a2⟩:=a;obtain⟨b1,b2⟩:=b;simp only at h1 h2;rw[Susp.mk.injEq];omega
  ·rw[fI];unfold dt at *;omega
 rw[h4,<- h5,List.map_map];rfl
@[simp] abbrev KD:List Nat:=[0,1,2,3,4,9,10,11]
theorem jN (c:Case) (hn:c.pieces.length<100000) (hU:S8 G):zP Tryz.prog G 49 [n5 c] (B4 (ec c.pieces.length)):=by
 refine zf Tryz.func49 Tryz.ntmps49 ?_;try simp only[iv]
 simp only[n5,i9];have hs:=trivial;repeat' first|(with_reducible first|refine zz ?_|refine zE KD ?_)|simp -dsimp[hs]
 refine i7 (ι:={ p:Nat×Nat // p.1<=c.pieces.length }) (λp=>⟨24,[(3,.one (.vec 2 p.1.2 0 (W5 true (λ_=>true) (λ_=>true) p.1.1).length)),(9,iv (c.pieces.length:Int)),(10,iv (p.1.1:Int))],[.row ((i9 c).map .im),.vec 2 [] 0 true,.vec 2 (l6 ((W5 true (λ_=>true) (λ_=>true) p.1.1).map j6)) p.1.2 false]⟩) (λp=>c.pieces.length-p.1.1) ⟨(0,0),by simp⟩ (zv [3,9,10] (by simp[W5,lG])) ?_;rintro⟨⟨k,g⟩,hk⟩;simp only at hk;simp only[iv];by_cases hlt:k<c.pieces.length
 ·have hw:=zk k;have hst:=gQ true (λ_=>true) (λ_=>true) k;have hln:=aR true (λ_=>true) (λ_=>true) k;simp only[lG,if_true,uz,vm,List.cons_append,List.nil_append] at hst;generalize W5 true (λ_=>true) (λ_=>true) k=L at *;have hs:=za hlt hw;repeat' first|(with_reducible first|refine zz ?_|refine And.intro (by omega) ?_|refine zE KD ?_)|simp -dsimp[hs]|refine j4 ?_ ?_<;>intro h<;>try exact h.elim
  all_goals exact zn ⟨(k+1,g+1),by simp only;omega⟩ (zw [3,9,10] 3 (by simp[hst]))
 ·obtain rfl:k=c.pieces.length:=by omega
  have hln:=aR true (λ_=>true) (λ_=>true) c.pieces.length;have c1:=tx (G:=G) hU (l:=W5 true (λ_=>true) (λ_=>true) c.pieces.length) (r:=ec c.pieces.length) (λx hx=>by have:=md hx;unfold eB;omega) (L7 _ _ _ _) (bx _ _ _ _) (by omega) g 2 false (.inl rfl);have hal:(ec c.pieces.length).length=(W5 true (λ_=>true) (λ_=>true) c.pieces.length).length:=(L7 _ _ _ _).length_eq;generalize W5 true (λ_=>true) (λ_=>true) c.pieces.length=L at *;generalize ec c.pieces.length=A at *;rw[<- hal] at c1;rw[<- hal];have hs:=hlt;repeat' first|(with_reducible first|refine zz ?_|refine zr ?_|refine zE KD ?_)|simp -dsimp[hs]|refine CallE.embed [2] (c1) ?_ ?_ ?_ ?_ ?_ ?_;(focus simp[p7];done);(focus simp;done);(focus simp;done);(focus simp;done);(focus refine n4 ?_;simp[p7,o6];done);try simp -dsimp[n3,p7,hs]|refine j4 ?_ ?_<;>intro h<;>try exact h.elim
  all_goals simp
end Go.Proofs
namespace Go.Ab
open Go
def kP (p:Int×Int):List Value:=[.int .i64 p.1,.int .i64 p.2]
def G7 (l:List (Int×Int)):List (List Value×List DC):=l.map λp=>(kP p,[.im (rB true)])
def uA (p:Int×Int) (l:List (Int×Int)):List (Int×Int):=if p∈l then l else l++[p]
theorem xV (p q:Int×Int) (l:List (Int×Int)):q∈uA p l↔q∈l\/q=p:=by
 unfold uA;split
 ·exact⟨.inl,λh=>h.elim id λe=>e ▸ ‹_›⟩
 ·simp
theorem zK (a b:Int) (p:Int×Int):u6 [.int .i64 a,.int .i64 b] (kP p)=decide (p=(a,b)):=by
 obtain⟨c,d⟩:=p;simp only[kP,u6,Bool.and_true];rw[Bool.eq_iff_iff];simp only[Bool.and_eq_true,beq_iff_eq,decide_eq_true_eq,Prod.mk.injEq];exact⟨λh=>⟨h.1.symm,h.2.symm⟩,λh=>⟨h.1.symm,h.2.symm⟩⟩
@[simp] theorem Hp (l:List (Int×Int)) (a b:Int):K0 [.int .i64 a,.int .i64 b] (G7 l) [.im (.raw (.bool false))]=[.im (.raw (.bool (decide ((a,b)∈l))))]:=by
 induction l with
 | nil=>rfl
 | cons p r ih =>
   have e:G7 (p :: r)=(kP p,[.im (rB true)]) :: G7 r:=rfl;rw[e];simp only[K0,O7,zK,decide_eq_true_eq] at ih ⊢;split
   ·rename_i h;subst h;simp
   ·rename_i h;rw[ih];have:((a,b)∈p :: r)=((a,b)∈r):=propext ⟨λh'=>(List.mem_cons.1 h').resolve_left λe=>h e.symm,List.mem_cons_of_mem _⟩;simp only[this]
@[simp] theorem GO (l:List (Int×Int)) (a b:Int):O0 [.int .i64 a,.int .i64 b] [.im (.raw (.bool true))] (G7 l)=G7 (uA (a,b) l):=by
 have gen:∀ l:List (Int×Int),((a,b)∈l->O0 [.int .i64 a,.int .i64 b] [.im (.raw (.bool true))] (G7 l)=G7 l)/\((a,b)∉l->O0 [.int .i64 a,.int .i64 b] [.im (.raw (.bool true))] (G7 l)=G7 (l++[(a,b)])):=by
  intro l;induction l with
  | nil=>exact⟨λh=>by simp at h,λ_=>rfl⟩
  | cons p r ih =>
    have e:G7 (p :: r)=(kP p,[.im (rB true)]) :: G7 r:=rfl;rw[e];simp only[O0,zK,decide_eq_true_eq];constructor
    ·intro h;split
     ·rename_i hp;rw[hp];rfl
     ·rename_i hp;rw[ih.1 ((List.mem_cons.1 h).resolve_left λe=>hp e.symm)]
    ·intro h;rw[if_neg λe=>h (by simp[e]),ih.2 λe=>h (by simp[e])];rfl
 unfold uA;split
 ·exact(gen l).1 ‹_›
 ·exact(gen l).2 ‹_›
@[simp] theorem EQ (l:List (Int×Int)):(G7 l).length=l.length:=by simp[G7]
@[simp] theorem EL (n:Nat) (objs:List DObj) (l:List (Int×Int)):((G7 l).map λx=>(x.1,x.2.map (fz n objs)))=G7 l:=by
 simp[G7,fz,DC.lt]
@[simp] theorem FN (e:Nat->Nat) (m:List (Int×Int)):((G7 m).map λx=>(x.1,rnL e x.2))=G7 m:=by
 simp[G7,rnL,gI]
def tN (p:Int×Int):List IC:=[rI p.1,rI p.2]
def Hh (l:List (Int×Int)):DV:=.one (.im (.sl (l.map tN)))
attribute [simp] tN Hh
end Go.Ab
namespace Go.Proofs
open Go Go.Ab
def pZ (n:Notes) (s w:List Int) (a b:Nat):Bool:=(X7 n.notes).any λm=>C8 n s w m a&&C8 n s w m b
def pU (n:Notes) (s w:List Int) (a b:Nat):Bool:=decide (a<b)&&pZ n s w a b&&(match n.notes[a]?,n.notes[b]? with
 | some x,some y=>decide (x.drawing≠0)&&decide (x.drawing=y.drawing)&&decide (y.letter<x.letter)
 | _,_=>false)
def aj (n:Notes) (s w:List Int) (a k:Nat):List (Int×Int):=((List.range k).filter λb=>pU n s w a b).map λb=>(N1 n.notes a,N1 n.notes b)
def lI (n:Notes) (s w:List Int) (k:Nat):List (Int×Int):=(List.range k).flatMap λa=>aj n s w a n.notes.length
def sv (n:Notes) (s w:List Int):List (Int×Int):=lI n s w n.notes.length
theorem mH (n:Notes) (s w:List Int) (k:Nat):lI n s w (k+1)=lI n s w k++aj n s w k n.notes.length:=by
 simp[lI,List.range_succ,List.flatMap_append]
theorem sw (n:Notes) (s w:List Int) (a k:Nat):aj n s w a (k+1)=aj n s w a k++(if pU n s w a k=true then [(N1 n.notes a,N1 n.notes k)] else []):=by
 unfold aj;rw[List.range_succ,List.filter_append,List.map_append]
 congr 1
 by_cases h:pU n s w a k=true<;>simp[h]
theorem mI (n:Notes) (s w:List Int) (a k:Nat):(aj n s w a k).length<=k:=by
 unfold aj;rw[List.length_map];refine Nat.le_trans (List.length_filter_le _ _) ?_;simp
theorem pT (n:Notes) (s w:List Int):∀ k,(lI n s w k).length<=k*n.notes.length
 | 0=>by simp[lI]
 | k+1=>by
   have h1:=pT n s w k;have h2:=mI n s w k n.notes.length;rw[mH,List.length_append,Nat.succ_mul];omega
def bG (n:Notes) (s w:List Int) (M:List Int) (m:Int) (i k:Nat) (a b:Nat):Prop:=a<b/\b<n.notes.length/\((∃ m'∈M,C8 n s w m' a=true/\C8 n s w m' b=true)\/((b<i\/b=i/\a<k)/\C8 n s w m a=true/\C8 n s w m b=true))
def Bspec (n:Notes) (s w:List Int) (M:List Int) (m:Int) (i k:Nat) (B:List (Int×Int)):Prop:=∀ a b:Nat,((a:Int),(b:Int))∈B↔bG n s w M m i k a b
theorem Bspec.start (n:Notes) (s w:List Int) (m:Int):Bspec n s w [] m 0 0 []:=λa b=>by
 simp[bG]
theorem Bspec.mark {n:Notes} {s w:List Int} {M:List Int} {m m':Int} {B:List (Int×Int)} (h:Bspec n s w M m n.notes.length 0 B):Bspec n s w (M++[m]) m' 0 0 B:=λa b=>by
 rw[h a b];simp only[bG,List.mem_append,List.mem_singleton];constructor
 ·rintro⟨h1,h2,h3|⟨h3,h4⟩⟩
  ·obtain⟨x,hx,h⟩:=h3;exact⟨h1,h2,.inl ⟨x,.inl hx,h⟩⟩
  ·exact⟨h1,h2,.inl ⟨m,.inr rfl,h4⟩⟩
 ·rintro⟨h1,h2,h3|⟨h3,h4⟩⟩
  ·obtain⟨x,hx|rfl,hh⟩:=h3
   ·exact⟨h1,h2,.inl ⟨x,hx,hh⟩⟩
   ·exact⟨h1,h2,.inr ⟨.inl h2,hh⟩⟩
  ·omega
theorem Bspec.row {n:Notes} {s w:List Int} {M:List Int} {m:Int} {i:Nat} {B:List (Int×Int)} (h:Bspec n s w M m i i B):Bspec n s w M m (i+1) 0 B:=λa b=>by
 rw[h a b];simp only[bG];refine and_congr_right λh1=>and_congr_right λh2=>or_congr_right (and_congr_left λ_=>?_);omega
theorem Bspec.skip {n:Notes} {s w:List Int} {M:List Int} {m:Int} {i k:Nat} {B:List (Int×Int)} (h:Bspec n s w M m i k B) (hf:¬ (C8 n s w m i=true/\C8 n s w m k=true)):Bspec n s w M m i (k+1) B:=λa b=>by
 rw[h a b];simp only[bG];refine and_congr_right λh1=>and_congr_right λh2=>or_congr_right ⟨λh3=>⟨by omega,h3.2⟩,λh3=>⟨?_,h3.2⟩⟩;rcases h3.1 with h4|⟨h4,h5⟩
 ·exact .inl h4
 ·by_cases e:a=k
  ·subst e;subst h4;exact absurd ⟨h3.2.2,h3.2.1⟩ hf
  ·exact .inr ⟨h4,by omega⟩
theorem Bspec.put {n:Notes} {s w:List Int} {M:List Int} {m:Int} {i k:Nat} {B:List (Int×Int)} (h:Bspec n s w M m i k B) (hki:k<i) (hi:i<n.notes.length) (hf:C8 n s w m i=true/\C8 n s w m k=true):Bspec n s w M m i (k+1) (uA ((k:Int),(i:Int)) B):=λa b=>by
 rw[xV,h a b];simp only[bG,Prod.mk.injEq];constructor
 ·rintro (⟨h1,h2,h3⟩|⟨h1,h2⟩)
  ·exact⟨h1,h2,h3.imp id λh3=>⟨by omega,h3.2⟩⟩
  ·obtain rfl:a=k:=by omega
   obtain rfl:b=i:=by omega
   exact⟨hki,hi,.inr ⟨.inr ⟨rfl,by omega⟩,hf.2,hf.1⟩⟩
 ·rintro⟨h1,h2,h3|⟨h3,h4⟩⟩
  ·exact .inl ⟨h1,h2,.inl h3⟩
  ·by_cases e:b=i/\a=k
   ·obtain⟨rfl,rfl⟩:=e;exact .inr ⟨rfl,rfl⟩
   ·exact .inl ⟨h1,h2,.inr ⟨by omega,h4⟩⟩
theorem Bspec.both {n:Notes} {s w:List Int} {m:Int} {B:List (Int×Int)} (h:Bspec n s w (X7 n.notes) m 0 0 B) {a b:Nat} (hb:b<n.notes.length):decide (((a:Int),(b:Int))∈B)=(decide (a<b)&&pZ n s w a b):=by
 rw[Bool.eq_iff_iff];simp only[decide_eq_true_eq,h a b,bG,Bool.and_eq_true,pZ,List.any_eq_true];constructor
 ·rintro⟨h1,_,h3|h3⟩
  ·exact⟨h1,h3⟩
  ·omega
 ·rintro⟨h1,h3⟩;exact⟨h1,hb,.inl h3⟩
variable {G:IK}
end Go.Proofs
namespace Go.Proofs
open Go Go.Ab Tryz
theorem vt {p:Int->Bool} {l:List Int}:(J4 p l=-1/\l.filter (λx=>!p x)=l)\/∃ i:Nat,J4 p l=(i:Int)/\∃ h:i<l.length,p l[i]=true/\(l.take i).filter (λx=>!p x)=l.take i:=by
 unfold J4;split
 ·rename_i i h;rw[List.findIdx?_eq_some_iff_getElem] at h;obtain⟨hlt,hp,hno⟩:=h;refine .inr ⟨i,rfl,hlt,hp,List.filter_eq_self.2 λx hx=>?_⟩;obtain⟨j,hj,e⟩:=List.mem_take_iff_getElem.1 hx;have:=hno j (by omega);rw[e] at this;simpa using this
 ·rename_i h;rw[List.findIdx?_eq_none_iff] at h;exact .inl ⟨rfl,List.filter_eq_self.2 λx hx=>by simp[h x hx]⟩
theorem kB (X:List (List IC)) (m:Nat):(l6 X).take m=l6 (X.take m):=by simp[l6,List.map_take]
theorem iQ {q:Int->Bool} {l:List Int} {j:Nat} (h:j<l.length):(l.take (j+1)).filter q=(l.take j).filter q++(if q l[j]=true then [l[j]] else []):=by
 rw[List.take_succ_eq_append_getElem h,List.filter_append]
 congr 1
 by_cases e:q l[j]=true<;>simp[e]
variable {G:IK}
theorem ph (v:Int):zP prog G 213 [iv v] (bv (decide (999<v))):=by
 refine zf func213 ntmps213 ?_;try simp only[iv]
 repeat' first|(with_reducible first|refine zz ?_|refine zx ?_|refine zE [0,2] ?_)|simp -dsimp
@[simp] abbrev LU:List Nat:=[0,1,4,5,6,7,12,19,29]
theorem vK (l:List Int) (m g:Nat) (hm:m<=l.length) (hl:l.length<1000):DCall prog G 212 [.one (.vec 0 g 0 m),.one (.im (.fn (.func 213) []))] [.vec 1 (l6 (l.map Ab.encI)) g false] (λd o=>∃ S:List Int,(S.length=l.length/\S.take ((l.take m).filter λx=>decide (x<=999)).length=(l.take m).filter λx=>decide (x<=999))/\d=.one (.vec 0 g 0 ((l.take m).filter λx=>decide (x<=999)).length)/\o=[.vec 1 (l6 (S.map Ab.encI)) g false]):=by
 refine DCall.drop ?_;refine g9 func212 rfl ntmps212 (by simp) rfl ?_;have hq:(λx:Int=>!decide (999<x))=λx=>decide (x<=999):=funext λx=>by rw[<- decide_not,decide_eq_decide];omega
 have htl:(l.take m).length=m:=by simp;omega
 have c1:∀ objs,DCall prog G 179 [.one (.im (.sl ((l.take m).map Ab.encI))),.one (.im (.fn (.func 213) []))] objs (λd o=>d=iv (J4 (λx=>decide (999<x)) (l.take m))/\o=objs):=λobjs =>
  DCall.fnArg2 (eu (G:=G) (l.take m) (λx=>decide (999<x)) 213 [] objs (by simp) (λx _=>ph x objs) (by simp;omega))
 have hcase:=vt (p:=λx=>decide (999<x)) (l:=l.take m);rw[hq] at hcase;generalize J4 (λx=>decide (999<x)) (l.take m)=z at *;rcases hcase with⟨rfl,hall⟩|⟨i,rfl,hi,hpi,hfi⟩
 ·simp only[List.map_take] at c1;have hs:=hm;repeat' first|(with_reducible first|refine zz ?_|refine zr ?_|refine zE LU ?_)|simp -dsimp[hs]|refine CallE.thaw c1 ?_ ?_ ?_;(focus simp[hm,kB];done);(focus simp;done)|refine j4 ?_ ?_<;>intro h<;>try exact h.elim
  all_goals try clear hs
  exact⟨l,⟨rfl,by rw[hall,htl]⟩,by rw[hall,htl],rfl⟩
 ·simp only[List.map_take] at c1;have him:i<m:=by omega
  have hwi:=zk i;have hL0:l.take i=((l.take m).take (i+1)).filter λx=>decide (x<=999):=by
   rw[iQ hi,hfi,if_neg (by simp at hpi ⊢;omega),List.append_nil,List.take_take,Nat.min_eq_left (by omega)]
  have hs:=za hm hwi;repeat' first|(with_reducible first|refine zz ?_|refine zE LU ?_)|simp -dsimp[hs]|refine CallE.thaw c1 ?_ ?_ ?_;(focus simp[hm,kB];done);(focus simp;done)|refine j4 ?_ ?_<;>intro h<;>try exact h.elim
  all_goals try clear hs
  refine i7 (ι:={ p:Nat×Nat×List Int // p.1<=m/\p.2.1+1<=p.1/\p.2.2.length=l.length/\p.2.2.take p.2.1=((l.take m).take p.1).filter (λx=>decide (x<=999))/\p.2.2.drop p.1=l.drop p.1 }) (λp=>⟨42,[(0,.one (.vec 0 g 0 m)),(1,.one (.im (.fn (.func 213) []))),(5,iv (p.1.2.1:Int)),(6,iv (p.1.1:Int))],[.vec 1 (l6 (p.1.2.2.map Ab.encI)) g false]⟩) (λp=>m-p.1.1) ⟨(i+1,i,l),by simp only;omega,by simp only;omega,rfl,hL0,rfl⟩ (zw [0,1,5,6] 1) ?_;clear c1 hL0 hfi hpi;rintro⟨⟨j,w,S⟩,hj,hwj,hSl,hSt,hSd⟩;simp only at hj hwj hSl hSt hSd;simp only[iv];by_cases hlt:j<m
  ·have hw:=zk j;have hww:=zk w;have hjS:j<S.length:=by omega
   have hjl:j<l.length:=by omega
   have hwm:w<m:=by omega
   have hwS:w<S.length:=by omega
   have hfs:=iQ (q:=λx=>decide (x<=999)) (show j<(l.take m).length by omega);rw[<- hSt,List.getElem_take] at hfs;have e1:S[j]?=l[j]?:=by
    have:=congrArg (λL:List Int=>L[0]?) hSd;simpa only[List.getElem?_drop,Nat.add_zero] using this
   rw[List.getElem?_eq_getElem hjl] at e1;have e2:S[j]=l[j]:=(List.getElem?_eq_some_iff.1 e1).2;have hdr:S.drop (j+1)=l.drop (j+1):=by
    have:=congrArg (List.drop 1) hSd;rw[List.drop_drop,List.drop_drop] at this;exact this
   have hset:=λv:Int=>oP (v:=v) hwS;have hdset:∀ v:Int,(S.set w v).drop (j+1)=l.drop (j+1):=λv=>by
    rw[List.drop_set_of_lt (by omega)];exact hdr
   generalize l[j]=v at *;have c2:=ph (G:=G) v;by_cases hv:999<v
   ·rw[decide_eq_true hv] at c2;rw[if_neg (by simp;omega),List.append_nil] at hfs;have hs:=za hlt (za hw (za hjS (za e1 e2)));repeat' first|(with_reducible first|refine zz ?_|refine zE LU ?_)|simp -dsimp[hs]|refine zp c2 ?_|refine j4 ?_ ?_<;>intro h<;>try exact h.elim
    all_goals try clear hs
    all_goals exact zn ⟨(j+1,w,S),by simp only;omega,by simp only;omega,hSl,hfs.symm,hdr⟩ (zv [0,1,5,6])
   ·rw[decide_eq_false hv] at c2;rw[if_pos (by simp;omega),<- hset v] at hfs;have hs:=za hlt (za hw (za hww (za hjS (za e1 (za e2 (za hwm hwS))))));repeat' first|(with_reducible first|refine zz ?_|refine zE LU ?_)|simp -dsimp[hs]|refine zp c2 ?_|refine j4 ?_ ?_<;>intro h<;>try exact h.elim
    all_goals try clear hs
    all_goals exact zn ⟨(j+1,w+1,S.set w v),by simp only;omega,by simp only;omega,by simpa using hSl,hfs.symm,hdset v⟩ (zv [0,1,5,6])
  ·obtain rfl:j=m:=by omega
   rw[List.take_of_length_le (by omega:(l.take j).length<=j)] at hSt;have hw0:w<=j:=by omega
   have hwd:w=((l.take j).filter λx=>decide (x<=999)).length:=by rw[<- hSt];simp;omega
   have hs:=za hlt (za hw0 (za hSl hm));repeat' first|(with_reducible first|refine zz ?_|refine zr ?_|refine zE LU ?_)|simp -dsimp[hs]|refine j4 ?_ ?_<;>intro h<;>try exact h.elim
   all_goals try clear hs
   all_goals exact⟨vO S w (j-w),⟨by rw[pS (by omega)];exact hSl,by rw[<- hwd,<- hSt];exact List.take_left' (by simp;omega)⟩,by rw[hwd],rfl⟩
end Go.Proofs
namespace Go.Proofs
open Go Go.Ab Tryz
variable {G:IK}
theorem uv {l:List Note} {k:Nat} (h:k<l.length):aO (l.take (k+1))=aO (l.take k)++[l[k].frm,l[k].to+1]:=by
 unfold aO;rw[List.take_succ_eq_append_getElem h,List.flatMap_append];simp
theorem xy (l:List Note):(aO l).length=2*l.length+1:=by
 unfold aO;have:∀ l:List Note,(l.flatMap λx=>[x.frm,x.to+1]).length=2*l.length:=λl=>by
  induction l with
  | nil=>rfl
  | cons a r ih=>rw[List.flatMap_cons,List.length_append,ih,List.length_cons,List.length_cons,List.length_cons,List.length_nil];omega
 rw[List.length_cons,this]
@[simp] abbrev KE:List Nat:=[0,2,3,5,11,12,13,14]
theorem Bk (n:Notes) (hS:s8 G) (hl:n.notes.length<100) (hto:∀ x∈n.notes,1<=x.to/\x.to<=999):zP prog G 163 [.one (.im (F1 n))] (A4 (X7 n.notes)):=by
 refine zf func163 ntmps163 ?_;try simp only[iv]
 simp only[F1];have hs:=trivial;repeat' first|(with_reducible first|refine zz ?_|refine zE KE ?_)|simp -dsimp[hs]
 refine i7 (ι:={ p:Nat×Nat // p.1<=n.notes.length }) (λp=>⟨32,[(3,.one (.vec 1 p.1.2 0 (aO (n.notes.take p.1.1)).length)),(11,.one (.im (.sl (n.notes.map j8)))),(12,iv (n.notes.length:Int)),(13,iv (p.1.1:Int))],[.vec 1 [] 0 true,.vec 1 (l6 ((aO (n.notes.take p.1.1)).map Ab.encI)) p.1.2 false]⟩) (λp=>n.notes.length-p.1.1) ⟨(0,0),by simp⟩ (zv [3,11,12,13] (by simp[aO])) ?_;rintro⟨⟨k,g⟩,hk⟩;simp only at hk;simp only[iv];have hrl:=xy (n.notes.take k);rw[List.length_take] at hrl;by_cases hlt:k<n.notes.length
 ·have hw:=zk k;have hst:=uv hlt;have hxt:=hto n.notes[k] (List.getElem_mem hlt);generalize hx:n.notes[k]=x at *;have hwt:IntKind.i64.wrap (x.to+1)=x.to+1:=r9 (by omega) (by omega);generalize aO (n.notes.take k)=L at *;have hs:=za hx (za hlt (za hw hwt));repeat' first|(with_reducible first|refine zz ?_|refine And.intro (by omega) ?_|refine zE KE ?_)|simp -dsimp[hs]|refine j4 ?_ ?_<;>intro h<;>try exact h.elim
  all_goals exact zn ⟨(k+1,g+1),by simp only;omega⟩ (zw [3,11,12,13] 2 (by simp[hst]))
 ·obtain rfl:k=n.notes.length:=by omega
  rw[List.take_length] at hrl ⊢;have hE:X7 n.notes=(o9 (j9 (aO n.notes))).filter λm=>decide (m<=999):=rfl;have c1:=hS (aO n.notes) g 1 false (.inl rfl) (by omega);have hil:=J3 (aO n.notes);have c2:=mF (G:=G) (j9 (aO n.notes)) g (by omega);have hdl:=Y9 (j9 (aO n.notes));rw[hil] at c2;have hs:=hlt;repeat' first|(with_reducible first|refine zz ?_|refine zr ?_|refine zE KE ?_)|simp -dsimp[hs]|refine CallE.embed [1] (c1) ?_ ?_ ?_ ?_ ?_ ?_;(focus simp[p7];done);(focus simp;done);(focus simp;done);(focus simp;done);(focus refine n4 ?_;simp[p7,o6];done);try simp -dsimp[n3,p7,hs]|refine CallE.embed_ex [1] (c2) ?_ ?_ ?_ ?_ ?_ ?_;(focus simp[p7];done);(focus simp;done);(focus simp;done);(focus simp;done);(focus refine n4 ?_;simp[p7,o6];done);intro mma hmma;try simp -dsimp[n3,p7,hs]|refine CallE.embed_ex [1] (vK (G:=G) mma (o9 (j9 (aO n.notes))).length g (by omega) (by omega)) ?_ ?_ ?_ ?_ ?_ ?_;(focus simp[p7];done);(focus simp;done);(focus simp;done);(focus simp;done);(focus refine n4 ?_;simp[p7,o6];done);intro mm hmm;try simp -dsimp[n3,p7,hs]|refine j4 ?_ ?_<;>intro h<;>try exact h.elim
  obtain⟨ha1,ha2⟩:=hmma;obtain⟨hb1,hb2⟩:=hmm;rw[ha2,<- hE] at hb2 ⊢;have hml:(X7 n.notes).length<=mm.length:=by rw[<- hb2];simp;omega
  have htk:(l6 (mm.map Ab.encI)).take (X7 n.notes).length=l6 ((X7 n.notes).map Ab.encI):=by rw[kB,<- List.map_take,hb2]
  simp[hml,htk]
@[simp] abbrev Lh:List Nat:=[0,1,2,6,7,9,10,11,12,13,14,15,16,17,20,21,22,23,36,37,38,40,41,42,51,63,64,65,66,74,75,76,77,104]
@[simp] abbrev LV:List Nat:=[2,3,4,5,6,7,8]
@[simp] abbrev Kh:List Nat:=[0,7,13,14,15,63,64,65,74,75,76]
@[simp] abbrev KF:List Nat:=[0,1,2,7,10,11,20,21,22,36,37,40,41]
set_option maxRecDepth 4000 in
theorem BU (n:Notes) (s w:List Int) (hS:s8 G) (hok:kX n) (hl:n.notes.length<=16) (hsl:s.length<1000) (hwl:w.length<1000):zP prog G 103 [.one (.im (F1 n)),A4 s,A4 w] (Hh (sv n s w)):=by
 refine zf func103 ntmps103 ?_;try simp only[A4,A4]
 have c1:=Bk n hS (by omega) (λx hx=>by have:=Dw hok hx;omega);have c2:=λm=>tK (G:=G) n s w m;have hml:=uN n.notes;simp only[F1] at c1 ⊢;simp only[K9,frcCaps,F1,iv,A4,bv,rI,List.map_cons,List.map_nil,E4] at c2;have hs:=trivial;repeat' first|with_reducible refine zz ?_|(first|refine zp c1 ?_|with_reducible refine zE Lh ?_);try simp -dsimp[hs]
 all_goals try simp -dsimp[hs]
 all_goals try clear hs
 generalize hMs:X7 n.notes=Ms at *;refine i7 (ι:={ p:Nat×List (Int×Int) // p.1<=Ms.length/\∀ m,Bspec n s w (Ms.take p.1) m 0 0 p.2 }) (λp=>⟨116,[(0,.one (.im (.ip [.sl (n.reg.map h9),.sl (n.notes.map j8),.sl ((nums n.reg).map Ab.encI),.sl ((j9 (l8 n.notes)).map Ab.encI)]))),(1,A4 s),(2,A4 w),(7,.one (.map 1)),(20,A4 Ms),(21,iv (Ms.length:Int)),(22,iv (p.1.1:Int))],[.vec 2 [] 0 true,.map [.int .i64,.int .i64] (G7 p.1.2)]⟩) (λp=>Ms.length-p.1.1) ⟨(0,[]),by simp,λm=>Bspec.start n s w m⟩ (zv [0,1,2,7,20,21,22] (by simp[G7])) ?_;rintro⟨⟨j,B⟩,hj,hB⟩;simp only at hj hB;simp only[iv,A4];by_cases hlt:j<Ms.length
 ·have hw:=zk j;have htk:Ms.take (j+1)=Ms.take j++[Ms[j]]:=List.take_succ_eq_append_getElem hlt;generalize hm:Ms[j]=m at *;have c3:=c2 m;have hs:=za hm hlt;repeat' first|with_reducible refine zz ?_|refine CallE.embed [] (c3) ?_ ?_ ?_ ?_ ?_ ?_;(focus simp[p7];done);(focus simp;done);(focus simp;done);(focus simp;done);(focus refine n4 ?_;simp[p7,o6];done);try simp -dsimp[n3,p7,hs]|with_reducible refine zE Lh ?_;try simp -dsimp[hs]|refine j4 ?_ ?_<;>intro h<;>try exact h.elim
  all_goals try simp -dsimp[hs]
  all_goals try clear hs
  refine i7 (ι:={ p:Nat×List (Int×Int)×List (Int×Bool) // p.1<=n.notes.length/\ConsM n s w m p.2.2/\Bspec n s w (Ms.take j) m p.1 0 p.2.1 }) (λp=>⟨116,[(0,.one (.im (.ip [.sl (n.reg.map h9),.sl (n.notes.map j8),.sl ((nums n.reg).map Ab.encI),.sl ((j9 (l8 n.notes)).map Ab.encI)]))),(1,A4 s),(2,A4 w),(7,.one (.map 1)),(10,.one (.fn (.func 214) [.ptr 7 0,.ptr 2 0,.ptr 3 0,.ptr 4 0,.ptr 5 0,.ptr 8 0])),(20,A4 Ms),(21,iv (Ms.length:Int)),(22,iv (j:Int)),(36,iv (n.notes.length:Int)),(37,iv (p.1.1:Int))],[.vec 2 [] 0 true,.map [.int .i64,.int .i64] (G7 p.1.2.1)]++[.row [.im (.ip [.sl (n.reg.map h9),.sl (n.notes.map j8),.sl ((nums n.reg).map Ab.encI),.sl ((j9 (l8 n.notes)).map Ab.encI)])],.row [.im (.sl (s.map Ab.encI))],.row [.im (.sl (w.map Ab.encI))],.row [.im (rI m)],.map [.int .i64] (E4 p.1.2.2),.row [.map 6],.row [.fn (.func 214) [.ptr 7 0,.ptr 2 0,.ptr 3 0,.ptr 4 0,.ptr 5 0,.ptr 8 0]]]⟩) (λp=>n.notes.length-p.1.1) ⟨(0,B,[]),by simp,ConsM.nil _ _ _ _,hB m⟩ (zv [0,1,2,7,10,20,21,22,36,37] (by simp[E4])) ?_;rintro⟨⟨i,B2,M⟩,hi,hM,hB2⟩;simp only at hi hM hB2;simp only[iv,A4];by_cases hli:i<n.notes.length
  ·have hwi:=zk i;have hs:=hli;repeat' first|with_reducible refine zz ?_|with_reducible refine zE Lh ?_;try simp -dsimp[hs]|refine j4 ?_ ?_<;>intro h<;>try exact h.elim
   all_goals try simp -dsimp[hs]
   all_goals try clear hs
   refine i7 (ι:={ p:Nat×List (Int×Int)×List (Int×Bool) // p.1<=i/\ConsM n s w m p.2.2/\Bspec n s w (Ms.take j) m i p.1 p.2.1 }) (λp=>⟨116,[(0,.one (.im (.ip [.sl (n.reg.map h9),.sl (n.notes.map j8),.sl ((nums n.reg).map Ab.encI),.sl ((j9 (l8 n.notes)).map Ab.encI)]))),(1,A4 s),(2,A4 w),(7,.one (.map 1)),(10,.one (.fn (.func 214) [.ptr 7 0,.ptr 2 0,.ptr 3 0,.ptr 4 0,.ptr 5 0,.ptr 8 0])),(11,iv (i:Int)),(20,A4 Ms),(21,iv (Ms.length:Int)),(22,iv (j:Int)),(36,iv (n.notes.length:Int)),(37,iv (i:Int)),(40,iv (i:Int)),(41,iv (p.1.1:Int))],[.vec 2 [] 0 true,.map [.int .i64,.int .i64] (G7 p.1.2.1)]++[.row [.im (.ip [.sl (n.reg.map h9),.sl (n.notes.map j8),.sl ((nums n.reg).map Ab.encI),.sl ((j9 (l8 n.notes)).map Ab.encI)])],.row [.im (.sl (s.map Ab.encI))],.row [.im (.sl (w.map Ab.encI))],.row [.im (rI m)],.map [.int .i64] (E4 p.1.2.2),.row [.map 6],.row [.fn (.func 214) [.ptr 7 0,.ptr 2 0,.ptr 3 0,.ptr 4 0,.ptr 5 0,.ptr 8 0]]]⟩) (λp=>i-p.1.1) ⟨(0,B2,M),by simp,hM,hB2⟩ (zv [0,1,2,7,10,11,20,21,22,36,37,40,41]) ?_;rintro⟨⟨k,B3,M3⟩,hk,hM3,hB3⟩;simp only at hk hM3 hB3;simp only[iv,A4];by_cases hlk:k<i
   ·have hwk:=zk k;have c4:=DI (G:=G) n s w m (by omega) hsl hwl n.notes.length i (by omega) hli M3 hM3;have c5:=λM hM=>DI (G:=G) n s w m (by omega) hsl hwl n.notes.length k (by omega) (by omega) M hM;have hput:=λh=>hB3.put hlk hli h;have hskip:=λh=>hB3.skip (k:=k) h;simp only[K9,frcCaps,F1,iv,bv,rI,List.map_cons,List.map_nil] at c4 c5;cases hfi:C8 n s w m i
    ·rw[hfi] at c4;have hsk:=hskip (by rw[hfi];simp);have hs:=za hlk hwk;repeat' first|with_reducible refine zz ?_|refine CallE.embed_ex LV (c4) ?_ ?_ ?_ ?_ ?_ ?_;(focus simp[p7];done);(focus simp;done);(focus simp;done);(focus simp;done);(focus refine n4 ?_;simp[p7,o6];done);intro mm hmm;try simp -dsimp[n3,p7,hs]|with_reducible refine zE Lh ?_;try simp -dsimp[hs]|refine j4 ?_ ?_<;>intro h<;>try exact h.elim
     all_goals try simp -dsimp[hs]
     all_goals try clear hs
     all_goals exact zn ⟨(k+1,B3,mm),by simp only;omega,hmm,hsk⟩ (zw KF 9)
    ·cases hfk:C8 n s w m k
     ·rw[hfi] at c4;simp only[hfk] at c5;have hsk:=hskip (by rw[hfk];simp);have hs:=za hlk hwk;repeat' first|with_reducible refine zz ?_|refine CallE.embed_ex LV (c4) ?_ ?_ ?_ ?_ ?_ ?_;(focus simp[p7];done);(focus simp;done);(focus simp;done);(focus simp;done);(focus refine n4 ?_;simp[p7,o6];done);intro mma hmma;try simp -dsimp[n3,p7,hs]|refine CallE.embed_ex LV (c5 mma hmma) ?_ ?_ ?_ ?_ ?_ ?_;(focus simp[p7];done);(focus simp;done);(focus simp;done);(focus simp;done);(focus refine n4 ?_;simp[p7,o6];done);intro mm hmm;try simp -dsimp[n3,p7,hs]|with_reducible refine zE Lh ?_;try simp -dsimp[hs]|refine j4 ?_ ?_<;>intro h<;>try exact h.elim
      all_goals try simp -dsimp[hs]
      all_goals try clear hs
      all_goals exact zn ⟨(k+1,B3,mm),by simp only;omega,hmm,hsk⟩ (zw KF 9)
     ·rw[hfi] at c4;simp only[hfk] at c5;have hpt:=hput ⟨hfi,hfk⟩;have hs:=za hlk hwk;repeat' first|with_reducible refine zz ?_|refine CallE.embed_ex LV (c4) ?_ ?_ ?_ ?_ ?_ ?_;(focus simp[p7];done);(focus simp;done);(focus simp;done);(focus simp;done);(focus refine n4 ?_;simp[p7,o6];done);intro mma hmma;try simp -dsimp[n3,p7,hs]|refine CallE.embed_ex LV (c5 mma hmma) ?_ ?_ ?_ ?_ ?_ ?_;(focus simp[p7];done);(focus simp;done);(focus simp;done);(focus simp;done);(focus refine n4 ?_;simp[p7,o6];done);intro mm hmm;try simp -dsimp[n3,p7,hs]|with_reducible refine zE Lh ?_;try simp -dsimp[hs]|refine j4 ?_ ?_<;>intro h<;>try exact h.elim
      all_goals try simp -dsimp[hs]
      all_goals try clear hs
      all_goals exact zn ⟨(k+1,uA ((k:Int),(i:Int)) B3,mm),by simp only;omega,hmm,hpt⟩ (zw KF 9)
   ·obtain rfl:k=i:=by omega
    have hrow:=hB3.row;have hs:=za hlk hwi;repeat' first|with_reducible refine zz ?_|with_reducible refine zE Lh ?_;try simp -dsimp[hs]|refine j4 ?_ ?_<;>intro h<;>try exact h.elim
    all_goals try simp -dsimp[hs]
    all_goals try clear hs
    all_goals exact zn ⟨(k+1,B3,M3),by simp only;omega,hM3,hrow⟩ (zw [0,1,2,7,10,20,21,22,36,37] 9)
  ·obtain rfl:i=n.notes.length:=by omega
   have hmk:=λm'=>hB2.mark (m':=m');have hs:=za hli hw;repeat' first|with_reducible refine zz ?_|with_reducible refine zE Lh ?_;try simp -dsimp[hs]|refine j4 ?_ ?_<;>intro h<;>try exact h.elim
   all_goals try simp -dsimp[hs]
   all_goals try clear hs
   all_goals exact zn ⟨(j+1,B2),by simp only;omega,λm'=>by rw[htk];exact hmk m'⟩ (zw [0,1,2,7,20,21,22] 2)
 ·obtain rfl:j=Ms.length:=by omega
  rw[List.take_length,<- hMs] at hB;have hboth:=λa b hb=>(hB 0).both (a:=a) (b:=b) hb;have hs:=hlt;repeat' first|with_reducible refine zz ?_|with_reducible refine zE Lh ?_;try simp -dsimp[hs]|refine j4 ?_ ?_<;>intro h<;>try exact h.elim
  all_goals try simp -dsimp[hs]
  all_goals try clear hs
  refine i7 (ι:={ p:Nat×Nat×Bool // p.1<=n.notes.length }) (λp=>⟨116,[(0,.one (.im (.ip [.sl (n.reg.map h9),.sl (n.notes.map j8),.sl ((nums n.reg).map Ab.encI),.sl ((j9 (l8 n.notes)).map Ab.encI)]))),(7,.one (.map 1)),(13,.one (.vec 2 p.1.2.1 0 (lI n s w p.1.1).length)),(63,.one (.im (.sl (n.notes.map j8)))),(64,iv (n.notes.length:Int)),(65,iv (p.1.1:Int))],[.vec 2 [] 0 true,.map [.int .i64,.int .i64] (G7 B),.vec 2 (l6 ((lI n s w p.1.1).map tN)) p.1.2.1 p.1.2.2]⟩) (λp=>n.notes.length-p.1.1) ⟨(0,0,true),by simp⟩ (zv [0,7,13,63,64,65] (by simp[lI])) ?_;rintro⟨⟨a,g,nl⟩,ha⟩;simp only at ha;simp only[iv];have hTl:=pT n s w a;have hTl2:a*n.notes.length<=16*16:=Nat.mul_le_mul (by omega) hl;by_cases hla:a<n.notes.length
  ·have hwa:=zk a;have hsa:=mH n s w a;have hna:N1 n.notes a=n.notes[a].number:=by simp[N1,hla]
   have hxo:n.notes[a]?=some n.notes[a]:=by simp[hla]
   generalize hx:n.notes[a]=x at *;generalize lI n s w a=T at *;have hs:=za hx hla;repeat' first|with_reducible refine zz ?_|with_reducible refine zE Lh ?_;try simp -dsimp[hs]|refine j4 ?_ ?_<;>intro h<;>try exact h.elim
   all_goals try simp -dsimp[hs]
   all_goals try clear hs
   refine i7 (ι:={ p:Nat×Nat×Bool // p.1<=n.notes.length }) (λp=>⟨116,[(0,.one (.im (.ip [.sl (n.reg.map h9),.sl (n.notes.map j8),.sl ((nums n.reg).map Ab.encI),.sl ((j9 (l8 n.notes)).map Ab.encI)]))),(7,.one (.map 1)),(13,.one (.vec 2 p.1.2.1 0 (T++aj n s w a p.1.1).length)),(14,iv (a:Int)),(15,.one (.ptr 3 0)),(63,.one (.im (.sl (n.notes.map j8)))),(64,iv (n.notes.length:Int)),(65,iv (a:Int)),(74,.one (.im (.sl (n.notes.map j8)))),(75,iv (n.notes.length:Int)),(76,iv (p.1.1:Int))],[.vec 2 [] 0 true,.map [.int .i64,.int .i64] (G7 B),.vec 2 (l6 ((T++aj n s w a p.1.1).map tN)) p.1.2.1 p.1.2.2,.row ((j8 x).map .im)]⟩) (λp=>n.notes.length-p.1.1) ⟨(0,g,nl),by simp⟩ (zv Kh (by simp[aj])) ?_;rintro⟨⟨b,g2,nl2⟩,hb⟩;simp only at hb;simp only[iv];have hRl:=mI n s w a b;by_cases hlb:b<n.notes.length
   ·have hwb:=zk b;have hsb:=sw n s w a b;have hnb:N1 n.notes b=n.notes[b].number:=by simp[N1,hlb]
    have hyo:n.notes[b]?=some n.notes[b]:=by simp[hlb]
    have hbo:=hboth a b hlb;have hck:pU n s w a b=(decide (((a:Int),(b:Int))∈B)&&(decide (x.drawing≠0)&&decide (x.drawing=n.notes[b].drawing)&&decide (n.notes[b].letter<x.letter))):=by
     rw[hbo,pU,hxo,hyo]
    generalize hy:n.notes[b]=y at *;rw[hna,hnb] at hsb;have hTR:(T++aj n s w a b).length<=500:=by rw[List.length_append];omega
    have hsb2:T++aj n s w a (b+1)=(T++aj n s w a b)++(if pU n s w a b=true then [(x.number,y.number)] else []):=by
     rw[hsb,<- List.append_assoc]
    clear hsb;generalize T++aj n s w a b=R at *;cases hq:decide (((a:Int),(b:Int))∈B)
    ·have hq':¬ ((a:Int),(b:Int))∈B:=by simpa using hq
     rw[hq] at hck;rw[hck,Bool.false_and,if_neg Bool.false_ne_true,List.append_nil] at hsb2;have hs:=za hy (za hlb (za hwb hq'));repeat' first|with_reducible refine zz ?_|with_reducible refine zE Lh ?_;try simp -dsimp[hs]|refine j4 ?_ ?_<;>intro h<;>try exact h.elim
     all_goals try simp -dsimp[hs]
     all_goals try clear hs
     all_goals exact zn ⟨(b+1,g2,nl2),by simp only;omega⟩ (zw Kh 4 (by simp[hsb2]))
    ·have hq':((a:Int),(b:Int))∈B:=by simpa using hq
     rw[hq,Bool.true_and] at hck;have hs:=za hy (za hlb (za hwb hq'));repeat' first|(with_reducible first|refine zz ?_|refine And.intro (by omega) ?_)|with_reducible refine zE Lh ?_;try simp -dsimp[hs]|refine j4 ?_ ?_<;>intro h<;>try exact h.elim|with_reducible refine j7 ?_ ?_<;>intro h<;>have h0:=h<;>(try simp only[i8] at h)<;>have h2:=h<;>(try simp at h2)<;>(replace hs:=za h0 (za h (za h2 hs)))<;>simp -dsimp[hs]
     all_goals try simp -dsimp[hs]
     all_goals try clear hs
     ·have hc:pU n s w a b=true:=by rw[hck];simp only[Bool.and_eq_true,decide_eq_true_eq];exact⟨⟨by assumption,by assumption⟩,by assumption⟩
      rw[if_pos hc] at hsb2;exact zn ⟨(b+1,g2+1,false),by simp only;omega⟩ (zw Kh 4 (by simp[hsb2]<;>omega))
     all_goals
      have hc:pU n s w a b=false:=by rw[hck,<- Bool.not_eq_true];simp only[Bool.and_eq_true,decide_eq_true_eq];omega
      rw[hc,if_neg Bool.false_ne_true,List.append_nil] at hsb2;exact zn ⟨(b+1,g2,nl2),by simp only;omega⟩ (zw Kh 4 (by simp[hsb2]<;>omega))
   ·obtain rfl:b=n.notes.length:=by omega
    rw[<- hsa];have hs:=za hlb hwa;repeat' first|with_reducible refine zz ?_|with_reducible refine zE Lh ?_;try simp -dsimp[hs]|refine j4 ?_ ?_<;>intro h<;>try exact h.elim
    all_goals try simp -dsimp[hs]
    all_goals try clear hs
    all_goals exact zn ⟨(a+1,g2,nl2),by simp only;omega⟩ (zw [0,7,13,63,64,65] 3)
  ·obtain rfl:a=n.notes.length:=by omega
   have hs:=hla;repeat' first|(with_reducible first|refine zz ?_|refine zr ?_)|with_reducible refine zE Lh ?_;try simp -dsimp[hs]|refine j4 ?_ ?_<;>intro h<;>try exact h.elim
   all_goals try simp -dsimp[hs]
   all_goals try clear hs
   all_goals simp[sv]
end Go.Proofs
namespace Go.Proofs
open Go Go.Ab
def iL (n:Notes) (s w:List Int) (M:List Int) (m:Int) (a b:Nat) (x y:Nat):Prop:=x<y/\y<n.notes.length/\((∃ m'∈M,C8 n s w m' x=true/\C8 n s w m' y=true)\/((x<a\/x=a/\y<b)/\C8 n s w m x=true/\C8 n s w m y=true))
structure Tspec (n:Notes) (s w:List Int) (M:List Int) (m:Int) (a b:Nat) (L:List Bool):Prop where
 len:L.length=144
 at':∀ x y:Nat,x<12->y<12->(L[x*12+y]?=some true↔iL n s w M m a b x y)
theorem Tspec.start (n:Notes) (s w:List Int) (m:Int):Tspec n s w [] m 0 0 (List.replicate 144 false):=⟨by simp,λx y hx hy=>by
 have:x*12+y<144:=by omega
 rw[List.getElem?_replicate,if_pos this];simp[iL]⟩
theorem Tspec.mark {n:Notes} {s w:List Int} {M:List Int} {m m':Int} {b:Nat} {L:List Bool} (h:Tspec n s w M m n.notes.length b L):Tspec n s w (M++[m]) m' 0 0 L:=⟨h.len,λx y hx hy=>by
 rw[h.at' x y hx hy];simp only[iL,List.mem_append,List.mem_singleton];constructor
 ·rintro⟨h1,h2,h3|⟨h3,h4⟩⟩
  ·obtain⟨z,hz,hh⟩:=h3;exact⟨h1,h2,.inl ⟨z,.inl hz,hh⟩⟩
  ·exact⟨h1,h2,.inl ⟨m,.inr rfl,h4⟩⟩
 ·rintro⟨h1,h2,h3|⟨h3,h4⟩⟩
  ·obtain⟨z,hz|rfl,hh⟩:=h3
   ·exact⟨h1,h2,.inl ⟨z,hz,hh⟩⟩
   ·exact⟨h1,h2,.inr ⟨.inl (by omega),hh⟩⟩
  ·omega⟩
theorem Tspec.row {n:Notes} {s w:List Int} {M:List Int} {m:Int} {a:Nat} {L:List Bool} (h:Tspec n s w M m a n.notes.length L):Tspec n s w M m (a+1) 0 L:=⟨h.len,λx y hx hy=>by
 rw[h.at' x y hx hy];simp only[iL];refine and_congr_right λh1=>and_congr_right λh2=>or_congr_right (and_congr_left λ_=>?_);omega⟩
theorem Tspec.begin {n:Notes} {s w:List Int} {M:List Int} {m:Int} {a:Nat} {L:List Bool} (h:Tspec n s w M m a 0 L):Tspec n s w M m a (a+1) L:=⟨h.len,λx y hx hy=>by
 rw[h.at' x y hx hy];simp only[iL];refine and_congr_right λh1=>and_congr_right λh2=>or_congr_right (and_congr_left λ_=>?_);omega⟩
theorem Tspec.put {n:Notes} {s w:List Int} {M:List Int} {m:Int} {a b:Nat} {L:List Bool} (h:Tspec n s w M m a b L) (hab:a<b) (hb:b<n.notes.length) (hn:n.notes.length<=12) {v:Bool} (hv:L[a*12+b]?=some v):Tspec n s w M m a (b+1) (L.set (a*12+b) (v||(C8 n s w m a&&C8 n s w m b))):=⟨by rw[List.length_set];exact h.len,λx y hx hy=>by
 have ho:=h.at' x y hx hy;by_cases e:x=a/\y=b
 ·obtain⟨rfl,rfl⟩:=e;have hl:x*12+y<L.length:=by rw[h.len];omega
  rw[List.getElem?_set_self hl];rw[hv] at ho;simp only[Option.some.injEq,Bool.or_eq_true,Bool.and_eq_true] at ho ⊢;rw[ho];simp only[iL];constructor
  ·rintro (⟨h1,h2,h3⟩|h4)
   ·exact⟨h1,h2,h3.imp id λh3=>⟨by omega,h3.2⟩⟩
   ·exact⟨hab,hb,.inr ⟨by simp,h4⟩⟩
  ·rintro⟨h1,h2,h3|⟨h3,h4⟩⟩
   ·exact .inl ⟨h1,h2,.inl h3⟩
   ·exact .inr h4
 ·have hne:a*12+b≠x*12+y:=by omega
  rw[List.getElem?_set_ne hne,ho];simp only[iL];refine and_congr_right λh1=>and_congr_right λh2=>or_congr_right (and_congr_left λ_=>?_);omega⟩
theorem Tspec.both {n:Notes} {s w:List Int} {M:List Int} {m:Int} {L:List Bool} (h:Tspec n s w M m 0 0 L) (hM:∀ m',m'∈M↔m'∈X7 n.notes) {a b:Nat} (hab:a<b) (hb:b<n.notes.length) (hn:n.notes.length<=12):L[a*12+b]?=some (pZ n s w a b):=by
 have ho:=h.at' a b (by omega) (by omega);have hl:a*12+b<L.length:=by rw[h.len];omega
 rw[List.getElem?_eq_getElem hl] at ho ⊢
 congr 1
 rw[Bool.eq_iff_iff];rw[Option.some.injEq] at ho;rw[ho];simp only[iL,pZ,List.any_eq_true,Bool.and_eq_true];constructor
 ·rintro⟨_,_,h3|h3⟩
  ·obtain⟨z,hz,hh⟩:=h3;exact⟨z,(hM z).1 hz,hh⟩
  ·omega
 ·rintro⟨z,hz,hh⟩;exact⟨hab,hb,.inl ⟨z,(hM z).2 hz,hh⟩⟩
end Go.Proofs
namespace Go.Ab
open Go
def HF (L:List Bool):List DC:=L.map λb=>.im (.raw (.bool b))
@[simp] theorem qG:∀ (n k:Nat),zcells (List.replicate n (.bool false)) k=(List.replicate n (.im (.raw (.bool false))),[])
 | 0,_=>rfl
 | n+1,k=>by rw[List.replicate_succ,List.replicate_succ,zcells,qG n k];exact λh=>by cases h
@[simp] theorem HB (m:Nat) (O:List DObj) (L:List Bool):(HF L).map (fz m O)=HF L:=by
 simp only[HF,List.map_map];exact List.map_congr_left λx _=>by simp[fz]
end Go.Ab
namespace Go.Proofs
open Go Go.Ab
variable {G:IK}
end Go.Proofs
namespace Go.Proofs
open Go Go.Ab
variable {G:IK}
def su (n:Notes) (s:List Int):List (Int×Int):=if D4 n s 1=0 then sv n s [] else []
open Go Go.Ab Tryz
theorem xO (n:Notes) (s:List Int) (hG:o4 G) (hN:C7 G) (hS:s8 G) (hs:EE n) (hsl:s.length<1000):zP prog G 54 [w9 n,A4 s] (.tup [Hh (su n s),iv (D4 n s 1)]):=by
 refine zf func54 ntmps54 ?_;try simp only[w9,A4]
 have c1:=tU n s 1 hG hN hS hs hsl;unfold su;by_cases h0:D4 n s 1=0
 ·rw[h0,show L9 n s 1=.one (.im (F1 n)) by unfold L9;rw[if_pos h0]] at c1;have hnk:=fK (zS h0).1;have c2:=BU (G:=G) n s [] hS hnk.2.2.1 (by omega) hsl (by simp);simp only[F1,A4,iv,List.map_nil] at c1 c2;rw[if_pos h0];have hs:=trivial;repeat' first|(with_reducible first|refine zz ?_|refine zr ?_|refine zE [0,1,2,4,5,6,7,15] ?_)|simp -dsimp[hs]|refine zp c1 ?_|refine zp c2 ?_|refine j4 ?_ ?_<;>intro h<;>try exact h.elim
  all_goals try clear hs
  all_goals simp[h0]
 ·rw[show L9 n s 1=.one (.im (.raw (.pointer none))) by unfold L9;rw[if_neg h0]] at c1;rw[if_neg h0];simp only[A4,iv] at c1;have hs:=h0;repeat' first|(with_reducible first|refine zz ?_|refine zr ?_|refine zE [0,1,2,4,5,6,7,15] ?_)|simp -dsimp[hs]|refine zp c1 ?_|refine j4 ?_ ?_<;>intro h<;>try exact h.elim
  all_goals try clear hs
  all_goals simp[h0]
attribute [simp] p5 cr s6 w0 nilV H9 ZK
theorem po (n:Nat) (L:List Desk) (s:Susp) (hs:bV n s) (so:Bool) (hK:bD G) (hd:∀ d∈L,DkOk n d) (hl:L.length<1000000):DCall prog G 97 (bv so :: [DC.ptr 0 0,DC.ptr 1 0].map .one) [.row [.im (.sl (L.map Q6))],.row ((j6 s).map .im)] (λr o=>r=bv (L.any λd=>pg d s so)/\o=[.row [.im (.sl (L.map Q6))],.row ((j6 s).map .im)]):=by
 refine DCall.drop ?_;have c1:=ci (G:=G) L (λd=>pg d s so) 98 [.ptr 0 0,.ptr 1 0] [.row ((j6 s).map .im),.row [.im (.raw (.bool so))]] (by simp) (λd hdm=>uV n s hs so hK d (hd d hdm)) hl;simp only[j6,rI,List.map_cons,List.map_nil] at c1;refine g9 func97 rfl ntmps97 (by simp) rfl ?_;simp only[j6,rI,List.map_cons,List.map_nil];have hs:=trivial;repeat' first|(with_reducible first|refine zz ?_|refine zr ?_|refine zE [0,1,2,3,4] ?_)|simp -dsimp[hs]|refine CallE.embed [1,2] (c1) ?_ ?_ ?_ ?_ ?_ ?_;(focus simp[p7];done);(focus simp;done);(focus simp;done);(focus simp;done);(focus refine n4 ?_;simp[p7,o6];done);try simp -dsimp[n3,p7,hs]|with_reducible refine And.intro ?_ ?_
 all_goals try clear hs
theorem kx (n:Nat) (L:List Desk) (s:Susp) (hs:bV n s) (hK:bD G) (hd:∀ d∈L,DkOk n d) (hl:L.length<1000000):zP prog G 50 [Y6 L,D8 s] (wJ (E8 L s)):=by
 refine zf func50 ntmps50 ?_;try simp only[iv]
 have c1:=po (G:=G) n L s hs true hK hd hl;have c2:=po (G:=G) n L s hs false hK hd hl;unfold E8;generalize (L.any λd=>pg d s true)=b1 at *;generalize (L.any λd=>pg d s false)=b2 at *;simp only[j6,rI,bv,List.map_cons,List.map_nil] at c1 c2;simp only[Y6];have hs:True:=trivial;cases b1<;>cases b2
 all_goals
  have hs:=trivial;repeat' first|(with_reducible first|refine zz ?_|refine zr ?_|refine zE [0,1,2,3,4,5,7,11] ?_)|simp -dsimp[hs]|refine zh c1 ?_|refine zh c2 ?_|refine j4 ?_ ?_<;>intro h<;>try exact h.elim
  all_goals try clear hs
 all_goals simp
theorem yi (c:Case) (s:Susp) (h1:0<=s.kind/\s.kind<=255) (hn:c.pieces.length<100000):zP prog G 55 [n5 c,D8 s] (bv (qC c.pieces.length s)):=by
 refine zf func55 ntmps55 ?_;try simp only[iv]
 have w3:IntKind.i64.wrap s.kind=s.kind:=r9 (by omega) (by omega);have w4:IntKind.i64.wrap ((c.pieces.length:Int)-1)=(c.pieces.length:Int)-1:=r9 (by omega) (by omega);have c1:=K1 (G:=G) 2 3 [s.kind] (by simp);have c2:=K1 (G:=G) 0 ((c.pieces.length:Int)-1) [s.index] (by simp);rw[show ([s.kind].all λy=>decide (2<=y)&&decide (y<=3))=(decide (2<=s.kind)&&decide (s.kind<=3)) by simp] at c1;rw[show ([s.index].all λy=>decide (0<=y)&&decide (y<=(c.pieces.length:Int)-1))=(decide (0<=s.index)&&decide (s.index<=(c.pieces.length:Int)-1)) by simp] at c2;have hE:qC c.pieces.length s=if s.kind=1 then decide (s.index=0) else (decide (2<=s.kind)&&decide (s.kind<=3))&&(decide (0<=s.index)&&decide (s.index<=(c.pieces.length:Int)-1)):=rfl;simp only[n5,i9];by_cases hk:s.kind=1
 ·rw[if_pos hk] at hE;rw[hE];have hs:=hk;repeat' first|(with_reducible first|refine zz ?_|refine zr ?_|refine zE [0,1,2,3,4,7] ?_)|simp -dsimp[hs]|refine j4 ?_ ?_<;>intro h<;>try exact h.elim
 ·rw[if_neg hk] at hE;rw[hE];generalize (decide (2<=s.kind)&&decide (s.kind<=3))=b1 at *;generalize (decide (0<=s.index)&&decide (s.index<=(c.pieces.length:Int)-1))=b2 at *;have hs:True:=trivial;cases b1
  all_goals
   have hs:=za hk (za w3 w4);repeat' first|(with_reducible first|refine zz ?_|refine zr ?_|refine zE [0,1,2,3,4,7] ?_)|simp -dsimp[hs]|refine zt c1 ?_ ?_ ?_;(focus simp;done);focus (simp;done)|refine zt c2 ?_ ?_ ?_;(focus simp;done);focus (simp;done)|refine j4 ?_ ?_<;>intro h<;>try exact h.elim
  all_goals simp
noncomputable def bB (c:Case) (s:Susp):Int:=if G9 c≠0 then G9 c else if qC c.pieces.length s=true then 0 else 6
noncomputable def dW (c:Case) (s:Susp):Int:=if bB c s=0 then E8 (n8 c) s else 0
@[simp] abbrev KG:List Nat:=[0,1,2,3,4,5,6,7,14,19]
theorem qg (c:Case) (s:Susp) (h1:0<=s.kind/\s.kind<=255) (hG:o4 G) (hN:C7 G) (hS:s8 G) (hR:u3 G) (hC:I9 G) (hK:bD G) (hk:KC c):zP prog G 37 [n5 c,D8 s] (.tup [wJ (dW c s),iv (bB c s)]):=by
 refine zf func37 ntmps37 ?_;try simp only[iv]
 have c1:=dS (G:=G) c hG hN hS hR hC hk;have hq:=hk.q;by_cases h0:G9 c=0
 ·have c2:=yi (G:=G) c s h1 (by omega);rw[h0,show ot c=n8 c by unfold ot;rw[if_pos h0]] at c1;have hE:bB c s=if qC c.pieces.length s=true then 0 else 6:=by unfold bB;rw[if_neg (by simp[h0])]
  have hdl:=bc (U6 h0).1;simp only[n5,i9,D8,j6,Y6,rI,List.map_cons,List.map_nil] at c1 c2;by_cases hb:qC c.pieces.length s=true
  ·have c3:=kx (G:=G) c.pieces.length (n8 c) s (yn hb) hK (Y7 hk) (by omega);rw[if_pos hb] at hE;have hO:dW c s=E8 (n8 c) s:=by unfold dW;rw[if_pos hE]
   rw[hE,hO];rw[hb] at c2;simp only[D8,j6,Y6,rI,List.map_cons,List.map_nil] at c3;simp only[n5,i9,D8,j6,rI,List.map_cons,List.map_nil];have hs:=trivial;repeat' first|(with_reducible first|refine zz ?_|refine zr ?_|refine zE KG ?_)|simp -dsimp[hs]|refine zp c1 ?_|refine zp c2 ?_|refine zp c3 ?_|refine j4 ?_ ?_<;>intro h<;>try exact h.elim
  ·rw[if_neg hb] at hE;have hO:dW c s=0:=by unfold dW;rw[if_neg (by rw[hE];decide)]
   rw[hE,hO];rw[Bool.not_eq_true] at hb;rw[hb] at c2;simp only[n5,i9,D8,j6,rI,List.map_cons,List.map_nil];have hs:=trivial;repeat' first|(with_reducible first|refine zz ?_|refine zr ?_|refine zE KG ?_)|simp -dsimp[hs]|refine zp c1 ?_|refine zp c2 ?_|refine j4 ?_ ?_<;>intro h<;>try exact h.elim
 ·have hE:bB c s=G9 c:=by unfold bB;rw[if_pos h0]
  have hO:dW c s=0:=by unfold dW;rw[if_neg (by rw[hE];exact h0)]
  rw[hE,hO];simp only[n5,i9,D8,j6,Y6,rI,List.map_cons,List.map_nil] at c1 ⊢;have hs:=h0;repeat' first|(with_reducible first|refine zz ?_|refine zr ?_|refine zE KG ?_)|simp -dsimp[hs]|refine zp c1 ?_|refine j4 ?_ ?_<;>intro h<;>try exact h.elim
noncomputable def km (c:Case) (t:List Int) (s:Susp):Int:=if G9 c≠0 then G9 c else if H1 (j9 (l8 c.p.n.notes)) t=false then 31 else if qC c.pieces.length s=true then 0 else 6
noncomputable def je (c:Case) (t:List Int) (s:Susp):Int:=if km c t s=0 then E8 [G1 c t] s else 0
@[simp] abbrev LW:List Nat:=[0,1,2,3,5,6,7,9,11,18,29,34]
theorem zQ (c:Case) (t:List Int) (s:Susp) (h1:0<=s.kind/\s.kind<=255) (htl:t.length<1000) (hG:o4 G) (hN:C7 G) (hS:s8 G) (hR:u3 G) (hC:I9 G) (hK:bD G) (hk:KC c):zP prog G 14 [n5 c,A4 t,D8 s] (.tup [wJ (je c t s),iv (km c t s)]):=by
 refine zf func14 ntmps14 ?_;try simp only[A4]
 have c1:=dS (G:=G) c hG hN hS hR hC hk;have hq:=hk.q;by_cases h0:G9 c=0
 ·have c2:=yi (G:=G) c s h1 (by omega);have c4:=xO (G:=G) c.p.n t hG hN hS hk.p.n htl;obtain⟨he,_⟩:=U6 h0;obtain⟨hn0,_,_⟩:=I3 (H0 he).1;rw[h0] at c1;generalize ot c=X at c1;generalize su c.p.n t=Y at c4;have hA:D4 c.p.n t 1=if H1 (j9 (l8 c.p.n.notes)) t=false then 31 else 0:=by
   unfold D4;rw[if_neg (by simp[hn0])];simp
  rw[hA] at c4;have hE:km c t s=if H1 (j9 (l8 c.p.n.notes)) t=false then 31 else if qC c.pieces.length s=true then 0 else 6:=by unfold km;rw[if_neg (by simp[h0])]
  cases ht:H1 (j9 (l8 c.p.n.notes)) t
  ·rw[if_pos ht] at hE c4;have hO:je c t s=0:=by unfold je;rw[if_neg (by rw[hE];decide)]
   rw[hE,hO];simp only[n5,i9,D8,j6,Y6,rI,w9,A2,List.map_cons,List.map_nil] at c1 c4 ⊢;have hs:=trivial;repeat' first|(with_reducible first|refine zz ?_|refine zr ?_|refine zE LW ?_)|simp -dsimp[hs]|refine zp c1 ?_|refine zp c4 ?_|refine j4 ?_ ?_<;>intro h<;>try exact h.elim
  ·rw[if_neg (by simp[ht])] at hE c4;have c5:=mR (G:=G) c t he ht htl hG hN hS hR hC hk;by_cases hb:qC c.pieces.length s=true
   ·have c3:=kx (G:=G) c.pieces.length [G1 c t] s (yn hb) hK (by intro d hd;rw[List.mem_singleton] at hd;subst hd;exact tP hk t) (by simp);rw[if_pos hb] at hE;have hO:je c t s=E8 [G1 c t] s:=by unfold je;rw[if_pos hE]
    rw[hE,hO];rw[hb] at c2;generalize E8 [G1 c t] s=kk at *;generalize G1 c t=dd at *;simp only[n5,i9,D8,j6,Y6,Q6,rI,w9,A2,List.map_cons,List.map_nil] at c1 c2 c3 c4 c5 ⊢;have hs:=trivial;repeat' first|(with_reducible first|refine zz ?_|refine zr ?_)|simp -dsimp[hs]|refine zp c1 ?_|refine zp c4 ?_|refine zp c2 ?_|refine zq c5 ?_|refine zq c3 ?_|refine zM 9 41 8 LW ?_|with_reducible refine zE LW ?_|refine j4 ?_ ?_<;>intro h<;>try exact h.elim
   ·rw[if_neg hb] at hE;have hO:je c t s=0:=by unfold je;rw[if_neg (by rw[hE];decide)]
    rw[hE,hO];rw[Bool.not_eq_true] at hb;rw[hb] at c2;simp only[n5,i9,D8,j6,Y6,rI,w9,A2,List.map_cons,List.map_nil] at c1 c2 c4 ⊢;have hs:=trivial;repeat' first|(with_reducible first|refine zz ?_|refine zr ?_|refine zE LW ?_)|simp -dsimp[hs]|refine zp c1 ?_|refine zp c4 ?_|refine zp c2 ?_|refine j4 ?_ ?_<;>intro h<;>try exact h.elim
 ·have hE:km c t s=G9 c:=by unfold km;rw[if_pos h0]
  have hO:je c t s=0:=by unfold je;rw[if_neg (by rw[hE];exact h0)]
  rw[hE,hO];simp only[n5,i9,D8,j6,Y6,rI,List.map_cons,List.map_nil] at c1 ⊢;have hs:=h0;repeat' first|(with_reducible first|refine zz ?_|refine zr ?_|refine zE LW ?_)|simp -dsimp[hs]|refine zp c1 ?_|refine j4 ?_ ?_<;>intro h<;>try exact h.elim
attribute [simp] p5 cr s6 w0 nilV H9 ZK
end Go.Proofs
namespace Go.Ab
open Go
def HT (F:List L3):List IC:=[.raw (.bool (decide ((false,false)∈F))),.raw (.bool (decide ((false,true)∈F))),.raw (.bool (decide ((true,false)∈F))),.raw (.bool (decide ((true,true)∈F)))]
def CF (F:List L3):DV:=.agg ((HT F).map .im)
theorem yG (F:List L3):ImV (CF F):=by unfold CF;simp[HT]
attribute [simp] yG
end Go.Ab
namespace Go.Proofs
open Go Go.Ab
variable {G:IK}
attribute [simp] p5 cr s6 w0 nilV H9 ZK
end Go.Proofs
namespace Go.Proofs
open Go Go.Ab
variable {G:IK}
attribute [simp] p5 cr s6 w0 nilV H9 ZK
end Go.Proofs
namespace Go.Ab
open Go
def s7 (f:L3):Int:=(if f.2=true then 2 else 0)+(if f.1=true then 1 else 0)
theorem bl (f:L3):0<=s7 f/\s7 f<=3:=by unfold s7;split<;>split<;>omega
theorem bn {a b:L3} (h:s7 a=s7 b):a=b:=by
 obtain⟨a1,a2⟩:=a;obtain⟨b1,b2⟩:=b;revert h;cases a1<;>cases a2<;>cases b1<;>cases b2<;>decide
def bh (L:List L3):L3:=if (false,false)∈L then (false,false) else if (true,false)∈L then (true,false) else if (false,true)∈L then (false,true) else (true,true)
theorem vW (L:List L3):∀ x∈L,s7 (bh L)<=s7 x:=by
 intro x hx;unfold bh;have:=bl x;split
 ·have:s7 (false,false)=0:=rfl;omega
 ·rename_i h0;have n0:s7 x≠0:=λe=>h0 ((bn (a:=x) (b:=(false,false)) (by rw[e];rfl)) ▸ hx);split
  ·have:s7 (true,false)=1:=rfl;omega
  ·rename_i h1;have n1:s7 x≠1:=λe=>h1 ((bn (a:=x) (b:=(true,false)) (by rw[e];rfl)) ▸ hx);split
   ·have:s7 (false,true)=2:=rfl;omega
   ·rename_i h2;have n2:s7 x≠2:=λe=>h2 ((bn (a:=x) (b:=(false,true)) (by rw[e];rfl)) ▸ hx);have:s7 (true,true)=3:=rfl;omega
theorem vX {L:List L3} (h:L≠[]):bh L∈L:=by
 unfold bh;split
 ·assumption
 ·split
  ·assumption
  ·split
   ·assumption
   ·obtain⟨⟨a,b⟩,hx⟩:=List.exists_mem_of_ne_nil L h;revert hx;cases a<;>cases b<;>simp_all
theorem zJ {L:List L3} {r:L3} (hr:r∈L) (h:∀ x∈L,s7 r<=s7 x):bh L=r:=by
 have h1:=vW L r hr;have h2:=h _ (vX (List.ne_nil_of_mem hr));exact bn (by omega)
def cX (d:Desk) (i:Nat):Bool:=(bh (d.faults.getD i [])).1
def cZ (d:Desk) (i:Nat):Bool:=(bh (d.faults.getD i [])).2
def V4 (d:Desk):List Susp:=iI d.notes (cX d) (cZ d) d.faults.length
end Go.Ab
namespace Go.Proofs
open Go Go.Ab
variable {G:IK}
theorem ox (f:L3):J4 (λx=>decide (f=x)) [(false,false),(true,false),(false,true),(true,true)]=s7 f:=by
 obtain⟨a,b⟩:=f;cases a<;>cases b<;>decide
def jh (G:IK):Prop:=G 0=some [.raw (.bool false),.raw (.bool false)]/\G 2=some [.raw (.bool true),.raw (.bool false)]/\G 3=some [.raw (.bool false),.raw (.bool true)]
theorem tr (f:L3) (hF:jh G):zP Tryz.prog G 101 [iN f] (iv (s7 f)):=by
 refine zf Tryz.func101 Tryz.ntmps101 ?_;try simp only[iv]
 have g1:G 0=some [.raw (.bool false),.raw (.bool false)]:=hF.1;have g2:G 2=some [.raw (.bool true),.raw (.bool false)]:=hF.2.1;have g3:G 3=some [.raw (.bool false),.raw (.bool true)]:=hF.2.2;have c1:=mn (G:=G) [(false,false),(true,false),(false,true),(true,true)] f (by simp);rw[ox] at c1;simp only[iN,B7,List.map_cons,List.map_nil] at c1 ⊢;have hs:=za g1 (za g2 g3);repeat' first|(with_reducible first|refine zz ?_|refine zr ?_|refine zE [0,1,2] ?_)|simp -dsimp[hs]|refine zt c1 ?_ ?_ ?_;(focus simp;done);focus (simp;done)
theorem Ef (a b:L3) (hF:jh G):zP Tryz.prog G 100 [iN a,iN b] (iv (s7 a-s7 b)):=by
 refine zf Tryz.func100 Tryz.ntmps100 ?_;try simp only[iv]
 have h1:=bl a;have h2:=bl b;have hw:IntKind.i64.wrap (s7 a-s7 b)=s7 a-s7 b:=r9 (by omega) (by omega);have c1:=tr (G:=G) a hF;have c2:=tr (G:=G) b hF;simp only[iN,B7,List.map_cons,List.map_nil] at c1 c2 ⊢;generalize s7 a=x at *;generalize s7 b=y at *;have hs:=hw;repeat' first|(with_reducible first|refine zz ?_|refine zr ?_)|simp -dsimp[hs]|refine zq c1 ?_|refine zq c2 ?_|refine zM 1 10 6 [0,1,2,3,4] ?_|with_reducible refine zE [0,1,2,3,4] ?_
@[simp] abbrev Lm:List Nat:=[0,1,4,5,6,9,17,27]
theorem Bj (L:List L3) (hne:L≠[]) (hl:L.length<1000000) (hF:jh G):zP Tryz.prog G 158 [.one (.im (.sl (L.map B7))),.one (.im (.fn (.func 100) []))] (iN (bh L)):=by
 refine zf Tryz.func158 Tryz.ntmps158 ?_;try simp only[iv]
 have hlp:0<L.length:=List.length_pos_iff.2 hne;have hx1:L[0]?=some L[0]:=by simp[hlp]
 have hm0:L[0]∈L:=List.getElem_mem hlp;generalize hxe:L[0]=x0 at *;have hl1:¬ (L.length:Int)<1:=by omega
 have hs:=za hl1 (za hx1 (za hxe hlp));repeat' first|(with_reducible first|refine zz ?_|refine zE Lm ?_)|simp -dsimp[hs]|refine j4 ?_ ?_<;>intro h<;>try exact h.elim
 have hst0:∀ (j:Nat) (x:L3),j<1->L[j]?=some x->s7 x0<=s7 x:=λj x hj hjx=>by
  obtain rfl:j=0:=by omega
  rw[hx1] at hjx;cases hjx;exact Int.le_refl _
 refine i7 (ι:={ p:Nat×L3 // 1<=p.1/\p.1<=L.length/\p.2∈L/\∀ (j:Nat) (x:L3),j<p.1->L[j]?=some x->s7 p.2<=s7 x }) (λp=>⟨33,[(0,.one (.im (.sl (L.map B7)))),(1,.one (.im (.fn (.func 100) []))),(4,.one (.ptr 0 0)),(5,.one (.ptr 1 0)),(6,iv (p.1.1:Int))],[.row [.im (.raw (.bool false)),.im (.raw (.bool false))],.row ((B7 p.1.2).map .im)]⟩) (λp=>L.length-p.1.1) ⟨(1,x0),Nat.le_refl _,hlp,hm0,hst0⟩ (zv [0,1,4,5,6]) ?_;rintro⟨⟨k,m⟩,hk1,hk,hm,hmin⟩;simp only at hk1 hk hm hmin;simp only[iv];by_cases hlt:k<L.length
 ·have hx:L[k]?=some L[k]:=by simp[hlt]
  have hw:=zk k;have hmk:L[k]∈L:=List.getElem_mem hlt;generalize hy:L[k]=y at *;have c1:=Ef (G:=G) y m hF;simp only[iN,B7,List.map_cons,List.map_nil] at c1;by_cases hym:s7 y-s7 m<0
  ·have hst:∀ (j:Nat) (x:L3),j<k+1->L[j]?=some x->s7 y<=s7 x:=λj x hj hjx=>by
    by_cases e:j=k
    ·subst e;rw[hx] at hjx;cases hjx;exact Int.le_refl _
    ·have:=hmin j x (by omega) hjx;omega
   have hs:=za hx (za hy (za hlt (za hw hym)));repeat' first|with_reducible refine zz ?_|simp -dsimp[hs]|refine zp c1 ?_|refine zM 7 33 6 Lm ?_|with_reducible refine zE Lm ?_|refine j4 ?_ ?_<;>intro h<;>try exact h.elim
   all_goals exact zn ⟨(k+1,y),by simp,by simp only;omega,hmk,hst⟩ (zw [0,1,4,5,6] 2)
  ·have hst:∀ (j:Nat) (x:L3),j<k+1->L[j]?=some x->s7 m<=s7 x:=λj x hj hjx=>by
    by_cases e:j=k
    ·subst e;rw[hx] at hjx;cases hjx;omega
    ·exact hmin j x (by omega) hjx
   have hs:=za hx (za hy (za hlt (za hw hym)));repeat' first|with_reducible refine zz ?_|simp -dsimp[hs]|refine zp c1 ?_|refine zM 7 33 6 Lm ?_|with_reducible refine zE Lm ?_|refine j4 ?_ ?_<;>intro h<;>try exact h.elim
   all_goals exact zn ⟨(k+1,m),by simp,by simp only;omega,hm,hst⟩ (zw [0,1,4,5,6] 2)
 ·obtain rfl:k=L.length:=by omega
  have hb:bh L=m:=zJ hm λx hx=>by
   obtain⟨j,hj⟩:=List.mem_iff_getElem?.1 hx;exact hmin j x (e7 hj) hj
  rw[hb];have hs:=hlt;repeat' first|(with_reducible first|refine zz ?_|refine zr ?_|refine zE Lm ?_)|simp -dsimp[hs]|refine j4 ?_ ?_<;>intro h<;>try exact h.elim
theorem zI (L:List L3) (hne:L≠[]) (hl:L.length<1000000) (hF:jh G):zP Tryz.prog G 99 [.one (.im (.sl (L.map B7))),.one (.im (.fn (.func 100) []))] (iN (bh L)):=by
 refine zf Tryz.func99 Tryz.ntmps99 ?_;try simp only[iv]
 have c1:=Bj (G:=G) L hne hl hF;simp only[iN,B7,List.map_cons,List.map_nil] at c1 ⊢;repeat' first|(with_reducible first|refine zz ?_|refine zx ?_|refine zE [0,1,4] ?_)|simp -dsimp|refine zp c1 ?_
@[simp] abbrev KH:List Nat:=[0,2,3,4,5,6,10,18,19,20,21,28,35]
theorem pA (d:Desk) (n:Nat) (hd:DkOk n d) (hn:n<100000) (hne:∀ x∈d.faults,x≠[]) (hF:jh G) (hU:S8 G):zP Tryz.prog G 51 [ji d] (B4 (V4 d)):=by
 refine zf Tryz.func51 Tryz.ntmps51 ?_;try simp only[iv]
 have hdn:=hd.n;simp only[ji,ah,P1];have hs:True:=trivial;have h00:W5 d.notes (cX d) (cZ d) 0=lG d.notes ⟨1,0⟩:=by simp[W5]
 cases hnt:d.notes
 all_goals
  rw[hnt] at h00;simp only[lG,if_true,Bool.false_eq_true,if_false] at h00;have hs:=hnt;repeat' first|(with_reducible first|refine zz ?_|refine zE KH ?_)|simp -dsimp[hs]|refine j4 ?_ ?_<;>intro h<;>try exact h.elim
  all_goals try clear hs
 all_goals
  refine i7 (ι:={ p:Nat×Nat×Nat×Bool // p.1<=d.faults.length/\(p.2.2.1=2\/p.2.2.2=true/\W5 d.notes (cX d) (cZ d) p.1=[]) }) (λp=>⟨45,[(3,.one (.vec 1 p.1.2.1 0 (W5 d.notes (cX d) (cZ d) p.1.1).length)),(18,.one (.im (.sl (d.faults.map H3)))),(19,iv (d.faults.length:Int)),(20,iv (p.1.1:Int))],[.vec 2 [] 0 true,.vec p.1.2.2.1 (l6 ((W5 d.notes (cX d) (cZ d) p.1.1).map j6)) p.1.2.1 p.1.2.2.2]⟩) (λp=>d.faults.length-p.1.1) ⟨(0,(if d.notes=true then 1 else 0),2,!d.notes),by simp⟩ (zw [3,18,19,20] 2 (by simp[hnt,h00,l6])) ?_;clear h00;rintro⟨⟨k,g,sz,nl⟩,hk,hz⟩;simp only at hk hz;simp only[iv];have hz':sz=2\/nl=true:=hz.imp id And.left;have hln:=aR d.notes (cX d) (cZ d) k;by_cases hlt:k<d.faults.length
  ·have hw:=zk k;have hst:=gQ d.notes (cX d) (cZ d) k;have hfp:cX d k=(bh d.faults[k]).1:=by simp[cX,hlt]
   have hfh:cZ d k=(bh d.faults[k]).2:=by simp[cZ,hlt]
   have hm:=List.getElem_mem hlt;have c1:=zI (G:=G) d.faults[k] (hne _ hm) (hd.l _ hm) hF;generalize hx:d.faults[k]=x at *;rw[hfp,hfh] at hst;generalize bh x=f at *;obtain⟨f1,f2⟩:=f;simp only at hst;simp only[iN,B7,List.map_cons,List.map_nil] at c1;have htk:∀ x,List.take ((W5 d.notes (cX d) (cZ d) k).length+1) (l6 ((W5 d.notes (cX d) (cZ d) k).map j6)++[x])=l6 ((W5 d.notes (cX d) (cZ d) k).map j6)++[x]:=λx=>List.take_of_length_le (by simp[l6]);have hs:True:=trivial;cases f1<;>cases f2
   all_goals
    simp only[lG,if_true,Bool.false_eq_true,if_false,uz,vm,List.nil_append,List.append_nil,List.cons_append] at hst;have hs:=za hx (za hlt (za hw hz'));repeat' first|(with_reducible first|refine zz ?_|refine And.intro (by omega) ?_|refine zE KH ?_)|simp -dsimp[hs]|refine zp c1 ?_|refine j4 ?_ ?_<;>intro h<;>try exact h.elim
    all_goals try clear hs
   ·exact zn ⟨(k+1,g,sz,nl),by simp only;omega,by rw[hst];exact hz⟩ (zw [3,18,19,20] 2 (by simp[hst]))
   ·exact zn ⟨(k+1,g+1,2,false),by simp only;omega,.inl rfl⟩ (zw [3,18,19,20] 2 (by simp[hst]))
   ·exact zn ⟨(k+1,g+1,2,false),by simp only;omega,.inl rfl⟩ (zw [3,18,19,20] 2 (by simp[hst]))
   ·exact zn ⟨(k+1,g+2,2,false),by simp only;omega,.inl rfl⟩ (zw [3,18,19,20] 2 (by simp[hst,htk]))
  ·obtain rfl:k=d.faults.length:=by omega
   have hE:V4 d=iI d.notes (cX d) (cZ d) d.faults.length:=rfl;have c1:=tx (G:=G) hU (l:=W5 d.notes (cX d) (cZ d) d.faults.length) (r:=V4 d) (λx hx=>by have:=md hx;unfold eB;omega) (L7 _ _ _ _) (bx _ _ _ _) (by omega) g sz nl hz;have hal:(V4 d).length=(W5 d.notes (cX d) (cZ d) d.faults.length).length:=(L7 _ _ _ _).length_eq;have hz2:sz=2\/nl=true/\V4 d=[]:=hz.imp id λh=>⟨h.1,List.eq_nil_of_length_eq_zero (by rw[hal,h.2];rfl)⟩
   clear hE;generalize V4 d=A at *;rw[<- hal] at c1;rw[<- hal];have hs:=za hlt hz';repeat' first|(with_reducible first|refine zz ?_|refine zr ?_|refine zE KH ?_)|simp -dsimp[hs]|refine CallE.embed [1] (c1) ?_ ?_ ?_ ?_ ?_ ?_;(focus simp[p7];done);(focus simp;done);(focus simp;done);(focus simp;done);(focus refine n4 ?_;simp[p7,o6];done);try simp -dsimp[n3,p7,hs]|refine j4 ?_ ?_<;>intro h<;>try exact h.elim
   all_goals try clear hs
   all_goals simp
end Go.Proofs
namespace Go.Ab
open Go
def kU (s:Susp):List Value:=[.int .u8 s.kind,.int .i64 s.index]
def V5 (f:Susp->Int) (K:List Susp):List (List Value×List DC):=K.map λs=>(kU s,[.im (.raw (.int .u8 (f s)))])
def mC (f:Susp->Int) (K:List Susp):List (List Value×List IC):=K.map λs=>(kU s,[.raw (.int .u8 (f s))])
theorem ba (f:Susp->Int) (s:Susp) (K:List Susp):V5 f (s :: K)=(kU s,[.im (.raw (.int .u8 (f s)))]) :: V5 f K:=rfl
theorem sJ (a b:Int) (y:Susp):u6 [.int .u8 a,.int .i64 b] (kU y)=decide (y=⟨a,b⟩):=by
 simp only[kU,u6,Bool.and_true];obtain⟨p,q⟩:=y;rw[Bool.eq_iff_iff];simp only[decide_eq_true_eq,Bool.and_eq_true,beq_iff_eq,Susp.mk.injEq];constructor<;>(rintro⟨rfl,rfl⟩;exact⟨rfl,rfl⟩)
theorem xR {f:Susp->Int} {s:Susp}:∀ {K:List Susp},s∉K->O0 [.int .u8 s.kind,.int .i64 s.index] [.im (.raw (.int .u8 (f s)))] (V5 f K)=V5 f (K++[s])
 | [],_=>rfl
 | y :: K,h=>by
   rw[List.mem_cons,not_or] at h;rw[List.cons_append,ba,ba];simp only[O0,sJ,decide_eq_true_eq];rw[if_neg (λe=>h.1 e.symm),xR h.2]
theorem xU (f:Susp->Int) (s:Susp):∀ K:List Susp,K0 [.int .u8 s.kind,.int .i64 s.index] (V5 f K) [.im (.raw (.int .u8 0))]=[.im (.raw (.int .u8 (if s∈K then f s else 0)))]
 | []=>by simp[V5,K0,O7]
 | y :: K=>by
   have ih:=xU f s K;rw[ba];simp only[K0,O7,sJ,decide_eq_true_eq] at ih ⊢;split
   ·rename_i h;obtain rfl:y=s:=h;simp
   ·rename_i h;rw[ih];have:(s∈y :: K)=(s∈K):=propext ⟨λh'=>(List.mem_cons.1 h').resolve_left λe=>h e.symm,List.mem_cons_of_mem _⟩;simp only[this]
theorem yQ (f:Susp->Int) (K:List Susp):(V5 f K).length=K.length:=by simp[V5]
theorem rq {f:Susp->Int} {x:Susp}:∀ {l:List Susp} {i:Nat},l.Nodup->l[i]?=some x->T6 [.int .u8 x.kind,.int .i64 x.index] (V5 f l)=some i
 | [],i,_,h=>by simp at h
 | y :: r,i,hn,h=>by
   rw[List.nodup_cons] at hn;rw[ba];simp only[T6,sJ,decide_eq_true_eq];cases i with
   | zero=>simp at h;subst h;rw[if_pos rfl]
   | succ i =>
     have h':r[i]?=some x:=by simpa using h
     rw[if_neg (λe=>hn.1 (by cases x;cases y;cases e;exact List.mem_of_getElem? h')),rq hn.2 h'];rfl
theorem DB {f:Susp->Int} {x:Susp} {l:List Susp} {i:Nat} (hn:l.Nodup) (h:l[i]?=some x):fO [.int .u8 x.kind,.int .i64 x.index] (V5 f l)=V5 f (l.eraseIdx i):=by
 rw[gR (rq hn h)];refine List.ext_getElem? λj=>?_;simp only[V5,List.getElem?_map,List.getElem?_eraseIdx];split<;>simp
@[simp] theorem Ht (f:Susp->Int) (k n:Nat) (objs:List DObj) (l:List Susp):C3 (λx:List Value×List DC=>(C3 (frz (k+1) n objs) x.2).map λl=>(x.1,l)) (V5 f l)=some (mC f l):=by
 induction l with
 | nil=>rfl
 | cons p r ih =>
   rw[ba];simp[C3,ih,mC]
@[simp] theorem FP (f:Susp->Int) (n:Nat) (objs:List DObj) (l:List Susp):((V5 f l).map λx=>(x.1,x.2.map (fz n objs)))=V5 f l:=by
 simp[V5,fz,DC.lt]
@[simp] theorem DK (f:Susp->Int) (l:List Susp):eT (mC f l)=V5 f l:=by simp[eT,mC,V5]
theorem vA {f:Susp->Int} {l:List Susp} {i:Nat} {a:List Value} {b:List DC} (h:(V5 f l)[i]?=some (a,b)):∃ y,l[i]?=some y/\a=[.int .u8 y.kind,.int .i64 y.index]/\b=[.im (.raw (.int .u8 (f y)))]:=by
 simp only[V5,List.getElem?_map,Option.map_eq_some_iff] at h;obtain⟨y,h1,h2⟩:=h;cases h2;exact⟨y,h1,rfl,rfl⟩
theorem kn {α β:Type} (f:α->β) (l:List α) (i:Nat):(l.eraseIdx i).map f=(l.map f).eraseIdx i:=by
 refine List.ext_getElem? λj=>?_;simp only[List.getElem?_map,List.getElem?_eraseIdx];split<;>simp
theorem nK {l:List Nat} (hn:l.Nodup) {i s:Nat} (h:l[i]?=some s):l.idxOf? s=some i:=by
 rw[List.idxOf?,List.findIdx?_eq_some_iff_getElem];obtain⟨h1,h2⟩:=List.getElem?_eq_some_iff.1 h;refine⟨h1,by simpa using h2,λj hj he=>?_⟩;have he:l[j]=s:=by simpa using he
 have:=(List.getElem_inj hn).1 (he.trans h2.symm);omega
def qW {α:Type} (f:α->Bool) (seen:List Nat) (p:α×Nat):Bool:=!(decide (p.2∈seen) && !f p.1)
def P0 {α:Type} (f:α->Bool) (P:List (α×Nat)) (seen:List Nat):List (α×Nat):=P.filter (qW f seen)
theorem uR {α:Type} (f:α->Bool) (P:List (α×Nat)):P0 f P []=P:=by
 unfold P0;exact List.filter_eq_self.2 λp _=>by simp[qW]
theorem rE {α:Type} {f:α->Bool} {P:List (α×Nat)} {seen:List Nat} {x:α} {s:Nat} (hn:(P.map (·.2)).Nodup) (hm:(x,s)∈P) (hf:f x=true):P0 f P (seen++[s])=P0 f P seen:=by
 unfold P0;refine List.filter_congr λp hp=>?_;simp only[qW,List.mem_append,List.mem_singleton];by_cases e:p.2=s
 ·have:p=(x,s):=by
   obtain⟨i,hi⟩:=List.mem_iff_getElem?.1 hp;obtain⟨j,hj⟩:=List.mem_iff_getElem?.1 hm;have h1:(P.map (·.2))[i]?=some s:=by rw[List.getElem?_map,hi];simp[e]
   have h2:(P.map (·.2))[j]?=some s:=by rw[List.getElem?_map,hj];rfl
   have:i=j:=(List.getElem?_inj (e7 h1) hn).1 (h1.trans h2.symm);subst this;rw[hi] at hj;cases hj;rfl
  subst this;simp[hf]
 ·simp[e]
theorem aC {α:Type} {p q:α->Bool} {a:α}:∀ {l:List α} {i:Nat},l.Nodup->(l.filter p)[i]?=some a->(∀ b∈l,b≠a->q b=p b)->q a=false->l.filter q=(l.filter p).eraseIdx i
 | [],i,_,h,_,_=>by simp at h
 | y :: l,i,hn,h,hq,ha=>by
   rw[List.nodup_cons] at hn;by_cases e:y=a
   ·subst e;have hp:p y=true:=(List.mem_filter.1 (List.mem_of_getElem? h)).2;rw[List.filter_cons_of_pos hp] at h ⊢;rw[List.filter_cons_of_neg (by simp[ha])];have hi:i=0:=by
     cases i with
     | zero=>rfl
     | succ i =>
       have:(l.filter p)[i]?=some y:=by simpa using h
       exact absurd (List.mem_filter.1 (List.mem_of_getElem? this)).1 hn.1
    subst hi;rw[List.eraseIdx_cons_zero];exact List.filter_congr λb hb=>hq b (by simp[hb]) λe=>hn.1 (e ▸ hb)
   ·have hy:=hq y (by simp) e;by_cases hp:p y=true
    ·rw[List.filter_cons_of_pos hp] at h ⊢;rw[List.filter_cons_of_pos (by rw[hy];exact hp)];cases i with
     | zero=>simp at h;exact absurd h e
     | succ i =>
       rw[List.eraseIdx_cons_succ,aC hn.2 (by simpa using h) (λb hb=>hq b (by simp[hb])) ha]
    ·rw[List.filter_cons_of_neg hp] at h ⊢;rw[List.filter_cons_of_neg (by rw[hy];exact hp)];exact aC hn.2 h (λb hb=>hq b (by simp[hb])) ha
theorem uT {α:Type} {f:α->Bool} {P:List (α×Nat)} {seen:List Nat} {x:α} {s i:Nat} (hn:(P.map (·.2)).Nodup) (hi:(P0 f P seen)[i]?=some (x,s)) (hf:f x=false):P0 f P (seen++[s])=(P0 f P seen).eraseIdx i:=by
 have hnP:P.Nodup:=by
  have:=hn;rw[List.Nodup,List.pairwise_map] at this;exact this.imp λh e=>h (by rw[e])
 have hm:(x,s)∈P:=(List.mem_filter.1 (List.mem_of_getElem? hi)).1;unfold P0 at hi ⊢;refine aC hnP hi (λp hp hne=>?_) (by simp[qW,hf]);simp only[qW,List.mem_append,List.mem_singleton];have:p.2≠s:=λe=>by
  obtain⟨i,hi⟩:=List.mem_iff_getElem?.1 hp;obtain⟨j,hj⟩:=List.mem_iff_getElem?.1 hm;have h1:(P.map (·.2))[i]?=some s:=by rw[List.getElem?_map,hi];simp[e]
  have h2:(P.map (·.2))[j]?=some s:=by rw[List.getElem?_map,hj];rfl
  have:i=j:=(List.getElem?_inj (e7 h1) hn).1 (h1.trans h2.symm);subst this;rw[hi] at hj;cases hj;exact hne rfl
 simp[this]
theorem uS {α:Type} {f:α->Bool} {P:List (α×Nat)} {seen:List Nat} (h:∀ s∈(P0 f P seen).map (·.2),s∈seen):(P0 f P seen).map (·.1)=(P.map (·.1)).filter f:=by
 rw[List.filter_map];unfold P0 at h ⊢
 congr 1
 refine List.filter_congr λp hp=>?_;simp only[Function.comp];cases hf:f p.1
 ·cases hq:qW f seen p with
  | false=>rfl
  | true =>
    have:=h p.2 (List.mem_map.2 ⟨p,List.mem_filter.2 ⟨hp,hq⟩,rfl⟩);simp[qW,hf,this] at hq
 ·simp[qW,hf]
def AA {α:Type} (P:List (α×Nat)) (seen:List Nat):Nat:=(P.filter λp=>decide (p.2∉seen)).length
theorem Az {α:Type} {P:List (α×Nat)} {seen:List Nat} {x:α} {s:Nat} (hm:(x,s)∈P) (hs:s∉seen):AA P (seen++[s])<AA P seen:=by
 unfold AA;have hsub:∀ l:List (α×Nat),(l.filter λp=>decide (p.2∉seen++[s])).length<=(l.filter λp=>decide (p.2∉seen)).length/\((x,s)∈l->(l.filter λp=>decide (p.2∉seen++[s])).length<(l.filter λp=>decide (p.2∉seen)).length):=by
  intro l;induction l with
  | nil=>exact⟨Nat.le_refl _,λh=>by simp at h⟩
  | cons p l ih =>
    by_cases h1:p.2∈seen
    ·rw[List.filter_cons_of_neg (by simp[h1]),List.filter_cons_of_neg (by simp[h1])];refine⟨ih.1,λh=>ih.2 ?_⟩;rcases List.mem_cons.1 h with rfl|h
     ·exact absurd h1 hs
     ·exact h
    ·by_cases h2:p.2=s
     ·rw[List.filter_cons_of_neg (by simp[h2]),List.filter_cons_of_pos (by simp[h1])];simp only[List.length_cons];exact⟨by omega,λ_=>by omega⟩
     ·rw[List.filter_cons_of_pos (by simp[h1,h2]),List.filter_cons_of_pos (by simp[h1])];simp only[List.length_cons];refine⟨by omega,λh=>?_⟩;rcases List.mem_cons.1 h with rfl|h
      ·exact absurd rfl h2
      ·have:=ih.2 h;omega
 exact(hsub P).2 hm
end Go.Ab
