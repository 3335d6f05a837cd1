/- Part 22 of the proofs. -/
import Derived.Test.YtjodaihiogfkbaaGreatDoorT14
import Derived.Test.YtjodaihiogfkbaaGreatDoorT16
import Derived.Test.YtjodaihiogfkbaaGreatDoorT18
import Derived.Test.YtjodaihiogfkbaaGreatDoorH02
import Derived.Test.YtjodaihiogfkbaaGreatDoorH03
set_option linter.all false
set_option linter.deprecated false
set_option maxHeartbeats 100000000
namespace Go.Ab
open Go
def cj (a b:Susp):Prop:=a.kind<b.kind∨(a.kind=b.kind∧a.index<b.index)
instance (a b:Susp):Decidable (cj a b):=by unfold cj;infer_instance
theorem tu {a b c:Susp} (h1:cj a b) (h2:cj b c):cj a c:=by unfold cj at *;omega
theorem pB {α β:Type} (f g:α→List β):∀ l:List α,(l.flatMap f++l.flatMap g).Perm (l.flatMap fun a=>f a++g a)
 | []=>by simp
 | a :: l=>by
   simp only[List.flatMap_cons,List.append_assoc]
   refine List.Perm.append_left _ ?_
   have h:=pB f g l
   refine List.Perm.trans ?_ (List.Perm.append_left (g a) h)
   rw[← List.append_assoc,← List.append_assoc]
   exact List.Perm.append_right _ List.perm_append_comm
def gc (i:Nat):Susp:=⟨2,i⟩
def qc (i:Nat):Susp:=⟨3,i⟩
def ml (b:Bool) (s:Susp):List Susp:=if b=true then [s] else []
def gl (b:Bool) (p h:Nat→Bool) (n:Nat):List Susp:=ml b ⟨1,0⟩++((List.range n).flatMap (fun i=>ml (p i) (gc i))++(List.range n).flatMap fun i=>ml (h i) (qc i))
def Y0 (b:Bool) (p h:Nat→Bool) (n:Nat):List Susp:=ml b ⟨1,0⟩++(List.range n).flatMap fun i=>ml (p i) (gc i)++ml (h i) (qc i)
theorem O7 (b:Bool) (p h:Nat→Bool) (n:Nat):(gl b p h n).Perm (Y0 b p h n):=List.Perm.append_left _ (pB _ _ _)
theorem ifS_mem {b:Bool} {s x:Susp}:x∈ml b s↔b=true∧x=s:=by unfold ml;split<;>simp_all
theorem ou (b:Bool) (s:Susp):(ml b s).length=if b=true then 1 else 0:=by unfold ml;split<;>simp_all
theorem jq (p:Nat→Bool) (f:Nat→Susp) (hf:∀ i j,i<j→cj (f i) (f j)) (n:Nat):((List.range n).flatMap fun i=>ml (p i) (f i)).Pairwise cj:=by
 rw[List.pairwise_flatMap]
 refine⟨fun i _=>by unfold ml;split<;>simp,List.pairwise_lt_range.imp fun {i j} h x hx y hy=>?_⟩
 rw[(ifS_mem.1 hx).2,(ifS_mem.1 hy).2]
 exact hf i j h
theorem flat_mem {p:Nat→Bool} {f:Nat→Susp} {n:Nat} {x:Susp}:(x∈(List.range n).flatMap fun i=>ml (p i) (f i))↔∃ i,i<n∧p i=true∧x=f i:=by
 simp only[List.mem_flatMap,List.mem_range,ifS_mem]
theorem listS_mem {b:Bool} {p h:Nat→Bool} {n:Nat} {x:Susp}:x∈gl b p h n↔(b=true∧x=⟨1,0⟩)∨(∃ i,i<n∧p i=true∧x=gc i)∨(∃ i,i<n∧h i=true∧x=qc i):=by
 simp only[gl,List.mem_append,ifS_mem,flat_mem]
theorem bS (b:Bool) (p h:Nat→Bool) (n:Nat):(gl b p h n).Pairwise cj:=by
 unfold gl
 rw[List.pairwise_append,List.pairwise_append]
 refine⟨by unfold ml;split<;>simp,⟨jq p gc (fun i j h=>.inr ⟨rfl,by simp[gc];omega⟩) n,jq h qc (fun i j h=>.inr ⟨rfl,by simp[qc];omega⟩) n,fun x hx y hy=>?_⟩,fun x hx y hy=>?_⟩
 ·obtain⟨i,_,_,rfl⟩:=flat_mem.1 hx
  obtain⟨j,_,_,rfl⟩:=flat_mem.1 hy
  exact .inl (by simp[gc,qc])
 ·rw[(ifS_mem.1 hx).2]
  rcases List.mem_append.1 hy with hy|hy
  ·obtain⟨j,_,_,rfl⟩:=flat_mem.1 hy
   exact .inl (by simp[gc])
  ·obtain⟨j,_,_,rfl⟩:=flat_mem.1 hy
   exact .inl (by simp[qc])
def co (n:Nat):List Susp:=gl true (fun _=>true) (fun _=>true) n
theorem iF (b:Bool) (p h:Nat→Bool) (n:Nat):Y0 b p h (n+1)=Y0 b p h n++(ml (p n) (gc n)++ml (h n) (qc n)):=by
 simp[Y0,List.range_succ]
theorem bg (b:Bool) (p h:Nat→Bool):∀ n,(Y0 b p h n).length≤1+2*n
 | 0=>by simp[Y0,ou];split<;>omega
 | n+1=>by
   have:=bg b p h n
   rw[iF,List.length_append,List.length_append,ou,ou]
   split<;>split<;>omega
theorem mO {b:Bool} {p h:Nat→Bool} {n:Nat} {x:Susp} (hx:x∈Y0 b p h n):0≤x.kind∧x.kind≤3∧0≤x.index∧(x.index<n∨x.index=0):=by
 rcases listS_mem.1 ((O7 b p h n).mem_iff.2 hx) with⟨_,rfl⟩|⟨i,h1,_,rfl⟩|⟨i,h1,_,rfl⟩
 ·simp
 ·simp[gc];omega
 ·simp[qc];omega
end Go.Ab
namespace Go.Proofs
open Go Go.Ab
variable {G:Kc}
def jD (a b:Susp):Int:=jE [a.kind-b.kind,a.index-b.index]
theorem ge (a b:Susp):jD a b<0↔cj a b:=by
 unfold jD jE jE jE cj
 repeat' split
 all_goals omega
def eQ (x:Susp):Prop:=0≤x.kind∧x.kind≤255∧0≤x.index∧x.index≤1000000000
abbrev xc:={ x:Susp // eQ x }
def uy (x:xc):List IC:=j9 x.1
theorem ui (a b:Susp) (ha:eQ a) (hb:eQ b):DCall Tryz.prog G 86 [.agg ((j9 a).map wk),.agg ((j9 b).map wk)] [] (fun d o=>d=iv (jD a b)∧o=[]):=by
 refine DCall.drop ?_
 obtain⟨a1,a2,a3,a4⟩:=ha
 obtain⟨b1,b2,b3,b4⟩:=hb
 have w1:IntKind.i64.wrap (a.kind-b.kind)=a.kind-b.kind:=o4 (by omega) (by omega)
 have w2:IntKind.i64.wrap (a.index-b.index)=a.index-b.index:=o4 (by omega) (by omega)
 have w3:IntKind.i64.wrap a.kind=a.kind:=o4 (by omega) (by omega)
 have w4:IntKind.i64.wrap b.kind=b.kind:=o4 (by omega) (by omega)
 have c3:=DN (G:=G) [a.kind-b.kind,a.index-b.index] (by simp)
 have hE:jD a b=jE [a.kind-b.kind,a.index-b.index]:=rfl
 rw[← hE] at c3
 simp only[j9,List.map_cons,List.map_nil,rI,wk]
 refine g9 Tryz.func86 rfl Tryz.ntmps86 (by simp) rfl ?_
 have hs:=za w1 (za w2 (za w3 w4))
 repeat' first|(with_reducible first|refine zz ?_|refine zr ?_|refine zE [0,1,2,3,4] ?_)|simp -dsimp[hs]|refine zt c3 ?_ ?_ ?_;(focus simp;done);focus (simp;done)|with_reducible refine And.intro ?_ ?_
def V2 (G:Kc):Prop:=∀ (l:List xc) (gn sz:Nat) (nl:Bool),(sz=2∨nl=true∧l=[])→l.length<1000000 →
 DCall Tryz.prog G 138 [.one (.vec 0 gn 0 l.length),.one (.im (.fn (.func 86) []))] [.vec sz (l7 (l.map uy)) gn nl] (fun d o=>d=.tup []∧∃ l':List xc,l'.Perm l∧(l'.Pairwise fun a b=>¬ jD b.1 a.1<0)∧o=[.vec sz (l7 (l'.map uy)) gn nl])
theorem ud {G:Kc} (hSF:V2 G) {l r:List Susp} (hT:∀ x∈l,eQ x) (hp:r.Perm l) (hr:r.Pairwise cj) (hl:l.length<1000000) (gn sz:Nat) (nl:Bool) (hz:sz=2∨nl=true∧l=[]) :
 DCall Tryz.prog G 138 [.one (.vec 0 gn 0 l.length),.one (.im (.fn (.func 86) []))] [.vec sz (l7 (l.map j9)) gn nl] (fun d o=>d=.tup []∧o=[.vec sz (l7 (r.map j9)) gn nl]):=by
 have h:=hSF (l.attach.map fun x=>⟨x.1,hT x.1 x.2⟩) gn sz nl (hz.imp id fun h=>⟨h.1,by simpa using h.2⟩) (by simpa using hl)
 have e1:(l.attach.map fun x=>(⟨x.1,hT x.1 x.2⟩:xc)).map uy=l.map j9:=by
  rw[List.map_map]
  exact(List.map_attach_eq_pmap ..).trans (List.pmap_eq_map ..)
 rw[e1] at h
 simp only[List.length_map,List.length_attach] at h
 refine h.mono fun d o ⟨h1,l',h2,h3,h4⟩=>⟨h1,?_⟩
 have h5:(l'.map Subtype.val)=r:=by
  have h6:(l'.map Subtype.val).Perm l:=by
   have:=h2.map Subtype.val
   rw[List.map_map] at this
   refine this.trans ?_
   have e2:(l.attach.map (Subtype.val ∘ fun x=>(⟨x.1,hT x.1 x.2⟩:xc)))=l:=(List.map_attach_eq_pmap ..).trans ((List.pmap_eq_map ..).trans (List.map_id _))
   rw[e2]
  refine List.Perm.eq_of_pairwise (le:=fun a b=>¬ jD b a<0) (fun a b _ _ h1 h2=>?_) (by rw[List.pairwise_map];exact h3) (hr.imp fun {a b} h=>?_) (h6.trans hp.symm)
  ·rw[ge] at h1 h2
   unfold cj at h1 h2
   obtain⟨a1,a2⟩:=a
   obtain⟨b1,b2⟩:=b
   simp only at h1 h2
   rw[Susp.mk.injEq];omega
  ·rw[ge];unfold cj at *;omega
 rw[h4,← h5,List.map_map]
 rfl
theorem ku (c:Case) (hn:c.pieces.length<100000) (hU:V2 G):zP Tryz.prog G 74 [n5 c] (C5 (co c.pieces.length)):=by
 refine zf Tryz.func74 Tryz.ntmps74 ?_
 try simp only[iv]
 simp only[n5,j4]
 have hs:=trivial
 repeat' first|(with_reducible first|refine zz ?_|refine zE [0,1,2,3,4,9,10,11] ?_)|simp -dsimp[hs]
 refine i6 (ι:={ p:Nat×Nat // p.1≤c.pieces.length }) (fun p=>⟨24,[(3,.one (.vec 2 p.1.2 0 (Y0 true (fun _=>true) (fun _=>true) p.1.1).length)),(9,iv (c.pieces.length:Int)),(10,iv (p.1.1:Int))],[.row ((j4 c).map .im),.vec 2 [] 0 true,.vec 2 (l7 ((Y0 true (fun _=>true) (fun _=>true) p.1.1).map j9)) p.1.2 false]⟩) (fun p=>c.pieces.length-p.1.1) ⟨(0,0),by simp⟩ (zv [3,9,10] (by simp[Y0,ml])) ?_
 rintro⟨⟨k,g⟩,hk⟩
 simp only at hk
 simp only[iv]
 by_cases hlt:k<c.pieces.length
 ·have hw:=zk k
  have hst:=iF true (fun _=>true) (fun _=>true) k
  have hln:=bg true (fun _=>true) (fun _=>true) k
  simp only[ml,if_true,gc,qc,List.cons_append,List.nil_append] at hst
  generalize Y0 true (fun _=>true) (fun _=>true) k=L at *
  have hs:=za hlt hw
  repeat' first|(with_reducible first|refine zz ?_|refine And.intro (by omega) ?_|refine zE [0,1,2,3,4,9,10,11] ?_)|simp -dsimp[hs]|refine i9 ?_ ?_<;>intro h<;>try simp only[i7] at h
  all_goals exact zn ⟨(k+1,g+1),by simp only;omega⟩ (zw [3,9,10] 3 (by simp[hst]))
 ·obtain rfl:k=c.pieces.length:=by omega
  have hln:=bg true (fun _=>true) (fun _=>true) c.pieces.length
  have c1:=ud (G:=G) hU (l:=Y0 true (fun _=>true) (fun _=>true) c.pieces.length) (r:=co c.pieces.length) (fun x hx=>by have:=mO hx;unfold eQ;omega) (O7 _ _ _ _) (bS _ _ _ _) (by omega) g 2 false (.inl rfl)
  have hal:(co c.pieces.length).length=(Y0 true (fun _=>true) (fun _=>true) c.pieces.length).length:=(O7 _ _ _ _).length_eq
  generalize Y0 true (fun _=>true) (fun _=>true) c.pieces.length=L at *
  generalize co c.pieces.length=A at *
  rw[← hal] at c1
  rw[← hal]
  have hs:=hlt
  repeat' first|(with_reducible first|refine zz ?_|refine zr ?_|refine zE [0,1,2,3,4,9,10,11] ?_)|simp -dsimp[hs]|refine CallE.embed [2] (c1) ?_ ?_ ?_ ?_ ?_ ?_;(focus simp[p8];done);(focus simp;done);(focus simp;done);(focus simp;done);(focus refine n3 ?_;simp[p8,n8];done);try simp -dsimp[l9,p8,hs]|refine i9 ?_ ?_<;>intro h<;>try simp only[i7] at h
  all_goals simp
end Go.Proofs
namespace Go.Ab
open Go
def kP (p:Int×Int):List Value:=[.int .i64 p.1,.int .i64 p.2]
def I7 (l:List (Int×Int)):List (List Value×List DC):=l.map fun p=>(kP p,[.im (rB true)])
def vt (p:Int×Int) (l:List (Int×Int)):List (Int×Int):=if p∈l then l else l++[p]
theorem yL (p q:Int×Int) (l:List (Int×Int)):q∈vt p l↔q∈l∨q=p:=by
 unfold vt
 split
 ·exact⟨.inl,fun h=>h.elim id fun e=>e ▸ ‹_›⟩
 ·simp
theorem AE (a b:Int) (p:Int×Int):A1 [.int .i64 a,.int .i64 b] (kP p)=decide (p=(a,b)):=by
 obtain⟨c,d⟩:=p
 simp only[kP,A1,Bool.and_true]
 rw[Bool.eq_iff_iff]
 simp only[Bool.and_eq_true,beq_iff_eq,decide_eq_true_eq,Prod.mk.injEq]
 exact⟨fun h=>⟨h.1.symm,h.2.symm⟩,fun h=>⟨h.1.symm,h.2.symm⟩⟩
@[simp] theorem ID (l:List (Int×Int)) (a b:Int):N6 [.int .i64 a,.int .i64 b] (I7 l) [.im (.raw (.bool false))]=[.im (.raw (.bool (decide ((a,b)∈l))))]:=by
 induction l with
 | nil=>rfl
 | cons p r ih =>
   have e:I7 (p :: r)=(kP p,[.im (rB true)]) :: I7 r:=rfl
   rw[e]
   simp only[N6,R0,AE,decide_eq_true_eq] at ih ⊢
   split
   ·rename_i h;subst h;simp
   ·rename_i h
    rw[ih]
    have:((a,b)∈p :: r)=((a,b)∈r):=propext ⟨fun h'=>(List.mem_cons.1 h').resolve_left fun e=>h e.symm,List.mem_cons_of_mem _⟩
    simp only[this]
@[simp] theorem Id (l:List (Int×Int)) (a b:Int):Q1 [.int .i64 a,.int .i64 b] [.im (.raw (.bool true))] (I7 l)=I7 (vt (a,b) l):=by
 have gen:∀ l:List (Int×Int),((a,b)∈l→Q1 [.int .i64 a,.int .i64 b] [.im (.raw (.bool true))] (I7 l)=I7 l)∧((a,b)∉l→Q1 [.int .i64 a,.int .i64 b] [.im (.raw (.bool true))] (I7 l)=I7 (l++[(a,b)])):=by
  intro l
  induction l with
  | nil=>exact⟨fun h=>by simp at h,fun _=>rfl⟩
  | cons p r ih =>
    have e:I7 (p :: r)=(kP p,[.im (rB true)]) :: I7 r:=rfl
    rw[e]
    simp only[Q1,AE,decide_eq_true_eq]
    constructor
    ·intro h
     split
     ·rename_i hp;rw[hp];rfl
     ·rename_i hp
      rw[ih.1 ((List.mem_cons.1 h).resolve_left fun e=>hp e.symm)]
    ·intro h
     rw[if_neg fun e=>h (by simp[e]),ih.2 fun e=>h (by simp[e])];rfl
 unfold vt
 split
 ·exact(gen l).1 ‹_›
 ·exact(gen l).2 ‹_›
@[simp] theorem Gh (l:List (Int×Int)):(I7 l).length=l.length:=by simp[I7]
@[simp] theorem Gd (n:Nat) (objs:List DObj) (l:List (Int×Int)):((I7 l).map fun x=>(x.1,x.2.map (fz n objs)))=I7 l:=by
 simp[I7,fz,DC.lt]
@[simp] theorem Hf (e:Nat→Nat) (m:List (Int×Int)):((I7 m).map fun x=>(x.1,rnL e x.2))=I7 m:=by
 simp[I7,rnL,iu]
def uz (p:Int×Int):List IC:=[rI p.1,rI p.2]
def Iv (l:List (Int×Int)):DV:=.one (.im (.sl (l.map uz)))
attribute [simp] uz Iv
end Go.Ab
namespace Go.Proofs
open Go Go.Ab
def qH (n:Notes) (s w:List Int) (a b:Nat):Bool:=(Z3 n.notes).any fun m=>E1 n s w m a&&E1 n s w m b
def qC (n:Notes) (s w:List Int) (a b:Nat):Bool:=decide (a<b)&&qH n s w a b&&(match n.notes[a]?,n.notes[b]? with
 | some x,some y=>decide (x.drawing≠0)&&decide (x.drawing=y.drawing)&&decide (y.letter<x.letter)
 | _,_=>false)
def aC (n:Notes) (s w:List Int) (a k:Nat):List (Int×Int):=((List.range k).filter fun b=>qC n s w a b).map fun b=>(P4 n.notes a,P4 n.notes b)
def mq (n:Notes) (s w:List Int) (k:Nat):List (Int×Int):=(List.range k).flatMap fun a=>aC n s w a n.notes.length
def tg (n:Notes) (s w:List Int):List (Int×Int):=mq n s w n.notes.length
theorem np (n:Notes) (s w:List Int) (k:Nat):mq n s w (k+1)=mq n s w k++aC n s w k n.notes.length:=by
 simp[mq,List.range_succ,List.flatMap_append]
theorem th (n:Notes) (s w:List Int) (a k:Nat):aC n s w a (k+1)=aC n s w a k++(if qC n s w a k=true then [(P4 n.notes a,P4 n.notes k)] else []):=by
 unfold aC
 rw[List.range_succ,List.filter_append,List.map_append]
 congr 1
 by_cases h:qC n s w a k=true<;>simp[h]
theorem nr (n:Notes) (s w:List Int) (a k:Nat):(aC n s w a k).length≤k:=by
 unfold aC
 rw[List.length_map]
 refine Nat.le_trans (List.length_filter_le _ _) ?_
 simp
theorem qB (n:Notes) (s w:List Int):∀ k,(mq n s w k).length≤k*n.notes.length
 | 0=>by simp[mq]
 | k+1=>by
   have h1:=qB n s w k
   have h2:=nr n s w k n.notes.length
   rw[np,List.length_append,Nat.succ_mul];omega
def bZ (n:Notes) (s w:List Int) (M:List Int) (m:Int) (i k:Nat) (a b:Nat):Prop:=a<b∧b<n.notes.length∧((∃ m'∈M,E1 n s w m' a=true∧E1 n s w m' b=true)∨((b<i∨b=i∧a<k)∧E1 n s w m a=true∧E1 n s w m b=true))
def Bspec (n:Notes) (s w:List Int) (M:List Int) (m:Int) (i k:Nat) (B:List (Int×Int)):Prop:=∀ a b:Nat,((a:Int),(b:Int))∈B↔bZ n s w M m i k a b
theorem Bspec.start (n:Notes) (s w:List Int) (m:Int):Bspec n s w [] m 0 0 []:=fun a b=>by
 simp[bZ]
theorem Bspec.mark {n:Notes} {s w:List Int} {M:List Int} {m m':Int} {B:List (Int×Int)} (h:Bspec n s w M m n.notes.length 0 B):Bspec n s w (M++[m]) m' 0 0 B:=fun a b=>by
 rw[h a b]
 simp only[bZ,List.mem_append,List.mem_singleton]
 constructor
 ·rintro⟨h1,h2,h3|⟨h3,h4⟩⟩
  ·obtain⟨x,hx,h⟩:=h3
   exact⟨h1,h2,.inl ⟨x,.inl hx,h⟩⟩
  ·exact⟨h1,h2,.inl ⟨m,.inr rfl,h4⟩⟩
 ·rintro⟨h1,h2,h3|⟨h3,h4⟩⟩
  ·obtain⟨x,hx|rfl,hh⟩:=h3
   ·exact⟨h1,h2,.inl ⟨x,hx,hh⟩⟩
   ·exact⟨h1,h2,.inr ⟨.inl h2,hh⟩⟩
  ·omega
theorem Bspec.row {n:Notes} {s w:List Int} {M:List Int} {m:Int} {i:Nat} {B:List (Int×Int)} (h:Bspec n s w M m i i B):Bspec n s w M m (i+1) 0 B:=fun a b=>by
 rw[h a b]
 simp only[bZ]
 refine and_congr_right fun h1=>and_congr_right fun h2=>or_congr_right (and_congr_left fun _=>?_)
 omega
theorem Bspec.skip {n:Notes} {s w:List Int} {M:List Int} {m:Int} {i k:Nat} {B:List (Int×Int)} (h:Bspec n s w M m i k B) (hf:¬ (E1 n s w m i=true∧E1 n s w m k=true)):Bspec n s w M m i (k+1) B:=fun a b=>by
 rw[h a b]
 simp only[bZ]
 refine and_congr_right fun h1=>and_congr_right fun h2=>or_congr_right ⟨fun h3=>⟨by omega,h3.2⟩,fun h3=>⟨?_,h3.2⟩⟩
 rcases h3.1 with h4|⟨h4,h5⟩
 ·exact .inl h4
 ·by_cases e:a=k
  ·subst e;subst h4;exact absurd ⟨h3.2.2,h3.2.1⟩ hf
  ·exact .inr ⟨h4,by omega⟩
theorem Bspec.put {n:Notes} {s w:List Int} {M:List Int} {m:Int} {i k:Nat} {B:List (Int×Int)} (h:Bspec n s w M m i k B) (hki:k<i) (hi:i<n.notes.length) (hf:E1 n s w m i=true∧E1 n s w m k=true):Bspec n s w M m i (k+1) (vt ((k:Int),(i:Int)) B):=fun a b=>by
 rw[yL,h a b]
 simp only[bZ,Prod.mk.injEq]
 constructor
 ·rintro (⟨h1,h2,h3⟩|⟨h1,h2⟩)
  ·exact⟨h1,h2,h3.imp id fun h3=>⟨by omega,h3.2⟩⟩
  ·obtain rfl:a=k:=by omega
   obtain rfl:b=i:=by omega
   exact⟨hki,hi,.inr ⟨.inr ⟨rfl,by omega⟩,hf.2,hf.1⟩⟩
 ·rintro⟨h1,h2,h3|⟨h3,h4⟩⟩
  ·exact .inl ⟨h1,h2,.inl h3⟩
  ·by_cases e:b=i∧a=k
   ·obtain⟨rfl,rfl⟩:=e;exact .inr ⟨rfl,rfl⟩
   ·exact .inl ⟨h1,h2,.inr ⟨by omega,h4⟩⟩
theorem Bspec.both {n:Notes} {s w:List Int} {m:Int} {B:List (Int×Int)} (h:Bspec n s w (Z3 n.notes) m 0 0 B) {a b:Nat} (hb:b<n.notes.length):decide (((a:Int),(b:Int))∈B)=(decide (a<b)&&qH n s w a b):=by
 rw[Bool.eq_iff_iff]
 simp only[decide_eq_true_eq,h a b,bZ,Bool.and_eq_true,qH,List.any_eq_true]
 constructor
 ·rintro⟨h1,_,h3|h3⟩
  ·exact⟨h1,h3⟩
  ·omega
 ·rintro⟨h1,h3⟩
  exact⟨h1,hb,.inl h3⟩
variable {G:Kc}
end Go.Proofs
namespace Go.Proofs
open Go Go.Ab Tryz
theorem wq {p:Int→Bool} {l:List Int}:(H9 p l=-1∧l.filter (fun x=>!p x)=l)∨∃ i:Nat,H9 p l=(i:Int)∧∃ h:i<l.length,p l[i]=true∧(l.take i).filter (fun x=>!p x)=l.take i:=by
 unfold H9
 split
 ·rename_i i h
  rw[List.findIdx?_eq_some_iff_getElem] at h
  obtain⟨hlt,hp,hno⟩:=h
  refine .inr ⟨i,rfl,hlt,hp,List.filter_eq_self.2 fun x hx=>?_⟩
  obtain⟨j,hj,e⟩:=List.mem_take_iff_getElem.1 hx
  have:=hno j (by omega)
  rw[e] at this;simpa using this
 ·rename_i h
  rw[List.findIdx?_eq_none_iff] at h
  exact .inl ⟨rfl,List.filter_eq_self.2 fun x hx=>by simp[h x hx]⟩
theorem lj (X:List (List IC)) (m:Nat):(l7 X).take m=l7 (X.take m):=by simp[l7,List.map_take]
theorem js {q:Int→Bool} {l:List Int} {j:Nat} (h:j<l.length):(l.take (j+1)).filter q=(l.take j).filter q++(if q l[j]=true then [l[j]] else []):=by
 rw[List.take_succ_eq_append_getElem h,List.filter_append]
 congr 1
 by_cases e:q l[j]=true<;>simp[e]
variable {G:Kc}
theorem pN (v:Int):zP prog G 238 [iv v] (bv (decide (999<v))):=by
 refine zf func238 ntmps238 ?_
 try simp only[iv]
 repeat' first|(with_reducible first|refine zz ?_|refine zx ?_|refine zE [0,2] ?_)|simp -dsimp
theorem wD (l:List Int) (m g:Nat) (hm:m≤l.length) (hl:l.length<1000):DCall prog G 237 [.one (.vec 0 g 0 m),.one (.im (.fn (.func 238) []))] [.vec 1 (l7 (l.map Ab.encI)) g false] (fun d o=>∃ S:List Int,(S.length=l.length∧S.take ((l.take m).filter fun x=>decide (x≤999)).length=(l.take m).filter fun x=>decide (x≤999))∧d=.one (.vec 0 g 0 ((l.take m).filter fun x=>decide (x≤999)).length)∧o=[.vec 1 (l7 (S.map Ab.encI)) g false]):=by
 refine DCall.drop ?_
 refine g9 func237 rfl ntmps237 (by simp) rfl ?_
 have hq:(fun x:Int=>!decide (999<x))=fun x=>decide (x≤999):=funext fun x=>by rw[← decide_not,decide_eq_decide];omega
 have htl:(l.take m).length=m:=by simp;omega
 have c1:∀ objs,DCall prog G 188 [.one (.im (.sl ((l.take m).map Ab.encI))),.one (.im (.fn (.func 238) []))] objs (fun d o=>d=iv (H9 (fun x=>decide (999<x)) (l.take m))∧o=objs):=fun objs =>
  DCall.fnArg2 (eL (G:=G) (l.take m) (fun x=>decide (999<x)) 238 [] objs (by simp) (fun x _=>pN x objs) (by simp;omega))
 have hcase:=wq (p:=fun x=>decide (999<x)) (l:=l.take m)
 rw[hq] at hcase
 generalize H9 (fun x=>decide (999<x)) (l.take m)=z at *
 rcases hcase with⟨rfl,hall⟩|⟨i,rfl,hi,hpi,hfi⟩
 ·simp only[List.map_take] at c1
  have hs:=hm
  repeat' first|(with_reducible first|refine zz ?_|refine zr ?_|refine zE [0,1,4,5,6,7,12,19,29] ?_)|simp -dsimp[hs]|refine CallE.thaw c1 ?_ ?_ ?_;(focus simp[hm,lj];done);(focus simp;done)|refine i9 ?_ ?_<;>intro h<;>try simp only[i7] at h
  all_goals try clear hs
  exact⟨l,⟨rfl,by rw[hall,htl]⟩,by rw[hall,htl],rfl⟩
 ·simp only[List.map_take] at c1
  have him:i<m:=by omega
  have hwi:=zk i
  have hL0:l.take i=((l.take m).take (i+1)).filter fun x=>decide (x≤999):=by
   rw[js hi,hfi,if_neg (by simp at hpi ⊢;omega),List.append_nil,List.take_take,Nat.min_eq_left (by omega)]
  have hs:=za hm hwi
  repeat' first|(with_reducible first|refine zz ?_|refine zE [0,1,4,5,6,7,12,19,29] ?_)|simp -dsimp[hs]|refine CallE.thaw c1 ?_ ?_ ?_;(focus simp[hm,lj];done);(focus simp;done)|refine i9 ?_ ?_<;>intro h<;>try simp only[i7] at h
  all_goals try clear hs
  refine i6 (ι:={ p:Nat×Nat×List Int // p.1≤m∧p.2.1+1≤p.1∧p.2.2.length=l.length∧p.2.2.take p.2.1=((l.take m).take p.1).filter (fun x=>decide (x≤999))∧p.2.2.drop p.1=l.drop p.1 }) (fun p=>⟨42,[(0,.one (.vec 0 g 0 m)),(1,.one (.im (.fn (.func 238) []))),(5,iv (p.1.2.1:Int)),(6,iv (p.1.1:Int))],[.vec 1 (l7 (p.1.2.2.map Ab.encI)) g false]⟩) (fun p=>m-p.1.1) ⟨(i+1,i,l),by simp only;omega,by simp only;omega,rfl,hL0,rfl⟩ (zw [0,1,5,6] 1) ?_
  clear c1 hL0 hfi hpi
  rintro⟨⟨j,w,S⟩,hj,hwj,hSl,hSt,hSd⟩
  simp only at hj hwj hSl hSt hSd
  simp only[iv]
  by_cases hlt:j<m
  ·have hw:=zk j
   have hww:=zk w
   have hjS:j<S.length:=by omega
   have hjl:j<l.length:=by omega
   have hwm:w<m:=by omega
   have hwS:w<S.length:=by omega
   have hfs:=js (q:=fun x=>decide (x≤999)) (show j<(l.take m).length by omega)
   rw[← hSt,List.getElem_take] at hfs
   have e1:S[j]?=l[j]?:=by
    have:=congrArg (fun L:List Int=>L[0]?) hSd
    simpa only[List.getElem?_drop,Nat.add_zero] using this
   rw[List.getElem?_eq_getElem hjl] at e1
   have e2:S[j]=l[j]:=(List.getElem?_eq_some_iff.1 e1).2
   have hdr:S.drop (j+1)=l.drop (j+1):=by
    have:=congrArg (List.drop 1) hSd
    rw[List.drop_drop,List.drop_drop] at this;exact this
   have hset:=fun v:Int=>pt (v:=v) hwS
   have hdset:∀ v:Int,(S.set w v).drop (j+1)=l.drop (j+1):=fun v=>by
    rw[List.drop_set_of_lt (by omega)];exact hdr
   generalize l[j]=v at *
   have c2:=pN (G:=G) v
   by_cases hv:999<v
   ·rw[decide_eq_true hv] at c2
    rw[if_neg (by simp;omega),List.append_nil] at hfs
    have hs:=za hlt (za hw (za hjS (za e1 e2)))
    repeat' first|(with_reducible first|refine zz ?_|refine zE [0,1,4,5,6,7,12,19,29] ?_)|simp -dsimp[hs]|refine zp c2 ?_|refine i9 ?_ ?_<;>intro h<;>try simp only[i7] at h
    all_goals try clear hs
    all_goals exact zn ⟨(j+1,w,S),by simp only;omega,by simp only;omega,hSl,hfs.symm,hdr⟩ (zv [0,1,5,6])
   ·rw[decide_eq_false hv] at c2
    rw[if_pos (by simp;omega),← hset v] at hfs
    have hs:=za hlt (za hw (za hww (za hjS (za e1 (za e2 (za hwm hwS))))))
    repeat' first|(with_reducible first|refine zz ?_|refine zE [0,1,4,5,6,7,12,19,29] ?_)|simp -dsimp[hs]|refine zp c2 ?_|refine i9 ?_ ?_<;>intro h<;>try simp only[i7] at h
    all_goals try clear hs
    all_goals exact zn ⟨(j+1,w+1,S.set w v),by simp only;omega,by simp only;omega,by simpa using hSl,hfs.symm,hdset v⟩ (zv [0,1,5,6])
  ·obtain rfl:j=m:=by omega
   rw[List.take_of_length_le (by omega:(l.take j).length≤j)] at hSt
   have hw0:w≤j:=by omega
   have hwd:w=((l.take j).filter fun x=>decide (x≤999)).length:=by rw[← hSt];simp;omega
   have hs:=za hlt (za hw0 (za hSl hm))
   repeat' first|(with_reducible first|refine zz ?_|refine zr ?_|refine zE [0,1,4,5,6,7,12,19,29] ?_)|simp -dsimp[hs]|refine i9 ?_ ?_<;>intro h<;>try simp only[i7] at h
   all_goals try clear hs
   all_goals exact⟨wH S w (j-w),⟨by rw[qA (by omega)];exact hSl,by rw[← hwd,← hSt];exact List.take_left' (by simp;omega)⟩,by rw[hwd],rfl⟩
end Go.Proofs
namespace Go.Proofs
open Go Go.Ab Tryz
variable {G:Kc}
theorem vk {l:List Note} {k:Nat} (h:k<l.length):ba (l.take (k+1))=ba (l.take k)++[l[k].frm,l[k].to+1]:=by
 unfold ba
 rw[List.take_succ_eq_append_getElem h,List.flatMap_append];simp
theorem yl (l:List Note):(ba l).length=2*l.length+1:=by
 unfold ba
 have:∀ l:List Note,(l.flatMap fun x=>[x.frm,x.to+1]).length=2*l.length:=fun l=>by
  induction l with
  | nil=>rfl
  | cons a r ih=>rw[List.flatMap_cons,List.length_append,ih,List.length_cons,List.length_cons,List.length_cons,List.length_nil];omega
 rw[List.length_cons,this]
theorem Co (n:Notes) (hS:u3 G) (hl:n.notes.length<100) (hto:∀ x∈n.notes,1≤x.to∧x.to≤999):zP prog G 195 [.one (.im (C8 n))] (r7 (Z3 n.notes)):=by
 refine zf func195 ntmps195 ?_
 try simp only[iv]
 simp only[C8]
 have hs:=trivial
 repeat' first|(with_reducible first|refine zz ?_|refine zE [0,2,3,5,11,12,13,14] ?_)|simp -dsimp[hs]
 refine i6 (ι:={ p:Nat×Nat // p.1≤n.notes.length }) (fun p=>⟨32,[(3,.one (.vec 1 p.1.2 0 (ba (n.notes.take p.1.1)).length)),(11,.one (.im (.sl (n.notes.map l5)))),(12,iv (n.notes.length:Int)),(13,iv (p.1.1:Int))],[.vec 1 [] 0 true,.vec 1 (l7 ((ba (n.notes.take p.1.1)).map Ab.encI)) p.1.2 false]⟩) (fun p=>n.notes.length-p.1.1) ⟨(0,0),by simp⟩ (zv [3,11,12,13] (by simp[ba])) ?_
 rintro⟨⟨k,g⟩,hk⟩
 simp only at hk
 simp only[iv]
 have hrl:=yl (n.notes.take k)
 rw[List.length_take] at hrl
 by_cases hlt:k<n.notes.length
 ·have hw:=zk k
  have hst:=vk hlt
  have hxt:=hto n.notes[k] (List.getElem_mem hlt)
  generalize hx:n.notes[k]=x at *
  have hwt:IntKind.i64.wrap (x.to+1)=x.to+1:=o4 (by omega) (by omega)
  generalize ba (n.notes.take k)=L at *
  have hs:=za hx (za hlt (za hw hwt))
  repeat' first|(with_reducible first|refine zz ?_|refine And.intro (by omega) ?_|refine zE [0,2,3,5,11,12,13,14] ?_)|simp -dsimp[hs]|refine i9 ?_ ?_<;>intro h<;>try simp only[i7] at h
  all_goals exact zn ⟨(k+1,g+1),by simp only;omega⟩ (zw [3,11,12,13] 2 (by simp[hst]))
 ·obtain rfl:k=n.notes.length:=by omega
  rw[List.take_length] at hrl ⊢
  have hE:Z3 n.notes=(o2 (j6 (ba n.notes))).filter fun m=>decide (m≤999):=rfl
  have c1:=hS (ba n.notes) g 1 false (.inl rfl) (by omega)
  have hil:=H3 (ba n.notes)
  have c2:=iX (G:=G) (j6 (ba n.notes)) g (by omega)
  have hdl:=O9 (j6 (ba n.notes))
  rw[hil] at c2
  have hs:=hlt
  repeat' first|(with_reducible first|refine zz ?_|refine zr ?_|refine zE [0,2,3,5,11,12,13,14] ?_)|simp -dsimp[hs]|refine CallE.embed [1] (c1) ?_ ?_ ?_ ?_ ?_ ?_;(focus simp[p8];done);(focus simp;done);(focus simp;done);(focus simp;done);(focus refine n3 ?_;simp[p8,n8];done);try simp -dsimp[l9,p8,hs]|refine CallE.embed_ex [1] (c2) ?_ ?_ ?_ ?_ ?_ ?_;(focus simp[p8];done);(focus simp;done);(focus simp;done);(focus simp;done);(focus refine n3 ?_;simp[p8,n8];done);intro mma hmma;try simp -dsimp[l9,p8,hs]|refine CallE.embed_ex [1] (wD (G:=G) mma (o2 (j6 (ba n.notes))).length g (by omega) (by omega)) ?_ ?_ ?_ ?_ ?_ ?_;(focus simp[p8];done);(focus simp;done);(focus simp;done);(focus simp;done);(focus refine n3 ?_;simp[p8,n8];done);intro mm hmm;try simp -dsimp[l9,p8,hs]|refine i9 ?_ ?_<;>intro h<;>try simp only[i7] at h
  obtain⟨ha1,ha2⟩:=hmma
  obtain⟨hb1,hb2⟩:=hmm
  rw[ha2,← hE] at hb2 ⊢
  have hml:(Z3 n.notes).length≤mm.length:=by rw[← hb2];simp;omega
  have htk:(l7 (mm.map Ab.encI)).take (Z3 n.notes).length=l7 ((Z3 n.notes).map Ab.encI):=by rw[lj,← List.map_take,hb2]
  simp[hml,htk]
set_option maxRecDepth 4000 in
theorem Df (n:Notes) (s w:List Int) (hS:u3 G) (hok:lK n) (hl:n.notes.length≤16) (hsl:s.length<1000) (hwl:w.length<1000):zP prog G 129 [.one (.im (C8 n)),r7 s,r7 w] (Iv (tg n s w)):=by
 refine zf func129 ntmps129 ?_
 try simp only[r7,r7]
 have c1:=Co n hS (by omega) (fun x hx=>by have:=ET hok hx;omega)
 have c2:=fun m=>oy (G:=G) n s w m
 have hml:=vM n.notes
 simp only[C8] at c1 ⊢
 simp only[M7,frcCaps,C8,iv,r7,bv,rI,List.map_cons,List.map_nil,F1] at c2
 have hs:=trivial
 repeat' first|with_reducible refine zz ?_|(first|refine zp c1 ?_|with_reducible refine zE [0,1,2,6,7,9,10,11,12,13,14,15,16,17,20,21,22,23,36,37,38,40,41,42,51,63,64,65,66,74,75,76,77,104] ?_);try simp -dsimp[hs]
 all_goals try simp -dsimp[hs]
 all_goals try clear hs
 generalize hMs:Z3 n.notes=Ms at *
 refine i6 (ι:={ p:Nat×List (Int×Int) // p.1≤Ms.length∧∀ m,Bspec n s w (Ms.take p.1) m 0 0 p.2 }) (fun p=>⟨116,[(0,.one (.im (.ip [.sl (n.reg.map e9),.sl (n.notes.map l5),.sl ((nums n.reg).map Ab.encI),.sl ((j6 (j8 n.notes)).map Ab.encI)]))),(1,r7 s),(2,r7 w),(7,.one (.map 1)),(20,r7 Ms),(21,iv (Ms.length:Int)),(22,iv (p.1.1:Int))],[.vec 2 [] 0 true,.map [.int .i64,.int .i64] (I7 p.1.2)]⟩) (fun p=>Ms.length-p.1.1) ⟨(0,[]),by simp,fun m=>Bspec.start n s w m⟩ (zv [0,1,2,7,20,21,22] (by simp[I7])) ?_
 rintro⟨⟨j,B⟩,hj,hB⟩
 simp only at hj hB
 simp only[iv,r7]
 by_cases hlt:j<Ms.length
 ·have hw:=zk j
  have htk:Ms.take (j+1)=Ms.take j++[Ms[j]]:=List.take_succ_eq_append_getElem hlt
  generalize hm:Ms[j]=m at *
  have c3:=c2 m
  have hs:=za hm hlt
  repeat' first|with_reducible refine zz ?_|refine CallE.embed [] (c3) ?_ ?_ ?_ ?_ ?_ ?_;(focus simp[p8];done);(focus simp;done);(focus simp;done);(focus simp;done);(focus refine n3 ?_;simp[p8,n8];done);try simp -dsimp[l9,p8,hs]|with_reducible refine zE [0,1,2,6,7,9,10,11,12,13,14,15,16,17,20,21,22,23,36,37,38,40,41,42,51,63,64,65,66,74,75,76,77,104] ?_;try simp -dsimp[hs]|refine i9 ?_ ?_<;>intro h<;>try simp only[i7] at h
  all_goals try simp -dsimp[hs]
  all_goals try clear hs
  refine i6 (ι:={ p:Nat×List (Int×Int)×List (Int×Bool) // p.1≤n.notes.length∧ConsM n s w m p.2.2∧Bspec n s w (Ms.take j) m p.1 0 p.2.1 }) (fun p=>⟨116,[(0,.one (.im (.ip [.sl (n.reg.map e9),.sl (n.notes.map l5),.sl ((nums n.reg).map Ab.encI),.sl ((j6 (j8 n.notes)).map Ab.encI)]))),(1,r7 s),(2,r7 w),(7,.one (.map 1)),(10,.one (.fn (.func 234) [.ptr 7 0,.ptr 2 0,.ptr 3 0,.ptr 4 0,.ptr 5 0,.ptr 8 0])),(20,r7 Ms),(21,iv (Ms.length:Int)),(22,iv (j:Int)),(36,iv (n.notes.length:Int)),(37,iv (p.1.1:Int))],[.vec 2 [] 0 true,.map [.int .i64,.int .i64] (I7 p.1.2.1)]++[.row [.im (.ip [.sl (n.reg.map e9),.sl (n.notes.map l5),.sl ((nums n.reg).map Ab.encI),.sl ((j6 (j8 n.notes)).map Ab.encI)])],.row [.im (.sl (s.map Ab.encI))],.row [.im (.sl (w.map Ab.encI))],.row [.im (rI m)],.map [.int .i64] (F1 p.1.2.2),.row [.map 6],.row [.fn (.func 234) [.ptr 7 0,.ptr 2 0,.ptr 3 0,.ptr 4 0,.ptr 5 0,.ptr 8 0]]]⟩) (fun p=>n.notes.length-p.1.1) ⟨(0,B,[]),by simp,ConsM.nil _ _ _ _,hB m⟩ (zv [0,1,2,7,10,20,21,22,36,37] (by simp[F1])) ?_
  rintro⟨⟨i,B2,M⟩,hi,hM,hB2⟩
  simp only at hi hM hB2
  simp only[iv,r7]
  by_cases hli:i<n.notes.length
  ·have hwi:=zk i
   have hs:=hli
   repeat' first|with_reducible refine zz ?_|with_reducible refine zE [0,1,2,6,7,9,10,11,12,13,14,15,16,17,20,21,22,23,36,37,38,40,41,42,51,63,64,65,66,74,75,76,77,104] ?_;try simp -dsimp[hs]|refine i9 ?_ ?_<;>intro h<;>try simp only[i7] at h
   all_goals try simp -dsimp[hs]
   all_goals try clear hs
   refine i6 (ι:={ p:Nat×List (Int×Int)×List (Int×Bool) // p.1≤i∧ConsM n s w m p.2.2∧Bspec n s w (Ms.take j) m i p.1 p.2.1 }) (fun p=>⟨116,[(0,.one (.im (.ip [.sl (n.reg.map e9),.sl (n.notes.map l5),.sl ((nums n.reg).map Ab.encI),.sl ((j6 (j8 n.notes)).map Ab.encI)]))),(1,r7 s),(2,r7 w),(7,.one (.map 1)),(10,.one (.fn (.func 234) [.ptr 7 0,.ptr 2 0,.ptr 3 0,.ptr 4 0,.ptr 5 0,.ptr 8 0])),(11,iv (i:Int)),(20,r7 Ms),(21,iv (Ms.length:Int)),(22,iv (j:Int)),(36,iv (n.notes.length:Int)),(37,iv (i:Int)),(40,iv (i:Int)),(41,iv (p.1.1:Int))],[.vec 2 [] 0 true,.map [.int .i64,.int .i64] (I7 p.1.2.1)]++[.row [.im (.ip [.sl (n.reg.map e9),.sl (n.notes.map l5),.sl ((nums n.reg).map Ab.encI),.sl ((j6 (j8 n.notes)).map Ab.encI)])],.row [.im (.sl (s.map Ab.encI))],.row [.im (.sl (w.map Ab.encI))],.row [.im (rI m)],.map [.int .i64] (F1 p.1.2.2),.row [.map 6],.row [.fn (.func 234) [.ptr 7 0,.ptr 2 0,.ptr 3 0,.ptr 4 0,.ptr 5 0,.ptr 8 0]]]⟩) (fun p=>i-p.1.1) ⟨(0,B2,M),by simp,hM,hB2⟩ (zv [0,1,2,7,10,11,20,21,22,36,37,40,41]) ?_
   rintro⟨⟨k,B3,M3⟩,hk,hM3,hB3⟩
   simp only at hk hM3 hB3
   simp only[iv,r7]
   by_cases hlk:k<i
   ·have hwk:=zk k
    have c4:=Fg (G:=G) n s w m (by omega) hsl hwl n.notes.length i (by omega) hli M3 hM3
    have c5:=fun M hM=>Fg (G:=G) n s w m (by omega) hsl hwl n.notes.length k (by omega) (by omega) M hM
    have hput:=fun h=>hB3.put hlk hli h
    have hskip:=fun h=>hB3.skip (k:=k) h
    simp only[M7,frcCaps,C8,iv,bv,rI,List.map_cons,List.map_nil] at c4 c5
    cases hfi:E1 n s w m i
    ·rw[hfi] at c4
     have hsk:=hskip (by rw[hfi];simp)
     have hs:=za hlk hwk
     repeat' first|with_reducible refine zz ?_|refine CallE.embed_ex [2,3,4,5,6,7,8] (c4) ?_ ?_ ?_ ?_ ?_ ?_;(focus simp[p8];done);(focus simp;done);(focus simp;done);(focus simp;done);(focus refine n3 ?_;simp[p8,n8];done);intro mm hmm;try simp -dsimp[l9,p8,hs]|with_reducible refine zE [0,1,2,6,7,9,10,11,12,13,14,15,16,17,20,21,22,23,36,37,38,40,41,42,51,63,64,65,66,74,75,76,77,104] ?_;try simp -dsimp[hs]|refine i9 ?_ ?_<;>intro h<;>try simp only[i7] at h
     all_goals try simp -dsimp[hs]
     all_goals try clear hs
     all_goals exact zn ⟨(k+1,B3,mm),by simp only;omega,hmm,hsk⟩ (zw [0,1,2,7,10,11,20,21,22,36,37,40,41] 9)
    ·cases hfk:E1 n s w m k
     ·rw[hfi] at c4
      simp only[hfk] at c5
      have hsk:=hskip (by rw[hfk];simp)
      have hs:=za hlk hwk
      repeat' first|with_reducible refine zz ?_|refine CallE.embed_ex [2,3,4,5,6,7,8] (c4) ?_ ?_ ?_ ?_ ?_ ?_;(focus simp[p8];done);(focus simp;done);(focus simp;done);(focus simp;done);(focus refine n3 ?_;simp[p8,n8];done);intro mma hmma;try simp -dsimp[l9,p8,hs]|refine CallE.embed_ex [2,3,4,5,6,7,8] (c5 mma hmma) ?_ ?_ ?_ ?_ ?_ ?_;(focus simp[p8];done);(focus simp;done);(focus simp;done);(focus simp;done);(focus refine n3 ?_;simp[p8,n8];done);intro mm hmm;try simp -dsimp[l9,p8,hs]|with_reducible refine zE [0,1,2,6,7,9,10,11,12,13,14,15,16,17,20,21,22,23,36,37,38,40,41,42,51,63,64,65,66,74,75,76,77,104] ?_;try simp -dsimp[hs]|refine i9 ?_ ?_<;>intro h<;>try simp only[i7] at h
      all_goals try simp -dsimp[hs]
      all_goals try clear hs
      all_goals exact zn ⟨(k+1,B3,mm),by simp only;omega,hmm,hsk⟩ (zw [0,1,2,7,10,11,20,21,22,36,37,40,41] 9)
     ·rw[hfi] at c4
      simp only[hfk] at c5
      have hpt:=hput ⟨hfi,hfk⟩
      have hs:=za hlk hwk
      repeat' first|with_reducible refine zz ?_|refine CallE.embed_ex [2,3,4,5,6,7,8] (c4) ?_ ?_ ?_ ?_ ?_ ?_;(focus simp[p8];done);(focus simp;done);(focus simp;done);(focus simp;done);(focus refine n3 ?_;simp[p8,n8];done);intro mma hmma;try simp -dsimp[l9,p8,hs]|refine CallE.embed_ex [2,3,4,5,6,7,8] (c5 mma hmma) ?_ ?_ ?_ ?_ ?_ ?_;(focus simp[p8];done);(focus simp;done);(focus simp;done);(focus simp;done);(focus refine n3 ?_;simp[p8,n8];done);intro mm hmm;try simp -dsimp[l9,p8,hs]|with_reducible refine zE [0,1,2,6,7,9,10,11,12,13,14,15,16,17,20,21,22,23,36,37,38,40,41,42,51,63,64,65,66,74,75,76,77,104] ?_;try simp -dsimp[hs]|refine i9 ?_ ?_<;>intro h<;>try simp only[i7] at h
      all_goals try simp -dsimp[hs]
      all_goals try clear hs
      all_goals exact zn ⟨(k+1,vt ((k:Int),(i:Int)) B3,mm),by simp only;omega,hmm,hpt⟩ (zw [0,1,2,7,10,11,20,21,22,36,37,40,41] 9)
   ·obtain rfl:k=i:=by omega
    have hrow:=hB3.row
    have hs:=za hlk hwi
    repeat' first|with_reducible refine zz ?_|with_reducible refine zE [0,1,2,6,7,9,10,11,12,13,14,15,16,17,20,21,22,23,36,37,38,40,41,42,51,63,64,65,66,74,75,76,77,104] ?_;try simp -dsimp[hs]|refine i9 ?_ ?_<;>intro h<;>try simp only[i7] at h
    all_goals try simp -dsimp[hs]
    all_goals try clear hs
    all_goals exact zn ⟨(k+1,B3,M3),by simp only;omega,hM3,hrow⟩ (zw [0,1,2,7,10,20,21,22,36,37] 9)
  ·obtain rfl:i=n.notes.length:=by omega
   have hmk:=fun m'=>hB2.mark (m':=m')
   have hs:=za hli hw
   repeat' first|with_reducible refine zz ?_|with_reducible refine zE [0,1,2,6,7,9,10,11,12,13,14,15,16,17,20,21,22,23,36,37,38,40,41,42,51,63,64,65,66,74,75,76,77,104] ?_;try simp -dsimp[hs]|refine i9 ?_ ?_<;>intro h<;>try simp only[i7] at h
   all_goals try simp -dsimp[hs]
   all_goals try clear hs
   all_goals exact zn ⟨(j+1,B2),by simp only;omega,fun m'=>by rw[htk];exact hmk m'⟩ (zw [0,1,2,7,20,21,22] 2)
 ·obtain rfl:j=Ms.length:=by omega
  rw[List.take_length,← hMs] at hB
  have hboth:=fun a b hb=>(hB 0).both (a:=a) (b:=b) hb
  have hs:=hlt
  repeat' first|with_reducible refine zz ?_|with_reducible refine zE [0,1,2,6,7,9,10,11,12,13,14,15,16,17,20,21,22,23,36,37,38,40,41,42,51,63,64,65,66,74,75,76,77,104] ?_;try simp -dsimp[hs]|refine i9 ?_ ?_<;>intro h<;>try simp only[i7] at h
  all_goals try simp -dsimp[hs]
  all_goals try clear hs
  refine i6 (ι:={ p:Nat×Nat×Bool // p.1≤n.notes.length }) (fun p=>⟨116,[(0,.one (.im (.ip [.sl (n.reg.map e9),.sl (n.notes.map l5),.sl ((nums n.reg).map Ab.encI),.sl ((j6 (j8 n.notes)).map Ab.encI)]))),(7,.one (.map 1)),(13,.one (.vec 2 p.1.2.1 0 (mq n s w p.1.1).length)),(63,.one (.im (.sl (n.notes.map l5)))),(64,iv (n.notes.length:Int)),(65,iv (p.1.1:Int))],[.vec 2 [] 0 true,.map [.int .i64,.int .i64] (I7 B),.vec 2 (l7 ((mq n s w p.1.1).map uz)) p.1.2.1 p.1.2.2]⟩) (fun p=>n.notes.length-p.1.1) ⟨(0,0,true),by simp⟩ (zv [0,7,13,63,64,65] (by simp[mq])) ?_
  rintro⟨⟨a,g,nl⟩,ha⟩
  simp only at ha
  simp only[iv]
  have hTl:=qB n s w a
  have hTl2:a*n.notes.length≤16*16:=Nat.mul_le_mul (by omega) hl
  by_cases hla:a<n.notes.length
  ·have hwa:=zk a
   have hsa:=np n s w a
   have hna:P4 n.notes a=n.notes[a].number:=by simp[P4,hla]
   have hxo:n.notes[a]?=some n.notes[a]:=by simp[hla]
   generalize hx:n.notes[a]=x at *
   generalize mq n s w a=T at *
   have hs:=za hx hla
   repeat' first|with_reducible refine zz ?_|with_reducible refine zE [0,1,2,6,7,9,10,11,12,13,14,15,16,17,20,21,22,23,36,37,38,40,41,42,51,63,64,65,66,74,75,76,77,104] ?_;try simp -dsimp[hs]|refine i9 ?_ ?_<;>intro h<;>try simp only[i7] at h
   all_goals try simp -dsimp[hs]
   all_goals try clear hs
   refine i6 (ι:={ p:Nat×Nat×Bool // p.1≤n.notes.length }) (fun p=>⟨116,[(0,.one (.im (.ip [.sl (n.reg.map e9),.sl (n.notes.map l5),.sl ((nums n.reg).map Ab.encI),.sl ((j6 (j8 n.notes)).map Ab.encI)]))),(7,.one (.map 1)),(13,.one (.vec 2 p.1.2.1 0 (T++aC n s w a p.1.1).length)),(14,iv (a:Int)),(15,.one (.ptr 3 0)),(63,.one (.im (.sl (n.notes.map l5)))),(64,iv (n.notes.length:Int)),(65,iv (a:Int)),(74,.one (.im (.sl (n.notes.map l5)))),(75,iv (n.notes.length:Int)),(76,iv (p.1.1:Int))],[.vec 2 [] 0 true,.map [.int .i64,.int .i64] (I7 B),.vec 2 (l7 ((T++aC n s w a p.1.1).map uz)) p.1.2.1 p.1.2.2,.row ((l5 x).map .im)]⟩) (fun p=>n.notes.length-p.1.1) ⟨(0,g,nl),by simp⟩ (zv [0,7,13,14,15,63,64,65,74,75,76] (by simp[aC])) ?_
   rintro⟨⟨b,g2,nl2⟩,hb⟩
   simp only at hb
   simp only[iv]
   have hRl:=nr n s w a b
   by_cases hlb:b<n.notes.length
   ·have hwb:=zk b
    have hsb:=th n s w a b
    have hnb:P4 n.notes b=n.notes[b].number:=by simp[P4,hlb]
    have hyo:n.notes[b]?=some n.notes[b]:=by simp[hlb]
    have hbo:=hboth a b hlb
    have hck:qC n s w a b=(decide (((a:Int),(b:Int))∈B)&&(decide (x.drawing≠0)&&decide (x.drawing=n.notes[b].drawing)&&decide (n.notes[b].letter<x.letter))):=by
     rw[hbo,qC,hxo,hyo]
    generalize hy:n.notes[b]=y at *
    rw[hna,hnb] at hsb
    have hTR:(T++aC n s w a b).length≤500:=by rw[List.length_append];omega
    have hsb2:T++aC n s w a (b+1)=(T++aC n s w a b)++(if qC n s w a b=true then [(x.number,y.number)] else []):=by
     rw[hsb,← List.append_assoc]
    clear hsb
    generalize T++aC n s w a b=R at *
    cases hq:decide (((a:Int),(b:Int))∈B)
    ·have hq':¬ ((a:Int),(b:Int))∈B:=by simpa using hq
     rw[hq] at hck
     rw[hck,Bool.false_and,if_neg Bool.false_ne_true,List.append_nil] at hsb2
     have hs:=za hy (za hlb (za hwb hq'))
     repeat' first|with_reducible refine zz ?_|with_reducible refine zE [0,1,2,6,7,9,10,11,12,13,14,15,16,17,20,21,22,23,36,37,38,40,41,42,51,63,64,65,66,74,75,76,77,104] ?_;try simp -dsimp[hs]|refine i9 ?_ ?_<;>intro h<;>try simp only[i7] at h
     all_goals try simp -dsimp[hs]
     all_goals try clear hs
     all_goals exact zn ⟨(b+1,g2,nl2),by simp only;omega⟩ (zw [0,7,13,14,15,63,64,65,74,75,76] 4 (by simp[hsb2]))
    ·have hq':((a:Int),(b:Int))∈B:=by simpa using hq
     rw[hq,Bool.true_and] at hck
     have hs:=za hy (za hlb (za hwb hq'))
     repeat' first|(with_reducible first|refine zz ?_|refine And.intro (by omega) ?_)|with_reducible refine zE [0,1,2,6,7,9,10,11,12,13,14,15,16,17,20,21,22,23,36,37,38,40,41,42,51,63,64,65,66,74,75,76,77,104] ?_;try simp -dsimp[hs]|refine i9 ?_ ?_<;>intro h<;>try simp only[i7] at h|with_reducible refine j0 ?_ ?_<;>intro h<;>have h0:=h<;>(try simp only[i7] at h)<;>have h2:=h<;>(try simp at h2)<;>(replace hs:=za h0 (za h (za h2 hs)))<;>simp -dsimp[hs]
     all_goals try simp -dsimp[hs]
     all_goals try clear hs
     ·have hc:qC n s w a b=true:=by rw[hck];simp only[Bool.and_eq_true,decide_eq_true_eq];exact⟨⟨by assumption,by assumption⟩,by assumption⟩
      rw[if_pos hc] at hsb2
      exact zn ⟨(b+1,g2+1,false),by simp only;omega⟩ (zw [0,7,13,14,15,63,64,65,74,75,76] 4 (by simp[hsb2]<;>omega))
     all_goals
      have hc:qC n s w a b=false:=by rw[hck,← Bool.not_eq_true];simp only[Bool.and_eq_true,decide_eq_true_eq];omega
      rw[hc,if_neg Bool.false_ne_true,List.append_nil] at hsb2
      exact zn ⟨(b+1,g2,nl2),by simp only;omega⟩ (zw [0,7,13,14,15,63,64,65,74,75,76] 4 (by simp[hsb2]<;>omega))
   ·obtain rfl:b=n.notes.length:=by omega
    rw[← hsa]
    have hs:=za hlb hwa
    repeat' first|with_reducible refine zz ?_|with_reducible refine zE [0,1,2,6,7,9,10,11,12,13,14,15,16,17,20,21,22,23,36,37,38,40,41,42,51,63,64,65,66,74,75,76,77,104] ?_;try simp -dsimp[hs]|refine i9 ?_ ?_<;>intro h<;>try simp only[i7] at h
    all_goals try simp -dsimp[hs]
    all_goals try clear hs
    all_goals exact zn ⟨(a+1,g2,nl2),by simp only;omega⟩ (zw [0,7,13,63,64,65] 3)
  ·obtain rfl:a=n.notes.length:=by omega
   have hs:=hla
   repeat' first|(with_reducible first|refine zz ?_|refine zr ?_)|with_reducible refine zE [0,1,2,6,7,9,10,11,12,13,14,15,16,17,20,21,22,23,36,37,38,40,41,42,51,63,64,65,66,74,75,76,77,104] ?_;try simp -dsimp[hs]|refine i9 ?_ ?_<;>intro h<;>try simp only[i7] at h
   all_goals try simp -dsimp[hs]
   all_goals try clear hs
   all_goals simp[tg]
end Go.Proofs
namespace Go.Proofs
open Go Go.Ab
def jm (n:Notes) (s w:List Int) (M:List Int) (m:Int) (a b:Nat) (x y:Nat):Prop:=x<y∧y<n.notes.length∧((∃ m'∈M,E1 n s w m' x=true∧E1 n s w m' y=true)∨((x<a∨x=a∧y<b)∧E1 n s w m x=true∧E1 n s w m y=true))
structure Tspec (n:Notes) (s w:List Int) (M:List Int) (m:Int) (a b:Nat) (L:List Bool):Prop where
 len:L.length=144
 at':∀ x y:Nat,x<12→y<12→(L[x*12+y]?=some true↔jm n s w M m a b x y)
theorem Tspec.start (n:Notes) (s w:List Int) (m:Int):Tspec n s w [] m 0 0 (List.replicate 144 false):=⟨by simp,fun x y hx hy=>by
 have:x*12+y<144:=by omega
 rw[List.getElem?_replicate,if_pos this]
 simp[jm]⟩
theorem Tspec.mark {n:Notes} {s w:List Int} {M:List Int} {m m':Int} {b:Nat} {L:List Bool} (h:Tspec n s w M m n.notes.length b L):Tspec n s w (M++[m]) m' 0 0 L:=⟨h.len,fun x y hx hy=>by
 rw[h.at' x y hx hy]
 simp only[jm,List.mem_append,List.mem_singleton]
 constructor
 ·rintro⟨h1,h2,h3|⟨h3,h4⟩⟩
  ·obtain⟨z,hz,hh⟩:=h3
   exact⟨h1,h2,.inl ⟨z,.inl hz,hh⟩⟩
  ·exact⟨h1,h2,.inl ⟨m,.inr rfl,h4⟩⟩
 ·rintro⟨h1,h2,h3|⟨h3,h4⟩⟩
  ·obtain⟨z,hz|rfl,hh⟩:=h3
   ·exact⟨h1,h2,.inl ⟨z,hz,hh⟩⟩
   ·exact⟨h1,h2,.inr ⟨.inl (by omega),hh⟩⟩
  ·omega⟩
theorem Tspec.row {n:Notes} {s w:List Int} {M:List Int} {m:Int} {a:Nat} {L:List Bool} (h:Tspec n s w M m a n.notes.length L):Tspec n s w M m (a+1) 0 L:=⟨h.len,fun x y hx hy=>by
 rw[h.at' x y hx hy]
 simp only[jm]
 refine and_congr_right fun h1=>and_congr_right fun h2=>or_congr_right (and_congr_left fun _=>?_)
 omega⟩
theorem Tspec.begin {n:Notes} {s w:List Int} {M:List Int} {m:Int} {a:Nat} {L:List Bool} (h:Tspec n s w M m a 0 L):Tspec n s w M m a (a+1) L:=⟨h.len,fun x y hx hy=>by
 rw[h.at' x y hx hy]
 simp only[jm]
 refine and_congr_right fun h1=>and_congr_right fun h2=>or_congr_right (and_congr_left fun _=>?_)
 omega⟩
theorem Tspec.put {n:Notes} {s w:List Int} {M:List Int} {m:Int} {a b:Nat} {L:List Bool} (h:Tspec n s w M m a b L) (hab:a<b) (hb:b<n.notes.length) (hn:n.notes.length≤12) {v:Bool} (hv:L[a*12+b]?=some v):Tspec n s w M m a (b+1) (L.set (a*12+b) (v||(E1 n s w m a&&E1 n s w m b))):=⟨by rw[List.length_set];exact h.len,fun x y hx hy=>by
 have ho:=h.at' x y hx hy
 by_cases e:x=a∧y=b
 ·obtain⟨rfl,rfl⟩:=e
  have hl:x*12+y<L.length:=by rw[h.len];omega
  rw[List.getElem?_set_self hl]
  rw[hv] at ho
  simp only[Option.some.injEq,Bool.or_eq_true,Bool.and_eq_true] at ho ⊢
  rw[ho]
  simp only[jm]
  constructor
  ·rintro (⟨h1,h2,h3⟩|h4)
   ·exact⟨h1,h2,h3.imp id fun h3=>⟨by omega,h3.2⟩⟩
   ·exact⟨hab,hb,.inr ⟨by simp,h4⟩⟩
  ·rintro⟨h1,h2,h3|⟨h3,h4⟩⟩
   ·exact .inl ⟨h1,h2,.inl h3⟩
   ·exact .inr h4
 ·have hne:a*12+b≠x*12+y:=by omega
  rw[List.getElem?_set_ne hne,ho]
  simp only[jm]
  refine and_congr_right fun h1=>and_congr_right fun h2=>or_congr_right (and_congr_left fun _=>?_)
  omega⟩
theorem Tspec.both {n:Notes} {s w:List Int} {M:List Int} {m:Int} {L:List Bool} (h:Tspec n s w M m 0 0 L) (hM:∀ m',m'∈M↔m'∈Z3 n.notes) {a b:Nat} (hab:a<b) (hb:b<n.notes.length) (hn:n.notes.length≤12):L[a*12+b]?=some (qH n s w a b):=by
 have ho:=h.at' a b (by omega) (by omega)
 have hl:a*12+b<L.length:=by rw[h.len];omega
 rw[List.getElem?_eq_getElem hl] at ho ⊢
 congr 1
 rw[Bool.eq_iff_iff]
 rw[Option.some.injEq] at ho
 rw[ho]
 simp only[jm,qH,List.any_eq_true,Bool.and_eq_true]
 constructor
 ·rintro⟨_,_,h3|h3⟩
  ·obtain⟨z,hz,hh⟩:=h3
   exact⟨z,(hM z).1 hz,hh⟩
  ·omega
 ·rintro⟨z,hz,hh⟩
  exact⟨hab,hb,.inl ⟨z,(hM z).2 hz,hh⟩⟩
end Go.Proofs
namespace Go.Ab
open Go
def IT (L:List Bool):List DC:=L.map fun b=>.im (.raw (.bool b))
@[simp] theorem rm:∀ (n k:Nat),zcells (List.replicate n (.bool false)) k=(List.replicate n (.im (.raw (.bool false))),[])
 | 0,_=>rfl
 | n+1,k=>by rw[List.replicate_succ,List.replicate_succ,zcells,rm n k];exact fun h=>by cases h
@[simp] theorem IQ (m:Nat) (O:List DObj) (L:List Bool):(IT L).map (fz m O)=IT L:=by
 simp only[IT,List.map_map]
 exact List.map_congr_left fun x _=>by simp[fz]
end Go.Ab
namespace Go.Proofs
open Go Go.Ab
variable {G:Kc}
end Go.Proofs
namespace Go.Proofs
open Go Go.Ab
variable {G:Kc}
def tf (n:Notes) (s:List Int):List (Int×Int):=if C0 n s 1=0 then tg n s [] else []
open Go Go.Ab Tryz
theorem yF (n:Notes) (s:List Int) (hG:o3 G) (hN:C7 G) (hS:u3 G) (hs:xF n) (hsl:s.length<1000):zP prog G 65 [p7 n,r7 s] (.tup [Iv (tf n s),iv (C0 n s 1)]):=by
 refine zf func65 ntmps65 ?_
 try simp only[p7,r7]
 have c1:=oS n s 1 hG hN hS hs hsl
 unfold tf
 by_cases h0:C0 n s 1=0
 ·rw[h0,show I2 n s 1=.one (.im (C8 n)) by unfold I2;rw[if_pos h0]] at c1
  have hnk:=bc (qM h0).1
  have c2:=Df (G:=G) n s [] hS hnk.2.2.1 (by omega) hsl (by simp)
  simp only[C8,r7,iv,List.map_nil] at c1 c2
  rw[if_pos h0]
  have hs:=trivial
  repeat' first|(with_reducible first|refine zz ?_|refine zr ?_|refine zE [0,1,2,4,5,6,7,15] ?_)|simp -dsimp[hs]|refine zp c1 ?_|refine zp c2 ?_|refine i9 ?_ ?_<;>intro h<;>try simp only[i7] at h
  all_goals try clear hs
  all_goals simp[h0]
 ·rw[show I2 n s 1=.one (.im (.raw (.pointer none))) by unfold I2;rw[if_neg h0]] at c1
  rw[if_neg h0]
  simp only[r7,iv] at c1
  have hs:=h0
  repeat' first|(with_reducible first|refine zz ?_|refine zr ?_|refine zE [0,1,2,4,5,6,7,15] ?_)|simp -dsimp[hs]|refine zp c1 ?_|refine i9 ?_ ?_<;>intro h<;>try simp only[i7] at h
  all_goals try clear hs
  all_goals simp[h0]
attribute [simp] q8 bF r5 w7 nilV H8 ZK
theorem pU (n:Nat) (L:List Desk) (s:Susp) (hs:cq n s) (so:Bool) (hK:bV G) (hd:∀ d∈L,DkOk n d) (hl:L.length<1000000):DCall prog G 130 (bv so :: [DC.ptr 0 0,DC.ptr 1 0].map .one) [.row [.im (.sl (L.map T0))],.row ((j9 s).map .im)] (fun r o=>r=bv (L.any fun d=>iI d s so)∧o=[.row [.im (.sl (L.map T0))],.row ((j9 s).map .im)]):=by
 refine DCall.drop ?_
 have c1:=cC (G:=G) L (fun d=>iI d s so) 131 [.ptr 0 0,.ptr 1 0] [.row ((j9 s).map .im),.row [.im (.raw (.bool so))]] (by simp) (fun d hdm=>vU n s hs so hK d (hd d hdm)) hl
 simp only[j9,rI,List.map_cons,List.map_nil] at c1
 refine g9 func130 rfl ntmps130 (by simp) rfl ?_
 simp only[j9,rI,List.map_cons,List.map_nil]
 have hs:=trivial
 repeat' first|(with_reducible first|refine zz ?_|refine zr ?_|refine zE [0,1,2,3,4] ?_)|simp -dsimp[hs]|refine CallE.embed [1,2] (c1) ?_ ?_ ?_ ?_ ?_ ?_;(focus simp[p8];done);(focus simp;done);(focus simp;done);(focus simp;done);(focus refine n3 ?_;simp[p8,n8];done);try simp -dsimp[l9,p8,hs]|with_reducible refine And.intro ?_ ?_
 all_goals try clear hs
theorem lg (n:Nat) (L:List Desk) (s:Susp) (hs:cq n s) (hK:bV G) (hd:∀ d∈L,DkOk n d) (hl:L.length<1000000):zP prog G 67 [ae L,E9 s] (tZ (G2 L s)):=by
 refine zf func67 ntmps67 ?_
 try simp only[iv]
 have c1:=pU (G:=G) n L s hs true hK hd hl
 have c2:=pU (G:=G) n L s hs false hK hd hl
 unfold G2
 generalize (L.any fun d=>iI d s true)=b1 at *
 generalize (L.any fun d=>iI d s false)=b2 at *
 simp only[j9,rI,bv,List.map_cons,List.map_nil] at c1 c2
 simp only[ae]
 have hs:True:=trivial
 cases b1<;>cases b2
 all_goals
  have hs:=trivial
  repeat' first|(with_reducible first|refine zz ?_|refine zr ?_|refine zE [0,1,2,3,4,5,7,11] ?_)|simp -dsimp[hs]|refine zh c1 ?_|refine zh c2 ?_|refine i9 ?_ ?_<;>intro h<;>try simp only[i7] at h
  all_goals try clear hs
 all_goals simp
theorem yZ (c:Case) (s:Susp) (h1:0≤s.kind∧s.kind≤255) (hn:c.pieces.length<100000):zP prog G 66 [n5 c,E9 s] (bv (oZ c.pieces.length s)):=by
 refine zf func66 ntmps66 ?_
 try simp only[iv]
 have w3:IntKind.i64.wrap s.kind=s.kind:=o4 (by omega) (by omega)
 have w4:IntKind.i64.wrap ((c.pieces.length:Int)-1)=(c.pieces.length:Int)-1:=o4 (by omega) (by omega)
 have c1:=N7 (G:=G) 2 3 [s.kind] (by simp)
 have c2:=N7 (G:=G) 0 ((c.pieces.length:Int)-1) [s.index] (by simp)
 rw[show ([s.kind].all fun y=>decide (2≤y)&&decide (y≤3))=(decide (2≤s.kind)&&decide (s.kind≤3)) by simp] at c1
 rw[show ([s.index].all fun y=>decide (0≤y)&&decide (y≤(c.pieces.length:Int)-1))=(decide (0≤s.index)&&decide (s.index≤(c.pieces.length:Int)-1)) by simp] at c2
 have hE:oZ c.pieces.length s=if s.kind=1 then decide (s.index=0) else (decide (2≤s.kind)&&decide (s.kind≤3))&&(decide (0≤s.index)&&decide (s.index≤(c.pieces.length:Int)-1)):=rfl
 simp only[n5,j4]
 by_cases hk:s.kind=1
 ·rw[if_pos hk] at hE
  rw[hE]
  have hs:=hk
  repeat' first|(with_reducible first|refine zz ?_|refine zr ?_|refine zE [0,1,2,3,4,7] ?_)|simp -dsimp[hs]|refine i9 ?_ ?_<;>intro h<;>try simp only[i7] at h
 ·rw[if_neg hk] at hE
  rw[hE]
  generalize (decide (2≤s.kind)&&decide (s.kind≤3))=b1 at *
  generalize (decide (0≤s.index)&&decide (s.index≤(c.pieces.length:Int)-1))=b2 at *
  have hs:True:=trivial
  cases b1
  all_goals
   have hs:=za hk (za w3 w4)
   repeat' first|(with_reducible first|refine zz ?_|refine zr ?_|refine zE [0,1,2,3,4,7] ?_)|simp -dsimp[hs]|refine zt c1 ?_ ?_ ?_;(focus simp;done);focus (simp;done)|refine zt c2 ?_ ?_ ?_;(focus simp;done);focus (simp;done)|refine i9 ?_ ?_<;>intro h<;>try simp only[i7] at h
  all_goals simp
noncomputable def fg (c:Case) (s:Susp):Int:=if J9 c≠0 then J9 c else if oZ c.pieces.length s=true then 0 else 6
noncomputable def gu (c:Case) (s:Susp):Int:=if fg c s=0 then G2 (n9 c) s else 0
theorem AL (c:Case) (s:Susp) (h1:0≤s.kind∧s.kind≤255) (hG:o3 G) (hN:C7 G) (hS:u3 G) (hR:v6 G) (hC:L6 G) (hK:bV G) (hk:KC c):zP prog G 19 [n5 c,E9 s] (.tup [tZ (gu c s),iv (fg c s)]):=by
 refine zf func19 ntmps19 ?_
 try simp only[iv]
 have c1:=ej (G:=G) c hG hN hS hR hC hk
 have hq:=hk.q
 by_cases h0:J9 c=0
 ·have c2:=yZ (G:=G) c s h1 (by omega)
  rw[h0,show oY c=n9 c by unfold oY;rw[if_pos h0]] at c1
  have hE:fg c s=if oZ c.pieces.length s=true then 0 else 6:=by unfold fg;rw[if_neg (by simp[h0])]
  have hdl:=bw (S4 h0).1
  simp only[n5,j4,E9,j9,ae,rI,List.map_cons,List.map_nil] at c1 c2
  by_cases hb:oZ c.pieces.length s=true
  ·have c3:=lg (G:=G) c.pieces.length (n9 c) s (zi hb) hK (af hk) (by omega)
   rw[if_pos hb] at hE
   have hO:gu c s=G2 (n9 c) s:=by unfold gu;rw[if_pos hE]
   rw[hE,hO]
   rw[hb] at c2
   simp only[E9,j9,ae,rI,List.map_cons,List.map_nil] at c3
   simp only[n5,j4,E9,j9,rI,List.map_cons,List.map_nil]
   have hs:=trivial
   repeat' first|(with_reducible first|refine zz ?_|refine zr ?_|refine zE [0,1,2,3,4,5,6,7,14,19] ?_)|simp -dsimp[hs]|refine zp c1 ?_|refine zp c2 ?_|refine zp c3 ?_|refine i9 ?_ ?_<;>intro h<;>try simp only[i7] at h
  ·rw[if_neg hb] at hE
   have hO:gu c s=0:=by unfold gu;rw[if_neg (by rw[hE];decide)]
   rw[hE,hO]
   rw[Bool.not_eq_true] at hb
   rw[hb] at c2
   simp only[n5,j4,E9,j9,rI,List.map_cons,List.map_nil]
   have hs:=trivial
   repeat' first|(with_reducible first|refine zz ?_|refine zr ?_|refine zE [0,1,2,3,4,5,6,7,14,19] ?_)|simp -dsimp[hs]|refine zp c1 ?_|refine zp c2 ?_|refine i9 ?_ ?_<;>intro h<;>try simp only[i7] at h
 ·have hE:fg c s=J9 c:=by unfold fg;rw[if_pos h0]
  have hO:gu c s=0:=by unfold gu;rw[if_neg (by rw[hE];exact h0)]
  rw[hE,hO]
  simp only[n5,j4,E9,j9,ae,rI,List.map_cons,List.map_nil] at c1 ⊢
  have hs:=h0
  repeat' first|(with_reducible first|refine zz ?_|refine zr ?_|refine zE [0,1,2,3,4,5,6,7,14,19] ?_)|simp -dsimp[hs]|refine zp c1 ?_|refine i9 ?_ ?_<;>intro h<;>try simp only[i7] at h
noncomputable def kV (c:Case) (t:List Int) (s:Susp):Int:=if J9 c≠0 then J9 c else if G7 (j6 (j8 c.p.n.notes)) t=false then 31 else if oZ c.pieces.length s=true then 0 else 6
noncomputable def iH (c:Case) (t:List Int) (s:Susp):Int:=if kV c t s=0 then G2 [H4 c t] s else 0
theorem FQ (c:Case) (t:List Int) (s:Susp) (h1:0≤s.kind∧s.kind≤255) (htl:t.length<1000) (hG:o3 G) (hN:C7 G) (hS:u3 G) (hR:v6 G) (hC:L6 G) (hK:bV G) (hk:KC c):zP prog G 17 [n5 c,r7 t,E9 s] (.tup [tZ (iH c t s),iv (kV c t s)]):=by
 refine zf func17 ntmps17 ?_
 try simp only[r7]
 have c1:=ej (G:=G) c hG hN hS hR hC hk
 have hq:=hk.q
 by_cases h0:J9 c=0
 ·have c2:=yZ (G:=G) c s h1 (by omega)
  have c4:=yF (G:=G) c.p.n t hG hN hS hk.p.n htl
  obtain⟨he,_⟩:=S4 h0
  obtain⟨hn0,_,_⟩:=C6 (B8 he).1
  rw[h0] at c1
  generalize oY c=X at c1
  generalize tf c.p.n t=Y at c4
  have hA:C0 c.p.n t 1=if G7 (j6 (j8 c.p.n.notes)) t=false then 31 else 0:=by
   unfold C0;rw[if_neg (by simp[hn0])];simp
  rw[hA] at c4
  have hE:kV c t s=if G7 (j6 (j8 c.p.n.notes)) t=false then 31 else if oZ c.pieces.length s=true then 0 else 6:=by unfold kV;rw[if_neg (by simp[h0])]
  cases ht:G7 (j6 (j8 c.p.n.notes)) t
  ·rw[if_pos ht] at hE c4
   have hO:iH c t s=0:=by unfold iH;rw[if_neg (by rw[hE];decide)]
   rw[hE,hO]
   simp only[n5,j4,E9,j9,ae,rI,p7,u5,List.map_cons,List.map_nil] at c1 c4 ⊢
   have hs:=trivial
   repeat' first|(with_reducible first|refine zz ?_|refine zr ?_|refine zE [0,1,2,3,5,6,7,9,11,18,29,34] ?_)|simp -dsimp[hs]|refine zp c1 ?_|refine zp c4 ?_|refine i9 ?_ ?_<;>intro h<;>try simp only[i7] at h
  ·rw[if_neg (by simp[ht])] at hE c4
   have c5:=nA (G:=G) c t he ht htl hG hN hS hR hC hk
   by_cases hb:oZ c.pieces.length s=true
   ·have c3:=lg (G:=G) c.pieces.length [H4 c t] s (zi hb) hK (by intro d hd;rw[List.mem_singleton] at hd;subst hd;exact uB hk t) (by simp)
    rw[if_pos hb] at hE
    have hO:iH c t s=G2 [H4 c t] s:=by unfold iH;rw[if_pos hE]
    rw[hE,hO]
    rw[hb] at c2
    generalize G2 [H4 c t] s=kk at *
    generalize H4 c t=dd at *
    simp only[n5,j4,E9,j9,ae,T0,rI,p7,u5,List.map_cons,List.map_nil] at c1 c2 c3 c4 c5 ⊢
    have hs:=trivial
    repeat' first|(with_reducible first|refine zz ?_|refine zr ?_)|simp -dsimp[hs]|refine zp c1 ?_|refine zp c4 ?_|refine zp c2 ?_|refine zq c5 ?_|refine zq c3 ?_|refine zM 9 41 8 [0,1,2,3,5,6,7,9,11,18,29,34] ?_|with_reducible refine zE [0,1,2,3,5,6,7,9,11,18,29,34] ?_|refine i9 ?_ ?_<;>intro h<;>try simp only[i7] at h
   ·rw[if_neg hb] at hE
    have hO:iH c t s=0:=by unfold iH;rw[if_neg (by rw[hE];decide)]
    rw[hE,hO]
    rw[Bool.not_eq_true] at hb
    rw[hb] at c2
    simp only[n5,j4,E9,j9,ae,rI,p7,u5,List.map_cons,List.map_nil] at c1 c2 c4 ⊢
    have hs:=trivial
    repeat' first|(with_reducible first|refine zz ?_|refine zr ?_|refine zE [0,1,2,3,5,6,7,9,11,18,29,34] ?_)|simp -dsimp[hs]|refine zp c1 ?_|refine zp c4 ?_|refine zp c2 ?_|refine i9 ?_ ?_<;>intro h<;>try simp only[i7] at h
 ·have hE:kV c t s=J9 c:=by unfold kV;rw[if_pos h0]
  have hO:iH c t s=0:=by unfold iH;rw[if_neg (by rw[hE];exact h0)]
  rw[hE,hO]
  simp only[n5,j4,E9,j9,ae,rI,List.map_cons,List.map_nil] at c1 ⊢
  have hs:=h0
  repeat' first|(with_reducible first|refine zz ?_|refine zr ?_|refine zE [0,1,2,3,5,6,7,9,11,18,29,34] ?_)|simp -dsimp[hs]|refine zp c1 ?_|refine i9 ?_ ?_<;>intro h<;>try simp only[i7] at h
attribute [simp] q8 bF r5 w7 nilV H8 ZK
end Go.Proofs
namespace Go.Ab
open Go
def Jh (F:List J4):List IC:=[.raw (.bool (decide ((false,false)∈F))),.raw (.bool (decide ((false,true)∈F))),.raw (.bool (decide ((true,false)∈F))),.raw (.bool (decide ((true,true)∈F)))]
def DX (F:List J4):DV:=.agg ((Jh F).map .im)
theorem zO (F:List J4):ImV (DX F):=by unfold DX;simp[Jh]
attribute [simp] zO
theorem addF_mem {L:List J4} {so:Bool} {f x:J4}:decide (x∈ap L so f)=(decide (x∈L)||(so&&decide (x=f))):=by
 unfold ap
 split
 ·rename_i h
  rw[h.1,Bool.eq_iff_iff];simp
 ·rename_i h
  rw[Bool.eq_iff_iff]
  simp only[Bool.or_eq_true,Bool.and_eq_true,decide_eq_true_eq]
  constructor
  ·exact .inl
  ·rintro (h1|⟨h1,rfl⟩)
   ·exact h1
   ·exact Classical.byContradiction fun h2=>h ⟨h1,h2⟩
end Go.Ab
namespace Go.Proofs
open Go Go.Ab
variable {G:Kc}
attribute [simp] q8 bF r5 w7 nilV H8 ZK
end Go.Proofs
namespace Go.Proofs
open Go Go.Ab
variable {G:Kc}
attribute [simp] q8 bF r5 w7 nilV H8 ZK
end Go.Proofs
namespace Go.Ab
open Go
def v8 (f:J4):Int:=(if f.2=true then 2 else 0)+(if f.1=true then 1 else 0)
theorem bH (f:J4):0≤v8 f∧v8 f≤3:=by unfold v8;split<;>split<;>omega
theorem bI {a b:J4} (h:v8 a=v8 b):a=b:=by
 obtain⟨a1,a2⟩:=a
 obtain⟨b1,b2⟩:=b
 revert h
 cases a1<;>cases a2<;>cases b1<;>cases b2<;>decide
def bB (L:List J4):J4:=if (false,false)∈L then (false,false) else if (true,false)∈L then (true,false) else if (false,true)∈L then (false,true) else (true,true)
theorem wN (L:List J4):∀ x∈L,v8 (bB L)≤v8 x:=by
 intro x hx
 unfold bB
 have:=bH x
 split
 ·have:v8 (false,false)=0:=rfl
  omega
 ·rename_i h0
  have n0:v8 x≠0:=fun e=>h0 ((bI (a:=x) (b:=(false,false)) (by rw[e];rfl)) ▸ hx)
  split
  ·have:v8 (true,false)=1:=rfl
   omega
  ·rename_i h1
   have n1:v8 x≠1:=fun e=>h1 ((bI (a:=x) (b:=(true,false)) (by rw[e];rfl)) ▸ hx)
   split
   ·have:v8 (false,true)=2:=rfl
    omega
   ·rename_i h2
    have n2:v8 x≠2:=fun e=>h2 ((bI (a:=x) (b:=(false,true)) (by rw[e];rfl)) ▸ hx)
    have:v8 (true,true)=3:=rfl
    omega
theorem wO {L:List J4} (h:L≠[]):bB L∈L:=by
 unfold bB
 split
 ·assumption
 ·split
  ·assumption
  ·split
   ·assumption
   ·obtain⟨⟨a,b⟩,hx⟩:=List.exists_mem_of_ne_nil L h
    revert hx
    cases a<;>cases b<;>simp_all
theorem AD {L:List J4} {r:J4} (hr:r∈L) (h:∀ x∈L,v8 r≤v8 x):bB L=r:=by
 have h1:=wN L r hr
 have h2:=h _ (wO (List.ne_nil_of_mem hr))
 exact bI (by omega)
def dt (d:Desk) (i:Nat):Bool:=(bB (d.faults.getD i [])).1
def dw (d:Desk) (i:Nat):Bool:=(bB (d.faults.getD i [])).2
def W9 (d:Desk):List Susp:=gl d.notes (dt d) (dw d) d.faults.length
end Go.Ab
namespace Go.Proofs
open Go Go.Ab
variable {G:Kc}
theorem pf (f:J4):H9 (fun x=>decide (f=x)) [(false,false),(true,false),(false,true),(true,true)]=v8 f:=by
 obtain⟨a,b⟩:=f
 cases a<;>cases b<;>decide
def jI (G:Kc):Prop:=G 0=some [.raw (.bool false),.raw (.bool false)]∧G 2=some [.raw (.bool true),.raw (.bool false)]∧G 3=some [.raw (.bool false),.raw (.bool true)]
theorem tW (f:J4) (hF:jI G):zP Tryz.prog G 143 [jo f] (iv (v8 f)):=by
 refine zf Tryz.func143 Tryz.ntmps143 ?_
 try simp only[iv]
 have g1:G 0=some [.raw (.bool false),.raw (.bool false)]:=hF.1
 have g2:G 2=some [.raw (.bool true),.raw (.bool false)]:=hF.2.1
 have g3:G 3=some [.raw (.bool false),.raw (.bool true)]:=hF.2.2
 have c1:=mU (G:=G) [(false,false),(true,false),(false,true),(true,true)] f (by simp)
 rw[pf] at c1
 simp only[jo,C3,List.map_cons,List.map_nil] at c1 ⊢
 have hs:=za g1 (za g2 g3)
 repeat' first|(with_reducible first|refine zz ?_|refine zr ?_|refine zE [0,1,2] ?_)|simp -dsimp[hs]|refine zt c1 ?_ ?_ ?_;(focus simp;done);focus (simp;done)
theorem FC (a b:J4) (hF:jI G):zP Tryz.prog G 142 [jo a,jo b] (iv (v8 a-v8 b)):=by
 refine zf Tryz.func142 Tryz.ntmps142 ?_
 try simp only[iv]
 have h1:=bH a
 have h2:=bH b
 have hw:IntKind.i64.wrap (v8 a-v8 b)=v8 a-v8 b:=o4 (by omega) (by omega)
 have c1:=tW (G:=G) a hF
 have c2:=tW (G:=G) b hF
 simp only[jo,C3,List.map_cons,List.map_nil] at c1 c2 ⊢
 generalize v8 a=x at *
 generalize v8 b=y at *
 have hs:=hw
 repeat' first|(with_reducible first|refine zz ?_|refine zr ?_)|simp -dsimp[hs]|refine zq c1 ?_|refine zq c2 ?_|refine zM 1 10 6 [0,1,2,3,4] ?_|with_reducible refine zE [0,1,2,3,4] ?_
theorem Cn (L:List J4) (hne:L≠[]) (hl:L.length<1000000) (hF:jI G):zP Tryz.prog G 203 [.one (.im (.sl (L.map C3))),.one (.im (.fn (.func 142) []))] (jo (bB L)):=by
 refine zf Tryz.func203 Tryz.ntmps203 ?_
 try simp only[iv]
 have hlp:0<L.length:=List.length_pos_iff.2 hne
 have hx1:L[0]?=some L[0]:=by simp[hlp]
 have hm0:L[0]∈L:=List.getElem_mem hlp
 generalize hxe:L[0]=x0 at *
 have hl1:¬ (L.length:Int)<1:=by omega
 have hs:=za hl1 (za hx1 (za hxe hlp))
 repeat' first|(with_reducible first|refine zz ?_|refine zE [0,1,4,5,6,9,17,27] ?_)|simp -dsimp[hs]|refine i9 ?_ ?_<;>intro h<;>try simp only[i7] at h
 have hst0:∀ (j:Nat) (x:J4),j<1→L[j]?=some x→v8 x0≤v8 x:=fun j x hj hjx=>by
  obtain rfl:j=0:=by omega
  rw[hx1] at hjx;cases hjx;exact Int.le_refl _
 refine i6 (ι:={ p:Nat×J4 // 1≤p.1∧p.1≤L.length∧p.2∈L∧∀ (j:Nat) (x:J4),j<p.1→L[j]?=some x→v8 p.2≤v8 x }) (fun p=>⟨33,[(0,.one (.im (.sl (L.map C3)))),(1,.one (.im (.fn (.func 142) []))),(4,.one (.ptr 0 0)),(5,.one (.ptr 1 0)),(6,iv (p.1.1:Int))],[.row [.im (.raw (.bool false)),.im (.raw (.bool false))],.row ((C3 p.1.2).map .im)]⟩) (fun p=>L.length-p.1.1) ⟨(1,x0),Nat.le_refl _,hlp,hm0,hst0⟩ (zv [0,1,4,5,6]) ?_
 rintro⟨⟨k,m⟩,hk1,hk,hm,hmin⟩
 simp only at hk1 hk hm hmin
 simp only[iv]
 by_cases hlt:k<L.length
 ·have hx:L[k]?=some L[k]:=by simp[hlt]
  have hw:=zk k
  have hmk:L[k]∈L:=List.getElem_mem hlt
  generalize hy:L[k]=y at *
  have c1:=FC (G:=G) y m hF
  simp only[jo,C3,List.map_cons,List.map_nil] at c1
  by_cases hym:v8 y-v8 m<0
  ·have hst:∀ (j:Nat) (x:J4),j<k+1→L[j]?=some x→v8 y≤v8 x:=fun j x hj hjx=>by
    by_cases e:j=k
    ·subst e;rw[hx] at hjx;cases hjx;exact Int.le_refl _
    ·have:=hmin j x (by omega) hjx;omega
   have hs:=za hx (za hy (za hlt (za hw hym)))
   repeat' first|with_reducible refine zz ?_|simp -dsimp[hs]|refine zp c1 ?_|refine zM 7 33 6 [0,1,4,5,6,9,17,27] ?_|with_reducible refine zE [0,1,4,5,6,9,17,27] ?_|refine i9 ?_ ?_<;>intro h<;>try simp only[i7] at h
   all_goals exact zn ⟨(k+1,y),by simp,by simp only;omega,hmk,hst⟩ (zw [0,1,4,5,6] 2)
  ·have hst:∀ (j:Nat) (x:J4),j<k+1→L[j]?=some x→v8 m≤v8 x:=fun j x hj hjx=>by
    by_cases e:j=k
    ·subst e;rw[hx] at hjx;cases hjx;omega
    ·exact hmin j x (by omega) hjx
   have hs:=za hx (za hy (za hlt (za hw hym)))
   repeat' first|with_reducible refine zz ?_|simp -dsimp[hs]|refine zp c1 ?_|refine zM 7 33 6 [0,1,4,5,6,9,17,27] ?_|with_reducible refine zE [0,1,4,5,6,9,17,27] ?_|refine i9 ?_ ?_<;>intro h<;>try simp only[i7] at h
   all_goals exact zn ⟨(k+1,m),by simp,by simp only;omega,hm,hst⟩ (zw [0,1,4,5,6] 2)
 ·obtain rfl:k=L.length:=by omega
  have hb:bB L=m:=AD hm fun x hx=>by
   obtain⟨j,hj⟩:=List.mem_iff_getElem?.1 hx
   exact hmin j x (e7 hj) hj
  rw[hb]
  have hs:=hlt
  repeat' first|(with_reducible first|refine zz ?_|refine zr ?_|refine zE [0,1,4,5,6,9,17,27] ?_)|simp -dsimp[hs]|refine i9 ?_ ?_<;>intro h<;>try simp only[i7] at h
theorem AC (L:List J4) (hne:L≠[]) (hl:L.length<1000000) (hF:jI G):zP Tryz.prog G 141 [.one (.im (.sl (L.map C3))),.one (.im (.fn (.func 142) []))] (jo (bB L)):=by
 refine zf Tryz.func141 Tryz.ntmps141 ?_
 try simp only[iv]
 have c1:=Cn (G:=G) L hne hl hF
 simp only[jo,C3,List.map_cons,List.map_nil] at c1 ⊢
 repeat' first|(with_reducible first|refine zz ?_|refine zx ?_|refine zE [0,1,4] ?_)|simp -dsimp|refine zp c1 ?_
theorem qg (d:Desk) (n:Nat) (hd:DkOk n d) (hn:n<100000) (hne:∀ x∈d.faults,x≠[]) (hF:jI G) (hU:V2 G):zP Tryz.prog G 81 [jJ d] (C5 (W9 d)):=by
 refine zf Tryz.func81 Tryz.ntmps81 ?_
 try simp only[iv]
 have hdn:=hd.n
 simp only[jJ,aA,R5]
 have hs:True:=trivial
 have h00:Y0 d.notes (dt d) (dw d) 0=ml d.notes ⟨1,0⟩:=by simp[Y0]
 cases hnt:d.notes
 all_goals
  rw[hnt] at h00
  simp only[ml,if_true,Bool.false_eq_true,if_false] at h00
  have hs:=hnt
  repeat' first|(with_reducible first|refine zz ?_|refine zE [0,2,3,4,5,6,10,18,19,20,21,28,35] ?_)|simp -dsimp[hs]|refine i9 ?_ ?_<;>intro h<;>try simp only[i7] at h
  all_goals try clear hs
 all_goals
  refine i6 (ι:={ p:Nat×Nat×Nat×Bool // p.1≤d.faults.length∧(p.2.2.1=2∨p.2.2.2=true∧Y0 d.notes (dt d) (dw d) p.1=[]) }) (fun p=>⟨45,[(3,.one (.vec 1 p.1.2.1 0 (Y0 d.notes (dt d) (dw d) p.1.1).length)),(18,.one (.im (.sl (d.faults.map J3)))),(19,iv (d.faults.length:Int)),(20,iv (p.1.1:Int))],[.vec 2 [] 0 true,.vec p.1.2.2.1 (l7 ((Y0 d.notes (dt d) (dw d) p.1.1).map j9)) p.1.2.1 p.1.2.2.2]⟩) (fun p=>d.faults.length-p.1.1) ⟨(0,(if d.notes=true then 1 else 0),2,!d.notes),by simp⟩ (zw [3,18,19,20] 2 (by simp[hnt,h00,l7])) ?_
  clear h00
  rintro⟨⟨k,g,sz,nl⟩,hk,hz⟩
  simp only at hk hz
  simp only[iv]
  have hz':sz=2∨nl=true:=hz.imp id And.left
  have hln:=bg d.notes (dt d) (dw d) k
  by_cases hlt:k<d.faults.length
  ·have hw:=zk k
   have hst:=iF d.notes (dt d) (dw d) k
   have hfp:dt d k=(bB d.faults[k]).1:=by simp[dt,hlt]
   have hfh:dw d k=(bB d.faults[k]).2:=by simp[dw,hlt]
   have hm:=List.getElem_mem hlt
   have c1:=AC (G:=G) d.faults[k] (hne _ hm) (hd.l _ hm) hF
   generalize hx:d.faults[k]=x at *
   rw[hfp,hfh] at hst
   generalize bB x=f at *
   obtain⟨f1,f2⟩:=f
   simp only at hst
   simp only[jo,C3,List.map_cons,List.map_nil] at c1
   have htk:∀ x,List.take ((Y0 d.notes (dt d) (dw d) k).length+1) (l7 ((Y0 d.notes (dt d) (dw d) k).map j9)++[x])=l7 ((Y0 d.notes (dt d) (dw d) k).map j9)++[x]:=fun x=>List.take_of_length_le (by simp[l7])
   have hs:True:=trivial
   cases f1<;>cases f2
   all_goals
    simp only[ml,if_true,Bool.false_eq_true,if_false,gc,qc,List.nil_append,List.append_nil,List.cons_append] at hst
    have hs:=za hx (za hlt (za hw hz'))
    repeat' first|(with_reducible first|refine zz ?_|refine And.intro (by omega) ?_|refine zE [0,2,3,4,5,6,10,18,19,20,21,28,35] ?_)|simp -dsimp[hs]|refine zp c1 ?_|refine i9 ?_ ?_<;>intro h<;>try simp only[i7] at h
    all_goals try clear hs
   ·exact zn ⟨(k+1,g,sz,nl),by simp only;omega,by rw[hst];exact hz⟩ (zw [3,18,19,20] 2 (by simp[hst]))
   ·exact zn ⟨(k+1,g+1,2,false),by simp only;omega,.inl rfl⟩ (zw [3,18,19,20] 2 (by simp[hst]))
   ·exact zn ⟨(k+1,g+1,2,false),by simp only;omega,.inl rfl⟩ (zw [3,18,19,20] 2 (by simp[hst]))
   ·exact zn ⟨(k+1,g+2,2,false),by simp only;omega,.inl rfl⟩ (zw [3,18,19,20] 2 (by simp[hst,htk]))
  ·obtain rfl:k=d.faults.length:=by omega
   have hE:W9 d=gl d.notes (dt d) (dw d) d.faults.length:=rfl
   have c1:=ud (G:=G) hU (l:=Y0 d.notes (dt d) (dw d) d.faults.length) (r:=W9 d) (fun x hx=>by have:=mO hx;unfold eQ;omega) (O7 _ _ _ _) (bS _ _ _ _) (by omega) g sz nl hz
   have hal:(W9 d).length=(Y0 d.notes (dt d) (dw d) d.faults.length).length:=(O7 _ _ _ _).length_eq
   have hz2:sz=2∨nl=true∧W9 d=[]:=hz.imp id fun h=>⟨h.1,List.eq_nil_of_length_eq_zero (by rw[hal,h.2];rfl)⟩
   clear hE
   generalize W9 d=A at *
   rw[← hal] at c1
   rw[← hal]
   have hs:=za hlt hz'
   repeat' first|(with_reducible first|refine zz ?_|refine zr ?_|refine zE [0,2,3,4,5,6,10,18,19,20,21,28,35] ?_)|simp -dsimp[hs]|refine CallE.embed [1] (c1) ?_ ?_ ?_ ?_ ?_ ?_;(focus simp[p8];done);(focus simp;done);(focus simp;done);(focus simp;done);(focus refine n3 ?_;simp[p8,n8];done);try simp -dsimp[l9,p8,hs]|refine i9 ?_ ?_<;>intro h<;>try simp only[i7] at h
   all_goals try clear hs
   all_goals simp
end Go.Proofs
namespace Go.Ab
open Go
def kU (s:Susp):List Value:=[.int .u8 s.kind,.int .i64 s.index]
def X0 (f:Susp→Int) (K:List Susp):List (List Value×List DC):=K.map fun s=>(kU s,[.im (.raw (.int .u8 (f s)))])
def nk (f:Susp→Int) (K:List Susp):List (List Value×List IC):=K.map fun s=>(kU s,[.raw (.int .u8 (f s))])
theorem bt (f:Susp→Int) (s:Susp) (K:List Susp):X0 f (s :: K)=(kU s,[.im (.raw (.int .u8 (f s)))]) :: X0 f K:=rfl
theorem tr (a b:Int) (y:Susp):A1 [.int .u8 a,.int .i64 b] (kU y)=decide (y=⟨a,b⟩):=by
 simp only[kU,A1,Bool.and_true]
 obtain⟨p,q⟩:=y
 rw[Bool.eq_iff_iff]
 simp only[decide_eq_true_eq,Bool.and_eq_true,beq_iff_eq,Susp.mk.injEq]
 constructor<;>(rintro⟨rfl,rfl⟩;exact⟨rfl,rfl⟩)
theorem yI {f:Susp→Int} {s:Susp}:∀ {K:List Susp},s∉K→Q1 [.int .u8 s.kind,.int .i64 s.index] [.im (.raw (.int .u8 (f s)))] (X0 f K)=X0 f (K++[s])
 | [],_=>rfl
 | y :: K,h=>by
   rw[List.mem_cons,not_or] at h
   rw[List.cons_append,bt,bt]
   simp only[Q1,tr,decide_eq_true_eq]
   rw[if_neg (fun e=>h.1 e.symm),yI h.2]
theorem yK (f:Susp→Int) (s:Susp):∀ K:List Susp,N6 [.int .u8 s.kind,.int .i64 s.index] (X0 f K) [.im (.raw (.int .u8 0))]=[.im (.raw (.int .u8 (if s∈K then f s else 0)))]
 | []=>by simp[X0,N6,R0]
 | y :: K=>by
   have ih:=yK f s K
   rw[bt]
   simp only[N6,R0,tr,decide_eq_true_eq] at ih ⊢
   split
   ·rename_i h
    obtain rfl:y=s:=h
    simp
   ·rename_i h
    rw[ih]
    have:(s∈y :: K)=(s∈K):=propext ⟨fun h'=>(List.mem_cons.1 h').resolve_left fun e=>h e.symm,List.mem_cons_of_mem _⟩
    simp only[this]
theorem zY (f:Susp→Int) (K:List Susp):(X0 f K).length=K.length:=by simp[X0]
theorem sg {f:Susp→Int} {x:Susp}:∀ {l:List Susp} {i:Nat},l.Nodup→l[i]?=some x→W0 [.int .u8 x.kind,.int .i64 x.index] (X0 f l)=some i
 | [],i,_,h=>by simp at h
 | y :: r,i,hn,h=>by
   rw[List.nodup_cons] at hn
   rw[bt]
   simp only[W0,tr,decide_eq_true_eq]
   cases i with
   | zero=>simp at h;subst h;rw[if_pos rfl]
   | succ i =>
     have h':r[i]?=some x:=by simpa using h
     rw[if_neg (fun e=>hn.1 (by cases x;cases y;cases e;exact List.mem_of_getElem? h')),sg hn.2 h'];rfl
theorem Fa {f:Susp→Int} {x:Susp} {l:List Susp} {i:Nat} (hn:l.Nodup) (h:l[i]?=some x):gi [.int .u8 x.kind,.int .i64 x.index] (X0 f l)=X0 f (l.eraseIdx i):=by
 rw[iG (sg hn h)]
 refine List.ext_getElem? fun j=>?_
 simp only[X0,List.getElem?_map,List.getElem?_eraseIdx]
 split<;>simp
@[simp] theorem IH (f:Susp→Int) (k n:Nat) (objs:List DObj) (l:List Susp):D6 (fun x:List Value×List DC=>(D6 (frz (k+1) n objs) x.2).map fun l=>(x.1,l)) (X0 f l)=some (nk f l):=by
 induction l with
 | nil=>rfl
 | cons p r ih =>
   rw[bt]
   simp[D6,ih,nk]
@[simp] theorem Hh (f:Susp→Int) (n:Nat) (objs:List DObj) (l:List Susp):((X0 f l).map fun x=>(x.1,x.2.map (fz n objs)))=X0 f l:=by
 simp[X0,fz,DC.lt]
@[simp] theorem Fi (f:Susp→Int) (l:List Susp):fm (nk f l)=X0 f l:=by simp[fm,nk,X0]
theorem wv {f:Susp→Int} {l:List Susp} {i:Nat} {a:List Value} {b:List DC} (h:(X0 f l)[i]?=some (a,b)):∃ y,l[i]?=some y∧a=[.int .u8 y.kind,.int .i64 y.index]∧b=[.im (.raw (.int .u8 (f y)))]:=by
 simp only[X0,List.getElem?_map,Option.map_eq_some_iff] at h
 obtain⟨y,h1,h2⟩:=h
 cases h2
 exact⟨y,h1,rfl,rfl⟩
theorem kX {α β:Type} (f:α→β) (l:List α) (i:Nat):(l.eraseIdx i).map f=(l.map f).eraseIdx i:=by
 refine List.ext_getElem? fun j=>?_
 simp only[List.getElem?_map,List.getElem?_eraseIdx]
 split<;>simp
theorem ow {l:List Nat} (hn:l.Nodup) {i s:Nat} (h:l[i]?=some s):l.idxOf? s=some i:=by
 rw[List.idxOf?,List.findIdx?_eq_some_iff_getElem]
 obtain⟨h1,h2⟩:=List.getElem?_eq_some_iff.1 h
 refine⟨h1,by simpa using h2,fun j hj he=>?_⟩
 have he:l[j]=s:=by simpa using he
 have:=(List.getElem_inj hn).1 (he.trans h2.symm)
 omega
def qW {α:Type} (f:α→Bool) (seen:List Nat) (p:α×Nat):Bool:=!(decide (p.2∈seen) && !f p.1)
def R3 {α:Type} (f:α→Bool) (P:List (α×Nat)) (seen:List Nat):List (α×Nat):=P.filter (qW f seen)
theorem vQ {α:Type} (f:α→Bool) (P:List (α×Nat)):R3 f P []=P:=by
 unfold R3
 exact List.filter_eq_self.2 fun p _=>by simp[qW]
theorem sr {α:Type} {f:α→Bool} {P:List (α×Nat)} {seen:List Nat} {x:α} {s:Nat} (hn:(P.map (·.2)).Nodup) (hm:(x,s)∈P) (hf:f x=true):R3 f P (seen++[s])=R3 f P seen:=by
 unfold R3
 refine List.filter_congr fun p hp=>?_
 simp only[qW,List.mem_append,List.mem_singleton]
 by_cases e:p.2=s
 ·have:p=(x,s):=by
   obtain⟨i,hi⟩:=List.mem_iff_getElem?.1 hp
   obtain⟨j,hj⟩:=List.mem_iff_getElem?.1 hm
   have h1:(P.map (·.2))[i]?=some s:=by rw[List.getElem?_map,hi];simp[e]
   have h2:(P.map (·.2))[j]?=some s:=by rw[List.getElem?_map,hj];rfl
   have:i=j:=(List.getElem?_inj (e7 h1) hn).1 (h1.trans h2.symm)
   subst this
   rw[hi] at hj;cases hj;rfl
  subst this
  simp[hf]
 ·simp[e]
theorem aM {α:Type} {p q:α→Bool} {a:α}:∀ {l:List α} {i:Nat},l.Nodup→(l.filter p)[i]?=some a→(∀ b∈l,b≠a→q b=p b)→q a=false→l.filter q=(l.filter p).eraseIdx i
 | [],i,_,h,_,_=>by simp at h
 | y :: l,i,hn,h,hq,ha=>by
   rw[List.nodup_cons] at hn
   by_cases e:y=a
   ·subst e
    have hp:p y=true:=(List.mem_filter.1 (List.mem_of_getElem? h)).2
    rw[List.filter_cons_of_pos hp] at h ⊢
    rw[List.filter_cons_of_neg (by simp[ha])]
    have hi:i=0:=by
     cases i with
     | zero=>rfl
     | succ i =>
       have:(l.filter p)[i]?=some y:=by simpa using h
       exact absurd (List.mem_filter.1 (List.mem_of_getElem? this)).1 hn.1
    subst hi
    rw[List.eraseIdx_cons_zero]
    exact List.filter_congr fun b hb=>hq b (by simp[hb]) fun e=>hn.1 (e ▸ hb)
   ·have hy:=hq y (by simp) e
    by_cases hp:p y=true
    ·rw[List.filter_cons_of_pos hp] at h ⊢
     rw[List.filter_cons_of_pos (by rw[hy];exact hp)]
     cases i with
     | zero=>simp at h;exact absurd h e
     | succ i =>
       rw[List.eraseIdx_cons_succ,aM hn.2 (by simpa using h) (fun b hb=>hq b (by simp[hb])) ha]
    ·rw[List.filter_cons_of_neg hp] at h ⊢
     rw[List.filter_cons_of_neg (by rw[hy];exact hp)]
     exact aM hn.2 h (fun b hb=>hq b (by simp[hb])) ha
theorem vS {α:Type} {f:α→Bool} {P:List (α×Nat)} {seen:List Nat} {x:α} {s i:Nat} (hn:(P.map (·.2)).Nodup) (hi:(R3 f P seen)[i]?=some (x,s)) (hf:f x=false):R3 f P (seen++[s])=(R3 f P seen).eraseIdx i:=by
 have hnP:P.Nodup:=by
  have:=hn
  rw[List.Nodup,List.pairwise_map] at this
  exact this.imp fun h e=>h (by rw[e])
 have hm:(x,s)∈P:=(List.mem_filter.1 (List.mem_of_getElem? hi)).1
 unfold R3 at hi ⊢
 refine aM hnP hi (fun p hp hne=>?_) (by simp[qW,hf])
 simp only[qW,List.mem_append,List.mem_singleton]
 have:p.2≠s:=fun e=>by
  obtain⟨i,hi⟩:=List.mem_iff_getElem?.1 hp
  obtain⟨j,hj⟩:=List.mem_iff_getElem?.1 hm
  have h1:(P.map (·.2))[i]?=some s:=by rw[List.getElem?_map,hi];simp[e]
  have h2:(P.map (·.2))[j]?=some s:=by rw[List.getElem?_map,hj];rfl
  have:i=j:=(List.getElem?_inj (e7 h1) hn).1 (h1.trans h2.symm)
  subst this
  rw[hi] at hj;cases hj;exact hne rfl
 simp[this]
theorem vR {α:Type} {f:α→Bool} {P:List (α×Nat)} {seen:List Nat} (h:∀ s∈(R3 f P seen).map (·.2),s∈seen):(R3 f P seen).map (·.1)=(P.map (·.1)).filter f:=by
 rw[List.filter_map]
 unfold R3 at h ⊢
 congr 1
 refine List.filter_congr fun p hp=>?_
 simp only[Function.comp]
 cases hf:f p.1
 ·cases hq:qW f seen p with
  | false=>rfl
  | true =>
    have:=h p.2 (List.mem_map.2 ⟨p,List.mem_filter.2 ⟨hp,hq⟩,rfl⟩)
    simp[qW,hf,this] at hq
 ·simp[qW,hf]
def Bx {α:Type} (P:List (α×Nat)) (seen:List Nat):Nat:=(P.filter fun p=>decide (p.2∉seen)).length
theorem Bw {α:Type} {P:List (α×Nat)} {seen:List Nat} {x:α} {s:Nat} (hm:(x,s)∈P) (hs:s∉seen):Bx P (seen++[s])<Bx P seen:=by
 unfold Bx
 have hsub:∀ l:List (α×Nat),(l.filter fun p=>decide (p.2∉seen++[s])).length≤(l.filter fun p=>decide (p.2∉seen)).length∧((x,s)∈l→(l.filter fun p=>decide (p.2∉seen++[s])).length<(l.filter fun p=>decide (p.2∉seen)).length):=by
  intro l
  induction l with
  | nil=>exact⟨Nat.le_refl _,fun h=>by simp at h⟩
  | cons p l ih =>
    by_cases h1:p.2∈seen
    ·rw[List.filter_cons_of_neg (by simp[h1]),List.filter_cons_of_neg (by simp[h1])]
     refine⟨ih.1,fun h=>ih.2 ?_⟩
     rcases List.mem_cons.1 h with rfl|h
     ·exact absurd h1 hs
     ·exact h
    ·by_cases h2:p.2=s
     ·rw[List.filter_cons_of_neg (by simp[h2]),List.filter_cons_of_pos (by simp[h1])]
      simp only[List.length_cons]
      exact⟨by omega,fun _=>by omega⟩
     ·rw[List.filter_cons_of_pos (by simp[h1,h2]),List.filter_cons_of_pos (by simp[h1])]
      simp only[List.length_cons]
      refine⟨by omega,fun h=>?_⟩
      rcases List.mem_cons.1 h with rfl|h
      ·exact absurd rfl h2
      ·have:=ih.2 h;omega
 exact(hsub P).2 hm
end Go.Ab
