/- Part 23 of the proofs. -/
import Derived.Test.YtjodaihiogfkbaaGreatDoorA13
import Derived.Test.YtjodaihiogfkbaaGreatDoorA16
import Derived.Test.YtjodaihiogfkbaaGreatDoorA18
import Derived.Test.YtjodaihiogfkbaaGreatDoorA19
import Derived.Test.YtjodaihiogfkbaaGreatDoorB02
import Derived.Test.YtjodaihiogfkbaaGreatDoorB03
set_option linter.all false
set_option linter.deprecated false
set_option maxHeartbeats 100000000
namespace Go.Ab
open Go
def cY (a b:Susp):Prop:=a.kind<b.kind∨(a.kind=b.kind∧a.index<b.index)
instance (a b:Susp):Decidable (cY a b):=by unfold cY;infer_instance
theorem rC {a b c:Susp} (h1:cY a b) (h2:cY b c):cY a c:=by unfold cY at *;omega
theorem oh {α β:Type} (f g:α→List β):∀ l:List α,(l.flatMap f++l.flatMap g).Perm (l.flatMap fun a=>f a++g a)
 | []=>by simp
 | a :: l=>by
   simp only[List.flatMap_cons,List.append_assoc]
   refine List.Perm.append_left _ ?_
   have h:=oh f g l
   refine List.Perm.trans ?_ (List.Perm.append_left (g a) h)
   rw[← List.append_assoc,← List.append_assoc]
   exact List.Perm.append_right _ List.perm_append_comm
def wF (i:Nat):Susp:=⟨2,i⟩
def xz (i:Nat):Susp:=⟨3,i⟩
def mX (b:Bool) (s:Susp):List Susp:=if b=true then [s] else []
def jP (b:Bool) (p h:Nat→Bool) (n:Nat):List Susp:=mX b ⟨1,0⟩++((List.range n).flatMap (fun i=>mX (p i) (wF i))++(List.range n).flatMap fun i=>mX (h i) (xz i))
def fA (b:Bool) (p h:Nat→Bool) (n:Nat):List Susp:=mX b ⟨1,0⟩++(List.range n).flatMap fun i=>mX (p i) (wF i)++mX (h i) (xz i)
theorem bx (b:Bool) (p h:Nat→Bool) (n:Nat):(jP b p h n).Perm (fA b p h n):=List.Perm.append_left _ (oh _ _ _)
theorem ifS_mem {b:Bool} {s x:Susp}:x∈mX b s↔b=true∧x=s:=by unfold mX;split<;>simp_all
theorem mW (b:Bool) (s:Susp):(mX b s).length=if b=true then 1 else 0:=by unfold mX;split<;>simp_all
theorem iq (p:Nat→Bool) (f:Nat→Susp) (hf:∀ i j,i<j→cY (f i) (f j)) (n:Nat):((List.range n).flatMap fun i=>mX (p i) (f i)).Pairwise cY:=by
 rw[List.pairwise_flatMap]
 refine⟨fun i _=>by unfold mX;split<;>simp,List.pairwise_lt_range.imp fun {i j} h x hx y hy=>?_⟩
 rw[(ifS_mem.1 hx).2,(ifS_mem.1 hy).2]
 exact hf i j h
theorem flat_mem {p:Nat→Bool} {f:Nat→Susp} {n:Nat} {x:Susp}:(x∈(List.range n).flatMap fun i=>mX (p i) (f i))↔∃ i,i<n∧p i=true∧x=f i:=by
 simp only[List.mem_flatMap,List.mem_range,ifS_mem]
theorem listS_mem {b:Bool} {p h:Nat→Bool} {n:Nat} {x:Susp}:x∈jP b p h n↔(b=true∧x=⟨1,0⟩)∨(∃ i,i<n∧p i=true∧x=wF i)∨(∃ i,i<n∧h i=true∧x=xz i):=by
 simp only[jP,List.mem_append,ifS_mem,flat_mem]
theorem fE (b:Bool) (p h:Nat→Bool) (n:Nat):(jP b p h n).Pairwise cY:=by
 unfold jP
 rw[List.pairwise_append,List.pairwise_append]
 refine⟨by unfold mX;split<;>simp,⟨iq p wF (fun i j h=>.inr ⟨rfl,by simp[wF];omega⟩) n,iq h xz (fun i j h=>.inr ⟨rfl,by simp[xz];omega⟩) n,fun x hx y hy=>?_⟩,fun x hx y hy=>?_⟩
 ·obtain⟨i,_,_,rfl⟩:=flat_mem.1 hx
  obtain⟨j,_,_,rfl⟩:=flat_mem.1 hy
  exact .inl (by simp[wF,xz])
 ·rw[(ifS_mem.1 hx).2]
  rcases List.mem_append.1 hy with hy|hy
  ·obtain⟨j,_,_,rfl⟩:=flat_mem.1 hy
   exact .inl (by simp[wF])
  ·obtain⟨j,_,_,rfl⟩:=flat_mem.1 hy
   exact .inl (by simp[xz])
def bO (n:Nat):List Susp:=jP true (fun _=>true) (fun _=>true) n
theorem lJ (b:Bool) (p h:Nat→Bool) (n:Nat):fA b p h (n+1)=fA b p h n++(mX (p n) (wF n)++mX (h n) (xz n)):=by
 simp[fA,List.range_succ]
theorem fy (b:Bool) (p h:Nat→Bool):∀ n,(fA b p h n).length≤1+2*n
 | 0=>by simp[fA,mW];split<;>omega
 | n+1=>by
   have:=fy b p h n
   rw[lJ,List.length_append,List.length_append,mW,mW]
   split<;>split<;>omega
theorem tS {b:Bool} {p h:Nat→Bool} {n:Nat} {x:Susp} (hx:x∈fA b p h n):0≤x.kind∧x.kind≤3∧0≤x.index∧(x.index<n∨x.index=0):=by
 rcases listS_mem.1 ((bx b p h n).mem_iff.2 hx) with⟨_,rfl⟩|⟨i,h1,_,rfl⟩|⟨i,h1,_,rfl⟩
 ·simp
 ·simp[wF];omega
 ·simp[xz];omega
end Go.Ab
namespace Go.Proofs
open Go Go.Ab
variable {G:GW}
def oq (a b:Susp):Int:=kT [a.kind-b.kind,a.index-b.index]
theorem fu (a b:Susp):oq a b<0↔cY a b:=by
 unfold oq kT kT kT cY
 repeat' split
 all_goals omega
def pz (x:Susp):Prop:=0≤x.kind∧x.kind≤255∧0≤x.index∧x.index≤1000000000
abbrev uW:={ x:Susp // pz x }
def sN (x:uW):List IC:=l5 x.1
theorem zV (a b:Susp) (ha:pz a) (hb:pz b):DCall Tryz.prog G 86 [.agg ((l5 a).map wk),.agg ((l5 b).map wk)] [] (fun d o=>d=iv (oq a b)∧o=[]):=by
 refine DCall.drop ?_
 obtain⟨a1,a2,a3,a4⟩:=ha
 obtain⟨b1,b2,b3,b4⟩:=hb
 have w1:IntKind.i64.wrap (a.kind-b.kind)=a.kind-b.kind:=n8 (by omega) (by omega)
 have w2:IntKind.i64.wrap (a.index-b.index)=a.index-b.index:=n8 (by omega) (by omega)
 have w3:IntKind.i64.wrap a.kind=a.kind:=n8 (by omega) (by omega)
 have w4:IntKind.i64.wrap b.kind=b.kind:=n8 (by omega) (by omega)
 have c3:=DX (G:=G) [a.kind-b.kind,a.index-b.index] (by simp)
 have hE:oq a b=kT [a.kind-b.kind,a.index-b.index]:=rfl
 rw[← hE] at c3
 simp only[l5,List.map_cons,List.map_nil,rI,wk]
 refine i7 Tryz.func86 rfl Tryz.ntmps86 (by simp) rfl ?_
 have hs:=za w1 (za w2 (za w3 w4))
 repeat' first|(with_reducible first|refine zz ?_|refine zr ?_|refine zE [0,1,2,3,4] ?_)|simp -dsimp[hs]|refine zt c3 ?_ ?_ ?_;(focus simp;done);focus (simp;done)|with_reducible refine And.intro ?_ ?_
def gi (G:GW):Prop:=∀ (l:List uW) (gn sz:Nat) (nl:Bool),(sz=2∨nl=true∧l=[])→l.length<1000000 →
 DCall Tryz.prog G 138 [.one (.vec 0 gn 0 l.length),.one (.im (.fn (.func 86) []))] [.vec sz (n4 (l.map sN)) gn nl] (fun d o=>d=.tup []∧∃ l':List uW,l'.Perm l∧(l'.Pairwise fun a b=>¬ oq b.1 a.1<0)∧o=[.vec sz (n4 (l'.map sN)) gn nl])
theorem zo {G:GW} (hSF:gi G) {l r:List Susp} (hT:∀ x∈l,pz x) (hp:r.Perm l) (hr:r.Pairwise cY) (hl:l.length<1000000) (gn sz:Nat) (nl:Bool) (hz:sz=2∨nl=true∧l=[]) :
 DCall Tryz.prog G 138 [.one (.vec 0 gn 0 l.length),.one (.im (.fn (.func 86) []))] [.vec sz (n4 (l.map l5)) gn nl] (fun d o=>d=.tup []∧o=[.vec sz (n4 (r.map l5)) gn nl]):=by
 have h:=hSF (l.attach.map fun x=>⟨x.1,hT x.1 x.2⟩) gn sz nl (hz.imp id fun h=>⟨h.1,by simpa using h.2⟩) (by simpa using hl)
 have e1:(l.attach.map fun x=>(⟨x.1,hT x.1 x.2⟩:uW)).map sN=l.map l5:=by
  rw[List.map_map]
  exact(List.map_attach_eq_pmap ..).trans (List.pmap_eq_map ..)
 rw[e1] at h
 simp only[List.length_map,List.length_attach] at h
 refine h.mono fun d o ⟨h1,l',h2,h3,h4⟩=>⟨h1,?_⟩
 have h5:(l'.map Subtype.val)=r:=by
  have h6:(l'.map Subtype.val).Perm l:=by
   have:=h2.map Subtype.val
   rw[List.map_map] at this
   refine this.trans ?_
   have e2:(l.attach.map (Subtype.val ∘ fun x=>(⟨x.1,hT x.1 x.2⟩:uW)))=l:=(List.map_attach_eq_pmap ..).trans ((List.pmap_eq_map ..).trans (List.map_id _))
   rw[e2]
  refine List.Perm.eq_of_pairwise (le:=fun a b=>¬ oq b a<0) (fun a b _ _ h1 h2=>?_) (by rw[List.pairwise_map];exact h3) (hr.imp fun {a b} h=>?_) (h6.trans hp.symm)
  ·rw[fu] at h1 h2
   unfold cY at h1 h2
   obtain⟨a1,a2⟩:=a
   obtain⟨b1,b2⟩:=b
   simp only at h1 h2
   rw[Susp.mk.injEq];omega
  ·rw[fu];unfold cY at *;omega
 rw[h4,← h5,List.map_map]
 rfl
theorem qc (c:Case) (hn:c.pieces.length<100000) (hU:gi G):zP Tryz.prog G 74 [m6 c] (R9 (bO c.pieces.length)):=by
 refine zf Tryz.func74 Tryz.ntmps74 ?_
 try simp only[iv]
 simp only[m6,j4]
 have hs:=trivial
 repeat' first|(with_reducible first|refine zz ?_|refine zE [0,1,2,3,4,9,10,11] ?_)|simp -dsimp[hs]
 refine g9 (ι:={ p:Nat×Nat // p.1≤c.pieces.length }) (fun p=>⟨24,[(3,.one (.vec 2 p.1.2 0 (fA true (fun _=>true) (fun _=>true) p.1.1).length)),(9,iv (c.pieces.length:Int)),(10,iv (p.1.1:Int))],[.row ((j4 c).map .im),.vec 2 [] 0 true,.vec 2 (n4 ((fA true (fun _=>true) (fun _=>true) p.1.1).map l5)) p.1.2 false]⟩) (fun p=>c.pieces.length-p.1.1) ⟨(0,0),by simp⟩ (zv [3,9,10] (by simp[fA,mX])) ?_
 rintro⟨⟨k,g⟩,hk⟩
 simp only at hk
 simp only[iv]
 by_cases hlt:k<c.pieces.length
 ·have hw:=zk k
  have hst:=lJ true (fun _=>true) (fun _=>true) k
  have hln:=fy true (fun _=>true) (fun _=>true) k
  simp only[mX,if_true,wF,xz,List.cons_append,List.nil_append] at hst
  generalize fA true (fun _=>true) (fun _=>true) k=L at *
  have hs:=za hlt hw
  repeat' first|(with_reducible first|refine zz ?_|refine And.intro (by omega) ?_|refine zE [0,1,2,3,4,9,10,11] ?_)|simp -dsimp[hs]|refine i8 ?_ ?_<;>intro h<;>try simp only[i6] at h
  all_goals exact zn ⟨(k+1,g+1),by simp only;omega⟩ (zw [3,9,10] 3 (by simp[hst]))
 ·obtain rfl:k=c.pieces.length:=by omega
  have hln:=fy true (fun _=>true) (fun _=>true) c.pieces.length
  have c1:=zo (G:=G) hU (l:=fA true (fun _=>true) (fun _=>true) c.pieces.length) (r:=bO c.pieces.length) (fun x hx=>by have:=tS hx;unfold pz;omega) (bx _ _ _ _) (fE _ _ _ _) (by omega) g 2 false (.inl rfl)
  have hal:(bO c.pieces.length).length=(fA true (fun _=>true) (fun _=>true) c.pieces.length).length:=(bx _ _ _ _).length_eq
  generalize fA true (fun _=>true) (fun _=>true) c.pieces.length=L at *
  generalize bO c.pieces.length=A at *
  rw[← hal] at c1
  rw[← hal]
  have hs:=hlt
  repeat' first|(with_reducible first|refine zz ?_|refine zr ?_|refine zE [0,1,2,3,4,9,10,11] ?_)|simp -dsimp[hs]|refine CallE.embed [2] (c1) ?_ ?_ ?_ ?_ ?_ ?_;(focus simp[w9];done);(focus simp;done);(focus simp;done);(focus simp;done);(focus refine s0 ?_;simp[w9,v8];done);try simp -dsimp[p9,w9,hs]|refine i8 ?_ ?_<;>intro h<;>try simp only[i6] at h
  all_goals simp
end Go.Proofs
namespace Go.Ab
open Go
def kP (p:Int×Int):List Value:=[.int .i64 p.1,.int .i64 p.2]
def I8 (l:List (Int×Int)):List (List Value×List DC):=l.map fun p=>(kP p,[.im (rB true)])
def tK (p:Int×Int) (l:List (Int×Int)):List (Int×Int):=if p∈l then l else l++[p]
theorem wZ (p q:Int×Int) (l:List (Int×Int)):q∈tK p l↔q∈l∨q=p:=by
 unfold tK
 split
 ·exact⟨.inl,fun h=>h.elim id fun e=>e ▸ ‹_›⟩
 ·simp
theorem yi (a b:Int) (p:Int×Int):u5 [.int .i64 a,.int .i64 b] (kP p)=decide (p=(a,b)):=by
 obtain⟨c,d⟩:=p
 simp only[kP,u5,Bool.and_true]
 rw[Bool.eq_iff_iff]
 simp only[Bool.and_eq_true,beq_iff_eq,decide_eq_true_eq,Prod.mk.injEq]
 exact⟨fun h=>⟨h.1.symm,h.2.symm⟩,fun h=>⟨h.1.symm,h.2.symm⟩⟩
@[simp] theorem Fx (l:List (Int×Int)) (a b:Int):R4 [.int .i64 a,.int .i64 b] (I8 l) [.im (.raw (.bool false))]=[.im (.raw (.bool (decide ((a,b)∈l))))]:=by
 induction l with
 | nil=>rfl
 | cons p r ih =>
   have e:I8 (p :: r)=(kP p,[.im (rB true)]) :: I8 r:=rfl
   rw[e]
   simp only[R4,W3,yi,decide_eq_true_eq] at ih ⊢
   split
   ·rename_i h;subst h;simp
   ·rename_i h
    rw[ih]
    have:((a,b)∈p :: r)=((a,b)∈r):=propext ⟨fun h'=>(List.mem_cons.1 h').resolve_left fun e=>h e.symm,List.mem_cons_of_mem _⟩
    simp only[this]
@[simp] theorem Fd (l:List (Int×Int)) (a b:Int):P9 [.int .i64 a,.int .i64 b] [.im (.raw (.bool true))] (I8 l)=I8 (tK (a,b) l):=by
 have gen:∀ l:List (Int×Int),((a,b)∈l→P9 [.int .i64 a,.int .i64 b] [.im (.raw (.bool true))] (I8 l)=I8 l)∧((a,b)∉l→P9 [.int .i64 a,.int .i64 b] [.im (.raw (.bool true))] (I8 l)=I8 (l++[(a,b)])):=by
  intro l
  induction l with
  | nil=>exact⟨fun h=>by simp at h,fun _=>rfl⟩
  | cons p r ih =>
    have e:I8 (p :: r)=(kP p,[.im (rB true)]) :: I8 r:=rfl
    rw[e]
    simp only[P9,yi,decide_eq_true_eq]
    constructor
    ·intro h
     split
     ·rename_i hp;rw[hp];rfl
     ·rename_i hp
      rw[ih.1 ((List.mem_cons.1 h).resolve_left fun e=>hp e.symm)]
    ·intro h
     rw[if_neg fun e=>h (by simp[e]),ih.2 fun e=>h (by simp[e])];rfl
 unfold tK
 split
 ·exact(gen l).1 ‹_›
 ·exact(gen l).2 ‹_›
@[simp] theorem Dn (l:List (Int×Int)):(I8 l).length=l.length:=by simp[I8]
@[simp] theorem Dj (n:Nat) (objs:List DObj) (l:List (Int×Int)):((I8 l).map fun x=>(x.1,x.2.map (fz n objs)))=I8 l:=by
 simp[I8,fz,DC.lt]
@[simp] theorem Eo (e:Nat→Nat) (m:List (Int×Int)):((I8 m).map fun x=>(x.1,rnL e x.2))=I8 m:=by
 simp[I8,rnL,iQ]
def sO (p:Int×Int):List IC:=[rI p.1,rI p.2]
def Fq (l:List (Int×Int)):DV:=.one (.im (.sl (l.map sO)))
attribute [simp] sO Fq
end Go.Ab
namespace Go.Proofs
open Go Go.Ab
def pt (n:Notes) (s w:List Int) (a b:Nat):Bool:=(Y5 n.notes).any fun m=>E2 n s w m a&&E2 n s w m b
def pm (n:Notes) (s w:List Int) (a b:Nat):Bool:=decide (a<b)&&pt n s w a b&&(match n.notes[a]?,n.notes[b]? with
 | some x,some y=>decide (x.drawing≠0)&&decide (x.drawing=y.drawing)&&decide (y.letter<x.letter)
 | _,_=>false)
def ao (n:Notes) (s w:List Int) (a k:Nat):List (Int×Int):=((List.range k).filter fun b=>pm n s w a b).map fun b=>(A0 n.notes a,A0 n.notes b)
def ld (n:Notes) (s w:List Int) (k:Nat):List (Int×Int):=(List.range k).flatMap fun a=>ao n s w a n.notes.length
def rp (n:Notes) (s w:List Int):List (Int×Int):=ld n s w n.notes.length
theorem mf (n:Notes) (s w:List Int) (k:Nat):ld n s w (k+1)=ld n s w k++ao n s w k n.notes.length:=by
 simp[ld,List.range_succ,List.flatMap_append]
theorem rq (n:Notes) (s w:List Int) (a k:Nat):ao n s w a (k+1)=ao n s w a k++(if pm n s w a k=true then [(A0 n.notes a,A0 n.notes k)] else []):=by
 unfold ao
 rw[List.range_succ,List.filter_append,List.map_append]
 congr 1
 by_cases h:pm n s w a k=true<;>simp[h]
theorem mg (n:Notes) (s w:List Int) (a k:Nat):(ao n s w a k).length≤k:=by
 unfold ao
 rw[List.length_map]
 refine Nat.le_trans (List.length_filter_le _ _) ?_
 simp
theorem pk (n:Notes) (s w:List Int):∀ k,(ld n s w k).length≤k*n.notes.length
 | 0=>by simp[ld]
 | k+1=>by
   have h1:=pk n s w k
   have h2:=mg n s w k n.notes.length
   rw[mf,List.length_append,Nat.succ_mul];omega
def bF (n:Notes) (s w:List Int) (M:List Int) (m:Int) (i k:Nat) (a b:Nat):Prop:=a<b∧b<n.notes.length∧((∃ m'∈M,E2 n s w m' a=true∧E2 n s w m' b=true)∨((b<i∨b=i∧a<k)∧E2 n s w m a=true∧E2 n s w m b=true))
def Bspec (n:Notes) (s w:List Int) (M:List Int) (m:Int) (i k:Nat) (B:List (Int×Int)):Prop:=∀ a b:Nat,((a:Int),(b:Int))∈B↔bF n s w M m i k a b
theorem Bspec.start (n:Notes) (s w:List Int) (m:Int):Bspec n s w [] m 0 0 []:=fun a b=>by
 simp[bF]
theorem Bspec.mark {n:Notes} {s w:List Int} {M:List Int} {m m':Int} {B:List (Int×Int)} (h:Bspec n s w M m n.notes.length 0 B):Bspec n s w (M++[m]) m' 0 0 B:=fun a b=>by
 rw[h a b]
 simp only[bF,List.mem_append,List.mem_singleton]
 constructor
 ·rintro⟨h1,h2,h3|⟨h3,h4⟩⟩
  ·obtain⟨x,hx,h⟩:=h3
   exact⟨h1,h2,.inl ⟨x,.inl hx,h⟩⟩
  ·exact⟨h1,h2,.inl ⟨m,.inr rfl,h4⟩⟩
 ·rintro⟨h1,h2,h3|⟨h3,h4⟩⟩
  ·obtain⟨x,hx|rfl,hh⟩:=h3
   ·exact⟨h1,h2,.inl ⟨x,hx,hh⟩⟩
   ·exact⟨h1,h2,.inr ⟨.inl h2,hh⟩⟩
  ·omega
theorem Bspec.row {n:Notes} {s w:List Int} {M:List Int} {m:Int} {i:Nat} {B:List (Int×Int)} (h:Bspec n s w M m i i B):Bspec n s w M m (i+1) 0 B:=fun a b=>by
 rw[h a b]
 simp only[bF]
 refine and_congr_right fun h1=>and_congr_right fun h2=>or_congr_right (and_congr_left fun _=>?_)
 omega
theorem Bspec.skip {n:Notes} {s w:List Int} {M:List Int} {m:Int} {i k:Nat} {B:List (Int×Int)} (h:Bspec n s w M m i k B) (hf:¬ (E2 n s w m i=true∧E2 n s w m k=true)):Bspec n s w M m i (k+1) B:=fun a b=>by
 rw[h a b]
 simp only[bF]
 refine and_congr_right fun h1=>and_congr_right fun h2=>or_congr_right ⟨fun h3=>⟨by omega,h3.2⟩,fun h3=>⟨?_,h3.2⟩⟩
 rcases h3.1 with h4|⟨h4,h5⟩
 ·exact .inl h4
 ·by_cases e:a=k
  ·subst e;subst h4;exact absurd ⟨h3.2.2,h3.2.1⟩ hf
  ·exact .inr ⟨h4,by omega⟩
theorem Bspec.put {n:Notes} {s w:List Int} {M:List Int} {m:Int} {i k:Nat} {B:List (Int×Int)} (h:Bspec n s w M m i k B) (hki:k<i) (hi:i<n.notes.length) (hf:E2 n s w m i=true∧E2 n s w m k=true):Bspec n s w M m i (k+1) (tK ((k:Int),(i:Int)) B):=fun a b=>by
 rw[wZ,h a b]
 simp only[bF,Prod.mk.injEq]
 constructor
 ·rintro (⟨h1,h2,h3⟩|⟨h1,h2⟩)
  ·exact⟨h1,h2,h3.imp id fun h3=>⟨by omega,h3.2⟩⟩
  ·obtain rfl:a=k:=by omega
   obtain rfl:b=i:=by omega
   exact⟨hki,hi,.inr ⟨.inr ⟨rfl,by omega⟩,hf.2,hf.1⟩⟩
 ·rintro⟨h1,h2,h3|⟨h3,h4⟩⟩
  ·exact .inl ⟨h1,h2,.inl h3⟩
  ·by_cases e:b=i∧a=k
   ·obtain⟨rfl,rfl⟩:=e;exact .inr ⟨rfl,rfl⟩
   ·exact .inl ⟨h1,h2,.inr ⟨by omega,h4⟩⟩
theorem Bspec.both {n:Notes} {s w:List Int} {m:Int} {B:List (Int×Int)} (h:Bspec n s w (Y5 n.notes) m 0 0 B) {a b:Nat} (hb:b<n.notes.length):decide (((a:Int),(b:Int))∈B)=(decide (a<b)&&pt n s w a b):=by
 rw[Bool.eq_iff_iff]
 simp only[decide_eq_true_eq,h a b,bF,Bool.and_eq_true,pt,List.any_eq_true]
 constructor
 ·rintro⟨h1,_,h3|h3⟩
  ·exact⟨h1,h3⟩
  ·omega
 ·rintro⟨h1,h3⟩
  exact⟨h1,hb,.inl h3⟩
variable {G:GW}
end Go.Proofs
namespace Go.Proofs
open Go Go.Ab Tryz
theorem uq {p:Int→Bool} {l:List Int}:(G7 p l=-1∧l.filter (fun x=>!p x)=l)∨∃ i:Nat,G7 p l=(i:Int)∧∃ h:i<l.length,p l[i]=true∧(l.take i).filter (fun x=>!p x)=l.take i:=by
 unfold G7
 split
 ·rename_i i h
  rw[List.findIdx?_eq_some_iff_getElem] at h
  obtain⟨hlt,hp,hno⟩:=h
  refine .inr ⟨i,rfl,hlt,hp,List.filter_eq_self.2 fun x hx=>?_⟩
  obtain⟨j,hj,e⟩:=List.mem_take_iff_getElem.1 hx
  have:=hno j (by omega)
  rw[e] at this;simpa using this
 ·rename_i h
  rw[List.findIdx?_eq_none_iff] at h
  exact .inl ⟨rfl,List.filter_eq_self.2 fun x hx=>by simp[h x hx]⟩
theorem kc (X:List (List IC)) (m:Nat):(n4 X).take m=n4 (X.take m):=by simp[n4,List.map_take]
theorem iu {q:Int→Bool} {l:List Int} {j:Nat} (h:j<l.length):(l.take (j+1)).filter q=(l.take j).filter q++(if q l[j]=true then [l[j]] else []):=by
 rw[List.take_succ_eq_append_getElem h,List.filter_append]
 congr 1
 by_cases e:q l[j]=true<;>simp[e]
variable {G:GW}
theorem oB (v:Int):zP prog G 238 [iv v] (bv (decide (999<v))):=by
 refine zf func238 ntmps238 ?_
 try simp only[iv]
 repeat' first|(with_reducible first|refine zz ?_|refine zx ?_|refine zE [0,2] ?_)|simp -dsimp
theorem uE (l:List Int) (m g:Nat) (hm:m≤l.length) (hl:l.length<1000):DCall prog G 237 [.one (.vec 0 g 0 m),.one (.im (.fn (.func 238) []))] [.vec 1 (n4 (l.map l7)) g false] (fun d o=>∃ S:List Int,(S.length=l.length∧S.take ((l.take m).filter fun x=>decide (x≤999)).length=(l.take m).filter fun x=>decide (x≤999))∧d=.one (.vec 0 g 0 ((l.take m).filter fun x=>decide (x≤999)).length)∧o=[.vec 1 (n4 (S.map l7)) g false]):=by
 refine DCall.drop ?_
 refine i7 func237 rfl ntmps237 (by simp) rfl ?_
 have hq:(fun x:Int=>!decide (999<x))=fun x=>decide (x≤999):=funext fun x=>by rw[← decide_not,decide_eq_decide];omega
 have htl:(l.take m).length=m:=by simp;omega
 have c1:∀ objs,DCall prog G 188 [.one (.im (.sl ((l.take m).map l7))),.one (.im (.fn (.func 238) []))] objs (fun d o=>d=iv (G7 (fun x=>decide (999<x)) (l.take m))∧o=objs):=fun objs =>
  DCall.fnArg2 (dX (G:=G) (l.take m) (fun x=>decide (999<x)) 238 [] objs (by simp) (fun x _=>oB x objs) (by simp;omega))
 have hcase:=uq (p:=fun x=>decide (999<x)) (l:=l.take m)
 rw[hq] at hcase
 generalize G7 (fun x=>decide (999<x)) (l.take m)=z at *
 rcases hcase with⟨rfl,hall⟩|⟨i,rfl,hi,hpi,hfi⟩
 ·simp only[List.map_take] at c1
  have hs:=hm
  repeat' first|(with_reducible first|refine zz ?_|refine zr ?_|refine zE [0,1,4,5,6,7,12,19,29] ?_)|simp -dsimp[hs]|refine CallE.thaw c1 ?_ ?_ ?_;(focus simp[hm,kc];done);(focus simp;done)|refine i8 ?_ ?_<;>intro h<;>try simp only[i6] at h
  all_goals try clear hs
  exact⟨l,⟨rfl,by rw[hall,htl]⟩,by rw[hall,htl],rfl⟩
 ·simp only[List.map_take] at c1
  have him:i<m:=by omega
  have hwi:=zk i
  have hL0:l.take i=((l.take m).take (i+1)).filter fun x=>decide (x≤999):=by
   rw[iu hi,hfi,if_neg (by simp at hpi ⊢;omega),List.append_nil,List.take_take,Nat.min_eq_left (by omega)]
  have hs:=za hm hwi
  repeat' first|(with_reducible first|refine zz ?_|refine zE [0,1,4,5,6,7,12,19,29] ?_)|simp -dsimp[hs]|refine CallE.thaw c1 ?_ ?_ ?_;(focus simp[hm,kc];done);(focus simp;done)|refine i8 ?_ ?_<;>intro h<;>try simp only[i6] at h
  all_goals try clear hs
  refine g9 (ι:={ p:Nat×Nat×List Int // p.1≤m∧p.2.1+1≤p.1∧p.2.2.length=l.length∧p.2.2.take p.2.1=((l.take m).take p.1).filter (fun x=>decide (x≤999))∧p.2.2.drop p.1=l.drop p.1 }) (fun p=>⟨42,[(0,.one (.vec 0 g 0 m)),(1,.one (.im (.fn (.func 238) []))),(5,iv (p.1.2.1:Int)),(6,iv (p.1.1:Int))],[.vec 1 (n4 (p.1.2.2.map l7)) g false]⟩) (fun p=>m-p.1.1) ⟨(i+1,i,l),by simp only;omega,by simp only;omega,rfl,hL0,rfl⟩ (zw [0,1,5,6] 1) ?_
  clear c1 hL0 hfi hpi
  rintro⟨⟨j,w,S⟩,hj,hwj,hSl,hSt,hSd⟩
  simp only at hj hwj hSl hSt hSd
  simp only[iv]
  by_cases hlt:j<m
  ·have hw:=zk j
   have hww:=zk w
   have hjS:j<S.length:=by omega
   have hjl:j<l.length:=by omega
   have hwm:w<m:=by omega
   have hwS:w<S.length:=by omega
   have hfs:=iu (q:=fun x=>decide (x≤999)) (show j<(l.take m).length by omega)
   rw[← hSt,List.getElem_take] at hfs
   have e1:S[j]?=l[j]?:=by
    have:=congrArg (fun L:List Int=>L[0]?) hSd
    simpa only[List.getElem?_drop,Nat.add_zero] using this
   rw[List.getElem?_eq_getElem hjl] at e1
   have e2:S[j]=l[j]:=(List.getElem?_eq_some_iff.1 e1).2
   have hdr:S.drop (j+1)=l.drop (j+1):=by
    have:=congrArg (List.drop 1) hSd
    rw[List.drop_drop,List.drop_drop] at this;exact this
   have hset:=fun v:Int=>nQ (v:=v) hwS
   have hdset:∀ v:Int,(S.set w v).drop (j+1)=l.drop (j+1):=fun v=>by
    rw[List.drop_set_of_lt (by omega)];exact hdr
   generalize l[j]=v at *
   have c2:=oB (G:=G) v
   by_cases hv:999<v
   ·rw[decide_eq_true hv] at c2
    rw[if_neg (by simp;omega),List.append_nil] at hfs
    have hs:=za hlt (za hw (za hjS (za e1 e2)))
    repeat' first|(with_reducible first|refine zz ?_|refine zE [0,1,4,5,6,7,12,19,29] ?_)|simp -dsimp[hs]|refine zp c2 ?_|refine i8 ?_ ?_<;>intro h<;>try simp only[i6] at h
    all_goals try clear hs
    all_goals exact zn ⟨(j+1,w,S),by simp only;omega,by simp only;omega,hSl,hfs.symm,hdr⟩ (zv [0,1,5,6])
   ·rw[decide_eq_false hv] at c2
    rw[if_pos (by simp;omega),← hset v] at hfs
    have hs:=za hlt (za hw (za hww (za hjS (za e1 (za e2 (za hwm hwS))))))
    repeat' first|(with_reducible first|refine zz ?_|refine zE [0,1,4,5,6,7,12,19,29] ?_)|simp -dsimp[hs]|refine zp c2 ?_|refine i8 ?_ ?_<;>intro h<;>try simp only[i6] at h
    all_goals try clear hs
    all_goals exact zn ⟨(j+1,w+1,S.set w v),by simp only;omega,by simp only;omega,by simpa using hSl,hfs.symm,hdset v⟩ (zv [0,1,5,6])
  ·obtain rfl:j=m:=by omega
   rw[List.take_of_length_le (by omega:(l.take j).length≤j)] at hSt
   have hw0:w≤j:=by omega
   have hwd:w=((l.take j).filter fun x=>decide (x≤999)).length:=by rw[← hSt];simp;omega
   have hs:=za hlt (za hw0 (za hSl hm))
   repeat' first|(with_reducible first|refine zz ?_|refine zr ?_|refine zE [0,1,4,5,6,7,12,19,29] ?_)|simp -dsimp[hs]|refine i8 ?_ ?_<;>intro h<;>try simp only[i6] at h
   all_goals try clear hs
   all_goals exact⟨uJ S w (j-w),⟨by rw[pj (by omega)];exact hSl,by rw[← hwd,← hSt];exact List.take_left' (by simp;omega)⟩,by rw[hwd],rfl⟩
end Go.Proofs
namespace Go.Proofs
open Go Go.Ab Tryz
variable {G:GW}
theorem tx {l:List Note} {k:Nat} (h:k<l.length):aP (l.take (k+1))=aP (l.take k)++[l[k].frm,l[k].to+1]:=by
 unfold aP
 rw[List.take_succ_eq_append_getElem h,List.flatMap_append];simp
theorem wx (l:List Note):(aP l).length=2*l.length+1:=by
 unfold aP
 have:∀ l:List Note,(l.flatMap fun x=>[x.frm,x.to+1]).length=2*l.length:=fun l=>by
  induction l with
  | nil=>rfl
  | cons a r ih=>rw[List.flatMap_cons,List.length_append,ih,List.length_cons,List.length_cons,List.length_cons,List.length_nil];omega
 rw[List.length_cons,this]
theorem Ag (n:Notes) (hS:C8 G) (hl:n.notes.length<100) (hto:∀ x∈n.notes,1≤x.to∧x.to≤999):zP prog G 195 [.one (.im (G5 n))] (n7 (Y5 n.notes)):=by
 refine zf func195 ntmps195 ?_
 try simp only[iv]
 simp only[G5]
 have hs:=trivial
 repeat' first|(with_reducible first|refine zz ?_|refine zE [0,2,3,5,11,12,13,14] ?_)|simp -dsimp[hs]
 refine g9 (ι:={ p:Nat×Nat // p.1≤n.notes.length }) (fun p=>⟨32,[(3,.one (.vec 1 p.1.2 0 (aP (n.notes.take p.1.1)).length)),(11,.one (.im (.sl (n.notes.map l9)))),(12,iv (n.notes.length:Int)),(13,iv (p.1.1:Int))],[.vec 1 [] 0 true,.vec 1 (n4 ((aP (n.notes.take p.1.1)).map l7)) p.1.2 false]⟩) (fun p=>n.notes.length-p.1.1) ⟨(0,0),by simp⟩ (zv [3,11,12,13] (by simp[aP])) ?_
 rintro⟨⟨k,g⟩,hk⟩
 simp only at hk
 simp only[iv]
 have hrl:=wx (n.notes.take k)
 rw[List.length_take] at hrl
 by_cases hlt:k<n.notes.length
 ·have hw:=zk k
  have hst:=tx hlt
  have hxt:=hto n.notes[k] (List.getElem_mem hlt)
  generalize hx:n.notes[k]=x at *
  have hwt:IntKind.i64.wrap (x.to+1)=x.to+1:=n8 (by omega) (by omega)
  generalize aP (n.notes.take k)=L at *
  have hs:=za hx (za hlt (za hw hwt))
  repeat' first|(with_reducible first|refine zz ?_|refine And.intro (by omega) ?_|refine zE [0,2,3,5,11,12,13,14] ?_)|simp -dsimp[hs]|refine i8 ?_ ?_<;>intro h<;>try simp only[i6] at h
  all_goals exact zn ⟨(k+1,g+1),by simp only;omega⟩ (zw [3,11,12,13] 2 (by simp[hst]))
 ·obtain rfl:k=n.notes.length:=by omega
  rw[List.take_length] at hrl ⊢
  have hE:Y5 n.notes=(o8 (j8 (aP n.notes))).filter fun m=>decide (m≤999):=rfl
  have c1:=hS (aP n.notes) g 1 false (.inl rfl) (by omega)
  have hil:=L8 (aP n.notes)
  have c2:=md (G:=G) (j8 (aP n.notes)) g (by omega)
  have hdl:=Z7 (j8 (aP n.notes))
  rw[hil] at c2
  have hs:=hlt
  repeat' first|(with_reducible first|refine zz ?_|refine zr ?_|refine zE [0,2,3,5,11,12,13,14] ?_)|simp -dsimp[hs]|refine CallE.embed [1] (c1) ?_ ?_ ?_ ?_ ?_ ?_;(focus simp[w9];done);(focus simp;done);(focus simp;done);(focus simp;done);(focus refine s0 ?_;simp[w9,v8];done);try simp -dsimp[p9,w9,hs]|refine CallE.embed_ex [1] (c2) ?_ ?_ ?_ ?_ ?_ ?_;(focus simp[w9];done);(focus simp;done);(focus simp;done);(focus simp;done);(focus refine s0 ?_;simp[w9,v8];done);intro mma hmma;try simp -dsimp[p9,w9,hs]|refine CallE.embed_ex [1] (uE (G:=G) mma (o8 (j8 (aP n.notes))).length g (by omega) (by omega)) ?_ ?_ ?_ ?_ ?_ ?_;(focus simp[w9];done);(focus simp;done);(focus simp;done);(focus simp;done);(focus refine s0 ?_;simp[w9,v8];done);intro mm hmm;try simp -dsimp[p9,w9,hs]|refine i8 ?_ ?_<;>intro h<;>try simp only[i6] at h
  obtain⟨ha1,ha2⟩:=hmma
  obtain⟨hb1,hb2⟩:=hmm
  rw[ha2,← hE] at hb2 ⊢
  have hml:(Y5 n.notes).length≤mm.length:=by rw[← hb2];simp;omega
  have htk:(n4 (mm.map l7)).take (Y5 n.notes).length=n4 ((Y5 n.notes).map l7):=by rw[kc,← List.map_take,hb2]
  simp[hml,htk]
set_option maxRecDepth 4000 in
theorem AQ (n:Notes) (s w:List Int) (hS:C8 G) (hok:cZ n) (hl:n.notes.length≤16) (hsl:s.length<1000) (hwl:w.length<1000):zP prog G 129 [.one (.im (G5 n)),n7 s,n7 w] (Fq (rp n s w)):=by
 refine zf func129 ntmps129 ?_
 try simp only[n7,n7]
 have c1:=Ag n hS (by omega) (fun x hx=>by have:=Cp hok hx;omega)
 have c2:=fun m=>sL (G:=G) n s w m
 have hml:=tT n.notes
 simp only[G5] at c1 ⊢
 simp only[N4,frcCaps,G5,iv,n7,bv,rI,List.map_cons,List.map_nil,F9] at c2
 have hs:=trivial
 repeat' first|with_reducible refine zz ?_|(first|refine zp c1 ?_|with_reducible refine zE [0,1,2,6,7,9,10,11,12,13,14,15,16,17,20,21,22,23,36,37,38,40,41,42,51,63,64,65,66,74,75,76,77,104] ?_);try simp -dsimp[hs]
 all_goals try (simp -dsimp[hs];trace "PRS N26 1")
 all_goals try clear hs
 generalize hMs:Y5 n.notes=Ms at *
 refine g9 (ι:={ p:Nat×List (Int×Int) // p.1≤Ms.length∧∀ m,Bspec n s w (Ms.take p.1) m 0 0 p.2 }) (fun p=>⟨116,[(0,.one (.im (.ip [.sl (n.reg.map e9),.sl (n.notes.map l9),.sl ((nums n.reg).map l7),.sl ((j8 (j6 n.notes)).map l7)]))),(1,n7 s),(2,n7 w),(7,.one (.map 1)),(20,n7 Ms),(21,iv (Ms.length:Int)),(22,iv (p.1.1:Int))],[.vec 2 [] 0 true,.map [.int .i64,.int .i64] (I8 p.1.2)]⟩) (fun p=>Ms.length-p.1.1) ⟨(0,[]),by simp,fun m=>Bspec.start n s w m⟩ (zv [0,1,2,7,20,21,22] (by simp[I8])) ?_
 rintro⟨⟨j,B⟩,hj,hB⟩
 simp only at hj hB
 simp only[iv,n7]
 by_cases hlt:j<Ms.length
 ·have hw:=zk j
  have htk:Ms.take (j+1)=Ms.take j++[Ms[j]]:=List.take_succ_eq_append_getElem hlt
  generalize hm:Ms[j]=m at *
  have c3:=c2 m
  have hs:=za hm hlt
  repeat' first|with_reducible refine zz ?_|refine CallE.embed [] (c3) ?_ ?_ ?_ ?_ ?_ ?_;(focus simp[w9];done);(focus simp;done);(focus simp;done);(focus simp;done);(focus refine s0 ?_;simp[w9,v8];done);try simp -dsimp[p9,w9,hs]|with_reducible refine zE [0,1,2,6,7,9,10,11,12,13,14,15,16,17,20,21,22,23,36,37,38,40,41,42,51,63,64,65,66,74,75,76,77,104] ?_;try simp -dsimp[hs]|refine i8 ?_ ?_<;>intro h<;>try simp only[i6] at h
  all_goals try (simp -dsimp[hs];trace "PRS N26 2")
  all_goals try clear hs
  refine g9 (ι:={ p:Nat×List (Int×Int)×List (Int×Bool) // p.1≤n.notes.length∧ConsM n s w m p.2.2∧Bspec n s w (Ms.take j) m p.1 0 p.2.1 }) (fun p=>⟨116,[(0,.one (.im (.ip [.sl (n.reg.map e9),.sl (n.notes.map l9),.sl ((nums n.reg).map l7),.sl ((j8 (j6 n.notes)).map l7)]))),(1,n7 s),(2,n7 w),(7,.one (.map 1)),(10,.one (.fn (.func 234) [.ptr 7 0,.ptr 2 0,.ptr 3 0,.ptr 4 0,.ptr 5 0,.ptr 8 0])),(20,n7 Ms),(21,iv (Ms.length:Int)),(22,iv (j:Int)),(36,iv (n.notes.length:Int)),(37,iv (p.1.1:Int))],[.vec 2 [] 0 true,.map [.int .i64,.int .i64] (I8 p.1.2.1)]++[.row [.im (.ip [.sl (n.reg.map e9),.sl (n.notes.map l9),.sl ((nums n.reg).map l7),.sl ((j8 (j6 n.notes)).map l7)])],.row [.im (.sl (s.map l7))],.row [.im (.sl (w.map l7))],.row [.im (rI m)],.map [.int .i64] (F9 p.1.2.2),.row [.map 6],.row [.fn (.func 234) [.ptr 7 0,.ptr 2 0,.ptr 3 0,.ptr 4 0,.ptr 5 0,.ptr 8 0]]]⟩) (fun p=>n.notes.length-p.1.1) ⟨(0,B,[]),by simp,ConsM.nil _ _ _ _,hB m⟩ (zv [0,1,2,7,10,20,21,22,36,37] (by simp[F9])) ?_
  rintro⟨⟨i,B2,M⟩,hi,hM,hB2⟩
  simp only at hi hM hB2
  simp only[iv,n7]
  by_cases hli:i<n.notes.length
  ·have hwi:=zk i
   have hs:=hli
   repeat' first|with_reducible refine zz ?_|with_reducible refine zE [0,1,2,6,7,9,10,11,12,13,14,15,16,17,20,21,22,23,36,37,38,40,41,42,51,63,64,65,66,74,75,76,77,104] ?_;try simp -dsimp[hs]|refine i8 ?_ ?_<;>intro h<;>try simp only[i6] at h
   all_goals try (simp -dsimp[hs];trace "PRS N26 3")
   all_goals try clear hs
   refine g9 (ι:={ p:Nat×List (Int×Int)×List (Int×Bool) // p.1≤i∧ConsM n s w m p.2.2∧Bspec n s w (Ms.take j) m i p.1 p.2.1 }) (fun p=>⟨116,[(0,.one (.im (.ip [.sl (n.reg.map e9),.sl (n.notes.map l9),.sl ((nums n.reg).map l7),.sl ((j8 (j6 n.notes)).map l7)]))),(1,n7 s),(2,n7 w),(7,.one (.map 1)),(10,.one (.fn (.func 234) [.ptr 7 0,.ptr 2 0,.ptr 3 0,.ptr 4 0,.ptr 5 0,.ptr 8 0])),(11,iv (i:Int)),(20,n7 Ms),(21,iv (Ms.length:Int)),(22,iv (j:Int)),(36,iv (n.notes.length:Int)),(37,iv (i:Int)),(40,iv (i:Int)),(41,iv (p.1.1:Int))],[.vec 2 [] 0 true,.map [.int .i64,.int .i64] (I8 p.1.2.1)]++[.row [.im (.ip [.sl (n.reg.map e9),.sl (n.notes.map l9),.sl ((nums n.reg).map l7),.sl ((j8 (j6 n.notes)).map l7)])],.row [.im (.sl (s.map l7))],.row [.im (.sl (w.map l7))],.row [.im (rI m)],.map [.int .i64] (F9 p.1.2.2),.row [.map 6],.row [.fn (.func 234) [.ptr 7 0,.ptr 2 0,.ptr 3 0,.ptr 4 0,.ptr 5 0,.ptr 8 0]]]⟩) (fun p=>i-p.1.1) ⟨(0,B2,M),by simp,hM,hB2⟩ (zv [0,1,2,7,10,11,20,21,22,36,37,40,41]) ?_
   rintro⟨⟨k,B3,M3⟩,hk,hM3,hB3⟩
   simp only at hk hM3 hB3
   simp only[iv,n7]
   by_cases hlk:k<i
   ·have hwk:=zk k
    have c4:=CB (G:=G) n s w m (by omega) hsl hwl n.notes.length i (by omega) hli M3 hM3
    have c5:=fun M hM=>CB (G:=G) n s w m (by omega) hsl hwl n.notes.length k (by omega) (by omega) M hM
    have hput:=fun h=>hB3.put hlk hli h
    have hskip:=fun h=>hB3.skip (k:=k) h
    simp only[N4,frcCaps,G5,iv,bv,rI,List.map_cons,List.map_nil] at c4 c5
    cases hfi:E2 n s w m i
    ·rw[hfi] at c4
     have hsk:=hskip (by rw[hfi];simp)
     have hs:=za hlk hwk
     repeat' first|with_reducible refine zz ?_|refine CallE.embed_ex [2,3,4,5,6,7,8] (c4) ?_ ?_ ?_ ?_ ?_ ?_;(focus simp[w9];done);(focus simp;done);(focus simp;done);(focus simp;done);(focus refine s0 ?_;simp[w9,v8];done);intro mm hmm;try simp -dsimp[p9,w9,hs]|with_reducible refine zE [0,1,2,6,7,9,10,11,12,13,14,15,16,17,20,21,22,23,36,37,38,40,41,42,51,63,64,65,66,74,75,76,77,104] ?_;try simp -dsimp[hs]|refine i8 ?_ ?_<;>intro h<;>try simp only[i6] at h
     all_goals try (simp -dsimp[hs];trace "PRS N26 4")
     all_goals try clear hs
     all_goals exact zn ⟨(k+1,B3,mm),by simp only;omega,hmm,hsk⟩ (zw [0,1,2,7,10,11,20,21,22,36,37,40,41] 9)
    ·cases hfk:E2 n s w m k
     ·rw[hfi] at c4
      simp only[hfk] at c5
      have hsk:=hskip (by rw[hfk];simp)
      have hs:=za hlk hwk
      repeat' first|with_reducible refine zz ?_|refine CallE.embed_ex [2,3,4,5,6,7,8] (c4) ?_ ?_ ?_ ?_ ?_ ?_;(focus simp[w9];done);(focus simp;done);(focus simp;done);(focus simp;done);(focus refine s0 ?_;simp[w9,v8];done);intro mma hmma;try simp -dsimp[p9,w9,hs]|refine CallE.embed_ex [2,3,4,5,6,7,8] (c5 mma hmma) ?_ ?_ ?_ ?_ ?_ ?_;(focus simp[w9];done);(focus simp;done);(focus simp;done);(focus simp;done);(focus refine s0 ?_;simp[w9,v8];done);intro mm hmm;try simp -dsimp[p9,w9,hs]|with_reducible refine zE [0,1,2,6,7,9,10,11,12,13,14,15,16,17,20,21,22,23,36,37,38,40,41,42,51,63,64,65,66,74,75,76,77,104] ?_;try simp -dsimp[hs]|refine i8 ?_ ?_<;>intro h<;>try simp only[i6] at h
      all_goals try (simp -dsimp[hs];trace "PRS N26 5")
      all_goals try clear hs
      all_goals exact zn ⟨(k+1,B3,mm),by simp only;omega,hmm,hsk⟩ (zw [0,1,2,7,10,11,20,21,22,36,37,40,41] 9)
     ·rw[hfi] at c4
      simp only[hfk] at c5
      have hpt:=hput ⟨hfi,hfk⟩
      have hs:=za hlk hwk
      repeat' first|with_reducible refine zz ?_|refine CallE.embed_ex [2,3,4,5,6,7,8] (c4) ?_ ?_ ?_ ?_ ?_ ?_;(focus simp[w9];done);(focus simp;done);(focus simp;done);(focus simp;done);(focus refine s0 ?_;simp[w9,v8];done);intro mma hmma;try simp -dsimp[p9,w9,hs]|refine CallE.embed_ex [2,3,4,5,6,7,8] (c5 mma hmma) ?_ ?_ ?_ ?_ ?_ ?_;(focus simp[w9];done);(focus simp;done);(focus simp;done);(focus simp;done);(focus refine s0 ?_;simp[w9,v8];done);intro mm hmm;try simp -dsimp[p9,w9,hs]|with_reducible refine zE [0,1,2,6,7,9,10,11,12,13,14,15,16,17,20,21,22,23,36,37,38,40,41,42,51,63,64,65,66,74,75,76,77,104] ?_;try simp -dsimp[hs]|refine i8 ?_ ?_<;>intro h<;>try simp only[i6] at h
      all_goals try (simp -dsimp[hs];trace "PRS N26 6")
      all_goals try clear hs
      all_goals exact zn ⟨(k+1,tK ((k:Int),(i:Int)) B3,mm),by simp only;omega,hmm,hpt⟩ (zw [0,1,2,7,10,11,20,21,22,36,37,40,41] 9)
   ·obtain rfl:k=i:=by omega
    have hrow:=hB3.row
    have hs:=za hlk hwi
    repeat' first|with_reducible refine zz ?_|with_reducible refine zE [0,1,2,6,7,9,10,11,12,13,14,15,16,17,20,21,22,23,36,37,38,40,41,42,51,63,64,65,66,74,75,76,77,104] ?_;try simp -dsimp[hs]|refine i8 ?_ ?_<;>intro h<;>try simp only[i6] at h
    all_goals try (simp -dsimp[hs];trace "PRS N26 7")
    all_goals try clear hs
    all_goals exact zn ⟨(k+1,B3,M3),by simp only;omega,hM3,hrow⟩ (zw [0,1,2,7,10,20,21,22,36,37] 9)
  ·obtain rfl:i=n.notes.length:=by omega
   have hmk:=fun m'=>hB2.mark (m':=m')
   have hs:=za hli hw
   repeat' first|with_reducible refine zz ?_|with_reducible refine zE [0,1,2,6,7,9,10,11,12,13,14,15,16,17,20,21,22,23,36,37,38,40,41,42,51,63,64,65,66,74,75,76,77,104] ?_;try simp -dsimp[hs]|refine i8 ?_ ?_<;>intro h<;>try simp only[i6] at h
   all_goals try (simp -dsimp[hs];trace "PRS N26 8")
   all_goals try clear hs
   all_goals exact zn ⟨(j+1,B2),by simp only;omega,fun m'=>by rw[htk];exact hmk m'⟩ (zw [0,1,2,7,20,21,22] 2)
 ·obtain rfl:j=Ms.length:=by omega
  rw[List.take_length,← hMs] at hB
  have hboth:=fun a b hb=>(hB 0).both (a:=a) (b:=b) hb
  have hs:=hlt
  repeat' first|with_reducible refine zz ?_|with_reducible refine zE [0,1,2,6,7,9,10,11,12,13,14,15,16,17,20,21,22,23,36,37,38,40,41,42,51,63,64,65,66,74,75,76,77,104] ?_;try simp -dsimp[hs]|refine i8 ?_ ?_<;>intro h<;>try simp only[i6] at h
  all_goals try (simp -dsimp[hs];trace "PRS N26 9")
  all_goals try clear hs
  refine g9 (ι:={ p:Nat×Nat×Bool // p.1≤n.notes.length }) (fun p=>⟨116,[(0,.one (.im (.ip [.sl (n.reg.map e9),.sl (n.notes.map l9),.sl ((nums n.reg).map l7),.sl ((j8 (j6 n.notes)).map l7)]))),(7,.one (.map 1)),(13,.one (.vec 2 p.1.2.1 0 (ld n s w p.1.1).length)),(63,.one (.im (.sl (n.notes.map l9)))),(64,iv (n.notes.length:Int)),(65,iv (p.1.1:Int))],[.vec 2 [] 0 true,.map [.int .i64,.int .i64] (I8 B),.vec 2 (n4 ((ld n s w p.1.1).map sO)) p.1.2.1 p.1.2.2]⟩) (fun p=>n.notes.length-p.1.1) ⟨(0,0,true),by simp⟩ (zv [0,7,13,63,64,65] (by simp[ld])) ?_
  rintro⟨⟨a,g,nl⟩,ha⟩
  simp only at ha
  simp only[iv]
  have hTl:=pk n s w a
  have hTl2:a*n.notes.length≤16*16:=Nat.mul_le_mul (by omega) hl
  by_cases hla:a<n.notes.length
  ·have hwa:=zk a
   have hsa:=mf n s w a
   have hna:A0 n.notes a=n.notes[a].number:=by simp[A0,hla]
   have hxo:n.notes[a]?=some n.notes[a]:=by simp[hla]
   generalize hx:n.notes[a]=x at *
   generalize ld n s w a=T at *
   have hs:=za hx hla
   repeat' first|with_reducible refine zz ?_|with_reducible refine zE [0,1,2,6,7,9,10,11,12,13,14,15,16,17,20,21,22,23,36,37,38,40,41,42,51,63,64,65,66,74,75,76,77,104] ?_;try simp -dsimp[hs]|refine i8 ?_ ?_<;>intro h<;>try simp only[i6] at h
   all_goals try (simp -dsimp[hs];trace "PRS N26 10")
   all_goals try clear hs
   refine g9 (ι:={ p:Nat×Nat×Bool // p.1≤n.notes.length }) (fun p=>⟨116,[(0,.one (.im (.ip [.sl (n.reg.map e9),.sl (n.notes.map l9),.sl ((nums n.reg).map l7),.sl ((j8 (j6 n.notes)).map l7)]))),(7,.one (.map 1)),(13,.one (.vec 2 p.1.2.1 0 (T++ao n s w a p.1.1).length)),(14,iv (a:Int)),(15,.one (.ptr 3 0)),(63,.one (.im (.sl (n.notes.map l9)))),(64,iv (n.notes.length:Int)),(65,iv (a:Int)),(74,.one (.im (.sl (n.notes.map l9)))),(75,iv (n.notes.length:Int)),(76,iv (p.1.1:Int))],[.vec 2 [] 0 true,.map [.int .i64,.int .i64] (I8 B),.vec 2 (n4 ((T++ao n s w a p.1.1).map sO)) p.1.2.1 p.1.2.2,.row ((l9 x).map .im)]⟩) (fun p=>n.notes.length-p.1.1) ⟨(0,g,nl),by simp⟩ (zv [0,7,13,14,15,63,64,65,74,75,76] (by simp[ao])) ?_
   rintro⟨⟨b,g2,nl2⟩,hb⟩
   simp only at hb
   simp only[iv]
   have hRl:=mg n s w a b
   by_cases hlb:b<n.notes.length
   ·have hwb:=zk b
    have hsb:=rq n s w a b
    have hnb:A0 n.notes b=n.notes[b].number:=by simp[A0,hlb]
    have hyo:n.notes[b]?=some n.notes[b]:=by simp[hlb]
    have hbo:=hboth a b hlb
    have hck:pm n s w a b=(decide (((a:Int),(b:Int))∈B)&&(decide (x.drawing≠0)&&decide (x.drawing=n.notes[b].drawing)&&decide (n.notes[b].letter<x.letter))):=by
     rw[hbo,pm,hxo,hyo]
    generalize hy:n.notes[b]=y at *
    rw[hna,hnb] at hsb
    have hTR:(T++ao n s w a b).length≤500:=by rw[List.length_append];omega
    have hsb2:T++ao n s w a (b+1)=(T++ao n s w a b)++(if pm n s w a b=true then [(x.number,y.number)] else []):=by
     rw[hsb,← List.append_assoc]
    clear hsb
    generalize T++ao n s w a b=R at *
    cases hq:decide (((a:Int),(b:Int))∈B)
    ·have hq':¬ ((a:Int),(b:Int))∈B:=by simpa using hq
     rw[hq] at hck
     rw[hck,Bool.false_and,if_neg Bool.false_ne_true,List.append_nil] at hsb2
     have hs:=za hy (za hlb (za hwb hq'))
     repeat' first|with_reducible refine zz ?_|with_reducible refine zE [0,1,2,6,7,9,10,11,12,13,14,15,16,17,20,21,22,23,36,37,38,40,41,42,51,63,64,65,66,74,75,76,77,104] ?_;try simp -dsimp[hs]|refine i8 ?_ ?_<;>intro h<;>try simp only[i6] at h
     all_goals try (simp -dsimp[hs];trace "PRS N26 11")
     all_goals try clear hs
     all_goals exact zn ⟨(b+1,g2,nl2),by simp only;omega⟩ (zw [0,7,13,14,15,63,64,65,74,75,76] 4 (by simp[hsb2]))
    ·have hq':((a:Int),(b:Int))∈B:=by simpa using hq
     rw[hq,Bool.true_and] at hck
     have hs:=za hy (za hlb (za hwb hq'))
     repeat' first|(with_reducible first|refine zz ?_|refine And.intro (by omega) ?_)|with_reducible refine zE [0,1,2,6,7,9,10,11,12,13,14,15,16,17,20,21,22,23,36,37,38,40,41,42,51,63,64,65,66,74,75,76,77,104] ?_;try simp -dsimp[hs]|refine i8 ?_ ?_<;>intro h<;>try simp only[i6] at h|with_reducible refine j0 ?_ ?_<;>intro h<;>have h0:=h<;>(try simp only[i6] at h)<;>have h2:=h<;>(try simp at h2)<;>(replace hs:=za h0 (za h (za h2 hs)))<;>simp -dsimp[hs]
     all_goals try (simp -dsimp[hs];trace "PRS N26 12")
     all_goals try clear hs
     ·have hc:pm n s w a b=true:=by rw[hck];simp only[Bool.and_eq_true,decide_eq_true_eq];exact⟨⟨by assumption,by assumption⟩,by assumption⟩
      rw[if_pos hc] at hsb2
      exact zn ⟨(b+1,g2+1,false),by simp only;omega⟩ (zw [0,7,13,14,15,63,64,65,74,75,76] 4 (by simp[hsb2]<;>omega))
     all_goals
      have hc:pm n s w a b=false:=by rw[hck,← Bool.not_eq_true];simp only[Bool.and_eq_true,decide_eq_true_eq];omega
      rw[hc,if_neg Bool.false_ne_true,List.append_nil] at hsb2
      exact zn ⟨(b+1,g2,nl2),by simp only;omega⟩ (zw [0,7,13,14,15,63,64,65,74,75,76] 4 (by simp[hsb2]<;>omega))
   ·obtain rfl:b=n.notes.length:=by omega
    rw[← hsa]
    have hs:=za hlb hwa
    repeat' first|with_reducible refine zz ?_|with_reducible refine zE [0,1,2,6,7,9,10,11,12,13,14,15,16,17,20,21,22,23,36,37,38,40,41,42,51,63,64,65,66,74,75,76,77,104] ?_;try simp -dsimp[hs]|refine i8 ?_ ?_<;>intro h<;>try simp only[i6] at h
    all_goals try (simp -dsimp[hs];trace "PRS N26 13")
    all_goals try clear hs
    all_goals exact zn ⟨(a+1,g2,nl2),by simp only;omega⟩ (zw [0,7,13,63,64,65] 3)
  ·obtain rfl:a=n.notes.length:=by omega
   have hs:=hla
   repeat' first|(with_reducible first|refine zz ?_|refine zr ?_)|with_reducible refine zE [0,1,2,6,7,9,10,11,12,13,14,15,16,17,20,21,22,23,36,37,38,40,41,42,51,63,64,65,66,74,75,76,77,104] ?_;try simp -dsimp[hs]|refine i8 ?_ ?_<;>intro h<;>try simp only[i6] at h
   all_goals try (simp -dsimp[hs];trace "PRS N26 14")
   all_goals try clear hs
   all_goals simp[rp]
end Go.Proofs
namespace Go.Proofs
open Go Go.Ab
def kb (n:Notes) (s w:List Int) (M:List Int) (m:Int) (a b:Nat) (x y:Nat):Prop:=x<y∧y<n.notes.length∧((∃ m'∈M,E2 n s w m' x=true∧E2 n s w m' y=true)∨((x<a∨x=a∧y<b)∧E2 n s w m x=true∧E2 n s w m y=true))
structure Tspec (n:Notes) (s w:List Int) (M:List Int) (m:Int) (a b:Nat) (L:List Bool):Prop where
 len:L.length=144
 at':∀ x y:Nat,x<12→y<12→(L[x*12+y]?=some true↔kb n s w M m a b x y)
theorem Tspec.start (n:Notes) (s w:List Int) (m:Int):Tspec n s w [] m 0 0 (List.replicate 144 false):=⟨by simp,fun x y hx hy=>by
 have:x*12+y<144:=by omega
 rw[List.getElem?_replicate,if_pos this]
 simp[kb]⟩
theorem Tspec.mark {n:Notes} {s w:List Int} {M:List Int} {m m':Int} {b:Nat} {L:List Bool} (h:Tspec n s w M m n.notes.length b L):Tspec n s w (M++[m]) m' 0 0 L:=⟨h.len,fun x y hx hy=>by
 rw[h.at' x y hx hy]
 simp only[kb,List.mem_append,List.mem_singleton]
 constructor
 ·rintro⟨h1,h2,h3|⟨h3,h4⟩⟩
  ·obtain⟨z,hz,hh⟩:=h3
   exact⟨h1,h2,.inl ⟨z,.inl hz,hh⟩⟩
  ·exact⟨h1,h2,.inl ⟨m,.inr rfl,h4⟩⟩
 ·rintro⟨h1,h2,h3|⟨h3,h4⟩⟩
  ·obtain⟨z,hz|rfl,hh⟩:=h3
   ·exact⟨h1,h2,.inl ⟨z,hz,hh⟩⟩
   ·exact⟨h1,h2,.inr ⟨.inl (by omega),hh⟩⟩
  ·omega⟩
theorem Tspec.row {n:Notes} {s w:List Int} {M:List Int} {m:Int} {a:Nat} {L:List Bool} (h:Tspec n s w M m a n.notes.length L):Tspec n s w M m (a+1) 0 L:=⟨h.len,fun x y hx hy=>by
 rw[h.at' x y hx hy]
 simp only[kb]
 refine and_congr_right fun h1=>and_congr_right fun h2=>or_congr_right (and_congr_left fun _=>?_)
 omega⟩
theorem Tspec.put {n:Notes} {s w:List Int} {M:List Int} {m:Int} {a b:Nat} {L:List Bool} (h:Tspec n s w M m a b L) (hab:a<b) (hb:b<n.notes.length) (hn:n.notes.length≤12) {v:Bool} (hv:L[a*12+b]?=some v):Tspec n s w M m a (b+1) (L.set (a*12+b) (v||(E2 n s w m a&&E2 n s w m b))):=⟨by rw[List.length_set];exact h.len,fun x y hx hy=>by
 have ho:=h.at' x y hx hy
 by_cases e:x=a∧y=b
 ·obtain⟨rfl,rfl⟩:=e
  have hl:x*12+y<L.length:=by rw[h.len];omega
  rw[List.getElem?_set_self hl]
  rw[hv] at ho
  simp only[Option.some.injEq,Bool.or_eq_true,Bool.and_eq_true] at ho ⊢
  rw[ho]
  simp only[kb]
  constructor
  ·rintro (⟨h1,h2,h3⟩|h4)
   ·exact⟨h1,h2,h3.imp id fun h3=>⟨by omega,h3.2⟩⟩
   ·exact⟨hab,hb,.inr ⟨by simp,h4⟩⟩
  ·rintro⟨h1,h2,h3|⟨h3,h4⟩⟩
   ·exact .inl ⟨h1,h2,.inl h3⟩
   ·exact .inr h4
 ·have hne:a*12+b≠x*12+y:=by omega
  rw[List.getElem?_set_ne hne,ho]
  simp only[kb]
  refine and_congr_right fun h1=>and_congr_right fun h2=>or_congr_right (and_congr_left fun _=>?_)
  omega⟩
theorem Tspec.both {n:Notes} {s w:List Int} {M:List Int} {m:Int} {L:List Bool} (h:Tspec n s w M m 0 0 L) (hM:∀ m',m'∈M↔m'∈Y5 n.notes) {a b:Nat} (hab:a<b) (hb:b<n.notes.length) (hn:n.notes.length≤12):L[a*12+b]?=some (pt n s w a b):=by
 have ho:=h.at' a b (by omega) (by omega)
 have hl:a*12+b<L.length:=by rw[h.len];omega
 rw[List.getElem?_eq_getElem hl] at ho ⊢
 congr 1
 rw[Bool.eq_iff_iff]
 rw[Option.some.injEq] at ho
 rw[ho]
 simp only[kb,pt,List.any_eq_true,Bool.and_eq_true]
 constructor
 ·rintro⟨_,_,h3|h3⟩
  ·obtain⟨z,hz,hh⟩:=h3
   exact⟨z,(hM z).1 hz,hh⟩
  ·omega
 ·rintro⟨z,hz,hh⟩
  exact⟨hab,hb,.inl ⟨z,(hM z).2 hz,hh⟩⟩
end Go.Proofs
namespace Go.Ab
open Go
def FR (L:List Bool):List DC:=L.map fun b=>.im (.raw (.bool b))
@[simp] theorem pV:∀ (n k:Nat),zcells (List.replicate n (.bool false)) k=(List.replicate n (.im (.raw (.bool false))),[])
 | 0,_=>rfl
 | n+1,k=>by rw[List.replicate_succ,List.replicate_succ,zcells,pV n k];exact fun h=>by cases h
@[simp] theorem FM (m:Nat) (O:List DObj) (L:List Bool):(FR L).map (fz m O)=FR L:=by
 simp only[FR,List.map_map]
 exact List.map_congr_left fun x _=>by simp[fz]
end Go.Ab
namespace Go.Proofs
open Go Go.Ab
variable {G:GW}
end Go.Proofs
namespace Go.Proofs
open Go Go.Ab
variable {G:GW}
def rm (n:Notes) (s:List Int):List (Int×Int):=if r5 n s 1=0 then rp n s [] else []
open Go Go.Ab Tryz
theorem wT (n:Notes) (s:List Int) (hG:s6 G) (hN:M7 G) (hS:C8 G) (hs:se n) (hsl:s.length<1000):zP prog G 65 [l4 n,n7 s] (.tup [Fq (rm n s),iv (r5 n s 1)]):=by
 refine zf func65 ntmps65 ?_
 try simp only[l4,n7]
 have c1:=sU n s 1 hG hN hS hs hsl
 unfold rm
 by_cases h0:r5 n s 1=0
 ·rw[h0,show O0 n s 1=.one (.im (G5 n)) by unfold O0;rw[if_pos h0]] at c1
  have hnk:=Y4 (yp h0).1
  have c2:=AQ (G:=G) n s [] hS hnk.2.2.1 (by omega) hsl (by simp)
  simp only[G5,n7,iv,List.map_nil] at c1 c2
  rw[if_pos h0]
  have hs:=trivial
  repeat' first|(with_reducible first|refine zz ?_|refine zr ?_|refine zE [0,1,2,4,5,6,7,15] ?_)|simp -dsimp[hs]|refine zp c1 ?_|refine zp c2 ?_|refine i8 ?_ ?_<;>intro h<;>try simp only[i6] at h
  all_goals try clear hs
  all_goals simp[h0]
 ·rw[show O0 n s 1=.one (.im (.raw (.pointer none))) by unfold O0;rw[if_neg h0]] at c1
  rw[if_neg h0]
  simp only[n7,iv] at c1
  have hs:=h0
  repeat' first|(with_reducible first|refine zz ?_|refine zr ?_|refine zE [0,1,2,4,5,6,7,15] ?_)|simp -dsimp[hs]|refine zp c1 ?_|refine i8 ?_ ?_<;>intro h<;>try simp only[i6] at h
  all_goals try clear hs
  all_goals simp[h0]
attribute [simp] D6 lD E8 N8 nilV bu ZK
theorem oJ (n:Nat) (L:List Desk) (s:Susp) (hs:bR n s) (so:Bool) (hK:eD G) (hd:∀ d∈L,DkOk n d) (hl:L.length<1000000):DCall prog G 130 (bv so :: [DC.ptr 0 0,DC.ptr 1 0].map .one) [.row [.im (.sl (L.map bY))],.row ((l5 s).map .im)] (fun r o=>r=bv (L.any fun d=>U8 d s so)∧o=[.row [.im (.sl (L.map bY))],.row ((l5 s).map .im)]):=by
 refine DCall.drop ?_
 have c1:=iI (G:=G) L (fun d=>U8 d s so) 131 [.ptr 0 0,.ptr 1 0] [.row ((l5 s).map .im),.row [.im (.raw (.bool so))]] (by simp) (fun d hdm=>ue n s hs so hK d (hd d hdm)) hl
 simp only[l5,rI,List.map_cons,List.map_nil] at c1
 refine i7 func130 rfl ntmps130 (by simp) rfl ?_
 simp only[l5,rI,List.map_cons,List.map_nil]
 have hs:=trivial
 repeat' first|(with_reducible first|refine zz ?_|refine zr ?_|refine zE [0,1,2,3,4] ?_)|simp -dsimp[hs]|refine CallE.embed [1,2] (c1) ?_ ?_ ?_ ?_ ?_ ?_;(focus simp[w9];done);(focus simp;done);(focus simp;done);(focus simp;done);(focus refine s0 ?_;simp[w9,v8];done);try simp -dsimp[p9,w9,hs]|with_reducible refine And.intro ?_ ?_
 all_goals try clear hs
theorem jW (n:Nat) (L:List Desk) (s:Susp) (hs:bR n s) (hK:eD G) (hd:∀ d∈L,DkOk n d) (hl:L.length<1000000):zP prog G 67 [cp L,B5 s] (vA (Q2 L s)):=by
 refine zf func67 ntmps67 ?_
 try simp only[iv]
 have c1:=oJ (G:=G) n L s hs true hK hd hl
 have c2:=oJ (G:=G) n L s hs false hK hd hl
 unfold Q2
 generalize (L.any fun d=>U8 d s true)=b1 at *
 generalize (L.any fun d=>U8 d s false)=b2 at *
 simp only[l5,rI,bv,List.map_cons,List.map_nil] at c1 c2
 simp only[cp]
 have hs:True:=trivial
 cases b1<;>cases b2
 all_goals
  have hs:=trivial
  repeat' first|(with_reducible first|refine zz ?_|refine zr ?_|refine zE [0,1,2,3,4,5,7,11] ?_)|simp -dsimp[hs]|refine zh c1 ?_|refine zh c2 ?_|refine i8 ?_ ?_<;>intro h<;>try simp only[i6] at h
  all_goals try clear hs
 all_goals simp
theorem xk (c:Case) (s:Susp) (h1:0≤s.kind∧s.kind≤255) (hn:c.pieces.length<100000):zP prog G 66 [m6 c,B5 s] (bv (pQ c.pieces.length s)):=by
 refine zf func66 ntmps66 ?_
 try simp only[iv]
 have w3:IntKind.i64.wrap s.kind=s.kind:=n8 (by omega) (by omega)
 have w4:IntKind.i64.wrap ((c.pieces.length:Int)-1)=(c.pieces.length:Int)-1:=n8 (by omega) (by omega)
 have c1:=Z0 (G:=G) 2 3 [s.kind] (by simp)
 have c2:=Z0 (G:=G) 0 ((c.pieces.length:Int)-1) [s.index] (by simp)
 rw[show ([s.kind].all fun y=>decide (2≤y)&&decide (y≤3))=(decide (2≤s.kind)&&decide (s.kind≤3)) by simp] at c1
 rw[show ([s.index].all fun y=>decide (0≤y)&&decide (y≤(c.pieces.length:Int)-1))=(decide (0≤s.index)&&decide (s.index≤(c.pieces.length:Int)-1)) by simp] at c2
 have hE:pQ c.pieces.length s=if s.kind=1 then decide (s.index=0) else (decide (2≤s.kind)&&decide (s.kind≤3))&&(decide (0≤s.index)&&decide (s.index≤(c.pieces.length:Int)-1)):=rfl
 simp only[m6,j4]
 by_cases hk:s.kind=1
 ·rw[if_pos hk] at hE
  rw[hE]
  have hs:=hk
  repeat' first|(with_reducible first|refine zz ?_|refine zr ?_|refine zE [0,1,2,3,4,7] ?_)|simp -dsimp[hs]|refine i8 ?_ ?_<;>intro h<;>try simp only[i6] at h
 ·rw[if_neg hk] at hE
  rw[hE]
  generalize (decide (2≤s.kind)&&decide (s.kind≤3))=b1 at *
  generalize (decide (0≤s.index)&&decide (s.index≤(c.pieces.length:Int)-1))=b2 at *
  have hs:True:=trivial
  cases b1
  all_goals
   have hs:=za hk (za w3 w4)
   repeat' first|(with_reducible first|refine zz ?_|refine zr ?_|refine zE [0,1,2,3,4,7] ?_)|simp -dsimp[hs]|refine zt c1 ?_ ?_ ?_;(focus simp;done);focus (simp;done)|refine zt c2 ?_ ?_ ?_;(focus simp;done);focus (simp;done)|refine i8 ?_ ?_<;>intro h<;>try simp only[i6] at h
  all_goals simp
noncomputable def iH (c:Case) (s:Susp):Int:=if P2 c≠0 then P2 c else if pQ c.pieces.length s=true then 0 else 6
noncomputable def eC (c:Case) (s:Susp):Int:=if iH c s=0 then Q2 (E9 c) s else 0
theorem yn (c:Case) (s:Susp) (h1:0≤s.kind∧s.kind≤255) (hG:s6 G) (hN:M7 G) (hS:C8 G) (hR:F0 G) (hC:V9 G) (hK:eD G) (hk:KC c):zP prog G 19 [m6 c,B5 s] (.tup [vA (eC c s),iv (iH c s)]):=by
 refine zf func19 ntmps19 ?_
 try simp only[iv]
 have c1:=nx (G:=G) c hG hN hS hR hC hk
 have hq:=hk.q
 by_cases h0:P2 c=0
 ·have c2:=xk (G:=G) c s h1 (by omega)
  rw[h0,show vB c=E9 c by unfold vB;rw[if_pos h0]] at c1
  have hE:iH c s=if pQ c.pieces.length s=true then 0 else 6:=by unfold iH;rw[if_neg (by simp[h0])]
  have hdl:=ma (bb h0).1
  simp only[m6,j4,B5,l5,cp,rI,List.map_cons,List.map_nil] at c1 c2
  by_cases hb:pQ c.pieces.length s=true
  ·have c3:=jW (G:=G) c.pieces.length (E9 c) s (mS hb) hK (pf hk) (by omega)
   rw[if_pos hb] at hE
   have hO:eC c s=Q2 (E9 c) s:=by unfold eC;rw[if_pos hE]
   rw[hE,hO]
   rw[hb] at c2
   simp only[B5,l5,cp,rI,List.map_cons,List.map_nil] at c3
   simp only[m6,j4,B5,l5,rI,List.map_cons,List.map_nil]
   have hs:=trivial
   repeat' first|(with_reducible first|refine zz ?_|refine zr ?_|refine zE [0,1,2,3,4,5,6,7,14,19] ?_)|simp -dsimp[hs]|refine zp c1 ?_|refine zp c2 ?_|refine zp c3 ?_|refine i8 ?_ ?_<;>intro h<;>try simp only[i6] at h
  ·rw[if_neg hb] at hE
   have hO:eC c s=0:=by unfold eC;rw[if_neg (by rw[hE];decide)]
   rw[hE,hO]
   rw[Bool.not_eq_true] at hb
   rw[hb] at c2
   simp only[m6,j4,B5,l5,rI,List.map_cons,List.map_nil]
   have hs:=trivial
   repeat' first|(with_reducible first|refine zz ?_|refine zr ?_|refine zE [0,1,2,3,4,5,6,7,14,19] ?_)|simp -dsimp[hs]|refine zp c1 ?_|refine zp c2 ?_|refine i8 ?_ ?_<;>intro h<;>try simp only[i6] at h
 ·have hE:iH c s=P2 c:=by unfold iH;rw[if_pos h0]
  have hO:eC c s=0:=by unfold eC;rw[if_neg (by rw[hE];exact h0)]
  rw[hE,hO]
  simp only[m6,j4,B5,l5,cp,rI,List.map_cons,List.map_nil] at c1 ⊢
  have hs:=h0
  repeat' first|(with_reducible first|refine zz ?_|refine zr ?_|refine zE [0,1,2,3,4,5,6,7,14,19] ?_)|simp -dsimp[hs]|refine zp c1 ?_|refine i8 ?_ ?_<;>intro h<;>try simp only[i6] at h
noncomputable def iG (c:Case) (t:List Int) (s:Susp):Int:=if P2 c≠0 then P2 c else if C0 (j8 (j6 c.p.n.notes)) t=false then 31 else if pQ c.pieces.length s=true then 0 else 6
noncomputable def bw (c:Case) (t:List Int) (s:Susp):Int:=if iG c t s=0 then Q2 [w0 c t] s else 0
theorem Db (c:Case) (t:List Int) (s:Susp) (h1:0≤s.kind∧s.kind≤255) (htl:t.length<1000) (hG:s6 G) (hN:M7 G) (hS:C8 G) (hR:F0 G) (hC:V9 G) (hK:eD G) (hk:KC c):zP prog G 17 [m6 c,n7 t,B5 s] (.tup [vA (bw c t s),iv (iG c t s)]):=by
 refine zf func17 ntmps17 ?_
 try simp only[n7]
 have c1:=nx (G:=G) c hG hN hS hR hC hk
 have hq:=hk.q
 by_cases h0:P2 c=0
 ·have c2:=xk (G:=G) c s h1 (by omega)
  have c4:=wT (G:=G) c.p.n t hG hN hS hk.p.n htl
  obtain⟨he,_⟩:=bb h0
  obtain⟨hn0,_,_⟩:=E1 (F6 he).1
  rw[h0] at c1
  generalize vB c=X at c1
  generalize rm c.p.n t=Y at c4
  have hA:r5 c.p.n t 1=if C0 (j8 (j6 c.p.n.notes)) t=false then 31 else 0:=by
   unfold r5;rw[if_neg (by simp[hn0])];simp
  rw[hA] at c4
  have hE:iG c t s=if C0 (j8 (j6 c.p.n.notes)) t=false then 31 else if pQ c.pieces.length s=true then 0 else 6:=by unfold iG;rw[if_neg (by simp[h0])]
  cases ht:C0 (j8 (j6 c.p.n.notes)) t
  ·rw[if_pos ht] at hE c4
   have hO:bw c t s=0:=by unfold bw;rw[if_neg (by rw[hE];decide)]
   rw[hE,hO]
   simp only[m6,j4,B5,l5,cp,rI,l4,m4,List.map_cons,List.map_nil] at c1 c4 ⊢
   have hs:=trivial
   repeat' first|(with_reducible first|refine zz ?_|refine zr ?_|refine zE [0,1,2,3,5,6,7,9,11,18,29,34] ?_)|simp -dsimp[hs]|refine zp c1 ?_|refine zp c4 ?_|refine i8 ?_ ?_<;>intro h<;>try simp only[i6] at h
  ·rw[if_neg (by simp[ht])] at hE c4
   have c5:=mn (G:=G) c t he ht htl hG hN hS hR hC hk
   by_cases hb:pQ c.pieces.length s=true
   ·have c3:=jW (G:=G) c.pieces.length [w0 c t] s (mS hb) hK (by intro d hd;rw[List.mem_singleton] at hd;subst hd;exact sR hk t) (by simp)
    rw[if_pos hb] at hE
    have hO:bw c t s=Q2 [w0 c t] s:=by unfold bw;rw[if_pos hE]
    rw[hE,hO]
    rw[hb] at c2
    generalize Q2 [w0 c t] s=kk at *
    generalize w0 c t=dd at *
    simp only[m6,j4,B5,l5,cp,bY,rI,l4,m4,List.map_cons,List.map_nil] at c1 c2 c3 c4 c5 ⊢
    have hs:=trivial
    repeat' first|(with_reducible first|refine zz ?_|refine zr ?_)|simp -dsimp[hs]|refine zp c1 ?_|refine zp c4 ?_|refine zp c2 ?_|refine zq c5 ?_|refine zq c3 ?_|refine zM 9 41 8 [0,1,2,3,5,6,7,9,11,18,29,34] ?_|with_reducible refine zE [0,1,2,3,5,6,7,9,11,18,29,34] ?_|refine i8 ?_ ?_<;>intro h<;>try simp only[i6] at h
   ·rw[if_neg hb] at hE
    have hO:bw c t s=0:=by unfold bw;rw[if_neg (by rw[hE];decide)]
    rw[hE,hO]
    rw[Bool.not_eq_true] at hb
    rw[hb] at c2
    simp only[m6,j4,B5,l5,cp,rI,l4,m4,List.map_cons,List.map_nil] at c1 c2 c4 ⊢
    have hs:=trivial
    repeat' first|(with_reducible first|refine zz ?_|refine zr ?_|refine zE [0,1,2,3,5,6,7,9,11,18,29,34] ?_)|simp -dsimp[hs]|refine zp c1 ?_|refine zp c4 ?_|refine zp c2 ?_|refine i8 ?_ ?_<;>intro h<;>try simp only[i6] at h
 ·have hE:iG c t s=P2 c:=by unfold iG;rw[if_pos h0]
  have hO:bw c t s=0:=by unfold bw;rw[if_neg (by rw[hE];exact h0)]
  rw[hE,hO]
  simp only[m6,j4,B5,l5,cp,rI,List.map_cons,List.map_nil] at c1 ⊢
  have hs:=h0
  repeat' first|(with_reducible first|refine zz ?_|refine zr ?_|refine zE [0,1,2,3,5,6,7,9,11,18,29,34] ?_)|simp -dsimp[hs]|refine zp c1 ?_|refine i8 ?_ ?_<;>intro h<;>try simp only[i6] at h
attribute [simp] D6 lD E8 N8 nilV bu ZK
theorem eu (c:Case) (hk:KC c):zP prog G 69 [m6 c] (iv (P2 c)):=by
 refine zf func69 ntmps69 ?_
 try simp only[iv]
 have c1:=zN (G:=G) c hk
 unfold P2
 generalize B8 c=e at *
 generalize al c=f at *
 simp only[m6,j4] at c1 ⊢
 by_cases he:e=0
 ·subst he
  by_cases hf:f=0
  ·subst hf
   have hs:=trivial
   repeat' first|(with_reducible first|refine zz ?_|refine zr ?_)|(first|refine zp c1 ?_|with_reducible refine zE [0,1,2,3,4,11,14] ?_);try simp -dsimp[hs]|refine i8 ?_ ?_<;>intro h<;>try simp only[i6] at h
   all_goals try (simp -dsimp[hs];trace "PRS R37 1")
  ·have hs:=hf
   repeat' first|(with_reducible first|refine zz ?_|refine zr ?_)|(first|refine zp c1 ?_|with_reducible refine zE [0,1,2,3,4,11,14] ?_);try simp -dsimp[hs]|refine i8 ?_ ?_<;>intro h<;>try simp only[i6] at h
   all_goals try (simp -dsimp[hs];trace "PRS R37 2")
 ·have hs:=he
  repeat' first|(with_reducible first|refine zz ?_|refine zr ?_)|(first|refine zp c1 ?_|with_reducible refine zE [0,1,2,3,4,11,14] ?_);try simp -dsimp[hs]|refine i8 ?_ ?_<;>intro h<;>try simp only[i6] at h
  all_goals try (simp -dsimp[hs];trace "PRS R37 3")
theorem jx (c:Case) (s:Susp) (hn:c.pieces.length<100000):zP prog G 37 [m6 c,B5 s] (bv (pQ c.pieces.length s)):=by
 refine zf func37 ntmps37 ?_
 try simp only[iv]
 have w4:IntKind.i64.wrap ((c.pieces.length:Int)-1)=(c.pieces.length:Int)-1:=n8 (by omega) (by omega)
 have c2:=I0 (G:=G) s.index 0 ((c.pieces.length:Int)-1)
 have hE:pQ c.pieces.length s=if s.kind=1 then decide (s.index=0) else (decide (2≤s.kind)&&decide (s.kind≤3))&&(decide (0≤s.index)&&decide (s.index≤(c.pieces.length:Int)-1)):=rfl
 rw[hE]
 generalize (decide (0≤s.index)&&decide (s.index≤(c.pieces.length:Int)-1))=b2 at *
 simp only[m6,j4]
 by_cases hk:s.kind=1
 ·rw[if_pos hk]
  have hs:=hk
  repeat' first|(with_reducible first|refine zz ?_|refine zr ?_)|with_reducible refine zE [0,1,2,3,4,6,7,12] ?_;try simp -dsimp[hs]|refine i8 ?_ ?_<;>intro h<;>try simp only[i6] at h
  all_goals try (simp -dsimp[hs];trace "PRS R37 4")
 ·rw[if_neg hk]
  by_cases h2:s.kind=2
  ·rw[show (decide (2≤s.kind)&&decide (s.kind≤3))=true by rw[h2];rfl]
   have hs:=za h2 w4
   repeat' first|(with_reducible first|refine zz ?_|refine zr ?_)|(first|refine zp c2 ?_|with_reducible refine zE [0,1,2,3,4,6,7,12] ?_);try simp -dsimp[hs]|refine i8 ?_ ?_<;>intro h<;>try simp only[i6] at h
   all_goals try (simp -dsimp[hs];trace "PRS R37 5")
  ·by_cases h3:s.kind=3
   ·rw[show (decide (2≤s.kind)&&decide (s.kind≤3))=true by rw[h3];rfl]
    have hs:=za h3 w4
    repeat' first|(with_reducible first|refine zz ?_|refine zr ?_)|(first|refine zp c2 ?_|with_reducible refine zE [0,1,2,3,4,6,7,12] ?_);try simp -dsimp[hs]|refine i8 ?_ ?_<;>intro h<;>try simp only[i6] at h
    all_goals try (simp -dsimp[hs];trace "PRS R37 6")
   ·rw[show (decide (2≤s.kind)&&decide (s.kind≤3))=false by simp;omega]
    have hs:=za hk (za h2 h3)
    repeat' first|(with_reducible first|refine zz ?_|refine zr ?_)|with_reducible refine zE [0,1,2,3,4,6,7,12] ?_;try simp -dsimp[hs]|refine i8 ?_ ?_<;>intro h<;>try simp only[i6] at h
    all_goals try (simp -dsimp[hs];trace "PRS R37 7")
def FH (a b:Bool):Int:=if a=false then 0 else if b=false then 2 else 1
theorem nY (a b:Bool):zP prog G 71 [bv a,bv b] (vA (FH a b)):=by
 refine zf func71 ntmps71 ?_
 try simp only[bv,bv]
 cases a<;>cases b
 all_goals
  have hs:=trivial
  repeat' first|(with_reducible first|refine zz ?_|refine zr ?_)|with_reducible refine zE [0,1,4,5,10] ?_;try simp -dsimp[hs]|refine i8 ?_ ?_<;>intro h<;>try simp only[i6] at h
  all_goals try (simp -dsimp[hs];trace "PRS R37 8")
 all_goals rfl
def zm (k i:Nat):Susp:=⟨(k:Int),(i:Int)⟩
def vE (n kd:Nat):List Susp:=⟨1,0⟩ :: (List.range (kd-2)).flatMap fun j=>(List.range n).map (zm (j+2))
theorem xi (n kd:Nat) (h:2≤kd):vE n (kd+1)=vE n kd++(List.range n).map (zm kd):=by
 unfold vE
 rw[show kd+1-2=(kd-2)+1 by omega,List.range_succ,List.flatMap_append,List.flatMap_singleton,show kd-2+2=kd by omega]
 rfl
theorem Ap (n:Nat):vE n 4=bO n:=by
 unfold vE bO jP mX
 simp only[if_true,← List.map_eq_flatMap]
 simp[List.range_succ]
 rfl
theorem Ao (n:Nat):∀ kd,kd≤4→(vE n kd).length≤1+2*n:=by
 intro kd hk
 have:kd-2=0∨kd-2=1∨kd-2=2:=by omega
 unfold vE
 rcases this with h|h|h<;>simp[h,List.range_succ]<;>omega
theorem BW (c:Case) (hn:c.pieces.length<100000):zP prog G 75 [m6 c] (R9 (bO c.pieces.length)):=by
 refine zf func75 ntmps75 ?_
 try simp only[iv]
 simp only[m6,j4]
 rw[← Ap]
 have hs:=trivial
 repeat' first|with_reducible refine zz ?_|with_reducible refine zE [0,1,2,3,4,5,9,16] ?_;try simp -dsimp[hs]
 all_goals try (simp -dsimp[hs];trace "PRS R37 9")
 refine g9 (ι:={ p:Nat×Nat // 2≤p.1∧p.1≤4 }) (fun p=>⟨27,[(1,.one (.ptr 0 0)),(3,.one (.vec 2 p.1.2 0 (vE c.pieces.length p.1.1).length)),(4,iv (p.1.1:Int))],[.row ((j4 c).map .im),.vec 2 [] 0 true,.vec 2 (n4 ((vE c.pieces.length p.1.1).map l5)) p.1.2 false]⟩) (fun p=>4-p.1.1) ⟨(2,0),by simp⟩ (zv [1,3,4] (by simp[vE])) ?_
 rintro⟨⟨kd,g⟩,hk2,hk4⟩
 simp only at hk2 hk4
 simp only[iv]
 have hln:=Ao c.pieces.length kd hk4
 by_cases hlt:kd≤3
 ·have hlt':(kd:Int)≤3:=by omega
  have hw:=zk kd
  have hst:=xi c.pieces.length kd hk2
  have hw8:IntKind.u8.wrap (kd:Int)=(kd:Int):=by
   have:kd=2∨kd=3:=by omega
   rcases this with rfl|rfl<;>rfl
  generalize vE c.pieces.length kd=L at *
  have hs:=hlt'
  repeat' first|with_reducible refine zz ?_|with_reducible refine zE [0,1,2,3,4,5,9,16] ?_;try simp -dsimp[hs]|refine i8 ?_ ?_<;>intro h<;>try simp only[i6] at h
  all_goals try (simp -dsimp[hs];trace "PRS R37 10")
  refine g9 (ι:={ p:Nat×Nat // p.1≤c.pieces.length }) (fun p=>⟨27,[(1,.one (.ptr 0 0)),(3,.one (.vec 2 p.1.2 0 (L++(List.range p.1.1).map (zm kd)).length)),(4,iv (kd:Int)),(5,iv (p.1.1:Int))],[.row ((j4 c).map .im),.vec 2 [] 0 true,.vec 2 (n4 ((L++(List.range p.1.1).map (zm kd)).map l5)) p.1.2 false]⟩) (fun p=>c.pieces.length-p.1.1) ⟨(0,g),by simp⟩ (zv [1,3,4,5]) ?_
  rintro⟨⟨i,g2⟩,hi⟩
  simp only at hi
  simp only[iv]
  have hll:(L++(List.range i).map (zm kd)).length=L.length+i:=by simp
  by_cases hil:i<c.pieces.length
  ·have hil':(i:Int)<c.pieces.length:=by omega
   have hwi:=zk i
   have hsn:(L++(List.range (i+1)).map (zm kd))=(L++(List.range i).map (zm kd))++[⟨(kd:Int),(i:Int)⟩]:=by rw[List.range_succ];simp[zm]
   generalize (L++(List.range i).map (zm kd))=X at *
   have hs:=za hil (za hil' (za hwi hw8))
   repeat' first|(with_reducible first|refine zz ?_|refine And.intro (by omega) ?_)|with_reducible refine zE [0,1,2,3,4,5,9,16] ?_;try simp -dsimp[hs]|refine i8 ?_ ?_<;>intro h<;>try simp only[i6] at h
   all_goals try (simp -dsimp[hs];trace "PRS R37 11")
   all_goals exact zn ⟨(i+1,g2+1),by simp only;omega⟩ (zw [1,3,4,5] 3 (by simp[hsn]))
  ·obtain rfl:i=c.pieces.length:=by omega
   have hil':¬ (c.pieces.length:Int)<c.pieces.length:=by omega
   rw[← hst] at hll
   rw[← hst]
   have hs:=za hil (za hil' hw)
   repeat' first|with_reducible refine zz ?_|with_reducible refine zE [0,1,2,3,4,5,9,16] ?_;try simp -dsimp[hs]|refine i8 ?_ ?_<;>intro h<;>try simp only[i6] at h
   all_goals try (simp -dsimp[hs];trace "PRS R37 12")
   all_goals exact zn ⟨(kd+1,g2),by simp only;omega,by simp only;omega⟩ (zw [1,3,4] 3)
 ·obtain rfl:kd=4:=by omega
  generalize vE c.pieces.length 4=L at *
  have hs:=trivial
  repeat' first|(with_reducible first|refine zz ?_|refine zr ?_)|with_reducible refine zE [0,1,2,3,4,5,9,16] ?_;try simp -dsimp[hs]|refine i8 ?_ ?_<;>intro h<;>try simp only[i6] at h
  all_goals try (simp -dsimp[hs];trace "PRS R37 13")
  all_goals simp
theorem qo (c:Case) (s:List Int) (he:B8 c=0) (ht:C0 (j8 (j6 c.p.n.notes)) s=true) (hsl:s.length<1000) (hk:KC c):zP prog G 90 [m6 c,n7 s] (bv (pP c s)):=by
 refine zf func90 ntmps90 ?_
 try simp only[n7]
 obtain⟨hp0,hcb⟩:=F6 he
 obtain⟨hn0,hpb,hr0⟩:=E1 hp0
 have hok:=V4 hcb
 have hl8:=hok.l
 have hmc:1≤c.machine∧c.machine≤999:=by
  rw[N1,Bool.and_eq_true] at hcb
  have:=hcb.1
  simp only[ce,Bool.and_eq_true,decide_eq_true_eq] at this
  exact this.2.1
 have hA:r5 c.p.n s c.machine=0:=by
  unfold r5;rw[if_neg (by simp[hn0]),if_neg (by rw[ht];decide),if_pos hmc]
 have c1:=jz (G:=G) c.p.n s c.machine hk.p.n hsl
 rw[hA,if_pos rfl] at c1
 have hnl:=n0 c.p.n.reg c.p.n.reg.length
 have hr80:=hk.p.n.1.1
 have hown:(B7 c.p.n s c.machine).length=(nums c.p.n.reg).length:=by unfold B7;rw[List.length_map]
 have hsc:T3 (dF c s):=⟨hk.p.n.1,by show (B7 c.p.n s c.machine).length≤80;rw[hown,nums];omega,by simp[dF],fun x hx=>by simp[dF] at hx;subst hx;omega⟩
 have c2:=tE (G:=G) (dF c s) 0 hsc
 have hnb:pP c s=(!decide (u4 (dF c s) 0=0) || !decide (C6 (dF c s) 0=2)):=rfl
 have hcs:(¬ u4 (dF c s) 0=0∧True∧pP c s=true)∨(u4 (dF c s) 0=0∧C6 (dF c s) 0=2∧pP c s=false)∨(u4 (dF c s) 0=0∧¬ C6 (dF c s) 0=2∧pP c s=true):=by
  rw[hnb]
  by_cases g1:u4 (dF c s) 0=0<;>by_cases g2:C6 (dF c s) 0=2<;>simp[g1,g2]
 generalize u4 (dF c s) 0=le at *
 generalize C6 (dF c s) 0=ck at *
 generalize pP c s=nb at *
 simp only[gS,dF,E5,D7,A8,l4,m4,m6,j4,List.map_cons,List.map_nil] at c1 c2 ⊢
 generalize B7 c.p.n s c.machine=LT at *
 have hs:True:=trivial
 rcases hcs with⟨g1,g2,rfl⟩|⟨g1,g2,rfl⟩|⟨g1,g2,rfl⟩
 all_goals
  have hs:=za g1 g2
  repeat' first|(with_reducible first|refine zz ?_|refine zr ?_)|refine zp c1 ?_;try simp -dsimp[hs]|refine zt c2 ?_ ?_ ?_;(focus simp;done);(focus simp;done);try simp -dsimp[hs]|with_reducible refine zE [0,1,2,4,5,7,8] ?_;try simp -dsimp[hs]
  all_goals try (simp -dsimp[hs];trace "PRS R37 14")
end Go.Proofs
namespace Go.Ab
open Go
def yt (F:List dg):List IC:=[.raw (.bool (decide ((false,false)∈F))),.raw (.bool (decide ((false,true)∈F))),.raw (.bool (decide ((true,false)∈F))),.raw (.bool (decide ((true,true)∈F)))]
def oU (F:List dg):DV:=.agg ((yt F).map .im)
theorem xI (F:List dg):ImV (oU F):=by unfold oU;simp[yt]
attribute [simp] xI
theorem py {L:List dg} {so:Bool} {f x:dg}:decide (x∈bQ L so f)=(decide (x∈L)||(so&&decide (x=f))):=by
 unfold bQ
 split
 ·rename_i h
  rw[h.1,Bool.eq_iff_iff];simp
 ·rename_i h
  rw[Bool.eq_iff_iff]
  simp only[Bool.or_eq_true,Bool.and_eq_true,decide_eq_true_eq]
  constructor
  ·exact .inl
  ·rintro (h1|⟨h1,rfl⟩)
   ·exact h1
   ·exact Classical.byContradiction fun h2=>h ⟨h1,h2⟩
theorem yv (F:List dg) (so:Bool):(F.any fun f=>f.1==so)=(decide ((so,false)∈F)||decide ((so,true)∈F)):=by
 rw[Bool.eq_iff_iff]
 simp only[List.any_eq_true,beq_iff_eq,Bool.or_eq_true,decide_eq_true_eq]
 constructor
 ·rintro⟨⟨a,b⟩,h1,rfl⟩
  cases b
  ·exact .inl h1
  ·exact .inr h1
 ·rintro (h|h)
  ·exact⟨_,h,rfl⟩
  ·exact⟨_,h,rfl⟩
theorem yu (F:List dg) (so:Bool):(F.any fun f=>f.2==so)=(decide ((false,so)∈F)||decide ((true,so)∈F)):=by
 rw[Bool.eq_iff_iff]
 simp only[List.any_eq_true,beq_iff_eq,Bool.or_eq_true,decide_eq_true_eq]
 constructor
 ·rintro⟨⟨a,b⟩,h1,rfl⟩
  cases a
  ·exact .inl h1
  ·exact .inr h1
 ·rintro (h|h)
  ·exact⟨_,h,rfl⟩
  ·exact⟨_,h,rfl⟩
end Go.Ab
namespace Go.Proofs
open Go Go.Ab
variable {G:GW}
attribute [simp] D6 lD E8 N8 nilV bu ZK
theorem oa (c:Case) (s:List Int) (k:Nat) (hkp:k<c.pieces.length) (he:B8 c=0) (ht:C0 (j8 (j6 c.p.n.notes)) s=true) (hsl:s.length<1000) (hk:KC c):zP Tryz.prog G 91 [m6 c,n7 s,iv (k:Int)] (oU (dZ c s k)):=by
 refine zf Tryz.func91 Tryz.ntmps91 ?_
 try simp only[n7,iv]
 obtain⟨hp0,hcb⟩:=F6 he
 obtain⟨hn0,hpb,hr0⟩:=E1 hp0
 have hok:=V4 hcb
 have hl8:=hok.l
 have hlen:=hok.e
 have hpl:=hk.p.p.q
 have hlt2:k<c.loop.links.length:=by omega
 have hmc:1≤c.machine∧c.machine≤999:=by
  rw[N1,Bool.and_eq_true] at hcb
  have:=hcb.1
  simp only[ce,Bool.and_eq_true,decide_eq_true_eq] at this
  exact this.2.1
 have hA:r5 c.p.n s c.machine=0:=by
  unfold r5;rw[if_neg (by simp[hn0]),if_neg (by rw[ht];decide),if_pos hmc]
 have c1:=jz (G:=G) c.p.n s c.machine hk.p.n hsl
 rw[hA,if_pos rfl] at c1
 have hnl:=n0 c.p.n.reg c.p.n.reg.length
 have hr80:=hk.p.n.1.1
 have hx0:c.pieces[k]?=some c.pieces[k]:=by simp[hkp]
 have hy0:c.loop.links[k]?=some c.loop.links[k]:=by simp[hlt2]
 have hyd:=mj hcb hy0
 have hFk:dZ c s k=(aR c k).foldl (H4 c c.loop.links[k] c.pieces[k] (jD c s c.loop.links[k].drawing)) []:=by unfold dZ;rw[hx0,hy0]
 have hdm:c.loop.links[k].drawing∈nums c.p.n.reg:=mi hr0 hcb hkp hlt2
 have hpw:=(C2 hr0).1
 have hix:∃ q:Nat,idx (nums c.p.n.reg) c.loop.links[k].drawing=(q:Int)∧(nums c.p.n.reg)[q]?=some c.loop.links[k].drawing:=by
  obtain⟨q,hq⟩:=List.mem_iff_getElem?.1 hdm
  exact⟨q,eI (hpw.imp fun h e=>by omega) hq,hq⟩
 obtain⟨q,hq1,hq2⟩:=hix
 have hol:(B7 c.p.n s c.machine)[q]?=some (jD c s c.loop.links[k].drawing):=by
  unfold B7 jD
  rw[List.getElem?_map,hq2]
  rfl
 have c2:=H1 (G:=G) c.p.n.reg (by omega)
 have c3:=bE (G:=G) (nums c.p.n.reg) c.loop.links[k].drawing (by rw[nums];omega)
 have c4:=zF (G:=G) c k hkp hlt2 hk
 have c5:=fun lt=>ww (G:=G) c k _ lt hy0 hyd.1 hk
 have hml:=gI c k
 have hpo:=pU hok hkp
 unfold X5 at hpo
 have hw1:IntKind.i64.wrap 1=1:=n8 (by omega) (by omega)
 have hw3:IntKind.i64.wrap 3=3:=n8 (by omega) (by omega)
 rw[hFk]
 clear hFk hx0 hy0
 rw[hq1] at c3
 generalize hx:c.pieces[k]=x at *
 generalize hy:c.loop.links[k]=y at *
 generalize jD c s y.drawing=o at *
 generalize hM:aR c k=M at *
 simp only[A8,l4,m4,m6,j4,List.map_cons,List.map_nil] at c1 c2 c4 c5 ⊢
 generalize B7 c.p.n s c.machine=LT at *
 have hlo:q<LT.length:=e7 hol
 have hLo:LT[q]=o:=(List.getElem?_eq_some_iff.1 hol).2
 have hs:=za hx (za hy (za hkp (za hlt2 (za hlo hLo))))
 repeat' first|with_reducible refine zz ?_|simp -dsimp[hs]|refine zp c1 ?_|refine zq c2 ?_|refine zq c3 ?_|refine zp c4 ?_|refine zM 3 122 17 [0,1,2,3,6,7,8,10,11,12,13,14,15,16,55,63] ?_|with_reducible refine zE [0,1,2,3,6,7,8,10,11,12,13,14,15,16,55,63] ?_
 all_goals try clear hs
 clear c1 c2 c3 c4 hol hLo hlo
 refine g9 (ι:={ j:Nat // j≤M.length }) (fun p=>⟨122,[(2,iv (k:Int)),(3,.one (.ptr 0 0)),(6,.one (.ptr 1 0)),(7,.one (.ptr 2 0)),(10,iv o),(11,.one (.ptr 3 0)),(12,n7 M),(13,iv (p.1:Int))],[.row ((j4 c).map .im),.row [.im (rB false),.im (rB false),.im (rB false),.im (rB false)],.row ((yt ((M.take p.1).foldl (H4 c y x o) [])).map .im),.row [.im (rI x.lo),.im (rI x.hi)]]⟩) (fun p=>M.length-p.1) ⟨0,by simp⟩ (zv [2,3,6,7,10,11,12,13] (by simp[yt])) ?_
 rintro⟨j,hj⟩
 simp only[iv,n7]
 by_cases hlj:j<M.length
 ·have hlj':(j:Int)<M.length:=by omega
  have hwj:=zk j
  have hst:=sJ c y x o hlj
  have c7:=c5 M[j]
  generalize hv:M[j]=v at *
  generalize (M.take j).foldl (H4 c y x o) []=F at *
  rw[show H4 c y x o F v=bQ (bQ F (sK c y x v) (!decide (v=o),false)) (vF c y x v) (!decide (v=o),true) from rfl] at hst
  have hcs:(sq c y v=none∧sK c y x v=true∧vF c y x v=false)∨∃ z,sq c y v=some z∧sK c y x v=(decide (x.lo≤z.upper)&&decide (z.lower≤x.hi))∧vF c y x v=!aC x.lo x.hi z.lower z.upper:=by
   unfold sK vF
   cases sq c y v with
   | none=>exact .inl ⟨rfl,rfl,rfl⟩
   | some z=>exact .inr ⟨z,rfl,rfl,rfl⟩
  generalize sK c y x v=b1 at *
  generalize vF c y x v=b2 at *
  have hfs:∀ a b,decide ((a,b)∈(M.take (j+1)).foldl (H4 c y x o) [])=((decide ((a,b)∈F)||(b1&&decide ((a,b)=(!decide (v=o),false))))||(b2&&decide ((a,b)=(!decide (v=o),true)))):=fun a b=>by rw[hst,py,py]
  clear hst
  simp only[yt]
  have p1:=hfs false false
  have p2:=hfs false true
  have p3:=hfs true false
  have p4:=hfs true true
  clear hfs
  generalize decide ((false,false)∈F)=f1 at *
  generalize decide ((false,true)∈F)=f2 at *
  generalize decide ((true,false)∈F)=f3 at *
  generalize decide ((true,true)∈F)=f4 at *
  have hs:True:=trivial
  rcases hcs with⟨e1,rfl,rfl⟩|⟨z,e1,e2,e3⟩
  ·rw[e1] at c7
   simp only[Option.isSome_none,Option.getD_none,vK] at c7
   by_cases ho:v=o
   ·have ho':(v=o)=True:=eq_true ho
    simp[ho] at p1 p2 p3 p4
    cases f1<;>cases f2
    all_goals
     have hs:=za hx (za hy (za hv (za hlj (za hlj' (za hwj (za hw1 (za hw3 ho')))))))
     repeat' first|with_reducible refine zz ?_|simp -dsimp[hs]|refine zq c7 ?_|refine s9 (id:=12) (nt:=122) 11 [9] [0,1,2,3,6,7,8,10,11,12,13,14,15,16,55,63,64,65,66,67,68,69,70,71,72] [0,1,2,3,6,7,8,10,11,12,13,14,15,16,55,63] mixed rfl (by kernel_rfl) ?_|with_reducible refine zE [0,1,2,3,6,7,8,10,11,12,13,14,15,16,55,63] ?_|refine i8 ?_ ?_<;>intro h<;>try simp only[i6] at h
     all_goals try clear hs
    all_goals exact zn ⟨j+1,by omega⟩ (zw [2,3,6,7,10,11,12,13] 4 (by simp[yt,p1,p2,p3,p4]))
   ·have ho':(v=o)=False:=eq_false ho
    simp[ho] at p1 p2 p3 p4
    cases f3<;>cases f4
    all_goals
     have hs:=za hx (za hy (za hv (za hlj (za hlj' (za hwj (za hw1 (za hw3 ho')))))))
     repeat' first|with_reducible refine zz ?_|simp -dsimp[hs]|refine zq c7 ?_|refine s9 (id:=12) (nt:=122) 11 [9] [0,1,2,3,6,7,8,10,11,12,13,14,15,16,55,63,64,65,66,67,68,69,70,71,72] [0,1,2,3,6,7,8,10,11,12,13,14,15,16,55,63] mixed rfl (by kernel_rfl) ?_|with_reducible refine zE [0,1,2,3,6,7,8,10,11,12,13,14,15,16,55,63] ?_|refine i8 ?_ ?_<;>intro h<;>try simp only[i6] at h
     all_goals try clear hs
    all_goals exact zn ⟨j+1,by omega⟩ (zw [2,3,6,7,10,11,12,13] 4 (by simp[yt,p1,p2,p3,p4]))
  ·rw[e1] at c7
   simp only[Option.isSome_some,Option.getD_some] at c7
   have hA:∀ f:Bool,(f=true∧True∧True∧(f||b1)=true)∨(f=false∧x.lo≤z.upper∧z.lower≤x.hi∧(f||b1)=true)∨(f=false∧x.lo≤z.upper∧¬ z.lower≤x.hi∧(f||b1)=false)∨(f=false∧¬ x.lo≤z.upper∧True∧(f||b1)=false):=fun f=>by
    cases f<;>by_cases q1:x.lo≤z.upper<;>by_cases q2:z.lower≤x.hi<;>simp[q1,q2,e2]
   have hB:∀ f:Bool,(f=true∧True∧True∧(f||b2)=true)∨(f=false∧x.lo<z.lower∧True∧(f||b2)=true)∨(f=false∧¬ x.lo<z.lower∧z.upper<x.hi∧(f||b2)=true)∨(f=false∧¬ x.lo<z.lower∧¬ z.upper<x.hi∧(f||b2)=false):=fun f=>by
    have hb:b2=!decide (¬ x.lo<z.lower∧¬ z.upper<x.hi):=by
     rw[e3];unfold aC;congr 1;rw[decide_eq_decide];omega
    cases f<;>by_cases q1:x.lo<z.lower<;>by_cases q2:z.upper<x.hi<;>simp[q1,q2,hb]
   clear e2 e3
   by_cases ho:v=o
   ·have ho':(v=o)=True:=eq_true ho
    simp only[ho,decide_true,decide_false,Bool.not_true,Bool.not_false,Prod.mk.injEq,Bool.false_eq_true,Bool.true_eq_false,reduceCtorEq,and_self,and_true,and_false,true_and,false_and,Bool.and_true,Bool.and_false,Bool.or_false] at p1 p2 p3 p4
    rcases hA f1 with⟨e5,q1,q2,r1⟩|⟨e5,q1,q2,r1⟩|⟨e5,q1,q2,r1⟩|⟨e5,q1,q2,r1⟩<;>rcases hB f2 with⟨e6,q3,q4,r2⟩|⟨e6,q3,q4,r2⟩|⟨e6,q3,q4,r2⟩|⟨e6,q3,q4,r2⟩
    all_goals
     rw[r1] at p1
     rw[r2] at p2
     subst e5
     subst e6
     clear hA hB r1 r2
     have hs:=za hx (za hy (za hv (za hlj (za hlj' (za hwj (za hw1 (za hw3 (za ho' (za q1 (za q2 (za q3 q4)))))))))))
     repeat' first|with_reducible refine zz ?_|simp -dsimp[hs]|refine zq c7 ?_|refine s9 (id:=12) (nt:=122) 11 [9] [0,1,2,3,6,7,8,10,11,12,13,14,15,16,55,63,64,65,66,67,68,69,70,71,72] [0,1,2,3,6,7,8,10,11,12,13,14,15,16,55,63] mixed rfl (by kernel_rfl) ?_|with_reducible refine zE [0,1,2,3,6,7,8,10,11,12,13,14,15,16,55,63] ?_|refine i8 ?_ ?_<;>intro h<;>try simp only[i6] at h
     all_goals try clear hs
    all_goals exact zn ⟨j+1,by omega⟩ (zw [2,3,6,7,10,11,12,13] 4 (by simp[yt,p1,p2,p3,p4]))
   ·have ho':(v=o)=False:=eq_false ho
    simp only[ho,decide_true,decide_false,Bool.not_true,Bool.not_false,Prod.mk.injEq,Bool.false_eq_true,Bool.true_eq_false,reduceCtorEq,and_self,and_true,and_false,true_and,false_and,Bool.and_true,Bool.and_false,Bool.or_false] at p1 p2 p3 p4
    rcases hA f3 with⟨e5,q1,q2,r1⟩|⟨e5,q1,q2,r1⟩|⟨e5,q1,q2,r1⟩|⟨e5,q1,q2,r1⟩<;>rcases hB f4 with⟨e6,q3,q4,r2⟩|⟨e6,q3,q4,r2⟩|⟨e6,q3,q4,r2⟩|⟨e6,q3,q4,r2⟩
    all_goals
     rw[r1] at p3
     rw[r2] at p4
     subst e5
     subst e6
     clear hA hB r1 r2
     have hs:=za hx (za hy (za hv (za hlj (za hlj' (za hwj (za hw1 (za hw3 (za ho' (za q1 (za q2 (za q3 q4)))))))))))
     repeat' first|with_reducible refine zz ?_|simp -dsimp[hs]|refine zq c7 ?_|refine s9 (id:=12) (nt:=122) 11 [9] [0,1,2,3,6,7,8,10,11,12,13,14,15,16,55,63,64,65,66,67,68,69,70,71,72] [0,1,2,3,6,7,8,10,11,12,13,14,15,16,55,63] mixed rfl (by kernel_rfl) ?_|with_reducible refine zE [0,1,2,3,6,7,8,10,11,12,13,14,15,16,55,63] ?_|refine i8 ?_ ?_<;>intro h<;>try simp only[i6] at h
     all_goals try clear hs
    all_goals exact zn ⟨j+1,by omega⟩ (zw [2,3,6,7,10,11,12,13] 4 (by simp[yt,p1,p2,p3,p4]))
 ·obtain rfl:j=M.length:=by omega
  have hlj':¬ (M.length:Int)<M.length:=by omega
  simp only[List.take_length]
  generalize M.foldl (H4 c y x o) []=F at *
  unfold oU
  simp only[yt,List.map_cons,List.map_nil]
  have hs:=za hlj hlj'
  repeat' first|(with_reducible first|refine zz ?_|refine zr ?_|refine zE [0,1,2,3,6,7,8,10,11,12,13,14,15,16,55,63] ?_)|simp -dsimp[hs]|refine i8 ?_ ?_<;>intro h<;>try simp only[i6] at h
  all_goals try clear hs
end Go.Proofs
