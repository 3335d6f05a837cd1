/- Part 15 of the proofs. -/
import Derived.Test.YtlmlkkoapahmjaaGreatDoorT08
import Derived.Test.YtlmlkkoapahmjaaGreatDoorT13
import Derived.Test.YtlmlkkoapahmjaaGreatDoorT14
set_option linter.all false
set_option maxHeartbeats 100000000
namespace Go.Proofs
open Go Go.Ab
def wK (n:Notes) (i:Nat) (x:Note):Bool:=FK x&&FI x&&EK x&&EJ n.reg x&&FE x&&FC n.notes i x&&EI n.notes i x&&EH n.notes i x
def oZ (n:Notes) (i:Nat) (x:Note):Nat->Bool
 | 0=>FK x
 | 1=>FI x
 | 2=>EK x
 | 3=>EJ n.reg x
 | 4=>FE x
 | 5=>FC n.notes i x
 | 6=>EI n.notes i x
 | _=>EH n.notes i x
theorem Ba {n:Notes} {i:Nat} {x:Note} {k:Nat} (h:oZ n i x k=false):wK n i x=false:=by
 unfold wK;match k with
 | 0|1|2|3|4|5|6=>simp only[oZ] at h;simp[h]
 | k+7=>simp only[oZ] at h;simp[h]
theorem Bb {n:Notes} {i:Nat} {x:Note} (h:∀ k<8,oZ n i x k=true):wK n i x=true:=by
 have h0:=h 0 (by omega);have h1:=h 1 (by omega);have h2:=h 2 (by omega);have h3:=h 3 (by omega);have h4:=h 4 (by omega);have h5:=h 5 (by omega);have h6:=h 6 (by omega);have h7:=h 7 (by omega);simp only[oZ] at h0 h1 h2 h3 h4 h5 h6 h7;simp[wK,h0,h1,h2,h3,h4,h5,h6,h7]
def l8 (l:List Note):List Int:=(l.filter λx=>decide (x.signed=1)).map (·.number)
theorem eL (l:List Note) (k:Nat) (h:k<l.length):l8 (l.take (k+1))=l8 (l.take k)++(if l[k].signed=1 then [l[k].number] else []):=by
 unfold l8;rw[List.take_succ_eq_append_getElem h,List.filter_append,List.map_append]
 congr 1
 by_cases e:l[k].signed=1<;>simp[e]
theorem aQ (l:List Note):(l8 l).length<=l.length:=by
 unfold l8;rw[List.length_map];exact List.length_filter_le _ _
def kX (n:Notes):Prop:=∀ (i:Nat) (x:Note),n.notes[i]?=some x->wK n i x=true
def nw (n:Notes):Bool:=decide (n.notes.length<=12)&&(List.range n.notes.length).all (λi=>match n.notes[i]? with|some x=>wK n i x|none=>true)&&decide ((l8 n.notes).length<=5)
def A5 (n:Notes):Int:=if l9 n.reg≠0 then l9 n.reg else if nw n then 0 else 30
theorem notesB_iff {n:Notes}:nw n=true↔n.notes.length<=12/\kX n/\(l8 n.notes).length<=5:=by
 simp only[nw,Bool.and_eq_true,decide_eq_true_eq,List.all_eq_true,List.mem_range,and_assoc];refine and_congr_right λ_=>and_congr_left λ_=>⟨λh i x hx=>?_,λh i hi=>?_⟩
 ·have:=h i (List.getElem?_eq_some_iff.1 hx).1;rw[hx] at this;exact this
 ·rw[List.getElem?_eq_getElem hi];exact h i _ (List.getElem?_eq_getElem hi)
theorem rg {n:Notes} (h:kX n):(n.notes.map (·.number)).Nodup:=by
 rw[List.nodup_iff_pairwise_ne,List.pairwise_iff_getElem];intro i j hi hj hij;simp only[List.length_map] at hi hj;simp only[List.getElem_map];have h1:=h j _ (List.getElem?_eq_getElem hj);simp only[wK,Bool.and_eq_true,EI,Bool.not_eq_true',List.any_eq_false,decide_eq_true_eq] at h1;refine h1.1.2 _ (List.mem_iff_getElem.2 ⟨i,by simp;omega,?_⟩);simp
theorem iD {n:Notes} (h:kX n):(l8 n.notes).Nodup:=by
 have:=rg h;unfold l8;exact this.sublist ((List.filter_sublist).map _)
def qI (o s:List Int):Prop:=∀ (i:Nat) (v:Int),s[i]?=some v->v∈o/\∀ j u,i=j+1->s[j]?=some u->u<v
def fr (o s:List Int) (v:Int):Nat->Bool
 | 0=>decide (v∈o)
 | j+1=>decide (v∈o)&&(match s[j]? with|some u=>decide (u<v)|none=>true)
def H1 (o s:List Int):Bool:=(List.range s.length).all λi=>match s[i]? with|some v=>fr o s v i|none=>true
theorem truthB_iff {o s:List Int}:H1 o s=true↔qI o s:=by
 simp only[H1,List.all_eq_true,List.mem_range];constructor
 ·intro h i v hv;have h1:=h i (List.getElem?_eq_some_iff.1 hv).1;rw[hv] at h1;simp only at h1;cases i with
  | zero =>
    simp only[fr,decide_eq_true_eq] at h1;exact⟨h1,λj u e=>by omega⟩
  | succ i =>
    simp only[fr,decide_eq_true_eq,Bool.and_eq_true] at h1;refine⟨h1.1,λj u e hu=>?_⟩;obtain rfl:j=i:=by omega
    rw[hu] at h1;simpa using h1.2
 ·intro h i hi;rw[List.getElem?_eq_getElem hi];simp only;obtain⟨h1,h2⟩:=h i _ (List.getElem?_eq_getElem hi);cases i with
  | zero=>simpa only[fr,decide_eq_true_eq] using h1
  | succ i =>
    have hj:i<s.length:=by omega
    simp only[fr,List.getElem?_eq_getElem hj,Bool.and_eq_true,decide_eq_true_eq];exact⟨h1,h2 i _ rfl (List.getElem?_eq_getElem hj)⟩
theorem lP {o s:List Int} {i:Nat} {v:Int} (h:s[i]?=some v) (hb:v∉o\/∃ j u,i=j+1/\s[j]?=some u/\v<=u):H1 o s=false:=by
 rw[<- Bool.not_eq_true,truthB_iff];intro ht;obtain⟨h1,h2⟩:=ht i v h;rcases hb with hb|⟨j,u,e,hu,hle⟩
 ·exact hb h1
 ·have:=h2 j u e hu;omega
theorem jJ {o s:List Int} (h:qI o s):H1 o s=true:=truthB_iff.2 h
def dx (o s:List Int) (k:Nat):Prop:=∀ (i:Nat) (v:Int),i<k->s[i]?=some v->v∈o/\∀ j u,i=j+1->s[j]?=some u->u<v
theorem fq {o s:List Int} {k:Nat} {v:Int} (h:dx o s k) (hv:s[k]?=some v) (ho:v∈o) (hl:∀ j u,k=j+1->s[j]?=some u->u<v):dx o s (k+1):=by
 intro i w hi hw;by_cases e:i=k
 ·subst e;rw[hv] at hw;cases hw;exact⟨ho,hl⟩
 ·exact h i w (by omega) hw
theorem oA {o s:List Int} (h:dx o s s.length):qI o s:=λi v hv=>h i v (List.getElem?_eq_some_iff.1 hv).1 hv
theorem jK {o s:List Int} {k:Nat} (h:dx o s k):∀ (j i:Nat) (u v:Int),i<j->j<k->s[i]?=some u->s[j]?=some v->u<v
 | 0,_,_,_,h1,_,_,_=>by omega
 | j+1,i,u,v,h1,h2,h3,h4=>by
   have hj:j<s.length:=by have:=(List.getElem?_eq_some_iff.1 h4).1;omega
   have hw:s[j]?=some s[j]:=List.getElem?_eq_getElem hj;have h5:=(h (j+1) v h2 h4).2 j s[j] rfl hw;by_cases e:i=j
   ·subst e;rw[hw] at h3;cases h3;exact h5
   ·have:=jK h j i u s[j] (by omega) (by omega) h3 hw;omega
theorem oz {o s:List Int} {k:Nat} {v:Int} (h:dx o s (k+1)) (hk:k<s.length) (hv:s[k]<v):v∉s.take (k+1):=by
 intro hm;obtain⟨i,hi,e⟩:=List.mem_take_iff_getElem.1 hm;by_cases he:i=k
 ·subst he;omega
 ·have:=jK h k i s[i] s[k] (by omega) (by omega) (List.getElem?_eq_getElem _) (List.getElem?_eq_getElem _);omega
variable {G:IK}
def Ac (n:Notes):Prop:=Ad n.reg/\n.notes.length<=16
def ni (n:Notes):Bool:=open Classical in decide (Ad n.reg)&&decide (n.notes.length<=16)
end Go.Proofs
namespace Go.Ab
open Go
def sc (b:Bool):List IC:=[rB b]
def Iv (l:List Bool):DV:=.one (.im (.sl (l.map sc)))
attribute [simp] sc Iv
def sC (l:List Note) (b:List Bool) (d:Int):Nat->Int
 | 0=>-1
 | k+1=>if b[k]?=some true/\(l[k]?.map (·.drawing))=some d then (k:Int) else sC l b d k
theorem zo (l:List Note) (b:List Bool) (d:Int):∀ k,-1<=sC l b d k/\sC l b d k<k
 | 0=>by simp[sC]
 | k+1=>by
   have:=zo l b d k;unfold sC;split<;>omega
def nB (l:List Note) (b:List Bool) (d:Int):Int:=if sC l b d b.length<0 then 1 else match l[(sC l b d b.length).toNat]? with|some x=>x.letter|none=>0
end Go.Ab
namespace Go.Proofs
open Go Go.Ab
variable {G:IK}
end Go.Proofs
namespace Go.Proofs
open Go Go.Ab
variable {G:IK}
end Go.Proofs
namespace Go.Ab
open Go
def yE (signed without:List Int) (m:Int) (x:Note):Bool:=(decide (x.signed=2)||decide (x.number∈signed)) && !decide (x.number∈without)&&(decide (x.frm<=m)&&decide (m<=x.to))
def jg (n:Int):List Note->List Bool->Bool
 | y :: l,b :: o=>!(b&&decide (y.cancels=n))&&jg n l o
 | _,_=>true
def U0 (signed without:List Int) (m:Int):List Note->List Bool
 | []=>[]
 | x :: r=>(yE signed without m x&&jg x.number r (U0 signed without m r)) :: U0 signed without m r
theorem cT (signed without:List Int) (m:Int):∀ l,(U0 signed without m l).length=l.length
 | []=>rfl
 | x :: r=>by simp[U0,cT signed without m r]
@[simp] theorem Ge (L:List Bool) (k:Nat) (v:Bool):(l6 (L.map sc)).set k [DC.im (.raw (.bool v))]=l6 ((L.set k v).map sc):=by
 simp only[l6,List.map_set,sc,rB,List.map_cons,List.map_nil]
@[simp] theorem Gj (L:List Bool) (k:Nat) (h:k<(l6 (L.map sc)).length):(l6 (L.map sc))[k]=[DC.im (.raw (.bool (L[k]'(by simpa[o7] using h))))]:=by
 simp[l6]
end Go.Ab
namespace Go.Proofs
open Go Go.Ab
variable {G:IK}
end Go.Proofs
namespace Go.Proofs
open Go Go.Ab
def N1 (l:List Note) (i:Nat):Int:=((l[i]?).map (·.number)).getD 0
def oY (l:List Note) (i:Nat):Bool:=match l[i]? with|some x=>decide (x.signed=1)|none=>false
structure OpenTo (l:List Note) (k:Nat) (S:List Nat):Prop where
 perm:S.Perm ((List.range k).filter (oY l))
 srt:S.Pairwise λa b=>N1 l a<=N1 l b
theorem OpenTo.nil (l:List Note):OpenTo l 0 []:=⟨by simp,by simp⟩
theorem OpenTo.lt {l:List Note} {k:Nat} {S:List Nat} (h:OpenTo l k S):∀ i∈S,i<k/\oY l i=true:=λi hi=>by
 have:=h.perm.mem_iff.1 hi;simpa using this
theorem OpenTo.len {l:List Note} {k:Nat} {S:List Nat} (h:OpenTo l k S):S.length<=k:=by
 rw[h.perm.length_eq];have:=List.length_filter_le (oY l) (List.range k);simpa using this
theorem OpenTo.skip {l:List Note} {k:Nat} {S:List Nat} (h:OpenTo l k S) (hk:oY l k=false):OpenTo l (k+1) S:=
 ⟨by rw[List.range_succ,List.filter_append];simpa[hk] using h.perm,h.srt⟩
theorem OpenTo.put {l:List Note} {k:Nat} {S:List Nat} (h:OpenTo l k S) (hk:oY l k=true) (q:Nat)
 (h1:∀ i∈S.take q,N1 l i<=N1 l k) (h2:∀ i∈S.drop q,N1 l k<=N1 l i):OpenTo l (k+1) (S.take q++k :: S.drop q):=by
 constructor
 ·rw[List.range_succ,List.filter_append];simp only[List.filter_cons,hk,if_true,List.filter_nil];refine List.perm_middle.trans ?_;rw[List.take_append_drop];exact(List.perm_append_singleton k _).symm.trans (List.Perm.append_right _ h.perm)
 ·have h3:=h.srt;rw[<- List.take_append_drop q S,List.pairwise_append] at h3;obtain⟨p1,p2,p3⟩:=h3;rw[List.pairwise_append,List.pairwise_cons];refine⟨p1,⟨h2,p2⟩,λa ha b hb=>?_⟩;rcases List.mem_cons.1 hb with rfl|hb
  ·exact h1 a ha
  ·exact p3 a ha b hb
theorem OpenTo.first {l:List Note} {k:Nat} {S:List Nat} (h:OpenTo l k S) {q:Nat} (hq:q<S.length) {v:Int} (hv:N1 l S[q]<=v):∀ i∈S.take (q+1),N1 l i<=v:=λi hi=>by
 obtain⟨j,hj,e⟩:=List.mem_take_iff_getElem.1 hi;have h3:=List.pairwise_iff_getElem.1 h.srt;by_cases he:j=q
 ·subst he;rw[<- e];exact hv
 ·have:=h3 j q (by omega) hq (by omega);rw[e] at this;omega
theorem fY (l:List Note):∀ k,k<=l.length->((List.range k).filter (oY l)).map (N1 l)=l8 (l.take k)
 | 0,_=>by simp[l8]
 | k+1,h=>by
   have hk:k<l.length:=by omega
   rw[List.range_succ,List.filter_append,List.map_append,fY l k (by omega),eL l k hk]
   congr 1
   have e:l[k]?=some l[k]:=by simp[hk]
   by_cases h1:l[k].signed=1
   ·simp[oY,e,h1,N1]
   ·simp[oY,e,h1]
theorem OpenTo.nums {l:List Note} {S:List Nat} (h:OpenTo l l.length S):S.map (N1 l)=j9 (l8 l):=by
 have h1:(S.map (N1 l)).Perm (j9 (l8 l)):=by
  refine(h.perm.map _).trans ?_;rw[fY l _ (Nat.le_refl _),List.take_length];exact(List.mergeSort_perm _ _).symm
 refine h1.eq_of_pairwise (le:=(·<=·)) (λa b _ _ h2 h3=>by omega) (by rw[List.pairwise_map];exact h.srt) ?_;have:=List.pairwise_mergeSort (le:=λx y:Int=>decide (x<=y)) (λa b c h1 h2=>by simp at *;omega) (λa b=>by simp;omega) (l8 l);exact this.imp λh=>by simpa using h
theorem isort_mem {l:List Int} {n:Int}:n∈j9 l↔n∈l:=(List.mergeSort_perm l _).mem_iff
theorem pq {l:List Int} (h:l.Nodup):(j9 l).Nodup:=(List.mergeSort_perm l _).nodup_iff.2 h
theorem nG (l:List Int):(j9 l).Pairwise (·<=·):=by
 have:=List.pairwise_mergeSort (le:=λx y:Int=>decide (x<=y)) (λa b c h1 h2=>by simp at *;omega) (λa b=>by simp;omega) l;exact this.imp λh=>by simpa using h
theorem eV (signed without:List Int) (m:Int):∀ (l:List Note) (k:Nat),(U0 signed without m l).drop k=U0 signed without m (l.drop k)
 | _,0=>rfl
 | [],_+1=>rfl
 | x :: r,k+1=>by simp[U0,eV signed without m r k]
theorem BJ {s w:List Int} {m:Int} {l:List Note} {k:Nat} (hk:k<l.length) (hk':k<(U0 s w m l).length):(U0 s w m l)[k]=(yE s w m l[k]&&jg l[k].number (l.drop (k+1)) ((U0 s w m l).drop (k+1))):=by
 have h1:=eV s w m l k;rw[List.drop_eq_getElem_cons hk,List.drop_eq_getElem_cons hk',U0] at h1;rw[eV];exact(List.cons.inj h1).1
theorem vq {n:Int} {l:List Note} {F:List Bool} {k:Nat} (hk:k<l.length) (hf:k<F.length):jg n (l.drop k) (F.drop k)=(!(F[k]&&decide (l[k].cancels=n))&&jg n (l.drop (k+1)) (F.drop (k+1))):=by
 rw[List.drop_eq_getElem_cons hk,List.drop_eq_getElem_cons hf,jg]
theorem yD {n:Int} {l:List Note} {F:List Bool} {k:Nat} (hk:l.length<=k):jg n (l.drop k) (F.drop k)=true:=by
 rw[List.drop_eq_nil_of_le hk];rfl
def kj:Note:=⟨0,0,0,0,1,0,0,0,false,0⟩
def Er (l:List Note) (b:List Bool) (d:Int):Nat->Note
 | 0=>kj
 | k+1=>match l[k]? with
   | some x=>if b[k]?=some true/\x.drawing=d then x else Er l b d k
   | none=>kj
theorem CN (l:List Note) (b:List Bool) (d:Int):∀ k,k<=l.length->Er l b d k=if sC l b d k<0 then kj else match l[(sC l b d k).toNat]? with|some x=>x|none=>kj
 | 0,_=>by simp[Er,sC]
 | k+1,h=>by
   have hk:k<l.length:=by omega
   have e:l[k]?=some l[k]:=by simp[hk]
   simp only[Er,sC,e,Option.map_some,Option.some.injEq];split
   ·rw[if_neg (by omega)];simp[e]
   ·exact CN l b d k (by omega)
variable {G:IK}
def EE (n:Notes):Prop:=Z4 n.reg/\n.notes.length<=16/\∀ x∈n.notes,0<=x.ways/\x.ways<=255/\0<=x.signed/\x.signed<=255
open Go Go.Ab Tryz
def C7 (G:IK):Prop:=G 5=some [.fn (.func 325) [],.fn (.func 326) [],.fn (.func 327) [],.fn (.func 328) [],.fn (.func 329) [],.fn (.func 330) [],.fn (.func 333) [],.fn (.func 335) []]
def s8 (G:IK):Prop:=∀ (l:List Int) (g sz:Nat) (nl:Bool),(sz=1\/nl=true/\l=[])->l.length<1000000->DCall prog G 148 [.one (.vec 0 g 0 l.length)] [.vec sz (l6 (l.map encI)) g nl] (λd o=>d=.tup []/\o=[.vec sz (l6 ((j9 l).map encI)) g nl])
def F1 (n:Notes):IC:=.ip [.sl (n.reg.map h9),.sl (n.notes.map j8),.sl ((nums n.reg).map encI),.sl ((j9 (l8 n.notes)).map encI)]
def cd (n:Notes):DV:=if A5 n=0 then .one (.im (F1 n)) else .one (.im (.raw (.pointer none)))
theorem yN (n:Notes):ImV (cd n):=by unfold cd;split<;>simp[F1]
attribute [simp] yN
theorem rh {n:Notes} {i:Nat} {x:Note} (h0:l9 n.reg=0) (hx:n.notes[i]?=some x) (h:wK n i x=false):A5 n=30:=by
 unfold A5;rw[if_neg (by simp[h0]),if_neg];intro hb;have:=(notesB_iff.1 hb).2.1 i x hx;rw[h] at this;cases this
@[simp] abbrev Lk:List Nat:=[0,1,2,3,4,5,6,7,8,9,11,19,24,30,31,32,33,37,38,39,46,50,71]
@[simp] abbrev Kq:List Nat:=[1,2,3,6,7,30,31,32]
theorem oX (n:Notes) (hG:o4 G) (hN:C7 G) (hS:s8 G) (hs:EE n):zP prog G 160 [w9 n] (.tup [cd n,iv (A5 n)]):=by
 refine zf func160 ntmps160 ?_;try simp only[w9]
 have hN':G 5=some [.fn (.func 325) [],.fn (.func 326) [],.fn (.func 327) [],.fn (.func 328) [],.fn (.func 329) [],.fn (.func 330) [],.fn (.func 333) [],.fn (.func 335) []]:=hN;obtain⟨hsr,hsn,hsx⟩:=hs;have c1:=bI n.reg hG hsr;by_cases h0:l9 n.reg=0
 ·rw[h0,show de n.reg=nums n.reg by simp[de,h0]] at c1;by_cases hl:n.notes.length<=12
  ·have hli:¬ (12:Int)<n.notes.length:=by omega
   have hE:A5 n=if nw n then 0 else 30:=by unfold A5;rw[if_neg (by simp[h0])]
   have hs:=hli;repeat' first|with_reducible refine zz ?_|simp -dsimp[hs]|refine zp c1 ?_|with_reducible refine M7 (id:=6) (nt:=78) Lk rfl ?_;simp -dsimp[hs]|with_reducible refine zE Lk ?_|refine j4 ?_ ?_<;>intro h<;>try exact h.elim
   all_goals try clear hs
   refine i7 (ι:={ p:Nat×Nat×Nat×Bool // p.1<=n.notes.length/\(p.2.2.1=1\/p.2.2.2=true/\l8 (n.notes.take p.1)=[])/\∀ (j:Nat) (x:Note),j<p.1->n.notes[j]?=some x->wK n j x=true }) (λp=>⟨78,[(1,.one (.ptr 0 0)),(2,.one (.im (.raw (.pointer none)))),(3,iv 0),(6,.one (.ptr 5 0)),(7,bv false),(30,.one (.im (.sl (n.notes.map j8)))),(31,iv (n.notes.length:Int)),(32,iv (p.1.1:Int))],[.row ((A2 n).map .im),.vec 0 [] 0 true,.vec 0 [] 0 true,.vec 0 [] 0 true,.vec p.1.2.2.1 (l6 ((l8 (n.notes.take p.1.1)).map encI)) p.1.2.1 p.1.2.2.2,.row [.im (.sl (n.reg.map h9)),.im (.sl (n.notes.map j8)),.im (.sl ((nums n.reg).map encI)),.vec 4 p.1.2.1 0 (l8 (n.notes.take p.1.1)).length]]⟩) (λp=>n.notes.length-p.1.1) ⟨(0,0,0,true),by simp[l8]⟩ (zw Kq 6 (by simp[l8])) ?_;rintro⟨⟨k,g,sz,nl⟩,hk,hsz,hok⟩;simp only at hk hsz hok;simp only[iv,bv];by_cases hlt:k<n.notes.length
   ·have hx0:n.notes[k]?=some n.notes[k]:=by simp[hlt]
    have hw:=zk k;have hos:=eL n.notes k hlt;have hol:=aQ (n.notes.take k);rw[List.length_take] at hol;generalize hx:n.notes[k]=x at *;have k1:=FJ (G:=G) n k x hx0;have k2:=FH (G:=G) n k x hx0;have k3:=FG (G:=G) n k x hx0;have k4:=FF (G:=G) n k x hx0 hG hsr;have k5:=FD (G:=G) n k x hx0;have k6:=FB (G:=G) n k x hx0 (by omega);have k7:=FA (G:=G) n k x hx0 (by omega);have k8:=Fz (G:=G) n k x hx0 (by omega);rw[show FK x=oZ n k x 0 from rfl] at k1;rw[show FI x=oZ n k x 1 from rfl] at k2;rw[show EK x=oZ n k x 2 from rfl] at k3;rw[show EJ n.reg x=oZ n k x 3 from rfl] at k4;rw[show FE x=oZ n k x 4 from rfl] at k5;rw[show FC n.notes k x=oZ n k x 5 from rfl] at k6;rw[show EI n.notes k x=oZ n k x 6 from rfl] at k7;rw[show EH n.notes k x=oZ n k x 7 from rfl] at k8;have hbad:∀ c,oZ n k x c=false->A5 n=30:=λc h=>rh h0 hx0 (Ba h);have hstep:wK n k x=true->∀ (j:Nat) (z:Note),j<k+1->n.notes[j]?=some z->wK n j z=true:=λh j z hj hz=>by
     by_cases e:j=k
     ·subst e;rw[hx0] at hz;cases hz;exact h
     ·exact hok j z (by omega) hz
    have hs:=za hx (za hlt hN');repeat' first|(with_reducible first|refine zz ?_|refine zE Lk ?_)|simp -dsimp[hs]|refine j4 ?_ ?_<;>intro h<;>try exact h.elim
    all_goals try clear hs
    refine i7 (ι:={ c:Nat // c<=8/\∀ e<c,oZ n k x e=true }) (λp=>⟨78,[(1,.one (.ptr 0 0)),(2,.one (.im (.raw (.pointer none)))),(3,iv 0),(6,.one (.ptr 5 0)),(7,bv false),(8,iv (k:Int)),(9,.one (.ptr 6 0)),(30,.one (.im (.sl (n.notes.map j8)))),(31,iv (n.notes.length:Int)),(32,iv (k:Int)),(37,.agg [.im (.fn (.func 325) []),.im (.fn (.func 326) []),.im (.fn (.func 327) []),.im (.fn (.func 328) []),.im (.fn (.func 329) []),.im (.fn (.func 330) []),.im (.fn (.func 333) []),.im (.fn (.func 335) [])]),(38,iv (p.1:Int))],[.row ((A2 n).map .im),.vec 0 [] 0 true,.vec 0 [] 0 true,.vec 0 [] 0 true,.vec sz (l6 ((l8 (n.notes.take k)).map encI)) g nl,.row [.im (.sl (n.reg.map h9)),.im (.sl (n.notes.map j8)),.im (.sl ((nums n.reg).map encI)),.vec 4 g 0 (l8 (n.notes.take k)).length],.row ((j8 x).map .im)]⟩) (λp=>8-p.1) ⟨0,by simp⟩ (zv [1,2,3,6,7,8,9,30,31,32,37,38]) ?_;rintro⟨c,hc,hcc⟩;simp only[iv,bv];by_cases hc8:c<8
    ·have hm:oZ n k x c=true->∀ e<c+1,oZ n k x e=true:=λh e he=>by
      rcases Nat.lt_succ_iff_lt_or_eq.1 he with h1|rfl
      ·exact hcc e h1
      ·exact h
     have hbc:=hbad c;have hi8:c=0\/c=1\/c=2\/c=3\/c=4\/c=5\/c=6\/c=7:=by omega
     rcases hi8 with rfl|rfl|rfl|rfl|rfl|rfl|rfl|rfl
     all_goals
      have hs:=hli;repeat' first|(with_reducible first|refine zz ?_|refine HQ (by decide) ?_|refine zr ?_|refine zE Lk ?_)|simp -dsimp[hs]|refine zp k1 ?_|refine zp k2 ?_|refine zp k3 ?_|refine zp k4 ?_|refine zp k5 ?_|refine zp k6 ?_|refine zp k7 ?_|refine zp k8 ?_|refine j4 ?_ ?_<;>intro h<;>try exact h.elim
      all_goals try clear hs
     all_goals try (have h30:=hbc (by assumption);simp[cd,h30];done)
     all_goals exact At.round ⟨_,by omega,hm (by assumption)⟩ (by simp) (zw [1,2,3,6,7,8,9,30,31,32,37,38] 7 (by simp;exact r9 (by omega) (by omega)))
    ·obtain rfl:c=8:=by omega
     have hok1:=hstep (Bb hcc);have hsz':sz=1\/nl=true:=hsz.imp id And.left;clear k1 k2 k3 k4 k5 k6 k7 k8;by_cases hsg:x.signed=1
     ·rw[if_pos hsg] at hos;have hs:=za hx (za hlt (za hsg (za hw hsz')));repeat' first|(with_reducible first|refine zz ?_|refine And.intro (by omega) ?_)|simp -dsimp[hs]|refine J0 (id:=18) (nt:=78) 8 [0] [0,1,2,3,4,5,6,7,8,9,11,19,24,30,31,32,33,37,38,39,46,50,52,53,54,55,56,57,58,71] Lk mixed rfl (by kernel_rfl) ?_|with_reducible refine zE Lk ?_|refine j4 ?_ ?_<;>intro h<;>try exact h.elim
      all_goals try clear hs
      exact zn ⟨(k+1,g+1,1,false),by omega,.inl rfl,hok1⟩ (zw Kq 6 (by simp[hos]))
     ·rw[if_neg hsg,List.append_nil] at hos;have hszn:sz=1\/nl=true/\l8 (n.notes.take (k+1))=[]:=by rw[hos];exact hsz
      have hs:=za hx (za hlt (za hsg hw));repeat' first|(with_reducible first|refine zz ?_|refine zE Lk ?_)|simp -dsimp[hs]|refine j4 ?_ ?_<;>intro h<;>try exact h.elim
      all_goals try clear hs
      exact zn ⟨(k+1,g,sz,nl),by omega,hszn,hok1⟩ (zw Kq 6 (by simp[hos]))
   ·obtain rfl:k=n.notes.length:=by omega
    rw[List.take_length] at *;have hall:kX n:=λi x hx=>hok i x (e7 hx) hx;have hol:=aQ n.notes;have c2:=hS (l8 n.notes) g sz nl hsz (by omega);have hil:=J3 (l8 n.notes);by_cases h5:(l8 n.notes).length<=5
    ·have hE0:A5 n=0:=by rw[hE,if_pos (notesB_iff.2 ⟨hl,hall,h5⟩)]
     have h5i:¬ (5:Int)<(l8 n.notes).length:=by omega
     have hsz':sz=1\/nl=true:=hsz.imp id And.left;have htk:(l6 ((j9 (l8 n.notes)).map encI)).take (l8 n.notes).length=l6 ((j9 (l8 n.notes)).map encI):=List.take_of_length_le (by simp[o7,hil]);have hs:=za hlt (za h5i (za hsz' (za htk hil)));repeat' first|(with_reducible first|refine zz ?_|refine zr ?_|refine zE Lk ?_)|simp -dsimp[hs]|refine CallE.embed [4] (c2) ?_ ?_ ?_ ?_ ?_ ?_;(focus simp[p7];done);(focus simp;done);(focus simp;done);(focus simp;done);(focus refine n4 ?_;simp[p7,o6];done);try simp -dsimp[n3,p7,hs]|refine j4 ?_ ?_<;>intro h<;>try exact h.elim
     all_goals try clear hs
     all_goals simp[cd,hE0,F1,hil,htk]
    ·have hE0:A5 n=30:=by rw[hE,if_neg λh=>h5 (notesB_iff.1 h).2.2]
     have h5i:(5:Int)<(l8 n.notes).length:=by omega
     have hs:=za hlt h5i;repeat' first|(with_reducible first|refine zz ?_|refine zr ?_|refine zE Lk ?_)|simp -dsimp[hs]|refine j4 ?_ ?_<;>intro h<;>try exact h.elim
     all_goals try clear hs
     all_goals simp[cd,hE0]
  ·have hE:A5 n=30:=by
    unfold A5;rw[if_neg (by simp[h0]),if_neg λh=>hl (notesB_iff.1 h).1]
   have hli:(12:Int)<n.notes.length:=by omega
   have hs:=hli;repeat' first|(with_reducible first|refine zz ?_|refine zr ?_|refine zE Lk ?_)|simp -dsimp[hs]|refine zp c1 ?_|refine j4 ?_ ?_<;>intro h<;>try exact h.elim
   all_goals try clear hs
   all_goals simp[cd,hE]
 ·have hE:A5 n=l9 n.reg:=by unfold A5;rw[if_pos h0]
  have hs:=h0;repeat' first|(with_reducible first|refine zz ?_|refine zr ?_|refine zE Lk ?_)|simp -dsimp[hs]|refine zp c1 ?_|refine j4 ?_ ?_<;>intro h<;>try exact h.elim
  all_goals try clear hs
  all_goals simp[cd,hE,h0]
theorem xP (n:Notes) (hG:o4 G) (hN:C7 G) (hS:s8 G) (hs:EE n):zP prog G 227 [w9 n] (iv (A5 n)):=by
 refine zf func227 ntmps227 ?_;try simp only[w9]
 have c1:=oX n hG hN hS hs;have hs:=trivial;repeat' first|(with_reducible first|refine zz ?_|refine zr ?_|refine zE [0,1,2,4] ?_)|simp -dsimp[hs]|refine zp c1 ?_
 all_goals try clear hs
theorem uo {O:List Int} {j:Nat} (hd:O.Nodup) (hj:j<O.length):nh O[j] (O.take j)=O.take (j+1):=by
 unfold nh;rw[if_neg,List.take_succ_eq_append_getElem hj];intro hm;obtain⟨i,hi,e⟩:=List.mem_take_iff_getElem.1 hm;have:=(List.getElem_inj hd).1 e;omega
@[simp] abbrev Lw:List Nat:=[0,1,4,5,7,8,9,14,15,16,17,23,24,25,26,46]
theorem AC (a b c:IC) (O s:List Int) (hd:O.Nodup) (hO:O.length<1000) (hsl:s.length<1000):zP prog G 161 [.one (.im (.ip [a,b,c,.sl (O.map encI)])),A4 s] (iv (if H1 O s then 0 else 31)):=by
 refine zf func161 ntmps161 ?_;try simp only[A4]
 have hs:=trivial;repeat' first|(with_reducible first|refine zz ?_|refine zE Lw ?_)|simp -dsimp[hs]
 refine i7 (ι:={ j:Nat // j<=O.length }) (λp=>⟨50,[(1,A4 s),(4,iv 0),(5,.one (.map 0)),(14,.one (.im (.sl (O.map encI)))),(15,iv (O.length:Int)),(16,iv (p.1:Int))],[.map [.int .i64] (G5 (O.take p.1))]⟩) (λp=>O.length-p.1) ⟨0,by omega⟩ (zv [1,4,5,14,15,16] (by simp[G5])) ?_;rintro⟨j,hj⟩;simp only[iv,A4];by_cases hlt:j<O.length
 ·have hw:=zk j;have hst:=uo hd hlt;generalize hx:O[j]=x at *;have hs:=za hx (za hlt (za hw hst));repeat' first|(with_reducible first|refine zz ?_|refine zE Lw ?_)|simp -dsimp[hs]|refine j4 ?_ ?_<;>intro h<;>try exact h.elim
  exact zn ⟨j+1,by omega⟩ (zv [1,4,5,14,15,16] (by simp[hst]))
 ·obtain rfl:j=O.length:=by omega
  rw[List.take_length];have hs:=hlt;repeat' first|(with_reducible first|refine zz ?_|refine zE Lw ?_)|simp -dsimp[hs]|refine j4 ?_ ?_<;>intro h<;>try exact h.elim
  refine i7 (ι:={ p:Nat×List Int // p.1<=s.length/\p.2.Nodup/\(∀ m,m∈p.2↔m∈O/\m∉s.take p.1)/\dx O s p.1 }) (λp=>⟨50,[(1,A4 s),(5,.one (.map 0)),(23,A4 s),(24,iv (s.length:Int)),(25,iv (p.1.1:Int))],[.map [.int .i64] (G5 p.1.2)]⟩) (λp=>s.length-p.1.1) ⟨(0,O),by simp,hd,by simp,λi v h=>by omega⟩ (zv [1,5,23,24,25]) ?_;rintro⟨⟨i,L⟩,hi,hLd,hLm,hto⟩;simp only at hi hLd hLm hto;simp only[iv,A4];by_cases hlt2:i<s.length
  ·have hx0:s[i]?=some s[i]:=by simp[hlt2]
   have hw:=zk i;have hLv:=hLm s[i];have hLn:∀ m,m∈L.erase s[i]↔m∈O/\m∉s.take (i+1):=λm=>by
    rw[hLd.mem_erase_iff,hLm,List.take_succ_eq_append_getElem hlt2];simp only[List.mem_append,List.mem_singleton,not_or];exact⟨λh=>⟨h.2.1,h.2.2,h.1⟩,λh=>⟨h.2.2,h.1,h.2.1⟩⟩
   have hLe:=hLd.erase s[i];generalize hv:s[i]=v at *;by_cases hmem:v∈L
   ·have hmd:decide (v∈L)=true:=by simp[hmem]
    by_cases h00:i=0
    ·have hnext:=fq hto hx0 (hLv.1 hmem).1 (λj u e=>by omega);subst h00;have hs:=za hv (za hlt2 (za hmd hmem));repeat' first|(with_reducible first|refine zz ?_|refine zE Lw ?_)|simp -dsimp[hs]|refine j4 ?_ ?_<;>intro h<;>try exact h.elim
     exact zn ⟨(0+1,L.erase v),by omega,hLe,hLn,hnext⟩ (zv [1,5,23,24,25] (by simp;exact r9 (by omega) (by omega)))
    ·have hq:i-1<s.length:=by omega
     have hwq:IntKind.i64.wrap ((i:Int)-1)=((i-1:Nat):Int):=by rw[r9 (by omega) (by omega)];omega
     have hi0:(0:Int)<(i:Int):=by omega
     have hin0:0<i:=by omega
     have hu0:s[i-1]?=some s[i-1]:=by simp[hq]
     have hnin:s[i-1]≠v:=λe=>(hLv.1 hmem).2 (e ▸ List.mem_take_iff_getElem.2 ⟨i-1,by omega,rfl⟩);generalize hu:s[i-1]=u at *;by_cases hlu:v<u
     ·have hb:=lP (o:=O) hx0 (.inr ⟨i-1,u,by omega,hu0,by omega⟩);have hs:=za hv (za hu (za hq (za hlt2 (za hw (za hwq (za hmd (za hmem (za hi0 (za hin0 hlu)))))))));repeat' first|(with_reducible first|refine zz ?_|refine zr ?_|refine zE Lw ?_)|simp -dsimp[hs]|refine j4 ?_ ?_<;>intro h<;>try exact h.elim
      all_goals simp[hb]
     ·have hnext:=fq hto hx0 (hLv.1 hmem).1 (λj u' e hu'=>by
       obtain rfl:i-1=j:=by omega
       rw[hu0] at hu';cases hu';omega)
      have hs:=za hv (za hu (za hq (za hlt2 (za hw (za hwq (za hmd (za hmem (za hi0 (za hin0 hlu)))))))));repeat' first|(with_reducible first|refine zz ?_|refine zE Lw ?_)|simp -dsimp[hs]|refine j4 ?_ ?_<;>intro h<;>try exact h.elim
      exact zn ⟨(i+1,L.erase v),by omega,hLe,hLn,hnext⟩ (zv [1,5,23,24,25])
   ·have hmd:decide (v∈L)=false:=by simp[hmem]
    have hb:H1 O s=false:=by
     refine lP hx0 ?_;by_cases ho:v∈O
     ·refine .inr ?_;cases i with
      | zero=>exact absurd (hLv.2 ⟨ho,by simp⟩) hmem
      | succ q =>
        have hq:q<s.length:=by omega
        refine⟨q,s[q],rfl,by simp[hq],Int.not_lt.1 λhlt3=>hmem (hLv.2 ⟨ho,oz hto hq hlt3⟩)⟩
     ·exact .inl ho
    have hs:=za hv (za hlt2 (za hmd hmem));repeat' first|(with_reducible first|refine zz ?_|refine zr ?_|refine zE Lw ?_)|simp -dsimp[hs]|refine j4 ?_ ?_<;>intro h<;>try exact h.elim
    all_goals simp[hb]
  ·have hb:H1 O s=true:=jJ (oA (by rwa [show i=s.length by omega] at hto));have hs:=hlt2;repeat' first|(with_reducible first|refine zz ?_|refine zr ?_|refine zE Lw ?_)|simp -dsimp[hs]|refine j4 ?_ ?_<;>intro h<;>try exact h.elim
   all_goals simp[hb]
def D4 (n:Notes) (s:List Int) (m:Int):Int:=if A5 n≠0 then A5 n else if H1 (j9 (l8 n.notes)) s=false then 31 else if 1<=m/\m<=999 then 0 else 2
def L9 (n:Notes) (s:List Int) (m:Int):DV:=if D4 n s m=0 then .one (.im (F1 n)) else .one (.im (.raw (.pointer none)))
theorem wc (n:Notes) (s:List Int) (m:Int):ImV (L9 n s m):=by unfold L9;split<;>simp[F1]
attribute [simp] wc
theorem zS {n:Notes} {s:List Int} {m:Int} (h:D4 n s m=0):A5 n=0/\H1 (j9 (l8 n.notes)) s=true/\1<=m/\m<=999:=by
 unfold D4 at h;split at h
 ·contradiction
 ·split at h
  ·cases h
  ·split at h
   ·rename_i h1 h2 h3;exact⟨by simpa using h1,by simpa using h2,h3⟩
   ·cases h
theorem fK {n:Notes} (h:A5 n=0):l9 n.reg=0/\n.notes.length<=12/\kX n/\(l8 n.notes).length<=5:=by
 unfold A5 at h;split at h
 ·contradiction
 ·split at h
  ·rename_i h1 h2;exact⟨by simpa using h1,notesB_iff.1 h2⟩
  ·cases h
@[simp] abbrev Kb:List Nat:=[0,1,2,3,6,7,8,9,10,17,23,28]
theorem tU (n:Notes) (s:List Int) (m:Int) (hG:o4 G) (hN:C7 G) (hS:s8 G) (hs:EE n) (hsl:s.length<1000):zP prog G 102 [w9 n,A4 s,iv m] (.tup [L9 n s m,iv (D4 n s m)]):=by
 refine zf func102 ntmps102 ?_;try simp only[w9,A4,iv]
 have c1:=oX n hG hN hS hs;by_cases h0:A5 n=0
 ·rw[h0,show cd n=.one (.im (F1 n)) by unfold cd;rw[if_pos h0]] at c1;have hok:=fK h0;have hnl:=hs.2.1;have hol:=aQ n.notes;have c2:=AC (G:=G) (.sl (n.reg.map h9)) (.sl (n.notes.map j8)) (.sl ((nums n.reg).map encI)) (j9 (l8 n.notes)) s (pq (iD hok.2.2.1)) (by rw[J3];omega) hsl;have c3:=fV (G:=G) 1 999 [m] (by simp);have hE:D4 n s m=if H1 (j9 (l8 n.notes)) s=false then 31 else if 1<=m/\m<=999 then 0 else 2:=by unfold D4;rw[if_neg (by simp[h0])]
  simp only[F1] at c1;cases ht:H1 (j9 (l8 n.notes)) s
  ·rw[ht] at c2 hE;have hE:D4 n s m=31:=by rw[hE];rfl
   have hs:=trivial;repeat' first|(with_reducible first|refine zz ?_|refine zr ?_|refine zE Kb ?_)|simp -dsimp[hs]|refine zp c1 ?_|refine zp c2 ?_|refine j4 ?_ ?_<;>intro h<;>try exact h.elim
   all_goals try clear hs
   all_goals simp[L9,hE]
  ·rw[ht] at c2 hE;by_cases hm:1<=m/\m<=999
   ·have hE:D4 n s m=0:=by rw[hE,if_neg (by simp),if_pos hm]
    have hin:([m].all λx=>decide (1<=x)&&decide (x<=999))=true:=by simp[hm]
    rw[hin] at c3;have hs:=trivial;repeat' first|(with_reducible first|refine zz ?_|refine zr ?_|refine zE Kb ?_)|simp -dsimp[hs]|refine zp c1 ?_|refine zp c2 ?_|refine zt c3 ?_ ?_ ?_;(focus simp;done);focus (simp;done)|refine j4 ?_ ?_<;>intro h<;>try exact h.elim
    all_goals try clear hs
    all_goals simp[L9,hE,F1]
   ·have hE:D4 n s m=2:=by rw[hE,if_neg (by simp),if_neg hm]
    have hin:([m].all λx=>decide (1<=x)&&decide (x<=999))=false:=by simp;omega
    rw[hin] at c3;have hs:=trivial;repeat' first|(with_reducible first|refine zz ?_|refine zr ?_|refine zE Kb ?_)|simp -dsimp[hs]|refine zp c1 ?_|refine zp c2 ?_|refine zt c3 ?_ ?_ ?_;(focus simp;done);focus (simp;done)|refine j4 ?_ ?_<;>intro h<;>try exact h.elim
    all_goals try clear hs
    all_goals simp[L9,hE]
 ·rw[show cd n=.one (.im (.raw (.pointer none))) by unfold cd;rw[if_neg h0]] at c1;have hE:D4 n s m=A5 n:=by unfold D4;rw[if_pos h0]
  have hs:=h0;repeat' first|(with_reducible first|refine zz ?_|refine zr ?_|refine zE Kb ?_)|simp -dsimp[hs]|refine zp c1 ?_|refine j4 ?_ ?_<;>intro h<;>try exact h.elim
  all_goals try clear hs
  all_goals simp[L9,hE,h0]
def Eg (n:Notes) (s:List Int) (m d:Int):Int:=if D4 n s m≠0 then D4 n s m else if d∈nums n.reg then 0 else 6
def yU (n:Notes) (s:List Int) (m d:Int):DV:=if Eg n s m d=0 then .one (.im (F1 n)) else .one (.im (.raw (.pointer none)))
theorem vG (n:Notes) (s:List Int) (m d:Int):ImV (yU n s m d):=by unfold yU;split<;>simp[F1]
attribute [simp] vG
end Go.Proofs
namespace Go.Ab
open Go
structure Holder where
 id:Int
 frm:Int
 to:Int
 draws:List Int
 deriving DecidableEq
structure Print where
 number:Int
 day:Int
 holder:Int
 drawing:Int
 letter:Int
 back:Int
 lost:Int
 deriving DecidableEq
structure Prints where
 n:Notes
 holders:List Holder
 prints:List Print
 deriving DecidableEq
def n7 (x:Holder):List IC:=[rI x.id,rI x.frm,rI x.to,.sl (x.draws.map encI)]
def p6 (x:Print):List IC:=[rI x.number,rI x.day,rI x.holder,rI x.drawing,rI x.letter,rI x.back,.raw (.int .u8 x.lost)]
def A8 (p:Prints):List IC:=[.sl (p.n.reg.map h9),.sl (p.n.notes.map j8),.sl (p.holders.map n7),.sl (p.prints.map p6)]
def iM (x:Holder):DV:=.agg ((n7 x).map .im)
def aB (x:Print):DV:=.agg ((p6 x).map .im)
def R6 (p:Prints):DV:=.agg ((A8 p).map .im)
attribute [simp] n7 p6 A8 iM aB R6
end Go.Ab
namespace Go.Proofs
open Go Go.Ab
variable {G:IK}
theorem rL (x lo hi:Int):DCall Tryz.prog G 238 (iv x :: [DC.ptr 0 0,DC.ptr 1 0].map .one) [.row [.im (rI lo)],.row [.im (rI hi)]] (λd o=>d=bv (decide (x<lo)||decide (hi<x))/\o=[.row [.im (rI lo)],.row [.im (rI hi)]]):=by
 refine g9 Tryz.func238 rfl Tryz.ntmps238 (by simp) rfl ?_;simp only[rI];have hs:=trivial;repeat' first|(with_reducible first|refine zz ?_|refine zr ?_|refine zE [0,1,2,4] ?_)|simp -dsimp[hs]|with_reducible refine j7 ?_ ?_<;>intro h<;>have h0:=h<;>(try simp only[i8] at h)<;>have h2:=h<;>(try simp at h2)<;>replace hs:=za h0 (za h (za h2 hs))|with_reducible refine And.intro ?_ ?_
 all_goals try clear hs
 all_goals simp[*]
theorem R1 (lo hi:Int) (l:List Int) (hl:l.length<1000000):zP Tryz.prog G 190 [iv lo,iv hi,A4 l] (bv (l.all λx=>decide (lo<=x)&&decide (x<=hi))):=by
 refine zf Tryz.func190 Tryz.ntmps190 ?_;try simp only[iv,iv,A4]
 have hc:=B5 (G:=G) l (λx=>decide (x<lo)||decide (hi<x)) 238 [.ptr 0 0,.ptr 1 0] [.row [.im (rI lo)],.row [.im (rI hi)]] (by simp) (λx _=>rL x lo hi) hl;simp only[rI] at hc;repeat' first|(with_reducible first|refine zz ?_|refine zx ?_|refine zE [0,1,2,3,4,6] ?_)|simp -dsimp|refine CallE.here hc ?_
 rw[Bool.eq_iff_iff];simp;exact exists_congr λx=>and_congr_right λ_=>by omega
@[simp] abbrev Lc:List Nat:=[0,1,4,5,7,8,9,16]
theorem cR (l:List Holder) (p:Holder->Bool) (k:Nat) (caps:List DC) (objs:List DObj) (hok:C1 Tryz.prog k) (hf:∀ x∈l,DCall Tryz.prog G k (iM x :: caps.map .one) objs (λd o=>d=bv (p x)/\o=objs)) (hl:l.length<1000000):DCall Tryz.prog G 178 [.one (.im (.sl (l.map n7))),.one (.fn (.func k) caps)] objs (λd o=>d=iv (J4 p l)/\o=objs):=by
 refine g9 Tryz.func178 rfl Tryz.ntmps178 (by simp) rfl ?_;have hs:=trivial;repeat' first|(with_reducible first|refine zz ?_|refine zE Lc ?_)|simp -dsimp[hs]
 refine i7 (ι:={ k:Nat // k<=l.length/\∀ j x,j<k->l[j]?=some x->p x=false }) (λi=>⟨19,[(0,.one (.im (.sl (l.map n7)))),(1,.one (.fn (.func k) caps)),(7,iv (l.length:Int)),(8,iv (i.1:Int))],objs⟩) (λi=>l.length-i.1) ⟨0,by simp⟩ (zv [0,1,7,8]) ?_;rintro⟨i,hi,hno⟩;simp only[iv];by_cases hlt:i<l.length
 ·have hx:l[i]?=some l[i]:=by simp[hlt]
  have hw:=zk i;have hc:=hf l[i] (by simp);simp only[iM,n7,List.map_cons,List.map_nil,bv,rI] at hc;have hs:=za hx (za hw hok);repeat' first|(with_reducible first|refine zz ?_|refine And.intro (by omega) ?_|refine zr ?_|refine zE Lc ?_)|simp -dsimp[hs]|refine CallE.here hc ?_|refine j4 ?_ ?_<;>intro h<;>try exact h.elim|with_reducible refine And.intro ?_ ?_
  all_goals try omega
  ·exact(K2 hx (by assumption) hno).symm
  ·exact At.round ⟨i+1,by omega,λj x hj hjx=>by
    by_cases e:j=i
    ·subst e;rw[hx] at hjx;cases hjx;assumption
    ·exact hno j x (by omega) hjx⟩ (by simp;omega) (zv [0,1,7,8])
 ·have hs:=trivial;repeat' first|(with_reducible first|refine zz ?_|refine zr ?_|refine zE Lc ?_)|simp -dsimp[hs]|refine j4 ?_ ?_<;>intro h<;>try exact h.elim|with_reducible refine And.intro ?_ ?_
  all_goals try omega
  exact(S6 λj x hjx=>hno j x (by have:=e7 hjx;omega) hjx).symm
theorem gt (l:List Holder) (p:Holder->Bool) (k:Nat) (caps:List DC) (objs:List DObj) (hok:C1 Tryz.prog k) (hf:∀ x∈l,DCall Tryz.prog G k (iM x :: caps.map .one) objs (λd o=>d=bv (p x)/\o=objs)) (hl:l.length<1000000):DCall Tryz.prog G 120 [.one (.im (.sl (l.map n7))),.one (.fn (.func k) caps)] objs (λd o=>d=bv (l.any p)/\o=objs):=by
 refine g9 Tryz.func120 rfl Tryz.ntmps120 (by simp) rfl ?_;have hc:=cR l p k caps objs hok hf hl;repeat' first|(with_reducible first|refine zz ?_|refine zx ?_|refine zE [0,1,4] ?_)|simp -dsimp|refine CallE.here hc ?_|with_reducible refine And.intro ?_ ?_
 simp[A1]
theorem lE (l:List Issue) (p:Issue->Bool) (k:Nat) (caps:List DC) (objs:List DObj) (hok:C1 Tryz.prog k) (hf:∀ x∈l,DCall Tryz.prog G k (Q3 x :: caps.map .one) objs (λd o=>d=bv (p x)/\o=objs)) (hl:l.length<1000000):DCall Tryz.prog G 344 [.one (.im (.sl (l.map h9))),.one (.fn (.func k) caps)] objs (λd o=>d=iv (J4 p l)/\o=objs):=by
 refine g9 Tryz.func344 rfl Tryz.ntmps344 (by simp) rfl ?_;have hs:=trivial;repeat' first|(with_reducible first|refine zz ?_|refine zE Lc ?_)|simp -dsimp[hs]
 refine i7 (ι:={ k:Nat // k<=l.length/\∀ j x,j<k->l[j]?=some x->p x=false }) (λi=>⟨19,[(0,.one (.im (.sl (l.map h9)))),(1,.one (.fn (.func k) caps)),(7,iv (l.length:Int)),(8,iv (i.1:Int))],objs⟩) (λi=>l.length-i.1) ⟨0,by simp⟩ (zv [0,1,7,8]) ?_;rintro⟨i,hi,hno⟩;simp only[iv];by_cases hlt:i<l.length
 ·have hx:l[i]?=some l[i]:=by simp[hlt]
  have hw:=zk i;have hc:=hf l[i] (by simp);simp only[Q3,h9,List.map_cons,List.map_nil,bv,rI] at hc;have hs:=za hx (za hw hok);repeat' first|(with_reducible first|refine zz ?_|refine And.intro (by omega) ?_|refine zr ?_|refine zE Lc ?_)|simp -dsimp[hs]|refine CallE.here hc ?_|refine j4 ?_ ?_<;>intro h<;>try exact h.elim|with_reducible refine And.intro ?_ ?_
  all_goals try omega
  ·exact(K2 hx (by assumption) hno).symm
  ·exact At.round ⟨i+1,by omega,λj x hj hjx=>by
    by_cases e:j=i
    ·subst e;rw[hx] at hjx;cases hjx;assumption
    ·exact hno j x (by omega) hjx⟩ (by simp;omega) (zv [0,1,7,8])
 ·have hs:=trivial;repeat' first|(with_reducible first|refine zz ?_|refine zr ?_|refine zE Lc ?_)|simp -dsimp[hs]|refine j4 ?_ ?_<;>intro h<;>try exact h.elim|with_reducible refine And.intro ?_ ?_
  all_goals try omega
  exact(S6 λj x hjx=>hno j x (by have:=e7 hjx;omega) hjx).symm
theorem ig (l:List Issue) (p:Issue->Bool) (k:Nat) (caps:List DC) (objs:List DObj) (hok:C1 Tryz.prog k) (hf:∀ x∈l,DCall Tryz.prog G k (Q3 x :: caps.map .one) objs (λd o=>d=bv (p x)/\o=objs)) (hl:l.length<1000000):DCall Tryz.prog G 340 [.one (.im (.sl (l.map h9))),.one (.fn (.func k) caps)] objs (λd o=>d=bv (l.any p)/\o=objs):=by
 refine g9 Tryz.func340 rfl Tryz.ntmps340 (by simp) rfl ?_;have hc:=lE l p k caps objs hok hf hl;repeat' first|(with_reducible first|refine zz ?_|refine zx ?_|refine zE [0,1,4] ?_)|simp -dsimp|refine CallE.here hc ?_|with_reducible refine And.intro ?_ ?_
 simp[A1]
def l4 (p:Prints):IC:=.ip [.sl (p.n.reg.map h9),.sl (p.n.notes.map j8),.sl (p.holders.map n7),.sl (p.prints.map p6),.sl ((nums p.n.reg).map encI)]
theorem vi (n:Int) (y:Holder):DCall Tryz.prog G 191 (iM y :: [DC.ptr 0 0].map .one) [.row [.im (rI n)]] (λd o=>d=bv (decide (y.id=n))/\o=[.row [.im (rI n)]]):=by
 refine DCall.drop ?_;refine g9 Tryz.func191 rfl Tryz.ntmps191 (by simp) rfl ?_;simp only[iM,n7,rI];repeat' first|(with_reducible first|refine zz ?_|refine zx ?_|refine zE [0,1,2,3] ?_)|simp -dsimp|with_reducible refine And.intro ?_ ?_
theorem pw (p:Prints) (n:Int) (hl:p.holders.length<1000000):zP Tryz.prog G 144 [.one (.im (l4 p)),iv n] (iv (J4 (λy=>decide (y.id=n)) p.holders)):=by
 refine zf Tryz.func144 Tryz.ntmps144 ?_;try simp only[iv]
 simp only[l4];have c1:=cR (G:=G) p.holders (λy=>decide (y.id=n)) 191 [.ptr 0 0] [.row [.im (rI n)]] (by simp) (λy _=>vi n y) hl;simp only[rI] at c1;repeat' first|(with_reducible first|refine zz ?_|refine zx ?_|refine zE [0,1,3,4] ?_)|simp -dsimp|refine zh c1 ?_
def GN (x:Print):Bool:=(decide (1<=x.number)&&decide (x.number<=9999))&&(decide (0<=x.day)&&decide (x.day<=14610))
theorem Fp (d:IC) (x:Print):zP Tryz.prog G 337 [.one (.im d),aB x] (bv (GN x)):=by
 refine zf Tryz.func337 Tryz.ntmps337 ?_;try simp only[iv]
 have c1:=R1 (G:=G) 1 9999 [x.number] (by simp);have c2:=R1 (G:=G) 0 14610 [x.day] (by simp);have hs:=trivial;repeat' first|(with_reducible first|refine zz ?_|refine zr ?_|refine zE [1,3,4] ?_)|simp -dsimp[hs]|refine zt c1 ?_ ?_ ?_;(focus simp;done);focus (simp;done)|refine zt c2 ?_ ?_ ?_;(focus simp;done);focus (simp;done)|with_reducible refine j7 ?_ ?_<;>intro h<;>have h0:=h<;>(try simp only[i8] at h)<;>have h2:=h<;>(try simp at h2)<;>replace hs:=za h0 (za h (za h2 hs))
 all_goals try clear hs
 all_goals simp_all [GN]
 all_goals omega
def Hi (l:List Holder) (x:Print):Bool:=l.any λy=>decide (y.id=x.holder)
theorem Fo (p:Prints) (x:Print) (hl:p.holders.length<1000000):zP Tryz.prog G 338 [.one (.im (l4 p)),aB x] (bv (Hi p.holders x)):=by
 refine zf Tryz.func338 Tryz.ntmps338 ?_;try simp only[iv]
 have c1:=pw (G:=G) p x.holder hl;simp only[l4] at c1 ⊢;repeat' first|(with_reducible first|refine zz ?_|refine zx ?_|refine zE [0,1,3,4] ?_)|simp -dsimp|refine zp c1 ?_
 rw[A1];rfl
def GM (l:List Issue) (x:Print):Bool:=l.any λy=>decide (x.drawing=y.drawing/\x.letter=y.letter)
theorem Dh (x:Print) (y:Issue):DCall Tryz.prog G 341 (Q3 y :: [DC.ptr 0 0].map .one) [.row ((p6 x).map .im)] (λd o=>d=bv (decide (x.drawing=y.drawing/\x.letter=y.letter))/\o=[.row ((p6 x).map .im)]):=by
 refine DCall.drop ?_;refine g9 Tryz.func341 rfl Tryz.ntmps341 (by simp) rfl ?_;simp only[Q3,h9,p6,rI];repeat' first|(with_reducible first|refine zz ?_|refine zx ?_|refine zE [0,1,2,3] ?_)|simp -dsimp|with_reducible refine And.intro ?_ ?_
theorem Fm (p:Prints) (x:Print) (hl:p.n.reg.length<1000000):zP Tryz.prog G 339 [.one (.im (l4 p)),aB x] (bv (GM p.n.reg x)):=by
 refine zf Tryz.func339 Tryz.ntmps339 ?_;try simp only[iv]
 simp only[l4];have c1:=ig (G:=G) p.n.reg (λy=>decide (x.drawing=y.drawing/\x.letter=y.letter)) 341 [.ptr 0 0] [.row ((p6 x).map .im)] (by simp) (λy _=>Dh x y) hl;simp only[p6,rI,List.map_cons,List.map_nil] at c1;repeat' first|(with_reducible first|refine zz ?_|refine zx ?_|refine zE [0,1,3,4] ?_)|simp -dsimp|refine zh c1 ?_
 simp[GM]
def GL (x:Print):Bool:=decide (x.lost<=2)
theorem Fl (d:IC) (x:Print):zP Tryz.prog G 342 [.one (.im d),aB x] (bv (GL x)):=by
 refine zf Tryz.func342 Tryz.ntmps342 ?_;try simp only[iv]
 repeat' first|(with_reducible first|refine zz ?_|refine zx ?_|refine zE [1,3,4] ?_)|simp -dsimp
 all_goals simp[GL]
def GK (x:Print):Bool:=decide (x.back=-1)||(decide (x.day<=x.back)&&decide (x.back<=14610))&&decide (x.lost=0)
theorem Fk (d:IC) (x:Print):zP Tryz.prog G 343 [.one (.im d),aB x] (bv (GK x)):=by
 refine zf Tryz.func343 Tryz.ntmps343 ?_;try simp only[iv]
 have c1:=R1 (G:=G) x.day 14610 [x.back] (by simp);have hs:=trivial;repeat' first|(with_reducible first|refine zz ?_|refine zr ?_|refine zE [1,3,4] ?_)|simp -dsimp[hs]|refine zt c1 ?_ ?_ ?_;(focus simp;done);focus (simp;done)|with_reducible refine j7 ?_ ?_<;>intro h<;>have h0:=h<;>(try simp only[i8] at h)<;>have h2:=h<;>(try simp at h2)<;>replace hs:=za h0 (za h (za h2 hs))
 all_goals try clear hs
 all_goals simp_all [GK]
 all_goals omega
end Go.Proofs
namespace Go.Proofs
open Go Go.Ab Tryz
variable {G:IK}
def Gn (D l:List Int) (k:Nat) (d:Int):Prop:=d∈D/\(0<k->∀ e,l[k-1]?=some e->e<d)
def GX (l:List Holder) (i:Nat) (x:Holder):Prop:=(1<=x.id/\x.id<=9999)/\(0<i->∀ y,l[i-1]?=some y->y.id<x.id)/\(1<=x.frm/\x.frm<=999)/\(1<=x.to/\x.to<=999)/\x.frm<=x.to/\x.draws.length<=8
def EP (D:List Int) (l:List Holder) (i:Nat) (x:Holder):Prop:=GX l i x/\∀ k d,x.draws[k]?=some d->Gn D x.draws k d
def xF (p:Prints) (x:Print):Nat->Bool
 | 0=>GN x
 | 1=>Hi p.holders x
 | 2=>GM p.n.reg x
 | 3=>GL x
 | _=>GK x
def Fj (p:Prints) (i:Nat) (x:Print):Prop:=(0<i->∀ y,p.prints[i-1]?=some y->y.number<x.number)/\∀ c,c<5->xF p x c=true
structure PrintsOk (p:Prints):Prop where
 hl:p.holders.length<=6
 pl:p.prints.length<=30
 h:∀ i x,p.holders[i]?=some x->EP (nums p.n.reg) p.holders i x
 q:∀ i x,p.prints[i]?=some x->Fj p i x
noncomputable def J2 (p:Prints):Bool:=open Classical in decide (PrintsOk p)
theorem bt {p:Prints} (h:¬ PrintsOk p):J2 p=false:=by simp[J2,h]
theorem cJ {p:Prints} (h:PrintsOk p):J2 p=true:=by simp[J2,h]
structure SmallP (p:Prints):Prop where
 r:(nums p.n.reg).length<1000
 l:p.n.reg.length<1000
 h:p.holders.length<=8
 q:p.prints.length<=40
 d:∀ x∈p.holders,x.draws.length<=20
 lo:∀ x∈p.prints,0<=x.lost/\x.lost<=255
def u3 (G:IK):Prop:=G 6=some [.fn (.func 337) [],.fn (.func 338) [],.fn (.func 339) [],.fn (.func 342) [],.fn (.func 343) []]
@[simp] abbrev Lg:List Nat:=[0,2,3,4,5,6,7,8,9,11,27,32,33,34,35,84,86,87,88,89,113,120,121,122,123,143,144,145,146,154]
theorem AM (p:Prints) (hR:u3 G) (hs:SmallP p):zP prog G 228 [.one (.im (l4 p))] (bv (J2 p)):=by
 refine zf func228 ntmps228 ?_;try simp only[iv]
 have hR':G 6=some [.fn (.func 337) [],.fn (.func 338) [],.fn (.func 339) [],.fn (.func 342) [],.fn (.func 343) []]:=hR;obtain⟨hsr,hsl,hsh,hsq,hsd,hslo⟩:=hs;by_cases h6:¬ p.holders.length<=6
 ·have h6':(6:Int)<p.holders.length:=by omega
  have hno:=bt (p:=p) λh=>h6 h.hl;simp only[l4];have hs:=h6';repeat' first|(with_reducible first|refine zz ?_|refine zr ?_|refine zE Lg ?_)|simp -dsimp[hs]|refine j4 ?_ ?_<;>intro h<;>try exact h.elim
  all_goals try clear hs
  all_goals simp[hno]
 by_cases h30:¬ p.prints.length<=30
 ·replace h6:=Classical.not_not.1 h6;have h6':¬ (6:Int)<p.holders.length:=by omega
  have h30':(30:Int)<p.prints.length:=by omega
  have hno:=bt (p:=p) λh=>h30 h.pl;simp only[l4];have hs:=za h6' h30';repeat' first|(with_reducible first|refine zz ?_|refine zr ?_|refine zE Lg ?_)|simp -dsimp[hs]|refine j4 ?_ ?_<;>intro h<;>try exact h.elim
  all_goals try clear hs
  all_goals simp[hno]
 replace h6:=Classical.not_not.1 h6;replace h30:=Classical.not_not.1 h30;have h6':¬ (6:Int)<p.holders.length:=by omega
 have h30':¬ (30:Int)<p.prints.length:=by omega
 simp only[l4];have hs:=za h6' h30';repeat' first|(with_reducible first|refine zz ?_|refine zE Lg ?_)|simp -dsimp[hs]|refine j4 ?_ ?_<;>intro h<;>try exact h.elim
 all_goals try clear hs
 refine i7 (ι:={ k:Nat // k<=p.holders.length/\∀ (j:Nat) (x:Holder),j<k->p.holders[j]?=some x->EP (nums p.n.reg) p.holders j x }) (λq=>⟨158,[(0,.one (.im (l4 p))),(32,.one (.im (.sl (p.holders.map n7)))),(33,iv (p.holders.length:Int)),(34,iv (q.1:Int))],[]⟩) (λq=>p.holders.length-q.1) ⟨0,by simp⟩ (zv [0,32,33,34] (by simp[l4])) ?_;rintro⟨k,hk,hok⟩;simp only[iv,l4];by_cases hlt:k<p.holders.length
 ·have hx0:p.holders[k]?=some p.holders[k]:=by simp[hlt]
  have hw:=zk k;have hdl:=hsd p.holders[k] (List.getElem_mem hlt);generalize hx:p.holders[k]=x at *;have hbad:¬ EP (nums p.n.reg) p.holders k x->J2 p=false:=λh=>bt λh'=>h (h'.h k x hx0);have hstep:EP (nums p.n.reg) p.holders k x->∀ (j:Nat) (z:Holder),j<k+1->p.holders[j]?=some z->EP (nums p.n.reg) p.holders j z:=λh j z hj hz=>by
   by_cases e:j=k
   ·subst e;rw[hx0] at hz;cases hz;exact h
   ·exact hok j z (by omega) hz
  have c1:=R1 (G:=G) 1 9999 [x.id] (by simp);have c2:=R1 (G:=G) 1 999 [x.frm,x.to] (by simp);have c3:=λd=>bK (G:=G) (nums p.n.reg) d (by omega);have hs:True:=trivial;by_cases hA:GX p.holders k x
  ·have hA':=hA;obtain⟨a1,a3,a4,a6,a8,a9⟩:=hA;have e1:([x.id].all λy=>decide (1<=y)&&decide (y<=9999))=true:=by simp;omega
   have e2:([x.frm,x.to].all λy=>decide (1<=y)&&decide (y<=999))=true:=by simp;omega
   rw[e1] at c1;rw[e2] at c2;have a8':¬ x.to<x.frm:=by omega
   have a9':¬ (8:Int)<x.draws.length:=by omega
   have hcs:(¬ 0<k/\True/\∃ _:True,True)\/(0<k/\IntKind.i64.wrap ((k:Int)-1)=((k-1:Nat):Int)/\∃ h:k-1<p.holders.length,¬ x.id<=(p.holders[k-1]'h).id):=by
    rcases Nat.eq_zero_or_pos k with h0|h0
    ·exact .inl ⟨by omega,trivial,trivial,trivial⟩
    ·have h1:k-1<p.holders.length:=by omega
     exact .inr ⟨by omega,by rw[r9 (by omega) (by omega)];omega,h1,by have:=a3 h0 _ (List.getElem?_eq_getElem h1);omega⟩
   rcases hcs with⟨hk0,hwm,hi1,hlt1⟩|⟨hk0,hwm,hi1,hlt1⟩
   all_goals
    have hs:=za hx (za hlt (za a8' (za a9' (za hk0 (za hwm (za hi1 hlt1))))));repeat' first|with_reducible refine zz ?_|simp -dsimp[hs]|refine zq c1 ?_|refine zq c2 ?_|refine zM 6 158 46 Lg ?_|with_reducible refine zE Lg ?_|refine j4 ?_ ?_<;>intro h<;>try exact h.elim
    all_goals try clear hs
   all_goals
    refine i7 (ι:={ j:Nat // j<=x.draws.length/\∀ (i:Nat) (d:Int),i<j->x.draws[i]?=some d->Gn (nums p.n.reg) x.draws i d }) (λq=>⟨158,[(0,.one (.im (l4 p))),(4,.one (.ptr 1 0)),(32,.one (.im (.sl (p.holders.map n7)))),(33,iv (p.holders.length:Int)),(34,iv (k:Int)),(86,.one (.im (.sl (x.draws.map encI)))),(87,iv (x.draws.length:Int)),(88,iv (q.1:Int))],[.vec 0 [] 0 true,.row ((n7 x).map .im)]⟩) (λq=>x.draws.length-q.1) ⟨0,by simp⟩ (zv [0,4,32,33,34,86,87,88] (by simp[l4])) ?_;rintro⟨j,hj,hjok⟩;simp only[iv,l4];by_cases hlj:j<x.draws.length
    ·have hx1:x.draws[j]?=some x.draws[j]:=by simp[hlj]
     have hwj:=zk j;have c4:=c3 x.draws[j];have hcj:(¬ 0<j/\True/\∃ _:True,True)\/(0<j/\IntKind.i64.wrap ((j:Int)-1)=((j-1:Nat):Int)/\∃ h:j-1<x.draws.length,True):=by
      rcases Nat.eq_zero_or_pos j with h0|h0
      ·exact .inl ⟨by omega,trivial,trivial,trivial⟩
      ·exact .inr ⟨by omega,by rw[r9 (by omega) (by omega)];omega,by omega,trivial⟩
     have hbadj:¬ Gn (nums p.n.reg) x.draws j x.draws[j]->J2 p=false:=λh=>hbad λh'=>h (h'.2 j _ hx1);have hstj:Gn (nums p.n.reg) x.draws j x.draws[j]->∀ (i:Nat) (d:Int),i<j+1->x.draws[i]?=some d->Gn (nums p.n.reg) x.draws i d:=λh i d hi hd=>by
      by_cases e:i=j
      ·subst e;rw[hx1] at hd;cases hd;exact h
      ·exact hjok i d (by omega) hd
     clear hstep;rcases hcj with⟨hj0,hwmj,hij,-⟩|⟨hj0,hwmj,hij,-⟩
     all_goals
      have hs:=za hx1 (za hlj (za hj0 (za hwmj (za hij hwj))));repeat' first|(with_reducible first|refine zz ?_|refine zr ?_|refine zE Lg ?_)|simp -dsimp[hs]|refine zp c4 ?_|refine j4 ?_ ?_<;>intro h<;>try exact h.elim|with_reducible refine j7 ?_ ?_<;>intro h<;>have h0:=h<;>(try simp only[i8] at h)<;>have h2:=h<;>(try simp at h2)<;>replace hs:=za h0 (za h (za h2 hs))
      all_goals try clear hs
     all_goals first
      | exact zn ⟨j+1,by omega,hstj ⟨of_decide_eq_true (by assumption),λh1 e he=>by first|omega|(obtain⟨_,rfl⟩:=List.getElem?_eq_some_iff.1 he;omega)⟩⟩ (zv [0,4,32,33,34,86,87,88])
      | (refine hbadj λhh=>?_;have:=hh.1;simp_all;done)
      | (refine hbadj λhh=>?_;have:=hh.2 (by omega) _ (List.getElem?_eq_getElem hij);omega)
    ·have hs:=za hlj hw;repeat' first|(with_reducible first|refine zz ?_|refine zE Lg ?_)|simp -dsimp[hs]|refine j4 ?_ ?_<;>intro h<;>try exact h.elim
     all_goals try clear hs
     exact zn ⟨k+1,by omega,hstep ⟨hA',λi d hd=>hjok i d (by have:=e7 hd;omega) hd⟩⟩ (zw [0,32,33,34] 0)
  ·have hno:=hbad λh=>hA h.1;generalize hb1:([x.id].all λy=>decide (1<=y)&&decide (y<=9999))=b1 at c1;generalize hb2:([x.frm,x.to].all λy=>decide (1<=y)&&decide (y<=999))=b2 at c2;have hcs:(¬ 0<k/\True/\∃ _:True,True)\/(0<k/\IntKind.i64.wrap ((k:Int)-1)=((k-1:Nat):Int)/\∃ h:k-1<p.holders.length,True):=by
    rcases Nat.eq_zero_or_pos k with h0|h0
    ·exact .inl ⟨by omega,trivial,trivial,trivial⟩
    ·exact .inr ⟨by omega,by rw[r9 (by omega) (by omega)];omega,by omega,trivial⟩
   rcases hcs with⟨hk0,hwm,hi1,-⟩|⟨hk0,hwm,hi1,-⟩<;>cases b1<;>cases b2
   all_goals
    have hs:=za hx (za hlt (za hk0 (za hwm hi1)));repeat' first|(with_reducible first|refine zz ?_|refine zr ?_)|simp -dsimp[hs]|refine zq c1 ?_|refine zq c2 ?_|refine zM 6 158 46 Lg ?_|with_reducible refine zE Lg ?_|refine j4 ?_ ?_<;>intro h<;>try exact h.elim|with_reducible refine j7 ?_ ?_<;>intro h<;>have h0:=h<;>(try simp only[i8] at h)<;>have h2:=h<;>(try simp at h2)<;>replace hs:=za h0 (za h (za h2 hs))
    all_goals try clear hs
   all_goals try (first|exact hno|exact hno.symm)
   ·refine absurd ?_ hA;simp at hb1 hb2;exact⟨by omega,λh1=>by omega,by omega,by omega,by omega,by omega⟩
   ·refine absurd ?_ hA;simp at hb1 hb2;exact⟨by omega,λh1 y hy=>by
     obtain⟨_,rfl⟩:=List.getElem?_eq_some_iff.1 hy
     simp_all<;>omega,by omega,by omega,by omega,by omega⟩
 ·have hkl:k=p.holders.length:=by omega
  have hall:∀ i x,p.holders[i]?=some x->EP (nums p.n.reg) p.holders i x:=λi x hx=>hok i x (by have:=e7 hx;omega) hx;have hs:=hlt;repeat' first|(with_reducible first|refine zz ?_|refine zE Lg ?_)|simp -dsimp[hs]|refine j4 ?_ ?_<;>intro h<;>try exact h.elim
  all_goals try clear hs
  refine i7 (ι:={ k:Nat // k<=p.prints.length/\∀ (j:Nat) (x:Print),j<k->p.prints[j]?=some x->Fj p j x }) (λq=>⟨158,[(0,.one (.im (l4 p))),(7,bv true),(120,.one (.im (.sl (p.prints.map p6)))),(121,iv (p.prints.length:Int)),(122,iv (q.1:Int))],[]⟩) (λq=>p.prints.length-q.1) ⟨0,by simp⟩ (zv [0,7,120,121,122] (by simp[l4])) ?_;clear hlt hok hk hkl k;rintro⟨k,hk,hok⟩;simp only[iv,bv,l4];by_cases hlt:k<p.prints.length
  ·have hx0:p.prints[k]?=some p.prints[k]:=by simp[hlt]
   have hw:=zk k;have hll:=hslo p.prints[k] (List.getElem_mem hlt);generalize hx:p.prints[k]=x at *;have hbad:¬ Fj p k x->J2 p=false:=λh=>bt λh'=>h (h'.q k x hx0);have hstep:Fj p k x->∀ (j:Nat) (z:Print),j<k+1->p.prints[j]?=some z->Fj p j z:=λh j z hj hz=>by
    by_cases e:j=k
    ·subst e;rw[hx0] at hz;cases hz;exact h
    ·exact hok j z (by omega) hz
   have hs:True:=trivial;have hcs:(¬ 0<k/\True/\∃ _:True,True)\/(0<k/\IntKind.i64.wrap ((k:Int)-1)=((k-1:Nat):Int)/\∃ h:k-1<p.prints.length,True):=by
    rcases Nat.eq_zero_or_pos k with h0|h0
    ·exact .inl ⟨by omega,trivial,trivial,trivial⟩
    ·exact .inr ⟨by omega,by rw[r9 (by omega) (by omega)];omega,by omega,trivial⟩
   rcases hcs with⟨hk0,hwm,hi1,-⟩|⟨hk0,hwm,hi1,-⟩
   all_goals
    have hs:=za hx (za hlt (za hk0 (za hwm (za hi1 hR'))));repeat' first|(with_reducible first|refine zz ?_|refine zr ?_)|simp -dsimp[hs]|refine zM 19 158 17 Lg ?_|with_reducible refine zE Lg ?_|refine j4 ?_ ?_<;>intro h<;>try exact h.elim
    all_goals try clear hs
   all_goals try (exact hbad λhh=>by have:=hh.1 hk0 _ (List.getElem?_eq_getElem hi1);omega)
   all_goals
    have hord:0<k->∀ y,p.prints[k-1]?=some y->y.number<x.number:=λh1 y hy=>by
     first|omega|(obtain⟨_,rfl⟩:=List.getElem?_eq_some_iff.1 hy;omega)
    have k1:=λd=>Fp (G:=G) d x;have k2:=Fo (G:=G) p x (by omega);have k3:=Fm (G:=G) p x (by omega);have k4:=λd=>Fl (G:=G) d x;have k5:=λd=>Fk (G:=G) d x;replace k1:=k1 (l4 p);replace k4:=k4 (l4 p);replace k5:=k5 (l4 p);rw[show GN x=xF p x 0 from rfl] at k1;rw[show Hi p.holders x=xF p x 1 from rfl] at k2;rw[show GM p.n.reg x=xF p x 2 from rfl] at k3;rw[show GL x=xF p x 3 from rfl] at k4;rw[show GK x=xF p x 4 from rfl] at k5;simp only[l4] at k1 k2 k3 k4 k5;refine i7 (ι:={ c:Nat // c<=5/\∀ e<c,xF p x e=true }) (λq=>⟨158,[(0,.one (.im (l4 p))),(7,bv true),(9,.one (.ptr 0 0)),(120,.one (.im (.sl (p.prints.map p6)))),(121,iv (p.prints.length:Int)),(122,iv (k:Int)),(144,.agg [.im (.fn (.func 337) []),.im (.fn (.func 338) []),.im (.fn (.func 339) []),.im (.fn (.func 342) []),.im (.fn (.func 343) [])]),(145,iv (q.1:Int))],[.row ((p6 x).map .im)]⟩) (λq=>5-q.1) ⟨0,by simp⟩ (zv [0,7,9,120,121,122,144,145] (by simp[l4])) ?_;rintro⟨c,hc,hcc⟩;simp only[iv,bv,l4];by_cases hc5:c<5
    ·have hm:xF p x c=true->∀ e<c+1,xF p x e=true:=λh e he=>by
      rcases Nat.lt_succ_iff_lt_or_eq.1 he with h1|rfl
      ·exact hcc e h1
      ·exact h
     have hbc:xF p x c=false->J2 p=false:=λh=>hbad λhh=>by rw[hh.2 c hc5] at h;cases h
     clear hstep;have hi5:c=0\/c=1\/c=2\/c=3\/c=4:=by omega
     rcases hi5 with rfl|rfl|rfl|rfl|rfl
     all_goals
      have hs:=hlt;repeat' first|(with_reducible first|refine zz ?_|refine HQ (by decide) ?_|refine zr ?_|refine zE Lg ?_)|simp -dsimp[hs]|refine zp k1 ?_|refine zp k2 ?_|refine zp k3 ?_|refine zp k4 ?_|refine zp k5 ?_|refine j4 ?_ ?_<;>intro h<;>try exact h.elim
      all_goals try clear hs
     all_goals first
      | exact At.round ⟨_,by omega,hm (by assumption)⟩ (by simp) (zw [0,7,9,120,121,122,144,145] 1 (by simp[‹xF p x _=true›];exact r9 (by omega) (by omega)))
      | exact hbc (by assumption)
      | (rw[hbc (by assumption)];assumption)
    ·obtain rfl:c=5:=by omega
     clear k1 k2 k3 k4 k5;have hs:=za hlt hw;repeat' first|(with_reducible first|refine zz ?_|refine zE Lg ?_)|simp -dsimp[hs]|refine j4 ?_ ?_<;>intro h<;>try exact h.elim
     all_goals try clear hs
     exact zn ⟨k+1,by omega,hstep ⟨hord,hcc⟩⟩ (zw [0,7,120,121,122] 0)
  ·have hyes:J2 p=true:=cJ ⟨h6,h30,hall,λi x hx=>hok i x (by have:=e7 hx;omega) hx⟩;have hs:=hlt;repeat' first|(with_reducible first|refine zz ?_|refine zr ?_|refine zE Lg ?_)|simp -dsimp[hs]|refine j4 ?_ ?_<;>intro h<;>try exact h.elim
   all_goals try clear hs
   all_goals simp[hyes]
noncomputable def u9 (p:Prints):Int:=if A5 p.n≠0 then A5 p.n else if J2 p=true then 0 else 70
noncomputable def O6 (p:Prints):DV:=if u9 p=0 then .one (.im (l4 p)) else .one (.im (.raw (.pointer none)))
theorem rf (p:Prints):ImV (O6 p):=by unfold O6;split<;>simp[l4]
attribute [simp] rf
structure KP (p:Prints):Prop where
 n:EE p.n
 p:SmallP p
@[simp] abbrev LQ:List Nat:=[0,1,2,3,4,5,10,27]
theorem tD (p:Prints) (hG:o4 G) (hN:C7 G) (hS:s8 G) (hR:u3 G) (hk:KP p):zP prog G 175 [R6 p] (.tup [O6 p,iv (u9 p)]):=by
 refine zf func175 ntmps175 ?_;try simp only[iv]
 have c1:=xP p.n hG hN hS hk.n;have c2:=bI p.n.reg hG hk.n.1;have c3:=AM p hR hk.p;by_cases h0:A5 p.n=0
 ·have hr0:l9 p.n.reg=0:=by
   refine Classical.byContradiction λh=>?_;unfold A5 at h0;rw[if_pos h] at h0;exact h h0
  rw[hr0,show de p.n.reg=nums p.n.reg by simp[de,hr0]] at c2;simp only[h0] at c1;by_cases hp:J2 p=true
  ·have hE:u9 p=0:=by unfold u9;rw[if_neg (by simp[h0]),if_pos hp]
   have hO:O6 p=.one (.im (l4 p)):=by unfold O6;rw[if_pos hE]
   rw[hp] at c3;rw[hE,hO];simp only[l4] at c3 ⊢;have hs:=trivial;repeat' first|(with_reducible first|refine zz ?_|refine zr ?_)|simp -dsimp[hs]|refine zp c1 ?_|refine zp c2 ?_|refine zt c3 ?_ ?_ ?_;(focus simp;done);focus (simp;done)|with_reducible refine M7 (id:=4) (nt:=29) LQ rfl ?_;simp -dsimp[hs]|with_reducible refine zE LQ ?_|refine j4 ?_ ?_<;>intro h<;>try exact h.elim
  ·have hE:u9 p=70:=by unfold u9;rw[if_neg (by simp[h0]),if_neg hp]
   have hO:O6 p=.one (.im (.raw (.pointer none))):=by unfold O6;rw[if_neg (by simp[hE])]
   rw[Bool.not_eq_true] at hp;rw[hp] at c3;rw[hE,hO];simp only[l4] at c3 ⊢;have hs:=trivial;repeat' first|(with_reducible first|refine zz ?_|refine zr ?_)|simp -dsimp[hs]|refine zp c1 ?_|refine zp c2 ?_|refine zt c3 ?_ ?_ ?_;(focus simp;done);focus (simp;done)|with_reducible refine M7 (id:=4) (nt:=29) LQ rfl ?_;simp -dsimp[hs]|with_reducible refine zE LQ ?_|refine j4 ?_ ?_<;>intro h<;>try exact h.elim
 ·have hE:u9 p=A5 p.n:=by unfold u9;rw[if_pos h0]
  have hO:O6 p=.one (.im (.raw (.pointer none))):=by unfold O6;rw[if_neg (by rw[hE];exact h0)]
  rw[hE,hO];have hs:=h0;repeat' first|(with_reducible first|refine zz ?_|refine zr ?_|refine zE LQ ?_)|simp -dsimp[hs]|refine zp c1 ?_|refine j4 ?_ ?_<;>intro h<;>try exact h.elim
theorem xA (p:Prints) (hG:o4 G) (hN:C7 G) (hS:s8 G) (hR:u3 G) (hk:KP p):zP prog G 118 [R6 p] (iv (u9 p)):=by
 refine zf func118 ntmps118 ?_;try simp only[iv]
 have c1:=tD p hG hN hS hR hk;repeat' first|(with_reducible first|refine zz ?_|refine zx ?_|refine zE [0,1,2,4] ?_)|simp -dsimp|refine zp c1 ?_
def sn (d m:Int):Bool:=(decide (0<=d)&&decide (d<=14610))&&(decide (1<=m)&&decide (m<=999))
noncomputable def G3 (p:Prints) (d m:Int):Int:=if u9 p≠0 then u9 p else if sn d m=true then 0 else 2
noncomputable def P7 (p:Prints) (d m:Int):DV:=if G3 p d m=0 then .one (.im (l4 p)) else .one (.im (.raw (.pointer none)))
theorem sO (p:Prints) (d m:Int):ImV (P7 p d m):=by unfold P7;split<;>simp[l4]
attribute [simp] sO
@[simp] abbrev Kc:List Nat:=[0,1,2,3,6,7,8,9,16,27]
theorem xB (p:Prints) (d m:Int) (hG:o4 G) (hN:C7 G) (hS:s8 G) (hR:u3 G) (hk:KP p):zP prog G 143 [R6 p,iv d,iv m] (.tup [P7 p d m,iv (G3 p d m)]):=by
 refine zf func143 ntmps143 ?_;try simp only[iv,iv]
 have c1:=tD p hG hN hS hR hk;have c2:=R1 (G:=G) 0 14610 [d] (by simp);have c3:=R1 (G:=G) 1 999 [m] (by simp);by_cases h0:u9 p=0
 ·simp only[O6,h0,if_true] at c1;by_cases hd:sn d m=true
  ·have hE:G3 p d m=0:=by unfold G3;rw[if_neg (by simp[h0]),if_pos hd]
   have hO:P7 p d m=.one (.im (l4 p)):=by unfold P7;rw[if_pos hE]
   simp only[sn,Bool.and_eq_true,decide_eq_true_eq] at hd;rw[show ([d].all λy=>decide (0<=y)&&decide (y<=14610))=true by simp;omega] at c2;rw[show ([m].all λy=>decide (1<=y)&&decide (y<=999))=true by simp;omega] at c3;rw[hE,hO];simp only[l4] at c1 ⊢;have hs:=trivial;repeat' first|(with_reducible first|refine zz ?_|refine zr ?_|refine zE Kc ?_)|simp -dsimp[hs]|refine zp c1 ?_|refine zt c2 ?_ ?_ ?_;(focus simp;done);focus (simp;done)|refine zt c3 ?_ ?_ ?_;(focus simp;done);focus (simp;done)|refine j4 ?_ ?_<;>intro h<;>try exact h.elim
  ·have hE:G3 p d m=2:=by unfold G3;rw[if_neg (by simp[h0]),if_neg hd]
   have hO:P7 p d m=.one (.im (.raw (.pointer none))):=by unfold P7;rw[if_neg (by simp[hE])]
   simp only[sn,Bool.and_eq_true,decide_eq_true_eq] at hd;rw[hE,hO];simp only[l4] at c1 ⊢;by_cases hd1:0<=d/\d<=14610
   ·rw[show ([d].all λy=>decide (0<=y)&&decide (y<=14610))=true by simp;omega] at c2;rw[show ([m].all λy=>decide (1<=y)&&decide (y<=999))=false by simp;omega] at c3;have hs:=trivial;repeat' first|(with_reducible first|refine zz ?_|refine zr ?_|refine zE Kc ?_)|simp -dsimp[hs]|refine zp c1 ?_|refine zt c2 ?_ ?_ ?_;(focus simp;done);focus (simp;done)|refine zt c3 ?_ ?_ ?_;(focus simp;done);focus (simp;done)|refine j4 ?_ ?_<;>intro h<;>try exact h.elim
   ·rw[show ([d].all λy=>decide (0<=y)&&decide (y<=14610))=false by simp;omega] at c2;have hs:=trivial;repeat' first|(with_reducible first|refine zz ?_|refine zr ?_|refine zE Kc ?_)|simp -dsimp[hs]|refine zp c1 ?_|refine zt c2 ?_ ?_ ?_;(focus simp;done);focus (simp;done)|refine j4 ?_ ?_<;>intro h<;>try exact h.elim
 ·have hE:G3 p d m=u9 p:=by unfold G3;rw[if_pos h0]
  have hO:P7 p d m=.one (.im (.raw (.pointer none))):=by unfold P7;rw[if_neg (by rw[hE];exact h0)]
  simp only[O6,h0,if_false] at c1;rw[hE,hO];have hs:=h0;repeat' first|(with_reducible first|refine zz ?_|refine zr ?_|refine zE Kc ?_)|simp -dsimp[hs]|refine zp c1 ?_|refine j4 ?_ ?_<;>intro h<;>try exact h.elim
noncomputable def J9 (p:Prints) (d m i w:Int):Int:=if G3 p d m≠0 then G3 p d m else if (p.holders.any λy=>decide (y.id=i))=true/\w∈nums p.n.reg then 0 else 6
noncomputable def du (p:Prints) (d m i w:Int):DV:=if J9 p d m i w=0 then .one (.im (l4 p)) else .one (.im (.raw (.pointer none)))
theorem wg (p:Prints) (d m i w:Int):ImV (du p d m i w):=by unfold du;split<;>simp[l4]
attribute [simp] wg
theorem zX (p:Prints) (v:Int) (hl:(nums p.n.reg).length<1000):DCall prog G 145 (iv v :: [DC.ptr 1 0].map .one) [.row ((A8 p).map .im),.row [.im (l4 p)]] (λd o=>d=bv (!decide (v∈nums p.n.reg))/\o=[.row ((A8 p).map .im),.row [.im (l4 p)]]):=by
 refine DCall.drop ?_;have c1:=bK (G:=G) (nums p.n.reg) v (by omega);simp only[l4,A8];refine g9 func145 rfl ntmps145 (by simp) rfl ?_;repeat' first|(with_reducible first|refine zz ?_|refine zx ?_|refine zE [0,1,3] ?_)|simp -dsimp|refine zp c1 ?_|with_reducible refine And.intro ?_ ?_
theorem BK {α:Type} (q:α->Bool) (l:List α):decide (J4 q l<0)=!l.any q:=by
 rw[<- A1];by_cases h:0<=J4 q l
 ·have h1:¬ J4 q l<0:=by omega
  simp[h,h1]
 ·have h1:J4 q l<0:=by omega
  simp[h,h1]
@[simp] abbrev LR:List Nat:=[0,1,2,3,4,5,10,11,12,13,22,32]
theorem xC (p:Prints) (d m i w:Int) (hG:o4 G) (hN:C7 G) (hS:s8 G) (hR:u3 G) (hk:KP p):zP prog G 89 [R6 p,iv d,iv m,iv i,A4 [w]] (.tup [du p d m i w,iv (J9 p d m i w)]):=by
 refine zf func89 ntmps89 ?_;try simp only[iv,iv,iv,A4]
 have c1:=xB p d m hG hN hS hR hk;have hr:=hk.p.r;have hh:=hk.p.h;by_cases h0:G3 p d m=0
 ·have c2:=pw (G:=G) p i (by omega);have c3:=B5 (G:=G) [w] (λv=>!decide (v∈nums p.n.reg)) 145 [.ptr 1 0] [.row ((A8 p).map .im),.row [.im (l4 p)]] (by simp) (λv _=>zX p v hr) (by simp);have hf:=BK (λy:Holder=>decide (y.id=i)) p.holders;have hE:J9 p d m i w=if (p.holders.any λy=>decide (y.id=i))=true/\w∈nums p.n.reg then 0 else 6:=by unfold J9;rw[if_neg (by simp[h0])]
  simp only[P7,h0,if_true] at c1;unfold du;rw[hE];generalize J4 (λy:Holder=>decide (y.id=i)) p.holders=f at *;generalize hb:(p.holders.any λy=>decide (y.id=i))=b at *;by_cases hw:w∈nums p.n.reg
  ·simp only[hw,List.any_cons,List.any_nil,decide_true,Bool.not_true,Bool.or_false] at c3;cases b
   ·have hf':f<0:=by simpa using hf
    simp only[l4,A8,List.map_cons,List.map_nil] at c1 c2 c3 ⊢;have hs:=hf';repeat' first|(with_reducible first|refine zz ?_|refine zr ?_|refine zE LR ?_)|simp -dsimp[hs]|refine zp c1 ?_|refine zp c2 ?_|refine j4 ?_ ?_<;>intro h<;>try exact h.elim
   ·have hf':¬ f<0:=by simpa using hf
    simp only[l4,A8,List.map_cons,List.map_nil] at c1 c2 c3 ⊢;have hs:=za hf' hw;repeat' first|(with_reducible first|refine zz ?_|refine zr ?_|refine zE LR ?_)|simp -dsimp[hs]|refine zp c1 ?_|refine zp c2 ?_|refine zh c3 ?_|refine j4 ?_ ?_<;>intro h<;>try exact h.elim
  ·simp only[hw,List.any_cons,List.any_nil,decide_false,Bool.not_false,Bool.or_false] at c3;cases b
   ·have hf':f<0:=by simpa using hf
    simp only[l4,A8,List.map_cons,List.map_nil] at c1 c2 c3 ⊢;have hs:=hf';repeat' first|(with_reducible first|refine zz ?_|refine zr ?_|refine zE LR ?_)|simp -dsimp[hs]|refine zp c1 ?_|refine zp c2 ?_|refine j4 ?_ ?_<;>intro h<;>try exact h.elim
   ·have hf':¬ f<0:=by simpa using hf
    simp only[l4,A8,List.map_cons,List.map_nil] at c1 c2 c3 ⊢;have hs:=za hf' hw;repeat' first|(with_reducible first|refine zz ?_|refine zr ?_|refine zE LR ?_)|simp -dsimp[hs]|refine zp c1 ?_|refine zp c2 ?_|refine zh c3 ?_|refine j4 ?_ ?_<;>intro h<;>try exact h.elim
 ·have hE:J9 p d m i w=G3 p d m:=by unfold J9;rw[if_pos h0]
  have hO:du p d m i w=.one (.im (.raw (.pointer none))):=by unfold du;rw[if_neg (by rw[hE];exact h0)]
  simp only[P7,h0,if_false] at c1;rw[hE,hO];have hs:=h0;repeat' first|(with_reducible first|refine zz ?_|refine zr ?_|refine zE LR ?_)|simp -dsimp[hs]|refine zp c1 ?_|refine j4 ?_ ?_<;>intro h<;>try exact h.elim
def frcCaps:List DC:=[.ptr 5 0,.ptr 0 0,.ptr 1 0,.ptr 2 0,.ptr 3 0,.ptr 6 0]
def K9 (n:Notes) (s w:List Int) (m:Int) (M:List (Int×Bool)):List DObj:=[.row [.im (F1 n)],.row [.im (.sl (s.map encI))],.row [.im (.sl (w.map encI))],.row [.im (rI m)],.map [.int .i64] (E4 M),.row [.map 4],.row [.fn (.func 214) frcCaps]]
theorem tK (n:Notes) (s w:List Int) (m:Int):DCall prog G 164 [.one (.im (F1 n)),A4 s,A4 w,iv m] [] (λd o=>d=.one (.fn (.func 214) frcCaps)/\o=K9 n s w m []):=by
 refine g9 func164 rfl ntmps164 (by simp) rfl ?_;simp only[A4,iv];repeat' first|(with_reducible first|refine zz ?_|refine zx ?_|refine zE [0,1,2,3,4,5,6,7,8,9,10] ?_)|simp -dsimp|with_reducible refine And.intro ?_ ?_
 ·rfl
 ·simp[K9,frcCaps,E4]
def C8 (n:Notes) (s w:List Int) (m:Int) (i:Nat):Bool:=((U0 s w m n.notes)[i]?).getD false
def ConsM (n:Notes) (s w:List Int) (m:Int) (M:List (Int×Bool)):Prop:=∀ (k:Nat) (b:Bool),co (k:Int) M=some b->C8 n s w m k=b
theorem ConsM.nil (n:Notes) (s w:List Int) (m:Int):ConsM n s w m []:=λk b h=>by cases h
theorem ConsM.put {n:Notes} {s w:List Int} {m:Int} {M:List (Int×Bool)} (h:ConsM n s w m M) (i:Nat) {b:Bool} (hb:C8 n s w m i=b):ConsM n s w m (sD (i:Int) b M):=λk c hk=>by
 rw[kR] at hk;split at hk
 ·rename_i e;obtain rfl:i=k:=by omega
  cases hk;exact hb
 ·exact h k c hk
theorem yF {n:Notes} {s w:List Int} {m:Int} {i:Nat} (hi:i<n.notes.length):C8 n s w m i=(yE s w m n.notes[i]&&jg n.notes[i].number (n.notes.drop (i+1)) ((U0 s w m n.notes).drop (i+1))):=by
 have hl:i<(U0 s w m n.notes).length:=by rw[cT];exact hi
 rw[<- BJ hi hl,C8,List.getElem?_eq_getElem hl];rfl
theorem rQ {n:Notes} {s w:List Int} {m a:Int} {k:Nat} (hk:k<n.notes.length):jg a (n.notes.drop k) ((U0 s w m n.notes).drop k)=(!(C8 n s w m k&&decide (n.notes[k].cancels=a))&&jg a (n.notes.drop (k+1)) ((U0 s w m n.notes).drop (k+1))):=by
 have hl:k<(U0 s w m n.notes).length:=by rw[cT];exact hk
 rw[vq hk hl,C8,List.getElem?_eq_getElem hl];rfl
@[simp] abbrev Lx:List Nat:=[0,1,2,3,4,5,6,8,9,10,11,12,13,20,67]
@[simp] abbrev Kr:List Nat:=[0,1,2,3,4,5,6,11,12,13]
theorem DI (n:Notes) (s w:List Int) (m:Int) (hl:n.notes.length<1000) (hsl:s.length<1000) (hwl:w.length<1000):∀ (d i:Nat),n.notes.length-i<=d->i<n.notes.length->∀ M,ConsM n s w m M ->
 DCall prog G 214 (iv (i:Int) :: frcCaps.map .one) (K9 n s w m M) (λr o=>∃ M',ConsM n s w m M'/\r=bv (C8 n s w m i)/\o=K9 n s w m M'):=by
 intro d;induction d with
 | zero=>intro i h1 h2;omega
 | succ d ih =>
   intro i hid hi M hM;simp only[K9,frcCaps,F1,iv,bv,rI,List.map_cons,List.map_nil] at ih ⊢;refine DCall.drop ?_;refine g9 func214 rfl ntmps214 (by simp) rfl ?_;cases hb:co (i:Int) M with
   | some b =>
     have hf:=hM i b hb;have hs:=hb;repeat' first|(with_reducible first|refine zz ?_|refine zr ?_|refine zE Lx ?_)|simp -dsimp[hs]|refine j4 ?_ ?_<;>intro h<;>try exact h.elim
     all_goals try clear hs
     exact⟨M,hM,by rw[hf],rfl⟩
   | none =>
     generalize hx:n.notes[i]=x at *;have hF:=yF (s:=s) (w:=w) (m:=m) hi;rw[hx] at hF;have hwi:=zk i;have c1:=bK (G:=G) s x.number (by omega);have c2:=bK (G:=G) w x.number (by omega);have c3:=fV (G:=G) x.frm x.to [m] (by simp);rw[show ([m].all λz=>decide (x.frm<=z)&&decide (z<=x.to))=(decide (x.frm<=m)&&decide (m<=x.to)) by simp] at c3;have hs:=za hb (za hx (za hi hwi));repeat' first|(with_reducible first|refine zz ?_|refine zE Lx ?_)|simp -dsimp[hs]|refine zp c1 ?_|refine zp c2 ?_|refine zt c3 ?_ ?_ ?_;(focus simp;done);focus (simp;done)|refine j4 ?_ ?_<;>intro h<;>try exact h.elim|with_reducible refine j7 ?_ ?_<;>intro h<;>have h0:=h<;>(try simp only[i8] at h)<;>have h2:=h<;>(try simp at h2)<;>replace hs:=za h0 (za h (za h2 hs))
     all_goals try clear hs
     all_goals
      refine i7 (ι:={ p:Nat×Bool×List (Int×Bool) // i+1<=p.1/\p.1<=n.notes.length/\ConsM n s w m p.2.2/\C8 n s w m i=(p.2.1&&jg x.number (n.notes.drop p.1) ((U0 s w m n.notes).drop p.1)) }) (λp=>⟨92,[(0,iv (i:Int)),(1,.one (.ptr 5 0)),(2,.one (.ptr 0 0)),(3,.one (.ptr 1 0)),(4,.one (.ptr 2 0)),(5,.one (.ptr 3 0)),(6,.one (.ptr 6 0)),(11,.one (.ptr 7 0)),(12,bv p.1.2.1),(13,iv (p.1.1:Int))],[.row [.im (.ip [.sl (n.reg.map h9),.sl (n.notes.map j8),.sl ((nums n.reg).map encI),.sl ((j9 (l8 n.notes)).map encI)])],.row [.im (.sl (s.map encI))],.row [.im (.sl (w.map encI))],.row [.im (rI m)],.map [.int .i64] (E4 p.1.2.2),.row [.map 4],.row [.fn (.func 214) [.ptr 5 0,.ptr 0 0,.ptr 1 0,.ptr 2 0,.ptr 3 0,.ptr 6 0]],.row ((j8 x).map .im)]⟩) (λp=>n.notes.length-p.1.1) ⟨(i+1,yE s w m x,M),by simp,by simp;omega,hM,hF⟩ (zw Kr 8 (by clear c1 c2 c3 ih;simp[yE, *])) ?_
     all_goals
      clear c1 c2 c3 hF hM hb;rintro⟨⟨k,v,M2⟩,hk1,hk2,hM2,hv⟩;simp only at hk1 hk2 hM2 hv;simp only[iv,bv];cases v
      ·have hM3:=hM2.put i hv;have hs:=trivial;repeat' first|(with_reducible first|refine zz ?_|refine zr ?_|refine zE Lx ?_)|simp -dsimp[hs]|refine j4 ?_ ?_<;>intro h<;>try exact h.elim
       all_goals try clear hs
       all_goals exact⟨_,hM3,by rw[hv];rfl,rfl⟩
      ·by_cases hlk:k<n.notes.length
       ·have hwk:=zk k;have hih:=ih k (by omega) hlk M2 hM2;rw[Bool.true_and,rQ hlk] at hv;generalize hy:n.notes[k]=y at *;by_cases hc:y.cancels=x.number
        ·have hvb:∀ b,C8 n s w m k=b->C8 n s w m i=(!b&&jg x.number (n.notes.drop (k+1)) ((U0 s w m n.notes).drop (k+1))):=λb hb=>by
          rw[hv,hb,decide_eq_true hc,Bool.and_true]
         have hs:=za hx (za hy (za hlk (za hwk hc)));repeat' first|with_reducible refine zz ?_|simp -dsimp[hs]|refine CallE.embed_ex [0,1,2,3,4,5,6] (hih) ?_ ?_ ?_ ?_ ?_ ?_;(focus simp[p7];done);(focus simp;done);(focus simp;done);(focus simp;done);(focus refine n4 ?_;simp[p7,o6];done);intro mm hmm;try simp -dsimp[n3,p7,hs]|refine zM 9 92 15 Lx ?_|with_reducible refine zE Lx ?_|refine j4 ?_ ?_<;>intro h<;>try exact h.elim
         all_goals try clear hs
         all_goals exact zn ⟨(k+1,!C8 n s w m k,mm),by simp only;omega,by simp only;omega,hmm,hvb _ rfl⟩ (zw Kr 8)
        ·rw[decide_eq_false hc,Bool.and_false,Bool.not_false,Bool.true_and] at hv;have hs:=za hx (za hy (za hlk (za hwk hc)));repeat' first|with_reducible refine zz ?_|simp -dsimp[hs]|refine zM 9 92 15 Lx ?_|with_reducible refine zE Lx ?_|refine j4 ?_ ?_<;>intro h<;>try exact h.elim
         all_goals try clear hs
         all_goals exact zn ⟨(k+1,true,M2),by simp only;omega,by simp only;omega,hM2,by rw[hv,Bool.true_and]⟩ (zw Kr 8)
       ·rw[yD (by omega),Bool.and_true] at hv;have hM3:=hM2.put i hv;have hs:=hlk;repeat' first|(with_reducible first|refine zz ?_|refine zr ?_|refine zE Lx ?_)|simp -dsimp[hs]|refine j4 ?_ ?_<;>intro h<;>try exact h.elim
        all_goals try clear hs
        all_goals exact⟨_,hM3,by rw[hv],rfl⟩
end Go.Proofs
