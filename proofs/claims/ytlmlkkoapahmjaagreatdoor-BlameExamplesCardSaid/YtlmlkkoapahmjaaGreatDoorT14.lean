/- Part 14 of the proofs. -/
import Derived.Test.YtlmlkkoapahmjaaGreatDoorT08
import Derived.Test.YtlmlkkoapahmjaaGreatDoorT12
import Derived.Test.YtlmlkkoapahmjaaGreatDoorT13
set_option linter.all false
set_option maxHeartbeats 100000000
namespace Go.Proofs
open Go Go.Ab
theorem pN {l:List Issue} (h:l9 l=0):∃ dep:Int->Int,∀ n∈nums l,1<=dep n/\dep n<=6/\∀ c∈iV l n,c∈nums l/\dep c<dep n:=by
 have hL:C4 l=true:=by
  cases hL:C4 l
  ·simp[l9,hL] at h
  ·rfl
 have h2:¬ fM (J5 l) > (J5 l).length:=λhg=>by simp[l9,hL,hg] at h
 have h6:¬ fM (J5 l) > 6:=λhg=>by simp[l9,hL,h2,hg] at h
 have hsc:=hL;simp only[C4,Bool.and_eq_true] at hsc;obtain⟨ds,hds⟩:=Option.isSome_iff_exists.1 hsc.1.1.2;obtain⟨e,hlt,_,_,_⟩:=T4 hds;have hall:=hsc.1.2;rw[<- e] at hall;have hnd:ds.Nodup:=hlt.imp λh=>Int.ne_of_lt h;have hch:∀ n∈ds,∀ c∈iV l n,c∈ds:=λn _ c hc=>by
  simp only[iV,List.mem_flatMap,List.mem_map] at hc;obtain⟨x,hx,y,hy,rfl⟩:=hc;have:=List.all_eq_true.1 (List.all_eq_true.1 hall x (List.mem_filter.1 hx).1) y hy;simpa using this
 have e1:∀ n∈ds,Rr l (ds.length+1) n<=ds.length:=λn hn=>Int.not_lt.1 λhg=>h2 (by
  have:=(js (Rr l (ds.length+1)) ds ds.length (by omega)).2 ⟨n,hn,hg⟩;simpa[J5,<- e] using this)
 have e2:∀ n∈ds,Rr l (ds.length+1) n<=6:=λn hn=>Int.not_lt.1 λhg=>h6 (by
  have:=(js (Rr l (ds.length+1)) ds 6 (by omega)).2 ⟨n,hn,hg⟩;simpa[J5,<- e] using this)
 have h0:DInv l ds ([],fS ds):=by
  rw[ku hnd];exact⟨hnd,λn h=>h,by simp,by simp,λn h h'=>absurd h h'⟩
 obtain⟨hi,_⟩:=eY hch ds.length _ h0;change DInv l ds (o2 l ds) at hi;obtain⟨d1,d2⟩:=gl hnd hch;have hz:(o2 l ds).2.length=0:=by
  refine Nat.eq_zero_of_not_pos λhp=>?_;obtain⟨n,hn,hg⟩:=d1.1 hp;have:=e1 n hn;omega
 have hempty:∀ n,n∉(o2 l ds).2:=λn=>by rw[List.length_eq_zero_iff.1 hz];simp
 refine⟨l7 (o2 l ds).1,λn hn=>?_⟩;rw[<- e] at hn;obtain⟨a,b,c⟩:=hi.val n hn (hempty n);have hn1:=c (ds.length+1) (by omega);refine⟨a,by have:=e2 n hn;omega,λm hm=>?_⟩;have hmd:=hch n hn m hm;obtain⟨a',b',c'⟩:=hi.val m hmd (hempty m);have hm1:=c' ds.length (by omega);have hle:=mj (f:=Rr l ds.length) hm;have hr:Rr l (ds.length+1) n=1+mx (Rr l ds.length) (iV l n):=rfl;exact⟨by rw[<- e];exact hmd,by omega⟩
variable {G:IK}
theorem ia (d:Dim):P2 d=true↔0<=d.nominal/\d.nominal<=1000000000/\0<=d.upper/\d.upper<=1000000000/\0<=d.lower/\d.lower<=d.upper:=by
 simp[P2];omega
theorem pB {b:Bool} {p:Prop} (h:b=true↔p) (hn:¬ p):b=false:=by
 cases b
 ·rfl
 ·exact absurd (h.1 rfl) hn
theorem kM (x:Issue):(CM x&&CL x)=true↔1<=x.drawing/\x.drawing<=9999/\1<=x.letter/\x.letter<=8/\(x.kind=1/\1<=x.items.length/\x.items.length<=8/\x.dims.length=0\/2<=x.kind/\x.kind<=3/\x.dims.length<=4/\x.items.length=0):=by
 unfold CM CL;split
 ·simp only[Bool.and_eq_true,decide_eq_true_eq];omega
 ·simp only[Bool.and_eq_true,decide_eq_true_eq];omega
theorem rY {b c:Bool} {p:Prop} (h:b=true↔p/\c=true) (hp:p):b=c:=by
 rw[Bool.eq_iff_iff,h];exact⟨λh=>h.2,λh=>⟨hp,h⟩⟩
theorem rW {b c:Bool} {p:Prop} (h:b=true↔p/\c=true) (hp:¬ p):b=false:=pB h λh=>hp h.1
theorem qi {α:Type} {f:α->Bool} {l:List α} {k:Nat} (hlt:k<l.length) (hno:l.all f=(l.drop k).all f):l.all f=true↔f l[k]=true/\(l.drop (k+1)).all f=true:=by
 rw[hno,List.drop_eq_getElem_cons hlt,List.all_cons,Bool.and_eq_true]
end Go.Proofs
namespace Go.Ab
open Go
@[simp] theorem GU (L:List Int) (k:Nat) (v:Int):(l6 (L.map encI)).set k [DC.im (.raw (.int .i64 v))]=l6 ((L.set k v).map encI):=by
 simp only[l6,List.map_set,encI,rI,List.map_cons,List.map_nil]
@[simp] theorem Gh (L:List Int) (k:Nat):(l6 (L.map encI))[k]?=(L[k]?).map λv=>[DC.im (.raw (.int .i64 v))]:=by
 simp only[l6,List.getElem?_map,Option.map_map];rfl
@[simp] theorem Gg (L:List Int) (k:Nat) (h:k<(l6 (L.map encI)).length):(l6 (L.map encI))[k]=[DC.im (.raw (.int .i64 (L[k]'(by simpa[o7] using h))))]:=by
 simp[l6]
@[simp] theorem GJ (n:Nat) (c:IC):List.replicate n [DC.im c]=l6 (List.replicate n [c]):=by simp[l6]
theorem tF {α β:Type} {f:α->β} {c:β} (h:∀ x,f x=c):∀ l:List α,l.map f=List.replicate l.length c
 | []=>rfl
 | x :: l=>by simp[tF h l,h x,List.replicate_succ]
@[simp] theorem AG (n:Nat) (c:List IC):(l6 (List.replicate n c)).take n=l6 (List.replicate n c):=List.take_of_length_le (by simp[o7])
theorem rv {α β:Type} {f:α->β} {l:List α} {k:Nat} {x:α} {v:β} (hn:l.Nodup) (hk:l[k]?=some x):(l.map f).set k v=l.map (λy=>open Classical in if y=x then v else f y):=by
 refine List.ext_getElem? λj=>?_;obtain⟨hlt,he⟩:=List.getElem?_eq_some_iff.1 hk;by_cases hj:j=k
 ·subst hj;rw[List.getElem?_set_self (by simpa using hlt),List.getElem?_map,hk];simp
 ·rw[List.getElem?_set_ne (Ne.symm hj),List.getElem?_map,List.getElem?_map];cases hy:l[j]? with
  | none=>rfl
  | some y =>
    have:y≠x:=λe=>hj ((List.getElem?_inj (List.getElem?_eq_some_iff.1 hy).1 hn).1 (by rw[hy,hk,e]));simp[this]
end Go.Ab
namespace Go.Proofs
open Go Go.Ab
variable {G:IK}
theorem lB {x:Issue} (h:q8 x=true):x.items.length<=8/\x.dims.length<=4:=by
 simp only[q8,Bool.and_assoc] at h;rw[<- Bool.and_assoc,Bool.and_eq_true] at h;have:=(kM x).1 h.1;omega
theorem rM {l:List Int} (hn:l.Nodup) {k:Nat} {x:Int} (h:l[k]?=some x):idx l x=k:=by
 refine Bw h λj hj he=>?_;have h1:=(List.getElem?_eq_some_iff.1 h).1;rw[<- he] at h;have:=(List.getElem?_inj h1 hn).1 h;omega
theorem uq (x:Issue) (r:List Issue):(o8 none (x :: r)).isSome=true↔(q8 x=true/\x.letter=1)/\(o8 (some x) r).isSome=true:=by
 simp only[o8];by_cases h1:q8 x=false
 ·simp[h1]
 ·by_cases h2:x.letter=1
  ·simp[h1,h2]
  ·simp[h1,h2]
theorem up (y x:Issue) (r:List Issue):(o8 (some y) (x :: r)).isSome=true↔(q8 x=true/\(y.drawing=x.drawing/\y.letter+1=x.letter/\y.kind=x.kind\/y.drawing<x.drawing/\x.letter=1))/\(o8 (some x) r).isSome=true:=by
 simp only[o8];by_cases h1:q8 x=false
 ·simp[h1]
 ·have h1':q8 x=true:=by simpa using h1
  by_cases hd:y.drawing=x.drawing
  ·have hlt:¬ x.drawing<x.drawing:=by omega
   by_cases h2:y.letter+1=x.letter<;>by_cases h3:y.kind=x.kind<;>simp[h1',hd,h2,h3]
  ·by_cases hg:y.drawing > x.drawing
   ·have:¬ y.drawing<x.drawing:=by omega
    simp[h1',hd,hg,this]
   ·have:y.drawing<x.drawing:=by omega
    by_cases h2:x.letter=1<;>simp[h1',hd,hg,h2,this]
def nC (l:List Issue) (d:Int):Int:=l.foldl (λn x=>if x.drawing=d then max n x.letter else n) 0
def cQ (l:List Issue) (p:Int×Int):Bool:=decide (1<=p.2)&&decide (p.2<=nC l p.1)
def r8 (l:List Issue) (lets:List Int):Bool:=decide (lets.length=(nums l).length)&&((nums l).zip lets).all (cQ l)
def r5 (l:List Issue) (lets:List Int) (d:Int):Issue:=(B6 l d ((lets[(idx (nums l) d).toNat]?).getD 0)).getD an
end Go.Proofs
namespace Go.Proofs
open Go Go.Ab
theorem mz {l:List Issue} {d lt:Int} {y:Issue} (h:B6 l d lt=some y):y∈l/\y.drawing=d/\y.letter=lt:=by
 have h1:=List.find?_some h;have h2:=List.mem_of_find?_eq_some h;simp only[Bool.and_eq_true,beq_iff_eq] at h1;exact⟨h2,h1.1,h1.2⟩
theorem yM (l:List Issue) (d lt:Int):(B6 l d lt).isSome=true↔∃ x∈l,x.drawing=d/\x.letter=lt:=by
 simp[B6,List.find?_isSome]
theorem fA:∀ (r:List Issue) (p:Option Issue) (ds:List Int),o8 p r=some ds->∀ x∈r,x.letter=1\/∃ y,(p=some y\/y∈r)/\y.drawing=x.drawing/\y.letter+1=x.letter
 | [],_,_,_,x,hx=>by cases hx
 | z :: r,p,ds,h,x,hx=>by
   have hs:(o8 p (z :: r)).isSome=true:=by rw[h];rfl
   obtain⟨ds',h1,_,_⟩:=dB h;rcases List.mem_cons.1 hx with rfl|hx
   ·cases p with
    | none=>exact .inl ((uq x r).1 hs).1.2
    | some y =>
      rcases ((up y x r).1 hs).1.2 with⟨a,b,_⟩|⟨_,b⟩
      ·exact .inr ⟨y,.inl rfl,a,b⟩
      ·exact .inl b
   ·rcases fA r (some z) ds' h1 x hx with h2|⟨y,h2,h3,h4⟩
    ·exact .inl h2
    ·refine .inr ⟨y,.inr ?_,h3,h4⟩;rcases h2 with h2|h2
     ·cases h2;simp
     ·simp[h2]
theorem iW {l:List Issue} (hs:o8 none l=some (nums l)):∀ (k:Nat) (x:Issue),x∈l->x.letter=k+1->∀ j:Int,1<=j->j<=k+1->∃ y∈l,y.drawing=x.drawing/\y.letter=j
 | 0,x,hx,hk,j,h1,h2=>⟨x,hx,rfl,by omega⟩
 | k+1,x,hx,hk,j,h1,h2=>by
   by_cases hj:j=k+1+1
   ·exact⟨x,hx,rfl,by omega⟩
   ·rcases fA l none _ hs x hx with h|⟨y,hy,h3,h4⟩
    ·omega
    ·rcases hy with hy|hy
     ·cases hy
     ·obtain⟨z,hz,h5,h6⟩:=iW hs k y hy (by omega) j h1 (by omega);exact⟨z,hz,by omega,h6⟩
theorem iJ (d:Int):∀ (l:List Issue) (a:Int),a<=l.foldl (λn x=>if x.drawing=d then max n x.letter else n) a/\(∀ x∈l,x.drawing=d->x.letter<=l.foldl (λn x=>if x.drawing=d then max n x.letter else n) a) /\
 (l.foldl (λn x=>if x.drawing=d then max n x.letter else n) a=a\/∃ x∈l,x.drawing=d/\x.letter=l.foldl (λn x=>if x.drawing=d then max n x.letter else n) a)
 | [],a=>by simp
 | y :: l,a=>by
   obtain⟨h1,h2,h3⟩:=iJ d l (if y.drawing=d then max a y.letter else a);simp only[List.foldl_cons];have h0:a<=(if y.drawing=d then max a y.letter else a):=by split<;>omega
   refine⟨by omega,λx hx hd=>?_,?_⟩
   ·rcases List.mem_cons.1 hx with rfl|hx
    ·rw[if_pos hd] at h1 ⊢;omega
    ·exact h2 x hx hd
   ·rcases h3 with h3|⟨x,hx,hd,he⟩
    ·by_cases hy:y.drawing=d
     ·rw[if_pos hy] at h3 ⊢;by_cases hm:a<=y.letter
      ·exact .inr ⟨y,by simp,hy,by omega⟩
      ·exact .inl (by omega)
     ·rw[if_neg hy] at h3 ⊢;exact .inl h3
    ·exact .inr ⟨x,by simp[hx],hd,he⟩
theorem cW {l:List Issue} (h:l9 l=0) (d lt:Int):(B6 l d lt).isSome=true↔1<=lt/\lt<=nC l d:=by
 have hs:=N4 (J6 h);obtain⟨_,_,_,hok,_⟩:=T4 hs;obtain⟨h1,h2,h3⟩:=iJ d l 0;have hlet:∀ x∈l,1<=x.letter:=λx hx=>by
  have:=hok x hx;simp only[q8,Bool.and_assoc] at this;rw[<- Bool.and_assoc,Bool.and_eq_true] at this;have:=(kM x).1 this.1;omega
 rw[yM];constructor
 ·rintro⟨x,hx,rfl,rfl⟩;exact⟨hlet x hx,h2 x hx rfl⟩
 ·rintro⟨a,b⟩;rcases h3 with h3|⟨x,hx,hd,he⟩
  ·simp only[nC] at b;omega
  ·have hx1:=hlet x hx;obtain⟨y,hy,h5,h6⟩:=iW hs (x.letter-1).toNat x hx (by omega) lt a (by simp only[nC] at b;omega);exact⟨y,hy,by omega,h6⟩
theorem dy {l:List Issue} {lets:List Int} {d:Int} (h:l9 l=0) (hl:r8 l lets=true) (hd:d∈nums l):r5 l lets d∈l/\(r5 l lets d).drawing=d/\∃ (k:Nat) (lt:Int),(nums l)[k]?=some d/\lets[k]?=some lt/\B6 l d lt=some (r5 l lets d):=by
 simp only[r8,Bool.and_eq_true,decide_eq_true_eq] at hl;obtain⟨h1,h2⟩:=hl;obtain⟨hlt,_⟩:=E9 h;obtain⟨k,hk⟩:=List.mem_iff_getElem?.1 hd;have hnd:(nums l).Nodup:=hlt.imp λh=>Int.ne_of_lt h;have hkl:=e7 hk;have hy:lets[k]?=some lets[k]:=by simp[h1,hkl]
 have hz:((nums l).zip lets)[k]?=some (d,lets[k]):=by
  rw[List.getElem?_zip_eq_some];exact⟨hk,hy⟩
 have hok:=List.all_eq_true.1 h2 _ (List.mem_of_getElem? hz);simp only[cQ,Bool.and_eq_true,decide_eq_true_eq] at hok;have hf:=(cW h d lets[k]).2 hok;obtain⟨y,hy'⟩:=Option.isSome_iff_exists.1 hf;have ht:r5 l lets d=y:=by
  simp only[r5,rM hnd hk,Int.toNat_natCast,hy,Option.getD_some,hy']
 obtain⟨a,b,_⟩:=mz hy';rw[ht];exact⟨a,b,k,lets[k],hk,hy,hy'⟩
theorem jM {l:List Issue} {lets:List Int} {d:Int} (h:l9 l=0) (hl:r8 l lets=true) (hd:d∈nums l):∀ y∈(r5 l lets d).items,y.drawing∈iV l d:=by
 obtain⟨h1,h2,_⟩:=dy h hl hd;intro y hy;simp only[iV,List.mem_flatMap,List.mem_map,fy,List.mem_filter,decide_eq_true_eq];exact⟨_,⟨h1,h2⟩,y,hy,rfl⟩
end Go.Proofs
namespace Go.Ab
open Go
def E4 (m:List (Int×Bool)):List (List Value×List DC):=m.map λp=>(kI p.1,[.im (rB p.2)])
def co (n:Int):List (Int×Bool)->Option Bool
 | []=>none
 | p :: r=>if p.1=n then some p.2 else co n r
def sD (n:Int) (v:Bool):List (Int×Bool)->List (Int×Bool)
 | []=>[(n,v)]
 | p :: r=>if p.1=n then (n,v) :: r else p :: sD n v r
theorem kR (n k:Int) (v:Bool):∀ m,co k (sD n v m)=if n=k then some v else co k m
 | []=>by simp[sD,co]
 | p :: r=>by
   have ih:=kR n k v r;simp only[sD];split
   ·rename_i h;simp only[co];split
    ·rfl
    ·rename_i h2;rw[if_neg (by omega)]
   ·rename_i h;simp only[co,ih];split
    ·rename_i h2;rw[if_neg (by omega)]
    ·rfl
@[simp] theorem Hr (m:List (Int×Bool)) (n:Int):K0 [.int .i64 n] (E4 m) [.im (.raw (.bool false))]=[.im (.raw (.bool ((co n m).getD false)))]:=by
 induction m with
 | nil=>rfl
 | cons p r ih =>
   have e:E4 (p :: r)=(kI p.1,[.im (rB p.2)]) :: E4 r:=rfl;rw[e];simp only[K0,O7,co,Z2,decide_eq_true_eq] at ih ⊢;split
   ·rfl
   ·exact ih
@[simp] theorem Hn (m:List (Int×Bool)) (n:Int):jd [.int .i64 n] (E4 m)=(co n m).isSome:=by
 induction m with
 | nil=>rfl
 | cons p r ih =>
   have e:E4 (p :: r)=(kI p.1,[.im (rB p.2)]) :: E4 r:=rfl;rw[e];simp only[jd,O7,co,Z2,decide_eq_true_eq] at ih ⊢;split
   ·rfl
   ·exact ih
@[simp] theorem Hm (m:List (Int×Bool)) (n:Int) (v:Bool):O0 [.int .i64 n] [.im (.raw (.bool v))] (E4 m)=E4 (sD n v m):=by
 induction m with
 | nil=>rfl
 | cons p r ih =>
   have e:E4 (p :: r)=(kI p.1,[.im (rB p.2)]) :: E4 r:=rfl;rw[e];simp only[O0,sD,Z2,decide_eq_true_eq] at ih ⊢;split
   ·rfl
   ·rw[ih];rfl
@[simp] theorem ES (m:List (Int×Bool)):(E4 m).length=m.length:=by simp[E4]
@[simp] theorem FU (n:Nat) (objs:List DObj) (m:List (Int×Bool)):((E4 m).map λx=>(x.1,x.2.map (fz n objs)))=E4 m:=by
 simp[E4,fz,DC.lt]
@[simp] theorem FO (e:Nat->Nat) (m:List (Int×Bool)):((E4 m).map λx=>(x.1,rnL e x.2))=E4 m:=by
 simp[E4,rnL,gI]
section
variable {P:Program} {G:IK}
theorem CallE.embed_ex {ι:Type} {f:FuncId} {args args0:List DV} {objs objs0:List DObj} {p:ι->Prop} {o1:ι->List DObj} {d0:ι->DV} {Q:DV->List DObj->Prop} {t:Tok Q} (es:List Nat) (h:DCall P G f args0 objs0 (λd o=>∃ i,p i/\d=d0 i/\o=o1 i))
 (ha:args0.map (ja (p7 es objs.length))=args) (hl:es.length=objs0.length) (hnd:es.Nodup) (hes:∀ x∈es,x<objs.length)
 (hobj:∀ i d,objs0[i]?=some d->objs[p7 es objs.length i]?=some (cb (p7 es objs.length) d)) (hq:∀ i,p i->Q (ja (p7 es objs.length) (d0 i)) (n3 es objs (o1 i))):CallE P G f args objs Q t:=by
 subst ha;refine(DCall.embed es h hl hnd hes hobj).mono λd o ⟨d',o',⟨i,hp,h1,h2⟩,_,h3,h4⟩=>?_;subst h1;subst h2;subst h3;subst h4;exact hq i hp
end
def j9 (l:List Int):List Int:=l.mergeSort λx y=>decide (x<=y)
theorem J3 (l:List Int):(j9 l).length=l.length:=by simp[j9]
@[simp] theorem He (e:Nat->Nat) (l:List (List IC)):(l6 l).map (rnL e)=l6 l:=by
 simp only[l6,List.map_map];exact List.map_congr_left λx _=>by simp[eI]
@[simp] theorem Ha (n o:Nat):p7 [] n o=n+o:=by simp[p7]
attribute [simp] ja gI rnL rnVL cb fG
def vO (L:List Int) (off len:Nat):List Int:=L.take off++(List.replicate len 0++L.drop (off+len))
theorem pS {L:List Int} {off len:Nat} (h:off+len<=L.length):(vO L off len).length=L.length:=by simp[vO];omega
@[simp] theorem ET (L:List Int) (off len:Nat):L0 (l6 (L.map encI)) off len (.im (.raw (.int .i64 0)))=l6 ((vO L off len).map encI):=by
 simp only[L0,vO,l6,List.map_append,List.map_take,List.map_drop,List.map_replicate];rfl
theorem QCall.thaw {P:Program} {G:IK} {f:FuncId} {args args0:List DV} {d0:DV} {objs:List DObj} {K:DV->Prop} {t:Tok K} (h:∀ objs,DCall P G f args0 objs (λd o=>d=d0/\o=objs)) (ha:args0=args.map (eU 0 objs)) (hd:FlV d0) (hk:K d0):QCall P G f args objs K t:=
 ⟨d0,DCall.thaw h ha hd,hk⟩
end Go.Ab
namespace Go.Proofs
open Go Go.Ab
variable {G:IK}
def K8 (tk:Int->Issue):Nat->Int->Int->List (Int×Int)
 | 0,_,_=>[]
 | k+1,d,m=>if 1<(tk d).kind then [(d,m)] else (tk d).items.flatMap λy=>K8 tk k y.drawing (IntKind.i64.wrap (m*y.count))
def EA (ns:List Int) (C:List Int) (p:Int×Int):List Int:=C.set (idx ns p.1).toNat (IntKind.i64.wrap ((C[(idx ns p.1).toNat]?).getD 0+p.2))
def Ez (ns:List Int) (C:List Int) (lv:List (Int×Int)):List Int:=lv.foldl (EA ns) C
def Gw (l:List Issue) (lets:List Int) (d:Int):List Int:=Ez (nums l) (List.replicate (nums l).length 0) (K8 (r5 l lets) 6 d 1)
def kc (l:List Issue) (lets:List Int) (d:Int):List Itm:=(((nums l).zip (Gw l lets d)).filter λp=>decide (0<p.2)).map λp=>⟨p.1,p.2⟩
end Go.Proofs
namespace Go.Ab
open Go
def HM:Issue:=⟨0,0,0,[],[]⟩
def H2 (m:List (Int×Issue)) (n:Int):Issue:=match m with
 | []=>HM
 | p :: r=>if p.1=n then p.2 else H2 r n
def ek (n:Int) (v:Issue):List (Int×Issue)->List (Int×Issue)
 | []=>[(n,v)]
 | p :: r=>if p.1=n then (n,v) :: r else p :: ek n v r
def G8 (m:List (Int×Issue)):List (List Value×List DC):=m.map λp=>(kI p.1,(h9 p.2).map .im)
def da (m:List (Int×Issue)):List (List Value×List IC):=m.map λp=>(kI p.1,h9 p.2)
theorem eX (p:Int×Issue) (r:List (Int×Issue)):G8 (p :: r)=(kI p.1,(h9 p.2).map .im) :: G8 r:=rfl
@[simp] theorem GQ (m:List (Int×Issue)) (n:Int):K0 [.int .i64 n] (G8 m) [.im (.raw (.int .i64 0)),.im (.raw (.int .i64 0)),.im (.raw (.int .u8 0)),.im (.sl []),.im (.sl [])]=(h9 (H2 m n)).map .im:=by
 induction m with
 | nil=>rfl
 | cons p r ih =>
   rw[eX];simp only[K0,O7,H2,Z2,decide_eq_true_eq] at ih ⊢;split
   ·rfl
   ·exact ih
theorem xS (m:List (Int×Issue)) (n:Int) (v:Issue):O0 [.int .i64 n] ((h9 v).map .im) (G8 m)=G8 (ek n v m):=by
 induction m with
 | nil=>rfl
 | cons p r ih =>
   rw[eX];simp only[O0,ek,Z2,decide_eq_true_eq] at ih ⊢;split
   ·rfl
   ·rw[ih];rfl
@[simp] theorem GP (m:List (Int×Issue)) (n a b k:Int) (i:List Itm) (d:List Dim):O0 [.int .i64 n] [.im (.raw (.int .i64 a)),.im (.raw (.int .i64 b)),.im (.raw (.int .u8 k)),.im (.sl (i.map v6)),.im (.sl (d.map B9))] (G8 m)=G8 (ek n ⟨a,b,k,i,d⟩ m):=xS m n ⟨a,b,k,i,d⟩
@[simp] theorem ER (m:List (Int×Issue)):(G8 m).length=m.length:=by simp[G8]
@[simp] theorem Bv (m:List (Int×Issue)):eT (da m)=G8 m:=by simp[eT,da,G8]
@[simp] theorem GR (k n:Nat) (objs:List DObj) (m:List (Int×Issue)):C3 (λx:List Value×List DC=>(C3 (frz (k+1) n objs) x.2).map λl=>(x.1,l)) (G8 m)=some (da m):=by
 induction m with
 | nil=>rfl
 | cons p r ih =>
   rw[eX,C3,ih,jt];rfl
@[simp] theorem EM (n:Nat) (objs:List DObj) (m:List (Int×Issue)):((G8 m).map λx=>(x.1,x.2.map (fz n objs)))=G8 m:=by
 simp[G8,fz,DC.lt]
theorem gO {n:Int} {v:Issue}:∀ {m:List (Int×Issue)},n∉m.map (·.1)->ek n v m=m++[(n,v)]
 | [],_=>rfl
 | p :: r,h=>by
   rw[List.map_cons,List.mem_cons,not_or] at h;rw[ek,if_neg (Ne.symm h.1),gO h.2];rfl
theorem R0 (f:Int->Issue):∀ (ns:List Int) (n:Int),H2 (ns.map λd=>(d,f d)) n=if n∈ns then f n else HM
 | [],n=>by simp[H2]
 | d :: ns,n=>by
   rw[List.map_cons,H2,R0 f ns n];by_cases h:d=n
   ·subst h;simp
   ·rw[if_neg h];simp[Ne.symm h]
@[simp] theorem Il (e:Nat->Nat) (m:List (Int×Int)):((J8 m).map λx=>(x.1,rnL e x.2))=J8 m:=by
 simp[J8,rnL,gI]
@[simp] theorem HO (e:Nat->Nat) (m:List (Int×Issue)):((G8 m).map λx=>(x.1,rnL e x.2))=G8 m:=by
 simp only[G8,List.map_map];exact List.map_congr_left λx _=>by simp only[Function.comp,eI]
@[simp] theorem Ik (e:Nat->Nat) (m:List Int):((G5 m).map λx=>(x.1,rnL e x.2))=G5 m:=by
 simp[G5,rnL,gI]
end Go.Ab
namespace Go.Ab
open Go
@[simp] theorem Gl (m:List (Int×Issue)):(da m).map (λx=>(x.1,x.2.map DC.im))=G8 m:=Bv m
@[simp] theorem GW (m:List (Int×Int)):(Y3 m).map (λx=>(x.1,x.2.map DC.im))=J8 m:=DM m
@[simp] theorem GV (m:List Int):(pF m).map (λx=>(x.1,x.2.map DC.im))=G5 m:=DL m
end Go.Ab
namespace Go.Proofs
open Go Go.Ab Tryz
variable {G:IK}
def ar (l:List Issue) (lets:List Int):List (Int×Issue):=(nums l).map λd=>(d,r5 l lets d)
theorem Ax {l:List Issue} {lets:List Int} {k:Nat} (h:l9 l=0) (hk:k<(nums l).length) (hk2:k<lets.length) (hf:(B6 l (nums l)[k] lets[k]).isSome=false):r8 l lets=false:=by
 have hn:¬ cQ l ((nums l)[k],lets[k])=true:=λhok=>by
  simp only[cQ,Bool.and_eq_true,decide_eq_true_eq] at hok;rw[(cW h _ _).2 hok] at hf;cases hf
 simp only[r8,Bool.and_eq_false_iff];refine .inr ?_;rw[<- Bool.not_eq_true,List.all_eq_true];intro hall;refine hn (hall _ (List.mem_iff_getElem?.2 ⟨k,?_⟩));rw[List.getElem?_zip_eq_some];exact⟨by simp[hk],by simp[hk2]⟩
theorem wO {l:List Issue} {lets:List Int} (h:l9 l=0) (he:lets.length=(nums l).length) (hall:∀ (k:Nat) (h1:k<(nums l).length) (h2:k<lets.length),(B6 l (nums l)[k] lets[k]).isSome=true):r8 l lets=true:=by
 simp only[r8,Bool.and_eq_true,decide_eq_true_eq,List.all_eq_true];refine⟨he,λp hp=>?_⟩;obtain⟨k,hk⟩:=List.mem_iff_getElem?.1 hp;rw[List.getElem?_zip_eq_some] at hk;obtain⟨h1,e1⟩:=List.getElem?_eq_some_iff.1 hk.1;obtain⟨h2,e2⟩:=List.getElem?_eq_some_iff.1 hk.2;have:=(cW h _ _).1 (hall k h1 h2);rw[e1,e2] at this;simp only[cQ,Bool.and_eq_true,decide_eq_true_eq];exact this
theorem tv {l:List Issue} {lets:List Int} {k:Nat} (hnd:(nums l).Nodup) (hk:k<(nums l).length) (hk2:k<lets.length):r5 l lets (nums l)[k]=(B6 l (nums l)[k] lets[k]).getD an:=by
 have h1:(nums l)[k]?=some (nums l)[k]:=by simp[hk]
 have h2:lets[k]?=some lets[k]:=by simp[hk2]
 simp only[r5,rM hnd h1,Int.toNat_natCast,h2,Option.getD_some]
def A6 (l:List Issue) (lets:List Int) (d:Int):Int:=if l9 l≠0 then l9 l else if r8 l lets=false then 22 else if d∈nums l then 0 else 6
def aw (l:List Issue) (lets:List Int) (d:Int):List DV:=if A6 l lets d=0 then [.one (.im (s9 l (nums l))),.one (.im (.mp [.int .i64] (da (ar l lets)))),iv 0] else [.one (.im (.raw (.pointer none))),.one (.im (.raw (.map none))),iv (A6 l lets d)]
theorem ui (l:List Issue) (lets:List Int) (d:Int):∀ x∈aw l lets d,ImV x:=by unfold aw;split<;>simp[s9]
@[simp] abbrev Ls:List Nat:=[0,1,2,3,6,7,8,9,10,11,12,13,14,21,30,33,34,35,55,64]
@[simp] abbrev KL:List Nat:=[0,1,2,3,6,7,8,9,10,11,12,13,14,21,30,33,34,35,37,38,39,40,41,42,43,44,45,46,47,48,49,50,51,52,55,64]
theorem xm (l:List Issue) (lets:List Int) (d:Int) (hG:o4 G) (hs:Z4 l) (hll:lets.length<1000000) (objs:List DObj):DCall prog G 281 [Z7 l,A4 lets,iv d] objs (λrr objs'=>rr=.tup (aw l lets d)/\objs'=objs):=by
 refine DCall.frame ?_ (by simp) (by simpa using ui l lets d) objs;refine g9 func281 rfl ntmps281 (by simp) rfl ?_;simp only[Z7,A4,iv];have c1:=fJ l hG hs;by_cases h0:l9 l=0
 ·simp only[be,h0,if_true] at c1;have hnd:(nums l).Nodup:=(E9 h0).1.imp λh=>Int.ne_of_lt h;have hnl:(nums l).length<=l.length:=B8 l l.length;have hl80:=hs.1;have hsort:=bO h0;by_cases he:lets.length=(nums l).length
  ·have he':(lets.length:Int)=((nums l).length:Int):=by omega
   simp only[s9] at c1;have hs:=he';repeat' first|(with_reducible first|refine zz ?_|refine zE Ls ?_)|simp -dsimp[hs]|refine zp c1 ?_|refine j4 ?_ ?_<;>intro h<;>try exact h.elim
   all_goals try clear hs
   refine i7 (ι:={ k:Nat // k<=lets.length/\∀ (i:Nat) (h1:i<(nums l).length) (h2:i<lets.length),i<k->(B6 l (nums l)[i] lets[i]).isSome=true }) (λp=>⟨67,[(1,A4 lets),(2,iv d),(6,.one (.im (.raw (.pointer none)))),(7,.one (.im (.raw (.map none)))),(8,iv 0),(9,.one (.im (s9 l (nums l)))),(11,.one (.map 1)),(33,iv (lets.length:Int)),(34,iv (p.1:Int))],[.row [.im (.sl (l.map h9))],.map [.int .i64] (G8 (((nums l).take p.1).map λd=>(d,r5 l lets d)))]⟩) (λp=>lets.length-p.1) ⟨0,by simp⟩ (zv [1,2,6,7,8,9,11,33,34] (by simp[s9,G8];omega)) ?_;rintro⟨k,hk,hall⟩;simp only[iv,A4];by_cases hlt:k<lets.length
   ·have hkn:k<(nums l).length:=by omega
    have hx:(nums l)[k]?=some (nums l)[k]:=by simp[hkn]
    have hy:lets[k]?=some lets[k]:=by simp[hlt]
    have hw:=zk k;have c2:=tS (G:=G) l (nums l) (nums l)[k] lets[k] hsort (by omega);have hta:=tv hnd hkn hlt;cases hf:B6 l (nums l)[k] lets[k] with
    | none =>
      have hE:A6 l lets d=22:=by simp[A6,h0,Ax h0 hkn hlt (by rw[hf];rfl)]
      simp only[hf,D3,s9,Option.isSome_none,Option.getD_none] at c2;simp only[s9];have hs:=za hx (za hy (za hlt (za hkn hw)));repeat' first|(with_reducible first|refine zz ?_|refine zr ?_)|simp -dsimp[hs]|refine zq c2 ?_|refine J0 (id:=10) (nt:=67) 18 [16] KL Ls mixed rfl (by kernel_rfl) ?_|with_reducible refine zE Ls ?_|refine j4 ?_ ?_<;>intro h<;>try exact h.elim
      all_goals try clear hs
      all_goals simp[aw,hE]
    | some y =>
      rw[hf,Option.getD_some] at hta;obtain⟨hym,hyd,_⟩:=mz hf;simp only[hf,D3,s9,Option.isSome_some,Option.getD_some] at c2;simp only[s9];have hmp:ek (nums l)[k] y (((nums l).take k).map λd=>(d,r5 l lets d))=(((nums l).take (k+1)).map λd=>(d,r5 l lets d)):=by
       rw[gO,List.take_succ_eq_append_getElem hkn,List.map_append,List.map_singleton,hta];rw[List.map_map];intro hm;obtain⟨z,hz,e⟩:=List.mem_map.1 hm;simp only[Function.comp] at e;subst e;obtain⟨i,hi,e⟩:=List.mem_take_iff_getElem.1 hz;have:=(List.getElem_inj hnd).1 e;omega
      rw[<- hyd] at hmp;have hmp':ek y.drawing ⟨y.drawing,y.letter,y.kind,y.items,y.dims⟩ (((nums l).take k).map λd=>(d,r5 l lets d))=(((nums l).take (k+1)).map λd=>(d,r5 l lets d)):=hmp;simp only[List.map_take] at hmp';have hfin:∀ (i:Nat) (h1:i<(nums l).length) (h2:i<lets.length),i<k+1->(B6 l (nums l)[i] lets[i]).isSome=true:=λi h1 h2 hi=>by
       by_cases e:i=k
       ·subst e;rw[hf];rfl
       ·exact hall i h1 h2 (by omega)
      have hs:=za hx (za hy (za hlt (za hkn hw)));repeat' first|with_reducible refine zz ?_|simp -dsimp[hs]|refine zq c2 ?_|refine J0 (id:=10) (nt:=67) 18 [16] KL Ls mixed rfl (by kernel_rfl) ?_|with_reducible refine zE Ls ?_|refine j4 ?_ ?_<;>intro h<;>try exact h.elim
      all_goals try clear hs
      exact zn ⟨k+1,by omega,hfin⟩ (zw [1,2,6,7,8,9,11,33,34] 2 (by simp[s9,hmp']))
   ·have hlet:=wO h0 he λi h1 h2=>hall i h1 h2 (by omega);have htk:(nums l).take k=nums l:=List.take_of_length_le (by omega);have c3:=yw (G:=G) l (nums l) d ((E9 h0).1.imp λh=>Int.le_of_lt h) (by omega);have hE:A6 l lets d=if d∈nums l then 0 else 6:=by simp[A6,h0,hlet]
    simp only[s9] at c3;rw[htk];by_cases hd:d∈nums l
    ·rw[if_pos hd] at hE;simp only[hd,decide_true] at c3;simp only[s9];have hs:=hlt;repeat' first|(with_reducible first|refine zz ?_|refine zr ?_|refine zE Ls ?_)|simp -dsimp[hs]|refine zp c3 ?_|refine j4 ?_ ?_<;>intro h<;>try exact h.elim
     all_goals try clear hs
     simp[aw,hE,ar,s9]
    ·rw[if_neg hd] at hE;simp only[hd,decide_false] at c3;simp only[s9];have hs:=hlt;repeat' first|(with_reducible first|refine zz ?_|refine zr ?_|refine zE Ls ?_)|simp -dsimp[hs]|refine zp c3 ?_|refine j4 ?_ ?_<;>intro h<;>try exact h.elim
     all_goals try clear hs
     simp[aw,hE]
  ·have he':¬ (lets.length:Int)=((nums l).length:Int):=by omega
   have hE:A6 l lets d=22:=by
    have:r8 l lets=false:=by simp[r8,he]
    simp[A6,h0,this]
   simp only[s9] at c1;have hs:=he';repeat' first|(with_reducible first|refine zz ?_|refine zr ?_|refine zE Ls ?_)|simp -dsimp[hs]|refine zp c1 ?_|refine j4 ?_ ?_<;>intro h<;>try exact h.elim
   all_goals try clear hs
   simp[aw,hE]
 ·have hE:A6 l lets d=l9 l:=by simp[A6,h0]
  simp only[be,h0,if_false] at c1;have hs:=h0;repeat' first|(with_reducible first|refine zz ?_|refine zr ?_|refine zE Ls ?_)|simp -dsimp[hs]|refine zp c1 ?_|refine j4 ?_ ?_<;>intro h<;>try exact h.elim
  all_goals try clear hs
  simp[aw,hE,h0]
def jl (m:List (Int×Int)) (lv:List (Int×Int)):List (Int×Int):=lv.foldl (λm p=>J7 p.1 (IntKind.i64.wrap (l7 m p.1+p.2)) m) m
def ge (by':List (Int×Issue)) (cnt:List (Int×Int)):List DObj:=[.row [.im (.mp [.int .i64] (da by'))],.map [.int .i64] (J8 cnt),.row [.map 1],.row [.fn (.func 282) [.ptr 0 0,.ptr 2 0,.ptr 3 0]]]
@[simp] abbrev LO:List Nat:=[0,1,2,3,4,7,9,15,22,23,24,25]
theorem rX (l:List Issue) (lets:List Int) (h0:l9 l=0) (hlet:r8 l lets=true) (dep:Int->Int) (hdep:∀ n∈nums l,1<=dep n/\dep n<=6/\∀ c∈iV l n,c∈nums l/\dep c<dep n) :
 ∀ (k:Nat) (d m:Int) (cnt:List (Int×Int)),d∈nums l->dep d<=k ->
  DCall prog G 282 [iv d,iv m,.one (.ptr 0 0),.one (.ptr 2 0),.one (.ptr 3 0)] (ge (ar l lets) cnt)
   (λr o=>r=.tup []/\o=ge (ar l lets) (jl cnt (K8 (r5 l lets) k d m))):=by
 intro k;induction k with
 | zero=>intro d m C hd hk;have:=(hdep d hd).1;omega
 | succ k ih =>
   intro d m cnt hd hk;have hti:=jM h0 hlet hd;obtain⟨htm,_,_⟩:=dy h0 hlet hd;have htok:=(T4 (N4 (J6 h0))).2.2.2.1 _ htm;have hsm:=lB htok;have hkd:(r5 l lets d).kind=1\/(2<=(r5 l lets d).kind/\(r5 l lets d).items.length=0):=by
    simp only[q8,Bool.and_assoc] at htok;rw[<- Bool.and_assoc,Bool.and_eq_true] at htok;have:=(kM _).1 htok.1;omega
   have hch:=(hdep d hd).2.2;have hE:K8 (r5 l lets) (k+1) d m=if 1<(r5 l lets d).kind then [(d,m)] else (r5 l lets d).items.flatMap λy=>K8 (r5 l lets) k y.drawing (IntKind.i64.wrap (m*y.count)):=rfl;have hlook:H2 (ar l lets) d=r5 l lets d:=by rw[ar,R0,if_pos hd]
   generalize r5 l lets d=x at *;refine DCall.drop ?_;refine g9 func282 rfl ntmps282 (by simp) rfl ?_;simp only[ge,iv];by_cases hkind:x.kind=1
   ·rw[if_neg (by omega)] at hE;have hs:=za hlook hkind;repeat' first|(with_reducible first|refine zz ?_|refine zE LO ?_)|simp -dsimp[hs]|refine j4 ?_ ?_<;>intro h<;>try exact h.elim
    refine i7 (ι:={ p:Nat×List (Int×Int) // p.1<=x.items.length/\jl cnt (x.items.flatMap λy=>K8 (r5 l lets) k y.drawing (IntKind.i64.wrap (m*y.count)))=jl p.2 ((x.items.drop p.1).flatMap λy=>K8 (r5 l lets) k y.drawing (IntKind.i64.wrap (m*y.count))) }) (λp=>⟨37,[(1,iv m),(2,.one (.ptr 0 0)),(3,.one (.ptr 2 0)),(4,.one (.ptr 3 0)),(22,.one (.im (.sl (x.items.map v6)))),(23,iv (x.items.length:Int)),(24,iv (p.1.1:Int))],ge (ar l lets) p.1.2⟩) (λp=>x.items.length-p.1.1) ⟨(0,cnt),by simp⟩ (zw [1,2,3,4,22,23,24] 4 (by simp[ge])) ?_;rintro⟨⟨u,cnt'⟩,hu,hadd⟩;simp only at hu hadd;simp only[iv,ge];by_cases hlt:u<x.items.length
    ·have hx:x.items[u]?=some x.items[u]:=by simp[hlt]
     have hw:=zk u;have hc:=hch _ (hti x.items[u] (List.getElem_mem hlt));have hrec:=ih x.items[u].drawing (IntKind.i64.wrap (m*x.items[u].count)) cnt' hc.1 (by omega);rw[List.drop_eq_getElem_cons hlt,List.flatMap_cons,jl,jl,List.foldl_append] at hadd;simp only[iv,ge] at hrec;have hs:=za hx (za hw hlt);repeat' first|(with_reducible first|refine zz ?_|refine zE LO ?_)|simp -dsimp[hs]|refine CallE.embed [0,1,2,3] (hrec) ?_ ?_ ?_ ?_ ?_ ?_;(focus simp[p7];done);(focus simp;done);(focus simp;done);(focus simp;done);(focus refine n4 ?_;simp[p7,o6];done);try simp -dsimp[n3,p7,hs]|refine j4 ?_ ?_<;>intro h<;>try exact h.elim
     exact zn ⟨(u+1,jl cnt' (K8 (r5 l lets) k x.items[u].drawing (IntKind.i64.wrap (m*x.items[u].count)))),by omega,hadd⟩ (zw [1,2,3,4,22,23,24] 4 (by simp[ge]))
    ·rw[List.drop_eq_nil_of_le (by omega)] at hadd;have hs:=hlt;repeat' first|(with_reducible first|refine zz ?_|refine ze ?_|refine zE LO ?_)|simp -dsimp[hs]|refine j4 ?_ ?_<;>intro h<;>try exact h.elim|with_reducible refine And.intro ?_ ?_
     rw[hE,hadd];simp[ge,jl]
   ·rw[if_pos (by omega)] at hE;have hz:x.items.length=0:=by omega
    have hs:=za hlook (za hkind hz);repeat' first|(with_reducible first|refine zz ?_|refine zE LO ?_)|simp -dsimp[hs]|refine j4 ?_ ?_<;>intro h<;>try exact h.elim
    refine i7 (ι:=Unit) (λ_=>⟨37,[(23,iv 0),(24,iv 0)],ge (ar l lets) (jl cnt [(d,m)])⟩) (λ_=>0) () (zw [23,24] 4 (by simp[ge,jl])) ?_;intro _;simp only[iv,ge];have hs:=trivial;repeat' first|(with_reducible first|refine zz ?_|refine ze ?_|refine zE LO ?_)|simp -dsimp[hs]|refine j4 ?_ ?_<;>intro h<;>try exact h.elim|with_reducible refine And.intro ?_ ?_
    rw[hE]
def lH (l:List Issue) (lets:List Int) (d:Int):List (Int×Int):=jl [] (K8 (r5 l lets) 6 d 1)
def I4 (ns:List Int) (m:List (Int×Int)):List Itm:=(ns.filter λn=>decide (0<l7 m n)).map λn=>⟨n,l7 m n⟩
def aZ (l:List Issue) (lets:List Int) (d:Int):List Itm:=if A6 l lets d=0 then I4 (nums l) (lH l lets d) else []
@[simp] abbrev LP:List Nat:=[0,1,2,3,6,7,8,9,10,11,12,13,15,25,35,36,37,38,44]
theorem vw (l:List Issue) (lets:List Int) (d:Int) (hG:o4 G) (hs:Z4 l) (hll:lets.length<1000000):zP prog G 269 [Z7 l,A4 lets,iv d] (.tup [.one (.im (.sl ((aZ l lets d).map v6))),iv (A6 l lets d)]):=by
 refine zf func269 ntmps269 ?_;try simp only[Z7,A4,iv]
 have c1:=xm (G:=G) l lets d hG hs hll;by_cases hE:A6 l lets d=0
 ·have h0:l9 l=0:=by
   by_cases h:l9 l=0
   ·exact h
   ·simp[A6,h] at hE
  have hlet:r8 l lets=true:=by
   cases h:r8 l lets
   ·simp[A6,h0,h] at hE
   ·rfl
  have hd:d∈nums l:=Classical.byContradiction λh=>by simp[A6,h0,hlet,h] at hE
  obtain⟨dep,hdep⟩:=pN h0;have c2:=rX (G:=G) l lets h0 hlet dep hdep 6 d 1 [] hd (by have:=(hdep d hd).2.1;omega);have hR:aZ l lets d=I4 (nums l) (lH l lets d):=by simp[aZ,hE]
  have hnl:(nums l).length<=l.length:=B8 l l.length;have hl80:=hs.1;change DCall _ _ _ _ _ (λr o=>r=.tup []/\o=ge (ar l lets) (lH l lets d)) at c2;generalize lH l lets d=cnt at *;simp only[aw,hE,if_true,s9] at c1;simp only[iv,ge,show J8 []=[] from rfl] at c2;generalize nums l=ns at *;have hs:=trivial;repeat' first|(with_reducible first|refine zz ?_|refine zE LP ?_)|simp -dsimp[hs]|refine zp c1 ?_|refine CallE.embed [2,3,4,5] (c2) ?_ ?_ ?_ ?_ ?_ ?_;(focus simp[p7];done);(focus simp;done);(focus simp;done);(focus simp;done);(focus refine n4 ?_;simp[p7,o6];done);try simp -dsimp[n3,p7,hs]|refine j4 ?_ ?_<;>intro h<;>try exact h.elim
  all_goals try clear hs
  refine i7 (ι:={ p:Nat×Nat×Bool×List Itm // p.1<=ns.length/\p.2.2.2.length<=p.1/\I4 ns cnt=p.2.2.2++I4 (ns.drop p.1) cnt }) (λp=>⟨55,[(11,.one (.ptr 4 0)),(13,.one (.vec 6 p.1.2.1 0 p.1.2.2.2.length)),(35,A4 ns),(36,iv (ns.length:Int)),(37,iv (p.1.1:Int))],[.row [.im (.sl (l.map h9))],.vec 2 [] 0 true,.row [.im (.mp [.int .i64] (da (ar l lets)))],.map [.int .i64] (J8 cnt),.row [.map 3],.row [.fn (.func 282) [.ptr 2 0,.ptr 4 0,.ptr 5 0]],.vec 2 (l6 (p.1.2.2.2.map v6)) p.1.2.1 p.1.2.2.1]⟩) (λp=>ns.length-p.1.1) ⟨(0,0,true,[]),by simp⟩ (zv [11,13,35,36,37]) ?_;rintro⟨⟨k,g,nl,out⟩,hk,hol,hp⟩;simp only at hk hol hp;simp only[iv,A4];by_cases hlt:k<ns.length
  ·have hx:ns[k]?=some ns[k]:=by simp[hlt]
   have hw:=zk k;rw[List.drop_eq_getElem_cons hlt] at hp;by_cases hpos:0<l7 cnt ns[k]
   ·rw[I4,I4,List.filter_cons_of_pos (by simpa using hpos),List.map_cons] at hp;have hs:=za hx (za hw (za hlt hpos));repeat' first|(with_reducible first|refine zz ?_|refine And.intro (by omega) ?_|refine zE LP ?_)|simp -dsimp[hs]|refine j4 ?_ ?_<;>intro h<;>try exact h.elim
    all_goals try clear hs
    all_goals try omega
    exact zn ⟨(k+1,g+1,false,out++[⟨ns[k],l7 cnt ns[k]⟩]),by omega,by simp;omega,by rw[I4,hp,I4];simp⟩ (zw [11,13,35,36,37] 7)
   ·rw[I4,I4,List.filter_cons_of_neg (by simpa using hpos)] at hp;have hs:=za hx (za hw (za hlt hpos));repeat' first|(with_reducible first|refine zz ?_|refine zE LP ?_)|simp -dsimp[hs]|refine j4 ?_ ?_<;>intro h<;>try exact h.elim
    all_goals try clear hs
    exact zn ⟨(k+1,g,nl,out),by omega,by show out.length<=k+1;omega,hp⟩ (zv [11,13,35,36,37])
  ·rw[List.drop_eq_nil_of_le (by omega)] at hp;have hs:=hlt;repeat' first|(with_reducible first|refine zz ?_|refine zr ?_|refine zE LP ?_)|simp -dsimp[hs]|refine j4 ?_ ?_<;>intro h<;>try exact h.elim
   all_goals try clear hs
   all_goals try omega
   rw[hR,hp];simp[I4,hE]
 ·have hR:aZ l lets d=[]:=by simp[aZ,hE]
  simp only[aw,hE,if_false] at c1;have hs:=hE;repeat' first|(with_reducible first|refine zz ?_|refine zr ?_|refine zE LP ?_)|simp -dsimp[hs]|refine zp c1 ?_|refine j4 ?_ ?_<;>intro h<;>try exact h.elim
  all_goals try clear hs
  simp[hR]
end Go.Proofs
namespace Go.Ab
open Go
structure Link where
 drawing:Int
 dim:Int
 back:Bool
 deriving DecidableEq
structure ChLoop where
 links:List Link
 lo:Int
 hi:Int
 deriving DecidableEq
structure Chains where
 reg:List Issue
 lets:List Int
 of:Int
 loops:List ChLoop
 deriving DecidableEq
def D6 (x:Link):List IC:=[rI x.drawing,rI x.dim,rB x.back]
def F2 (x:ChLoop):List IC:=[.sl (x.links.map D6),rI x.lo,rI x.hi]
def N5 (c:Chains):List IC:=[.sl (c.reg.map h9),.sl (c.lets.map encI),rI c.of,.sl (c.loops.map F2)]
def yb (x:Link):DV:=.agg ((D6 x).map .im)
def ko (x:ChLoop):DV:=.agg ((F2 x).map .im)
def Aw (c:Chains):DV:=.agg ((N5 c).map .im)
attribute [simp] D6 F2 N5 yb ko Aw
end Go.Ab
namespace Go.Proofs
open Go Go.Ab
variable {G:IK}
theorem vf (x lo hi:Int):DCall Tryz.prog G 189 (iv x :: [DC.ptr 0 0,DC.ptr 1 0].map .one) [.row [.im (rI lo)],.row [.im (rI hi)]] (λd o=>d=bv (decide (x<lo)||decide (hi<x))/\o=[.row [.im (rI lo)],.row [.im (rI hi)]]):=by
 refine g9 Tryz.func189 rfl Tryz.ntmps189 (by simp) rfl ?_;simp only[rI];have hs:=trivial;repeat' first|(with_reducible first|refine zz ?_|refine zr ?_|refine zE [0,1,2,4] ?_)|simp -dsimp[hs]|with_reducible refine j7 ?_ ?_<;>intro h<;>have h0:=h<;>(try simp only[i8] at h)<;>have h2:=h<;>(try simp at h2)<;>replace hs:=za h0 (za h (za h2 hs))|with_reducible refine And.intro ?_ ?_
 all_goals try clear hs
 all_goals simp[*]
theorem aV (lo hi:Int) (l:List Int) (hl:l.length<1000000):zP Tryz.prog G 142 [iv lo,iv hi,A4 l] (bv (l.all λx=>decide (lo<=x)&&decide (x<=hi))):=by
 refine zf Tryz.func142 Tryz.ntmps142 ?_;try simp only[iv,iv,A4]
 have hc:=B5 (G:=G) l (λx=>decide (x<lo)||decide (hi<x)) 189 [.ptr 0 0,.ptr 1 0] [.row [.im (rI lo)],.row [.im (rI hi)]] (by simp) (λx _=>vf x lo hi) hl;simp only[rI] at hc;repeat' first|(with_reducible first|refine zz ?_|refine zx ?_|refine zE [0,1,2,3,4,6] ?_)|simp -dsimp|refine CallE.here hc ?_
 rw[Bool.eq_iff_iff];simp;exact exists_congr λx=>and_congr_right λ_=>by omega
def H8 (c:Chains) (D:List (Int×Int)) (B:List (Int×Issue)):IC:=.ip [.sl (c.reg.map h9),.sl (c.lets.map encI),rI c.of,.sl (c.loops.map F2),.mp [.int .i64] (Y3 D),.mp [.int .i64] (da B)]
def sA (x:ChLoop):Bool:=decide (1<=x.links.length)&&decide (x.links.length<=8)
def pV (x:ChLoop):Bool:=(decide (-8000000000<=x.lo)&&decide (x.lo<=8000000000))&&(decide (-8000000000<=x.hi)&&decide (x.hi<=8000000000))&&decide (x.lo<=x.hi)
def U9 (D:List (Int×Int)) (B:List (Int×Issue)):List (Int×Int)->List Link->Bool
 | _,[]=>true
 | U,y :: r=>decide (l7 U y.drawing+1<=l7 D y.drawing)&&(decide (0<=y.dim)&&decide (y.dim<=((H2 B y.drawing).dims.length:Int)-1))&&U9 D B (J7 y.drawing (l7 U y.drawing+1) U) r
theorem En (d:IC) (x:ChLoop):zP Tryz.prog G 345 [.one (.im d),ko x] (bv (sA x)):=by
 refine zf Tryz.func345 Tryz.ntmps345 ?_;try simp only[ko]
 have c1:=aV (G:=G) 1 8 [(x.links.length:Int)] (by simp);repeat' first|(with_reducible first|refine zz ?_|refine zx ?_|refine zE [1,3,4] ?_)|simp -dsimp|refine zt c1 ?_ ?_ ?_;(focus simp;done);focus (simp;done)
 rw[Bool.eq_iff_iff];simp[sA];omega
theorem zg (x:ChLoop):pV x=true↔-8000000000<=x.lo/\x.lo<=8000000000/\-8000000000<=x.hi/\x.hi<=8000000000/\x.lo<=x.hi:=by
 simp[pV];omega
theorem Em (d:IC) (x:ChLoop):zP Tryz.prog G 346 [.one (.im d),ko x] (bv (pV x)):=by
 refine zf Tryz.func346 Tryz.ntmps346 ?_;try simp only[ko]
 have c1:=aV (G:=G) (-8000000000) 8000000000 [x.lo,x.hi] (by simp);have hi:=zg x;cases hq:([x.lo,x.hi].all λy=>decide (-8000000000<=y)&&decide (y<=8000000000))
 ·rw[hq] at c1;repeat' first|(with_reducible first|refine zz ?_|refine zx ?_|refine zE [1,3,4] ?_)|simp -dsimp|refine zt c1 ?_ ?_ ?_;(focus simp;done);focus (simp;done)
  all_goals simp at hq
  all_goals exact pB hi (by omega)
 ·rw[hq] at c1;repeat' first|(with_reducible first|refine zz ?_|refine zx ?_|refine zE [1,3,4] ?_)|simp -dsimp|refine zt c1 ?_ ?_ ?_;(focus simp;done);focus (simp;done)
  all_goals simp at hq
  all_goals rw[Bool.eq_iff_iff,hi]
  all_goals simp
  all_goals omega
@[simp] abbrev Lv:List Nat:=[0,1,3,4,5,7,10,11,12,13,48]
theorem El (c:Chains) (D:List (Int×Int)) (B:List (Int×Issue)) (x:ChLoop) (hl:x.links.length<1000000) (hB:∀ n,(H2 B n).dims.length<1000000):zP Tryz.prog G 347 [.one (.im (H8 c D B)),ko x] (bv (U9 D B [] x.links)):=by
 refine zf Tryz.func347 Tryz.ntmps347 ?_;try simp only[ko]
 simp only[H8];have hs:=trivial;repeat' first|(with_reducible first|refine zz ?_|refine zE Lv ?_)|simp -dsimp[hs]
 refine i7 (ι:={ p:Nat×List (Int×Int) // p.1<=x.links.length/\U9 D B [] x.links=U9 D B p.2 (x.links.drop p.1)/\bd p.2 p.1 }) (λp=>⟨50,[(0,.one (.im (H8 c D B))),(5,.one (.map 1)),(10,.one (.im (.sl (x.links.map D6)))),(11,iv (x.links.length:Int)),(12,iv (p.1.1:Int))],[.row ((F2 x).map .im),.map [.int .i64] (J8 p.1.2)]⟩) (λp=>x.links.length-p.1.1) ⟨(0,[]),by simp[bd]⟩ (zv [0,5,10,11,12] (by simp[H8,J8])) ?_;rintro⟨⟨k,U⟩,hk,hu,hb⟩;simp only at hk hu hb;simp only[iv,H8];by_cases hlt:k<x.links.length
 ·have hx:x.links[k]?=some x.links[k]:=by simp[hlt]
  have hw:=zk k;have hbl:=tT hb x.links[k].drawing;have hwu:IntKind.i64.wrap (l7 U x.links[k].drawing+1)=l7 U x.links[k].drawing+1:=r9 (by omega) (by omega);have hput:l7 (J7 x.links[k].drawing (l7 U x.links[k].drawing+1) U) x.links[k].drawing=l7 U x.links[k].drawing+1:=by rw[X2,if_pos rfl]
  have hBn:=hB x.links[k].drawing;have hwd:IntKind.i64.wrap (((H2 B x.links[k].drawing).dims.length:Int)-1)=((H2 B x.links[k].drawing).dims.length:Int)-1:=r9 (by omega) (by omega);have c1:=aV (G:=G) 0 (((H2 B x.links[k].drawing).dims.length:Int)-1) [x.links[k].dim] (by simp);have hbn:bd (J7 x.links[k].drawing (l7 U x.links[k].drawing+1) U) (k+1):=sM (dR hb (by omega)) (by omega) (by omega);rw[List.drop_eq_getElem_cons hlt,U9] at hu;by_cases hle:l7 U x.links[k].drawing+1<=l7 D x.links[k].drawing
  ·rw[decide_eq_true hle,Bool.true_and] at hu;cases hq:([x.links[k].dim].all λy=>decide (0<=y)&&decide (y<=((H2 B x.links[k].drawing).dims.length:Int)-1))
   ·rw[hq] at c1;have hq':(decide (0<=x.links[k].dim)&&decide (x.links[k].dim<=((H2 B x.links[k].drawing).dims.length:Int)-1))=false:=by simpa using hq
    rw[hq',Bool.false_and] at hu;have hs:=za hx (za hw (za hlt (za hwu (za hput (za hwd hle)))));repeat' first|(with_reducible first|refine zz ?_|refine zr ?_)|simp -dsimp[hs]|refine zq c1 ?_|refine zM 6 50 28 Lv ?_|with_reducible refine zE Lv ?_|refine j4 ?_ ?_<;>intro h<;>try exact h.elim
    rw[hu]
   ·rw[hq] at c1;have hq':(decide (0<=x.links[k].dim)&&decide (x.links[k].dim<=((H2 B x.links[k].drawing).dims.length:Int)-1))=true:=by simpa using hq
    rw[hq',Bool.true_and] at hu;have hs:=za hx (za hw (za hlt (za hwu (za hput (za hwd hle)))));repeat' first|with_reducible refine zz ?_|simp -dsimp[hs]|refine zq c1 ?_|refine zM 6 50 28 Lv ?_|with_reducible refine zE Lv ?_|refine j4 ?_ ?_<;>intro h<;>try exact h.elim
    exact zn ⟨(k+1,J7 x.links[k].drawing (l7 U x.links[k].drawing+1) U),by omega,hu,hbn⟩ (zw [0,5,10,11,12] 2 (by simp[H8]))
  ·rw[decide_eq_false hle,Bool.false_and,Bool.false_and] at hu;have hs:=za hx (za hw (za hlt (za hwu (za hput (za hwd hle)))));repeat' first|(with_reducible first|refine zz ?_|refine zr ?_)|simp -dsimp[hs]|refine zM 6 50 28 Lv ?_|with_reducible refine zE Lv ?_|refine j4 ?_ ?_<;>intro h<;>try exact h.elim
   rw[hu]
 ·rw[List.drop_eq_nil_of_le (by omega)] at hu;have hs:=hlt;repeat' first|(with_reducible first|refine zz ?_|refine zr ?_|refine zE Lv ?_)|simp -dsimp[hs]|refine j4 ?_ ?_<;>intro h<;>try exact h.elim
  rw[hu];rfl
end Go.Proofs
namespace Go.Proofs
open Go Go.Ab Tryz
variable {G:IK}
def I9 (G:IK):Prop:=G 7=some [.fn (.func 345) [],.fn (.func 346) [],.fn (.func 347) []]
def lg (c:Chains):Prop:=Z4 c.reg/\c.lets.length<=80/\c.loops.length<=10/\∀ x∈c.loops,x.links.length<=12
def P3 (c:Chains):List (Int×Int):=(aZ c.reg c.lets c.of).foldl (λm x=>J7 x.drawing x.count m) []
def gx (D:List (Int×Int)) (B:List (Int×Issue)) (x:ChLoop):Nat->Bool
 | 0=>sA x
 | 1=>pV x
 | _=>U9 D B [] x.links
def K7 (D:List (Int×Int)) (B:List (Int×Issue)) (x:ChLoop):Bool:=sA x&&pV x&&U9 D B [] x.links
theorem zi {D:List (Int×Int)} {B:List (Int×Issue)} {x:ChLoop} {i:Nat} (h:gx D B x i=false):K7 D B x=false:=by
 unfold K7;match i with
 | 0=>simp only[gx] at h;simp[h]
 | 1=>simp only[gx] at h;simp[h]
 | i+2=>simp only[gx] at h;simp[h]
theorem zj {D:List (Int×Int)} {B:List (Int×Issue)} {x:ChLoop} (h:∀ i<3,gx D B x i=true):K7 D B x=true:=by
 have h0:=h 0 (by omega);have h1:=h 1 (by omega);have h2:=h 2 (by omega);simp only[gx] at h0 h1 h2;simp[K7,h0,h1,h2]
def v7 (c:Chains):Int:=if l9 c.reg≠0 then l9 c.reg else if A6 c.reg c.lets c.of≠0\/¬ (1<=c.loops.length/\c.loops.length<=6) then 60 else if c.loops.all (K7 (P3 c) (ar c.reg c.lets)) then 0 else 60
def af (c:Chains):DV:=if v7 c=0 then .one (.im (H8 c (P3 c) (ar c.reg c.lets))) else .one (.im (.raw (.pointer none)))
theorem yX (c:Chains):ImV (af c):=by unfold af;split<;>simp[H8]
attribute [simp] yX
theorem vz (l:List Issue) (lets:List Int) (d:Int):(aZ l lets d).length<=l.length:=by
 unfold aZ;split
 ·simp only[I4,List.length_map];have:=List.length_filter_le (λn=>decide (0<l7 (lH l lets d) n)) (nums l);have:=B8 l l.length;simp only[nums] at *;omega
 ·simp
@[simp] abbrev Lf:List Nat:=[0,1,2,3,4,5,6,7,8,10,11,13,15,17,22,43,55,56,57,58,81,82,83,84,97,98,99,100,103,104,105,112]
@[simp] abbrev Kp:List Nat:=[2,3,7,15,97,98,99,103,104]
theorem zm (c:Chains) (hG:o4 G) (hC:I9 G) (hs:lg c):zP prog G 234 [Aw c] (.tup [af c,iv (v7 c)]):=by
 refine zf func234 ntmps234 ?_;try simp only[Aw]
 obtain⟨hsr,hsl,hso,hsk⟩:=hs;have hC':G 7=some [.fn (.func 345) [],.fn (.func 346) [],.fn (.func 347) []]:=hC;have c1:=nk c.reg hG hsr;by_cases h0:l9 c.reg=0
 ·rw[h0] at c1;have c2:=vw c.reg c.lets c.of hG hsr (by omega);have c3:=aV (G:=G) 1 6 [(c.loops.length:Int)] (by simp);by_cases hT:A6 c.reg c.lets c.of≠0\/¬ (1<=c.loops.length/\c.loops.length<=6)
  ·have hE:v7 c=60:=by unfold v7;rw[if_neg (by simp[h0]),if_pos hT]
   by_cases hT0:A6 c.reg c.lets c.of=0
   ·rw[hT0] at c2;have hr:([(c.loops.length:Int)].all λx=>decide (1<=x)&&decide (x<=6))=false:=by
     simp;omega
    rw[hr] at c3;have hs:=trivial;repeat' first|(with_reducible first|refine zz ?_|refine zr ?_|refine zE Lf ?_)|simp -dsimp[hs]|refine zp c1 ?_|refine zp c2 ?_|refine zt c3 ?_ ?_ ?_;(focus simp;done);focus (simp;done)|refine j4 ?_ ?_<;>intro h<;>try exact h.elim
    all_goals try clear hs
    all_goals simp[af,hE]
   ·have hs:=hT0;repeat' first|(with_reducible first|refine zz ?_|refine zr ?_|refine zE Lf ?_)|simp -dsimp[hs]|refine zp c1 ?_|refine zp c2 ?_|refine j4 ?_ ?_<;>intro h<;>try exact h.elim
    all_goals try clear hs
    all_goals simp[af,hE]
  ·have hT0:A6 c.reg c.lets c.of=0:=Classical.byContradiction λh=>hT (.inl h);have hr6:1<=c.loops.length/\c.loops.length<=6:=Classical.byContradiction λh=>hT (.inr h);have hr:([(c.loops.length:Int)].all λx=>decide (1<=x)&&decide (x<=6))=true:=by
    simp;omega
   rw[hT0] at c2;rw[hr] at c3;have hlet:r8 c.reg c.lets=true:=by
    cases h:r8 c.reg c.lets
    ·simp[A6,h0,h] at hT0
    ·rfl
   have c4:=bI c.reg hG hsr;rw[h0,show de c.reg=nums c.reg by simp[de,h0]] at c4;have hE:v7 c=if c.loops.all (K7 (P3 c) (ar c.reg c.lets)) then 0 else 60:=by simp[v7,h0,hT0];omega
   have hs:=trivial;repeat' first|with_reducible refine zz ?_|simp -dsimp[hs]|refine zp c1 ?_|refine zp c2 ?_|refine zt c3 ?_ ?_ ?_;(focus simp;done);focus (simp;done)|refine zp c4 ?_|with_reducible refine M7 (id:=7) (nt:=116) Lf rfl ?_;simp -dsimp[hs]|with_reducible refine zE Lf ?_|refine j4 ?_ ?_<;>intro h<;>try exact h.elim
   all_goals try clear hs
   have hnd:(nums c.reg).Nodup:=(E9 h0).1.imp λh=>Int.ne_of_lt h;have hnl:(nums c.reg).length<=c.reg.length:=B8 c.reg c.reg.length;have hll:c.lets.length=(nums c.reg).length:=by
    simp only[r8,Bool.and_eq_true,decide_eq_true_eq] at hlet;exact hlet.1
   have hreg:=hsr.1;refine i7 (ι:={ k:Nat // k<=(nums c.reg).length }) (λp=>⟨116,[(1,.one (.ptr 0 0)),(2,.one (.im (.raw (.pointer none)))),(3,iv 0),(5,.one (.im (.sl ((aZ c.reg c.lets c.of).map v6)))),(7,.one (.ptr 7 0)),(55,A4 (nums c.reg)),(56,iv ((nums c.reg).length:Int)),(57,iv (p.1:Int))],[.row ((N5 c).map .im),.vec 1 [[.im (rI (c.loops.length:Int))]] 0 false,.map [.int .i64] [],.map [.int .i64] (G8 (((nums c.reg).take p.1).map λd=>(d,r5 c.reg c.lets d))),.vec 0 [] 0 true,.vec 0 [] 0 true,.vec 0 [] 0 true,.row ((N5 c).map .im++[.map 2,.map 3])]⟩) (λp=>(nums c.reg).length-p.1) ⟨0,by omega⟩ (zv [1,2,3,5,7,55,56,57] (by simp[G8])) ?_;rintro⟨k,hk⟩;simp only[iv,A4];by_cases hlt:k<(nums c.reg).length
   ·have hx:(nums c.reg)[k]?=some (nums c.reg)[k]:=by simp[hlt]
    have hkl:k<c.lets.length:=by omega
    have hy:c.lets[k]?=some c.lets[k]:=by simp[hkl]
    have hw:=zk k;have c5:=Cg c.reg (nums c.reg)[k] c.lets[k] hG hsr;have hta:=tv hnd hlt hkl;rw[show atR c.reg (nums c.reg)[k] c.lets[k]=r5 c.reg c.lets (nums c.reg)[k] by rw[hta];simp[atR,h0]] at c5;have hmp:ek (nums c.reg)[k] (r5 c.reg c.lets (nums c.reg)[k]) (((nums c.reg).take k).map λd=>(d,r5 c.reg c.lets d))=(((nums c.reg).take (k+1)).map λd=>(d,r5 c.reg c.lets d)):=by
     rw[gO,List.take_succ_eq_append_getElem hlt,List.map_append,List.map_singleton];rw[List.map_map];intro hm;obtain⟨z,hz,e⟩:=List.mem_map.1 hm;simp only[Function.comp] at e;subst e;obtain⟨i,hi,e⟩:=List.mem_take_iff_getElem.1 hz;have:=(List.getElem_inj hnd).1 e;omega
    generalize r5 c.reg c.lets (nums c.reg)[k]=y at *;have hmp':ek (nums c.reg)[k] ⟨y.drawing,y.letter,y.kind,y.items,y.dims⟩ (((nums c.reg).take k).map λd=>(d,r5 c.reg c.lets d))=(((nums c.reg).take (k+1)).map λd=>(d,r5 c.reg c.lets d)):=hmp;simp only[D3] at c5;simp only[List.map_take] at hmp';have hs:=za hx (za hy (za hlt (za hkl hw)));repeat' first|with_reducible refine zz ?_|simp -dsimp[hs]|refine zq c5 ?_|refine J0 (id:=12) (nt:=116) 18 [17] [0,1,2,3,4,5,6,7,8,10,11,13,15,17,22,43,55,56,57,58,62,63,64,65,66,67,68,69,70,71,72,73,74,75,76,77,78,81,82,83,84,97,98,99,100,103,104,105,112] Lf mixed rfl (by kernel_rfl) ?_|with_reducible refine zE Lf ?_|refine j4 ?_ ?_<;>intro h<;>try exact h.elim
    all_goals try clear hs
    exact zn ⟨k+1,by omega⟩ (zw [1,2,3,5,7,55,56,57] 8 (by simp[hmp']))
   have htk:(nums c.reg).take k=nums c.reg:=List.take_of_length_le (by omega);rw[htk];change DT _ _ _ _ ⟨_,_,[_,_,_,.map _ (G8 (ar c.reg c.lets)),_,_,_,_]⟩ _;have hs:=hlt;repeat' first|(with_reducible first|refine zz ?_|refine zE Lf ?_)|simp -dsimp[hs]|refine j4 ?_ ?_<;>intro h<;>try exact h.elim
   all_goals try clear hs
   have hpl:=vz c.reg c.lets c.of;have hcD:P3 c=(aZ c.reg c.lets c.of).foldl (λm x=>J7 x.drawing x.count m) []:=rfl;generalize aZ c.reg c.lets c.of=ps at *;refine i7 (ι:={ p:Nat×List (Int×Int) // p.1<=ps.length/\P3 c=(ps.drop p.1).foldl (λm x=>J7 x.drawing x.count m) p.2 }) (λp=>⟨116,[(1,.one (.ptr 0 0)),(2,.one (.im (.raw (.pointer none)))),(3,iv 0),(7,.one (.ptr 7 0)),(81,.one (.im (.sl (ps.map v6)))),(82,iv (ps.length:Int)),(83,iv (p.1.1:Int))],[.row ((N5 c).map .im),.vec 1 [[.im (rI (c.loops.length:Int))]] 0 false,.map [.int .i64] (J8 p.1.2),.map [.int .i64] (G8 (ar c.reg c.lets)),.vec 0 [] 0 true,.vec 0 [] 0 true,.vec 0 [] 0 true,.row ((N5 c).map .im++[.map 2,.map 3])]⟩) (λp=>ps.length-p.1.1) ⟨(0,[]),by simp[hcD]⟩ (zv [1,2,3,7,81,82,83] (by simp[J8])) ?_;rintro⟨⟨u,D⟩,hu,hD⟩;simp only at hu hD;simp only[iv];by_cases hlu:u<ps.length
   ·have hx:ps[u]?=some ps[u]:=by simp[hlu]
    have hw:=zk u;rw[List.drop_eq_getElem_cons hlu,List.foldl_cons] at hD;have hs:=za hx (za hlu hw);repeat' first|with_reducible refine zz ?_|simp -dsimp[hs]|refine zM 17 116 8 Lf ?_|with_reducible refine zE Lf ?_|refine j4 ?_ ?_<;>intro h<;>try exact h.elim
    all_goals try clear hs
    exact zn ⟨(u+1,J7 ps[u].drawing ps[u].count D),by omega,hD⟩ (zw [1,2,3,7,81,82,83] 8)
   have hDe:D=P3 c:=by rw[hD,List.drop_eq_nil_of_le (by omega)];rfl
   subst hDe;have hB:∀ n,(H2 (ar c.reg c.lets) n).dims.length<1000000:=λn=>by
    rw[ar,R0];split
    ·rename_i hn;obtain⟨hm,_⟩:=dy h0 hlet hn;have:=(hsr.2 _ hm).2.2.2;omega
    ·decide
   have hs:=hlu;repeat' first|(with_reducible first|refine zz ?_|refine zE Lf ?_)|simp -dsimp[hs]|refine j4 ?_ ?_<;>intro h<;>try exact h.elim
   all_goals try clear hs
   refine i7 (ι:={ j:Nat // j<=c.loops.length/\c.loops.all (K7 (P3 c) (ar c.reg c.lets))=(c.loops.drop j).all (K7 (P3 c) (ar c.reg c.lets)) }) (λp=>⟨116,[(2,.one (.im (.raw (.pointer none)))),(3,iv 0),(7,.one (.im (H8 c (P3 c) (ar c.reg c.lets)))),(97,.one (.im (.sl (c.loops.map F2)))),(98,iv (c.loops.length:Int)),(99,iv (p.1:Int))],[]⟩) (λp=>c.loops.length-p.1) ⟨0,by simp⟩ (zw [2,3,7,97,98,99] 0 (by simp[H8])) ?_;rintro⟨j,hj,hall⟩;simp only[iv];by_cases hlj:j<c.loops.length
   ·have hx:c.loops[j]?=some c.loops[j]:=by simp[hlj]
    have hw:=zk j;have hst:=qi hlj hall;have hln:=hsk c.loops[j] (List.getElem_mem hlj);have k1:=En (G:=G) (H8 c (P3 c) (ar c.reg c.lets)) c.loops[j];have k2:=Em (G:=G) (H8 c (P3 c) (ar c.reg c.lets)) c.loops[j];have k3:=El (G:=G) c (P3 c) (ar c.reg c.lets) c.loops[j] (by omega) hB;have hbad:∀ i,gx (P3 c) (ar c.reg c.lets) c.loops[j] i=false->v7 c=60:=λi h=>by
     rw[hE,rW hst (by rw[zi h];exact Bool.false_ne_true)];rfl
    have hq1:gx (P3 c) (ar c.reg c.lets) c.loops[j] 0=sA c.loops[j]:=rfl;have hq2:gx (P3 c) (ar c.reg c.lets) c.loops[j] 1=pV c.loops[j]:=rfl;have hq3:gx (P3 c) (ar c.reg c.lets) c.loops[j] 2=U9 (P3 c) (ar c.reg c.lets) [] c.loops[j].links:=rfl;rw[<- hq1] at k1;rw[<- hq2] at k2;rw[<- hq3] at k3;clear hq1 hq2 hq3;have hs:=za hx (za hlj hC');repeat' first|(with_reducible first|refine zz ?_|refine zE Lf ?_)|simp -dsimp[hs]|refine j4 ?_ ?_<;>intro h<;>try exact h.elim
    all_goals try clear hs
    refine i7 (ι:={ i:Nat // i<=3/\∀ e<i,gx (P3 c) (ar c.reg c.lets) c.loops[j] e=true }) (λp=>⟨116,[(2,.one (.im (.raw (.pointer none)))),(3,iv 0),(7,.one (.im (H8 c (P3 c) (ar c.reg c.lets)))),(15,.one (.ptr 1 0)),(97,.one (.im (.sl (c.loops.map F2)))),(98,iv (c.loops.length:Int)),(99,iv (j:Int)),(103,.agg [.im (.fn (.func 345) []),.im (.fn (.func 346) []),.im (.fn (.func 347) [])]),(104,iv (p.1:Int))],[.vec 0 [] 0 true,.row ((F2 c.loops[j]).map .im)]⟩) (λp=>3-p.1) ⟨0,by simp⟩ (zv [2,3,7,15,97,98,99,103,104]) ?_;rintro⟨i,hi,hcc⟩;simp only[iv];by_cases hi3:i<3
    ·have hwc:=zk i;match i,hi3,hi,hcc,hwc with
     | 0,hi3,hi,hcc,hwc =>
       cases hq:gx (P3 c) (ar c.reg c.lets) c.loops[j] 0<;>simp only[hq] at k1
       ·have h60:=hbad 0 hq;have hs:=trivial;repeat' first|(with_reducible first|refine zz ?_|refine zr ?_|refine zE Lf ?_)|simp -dsimp[hs]|refine zp k1 ?_|refine j4 ?_ ?_<;>intro h<;>try exact h.elim
        all_goals try clear hs
        all_goals simp[af,h60]
       ·have hs:=hwc;repeat' first|(with_reducible first|refine zz ?_|refine zE Lf ?_)|simp -dsimp[hs]|refine zp k1 ?_|refine j4 ?_ ?_<;>intro h<;>try exact h.elim
        all_goals try clear hs
        exact At.round ⟨1,by omega,λi hi=>by
         rcases Nat.lt_succ_iff_lt_or_eq.1 hi with h|rfl
         ·exact hcc i h
         ·exact hq⟩ (by simp) (zw Kp 2 (by simp;exact r9 (by omega) (by omega)))
     | 1,hi3,hi,hcc,hwc =>
       cases hq:gx (P3 c) (ar c.reg c.lets) c.loops[j] 1<;>simp only[hq] at k2
       ·have h60:=hbad 1 hq;have hs:=trivial;repeat' first|(with_reducible first|refine zz ?_|refine zr ?_|refine zE Lf ?_)|simp -dsimp[hs]|refine zp k2 ?_|refine j4 ?_ ?_<;>intro h<;>try exact h.elim
        all_goals try clear hs
        all_goals simp[af,h60]
       ·have hs:=hwc;repeat' first|(with_reducible first|refine zz ?_|refine zE Lf ?_)|simp -dsimp[hs]|refine zp k2 ?_|refine j4 ?_ ?_<;>intro h<;>try exact h.elim
        all_goals try clear hs
        exact At.round ⟨2,by omega,λi hi=>by
         rcases Nat.lt_succ_iff_lt_or_eq.1 hi with h|rfl
         ·exact hcc i h
         ·exact hq⟩ (by simp) (zw Kp 2 (by simp;exact r9 (by omega) (by omega)))
     | 2,hi3,hi,hcc,hwc =>
       cases hq:gx (P3 c) (ar c.reg c.lets) c.loops[j] 2<;>simp only[hq] at k3
       ·have h60:=hbad 2 hq;have hs:=trivial;repeat' first|(with_reducible first|refine zz ?_|refine zr ?_|refine zE Lf ?_)|simp -dsimp[hs]|refine zp k3 ?_|refine j4 ?_ ?_<;>intro h<;>try exact h.elim
        all_goals try clear hs
        all_goals simp[af,h60]
       ·have hs:=hwc;repeat' first|(with_reducible first|refine zz ?_|refine zE Lf ?_)|simp -dsimp[hs]|refine zp k3 ?_|refine j4 ?_ ?_<;>intro h<;>try exact h.elim
        all_goals try clear hs
        exact At.round ⟨3,by omega,λi hi=>by
         rcases Nat.lt_succ_iff_lt_or_eq.1 hi with h|rfl
         ·exact hcc i h
         ·exact hq⟩ (by simp) (zw Kp 2 (by simp;exact r9 (by omega) (by omega)))
    ·obtain rfl:i=3:=by omega
     have hok:=zj hcc;have hs:=hw;repeat' first|(with_reducible first|refine zz ?_|refine zE Lf ?_)|simp -dsimp[hs]|refine j4 ?_ ?_<;>intro h<;>try exact h.elim
     all_goals try clear hs
     exact zn ⟨j+1,by omega,rY hst hok⟩ (zw [2,3,7,97,98,99] 0)
   ·have hok:c.loops.all (K7 (P3 c) (ar c.reg c.lets))=true:=by rw[hall,List.drop_eq_nil_of_le (by omega)];rfl
    rw[hok] at hE;have hs:=hlj;repeat' first|(with_reducible first|refine zz ?_|refine zr ?_|refine zE Lf ?_)|simp -dsimp[hs]|refine j4 ?_ ?_<;>intro h<;>try exact h.elim
    all_goals try clear hs
    simp[af,hE]
 ·have hE:v7 c=l9 c.reg:=by simp[v7,h0]
  have hs:=h0;repeat' first|(with_reducible first|refine zz ?_|refine zr ?_|refine zE Lf ?_)|simp -dsimp[hs]|refine zp c1 ?_|refine j4 ?_ ?_<;>intro h<;>try exact h.elim
  all_goals try clear hs
  simp[af,hE,h0]
end Go.Proofs
namespace Go.Proofs
open Go Go.Ab
theorem De:Rd 82 D6 (λ_=>True):=(Opens.struct Tryz.underlying82 (by kernel_rfl) (xG (λ_=>True) (λl=>∃ n:Int,l=[rI n]) (λl=>∃ n:Int,l=[rI n]) (λl=>∃ b:Bool,l=[rB b])) (λi f hf=>by
 rcases i with _|_|_|i<;>simp at hf<;>subst hf
 ·exact oInt
 ·exact oInt
 ·exact CD)).mono (by
 rintro l ⟨ls,h1,h2,rfl⟩;obtain⟨a,b,c,rfl⟩:=Bn h1;obtain⟨x,rfl⟩:=h2 0 a rfl;obtain⟨y,rfl⟩:=h2 1 b rfl;obtain⟨z,rfl⟩:=h2 2 c rfl;exact⟨⟨x,y,z⟩,trivial,rfl⟩)
theorem Dq:Opens Tryz.prog 32 (λl=>∃ xs:List Link,l=[.sl (xs.map D6)]):=
 (Opens.sliceOf Tryz.underlying32 (sz:=3) (by kernel_rfl) (by decide) (λ_=>rfl) De).mono (by rintro l ⟨xs,_,h⟩;exact⟨xs,h⟩)
theorem Fw:Opens Tryz.prog 34 (λl=>∃ n m:Int,l=[rI n,rI m]):=(Opens.struct Tryz.underlying34 (by kernel_rfl) (λ_ l=>∃ n:Int,l=[rI n]) (λi f hf=>by
 rcases i with _|_|i<;>simp at hf<;>subst hf<;>exact oInt)).mono (by
 rintro l ⟨ls,h1,h2,rfl⟩;obtain⟨a,b,rfl⟩:=uQ h1;obtain⟨x,rfl⟩:=h2 0 a rfl;obtain⟨y,rfl⟩:=h2 1 b rfl;exact⟨x,y,rfl⟩)
theorem xw:Rd 36 F2 (λ_=>True):=(Opens.struct Tryz.underlying36 (by kernel_rfl) (xG (λ_=>True) (λl=>∃ xs:List Link,l=[.sl (xs.map D6)]) (λl=>∃ n m:Int,l=[rI n,rI m]) (λ_=>True)) (λi f hf=>by
 rcases i with _|_|i<;>simp at hf<;>subst hf
 ·exact Dq
 ·exact Fw)).mono (by
 rintro l ⟨ls,h1,h2,rfl⟩;obtain⟨a,b,rfl⟩:=uQ h1;obtain⟨x,rfl⟩:=h2 0 a rfl;obtain⟨y,z,rfl⟩:=h2 1 b rfl;exact⟨⟨x,y,z⟩,trivial,rfl⟩)
theorem Dp:Opens Tryz.prog 162 (λl=>∃ xs:List ChLoop,l=[.sl (xs.map F2)]):=
 (Opens.sliceOf Tryz.underlying162 (sz:=3) (by kernel_rfl) (by decide) (λ_=>rfl) xw).mono (by rintro l ⟨xs,_,h⟩;exact⟨xs,h⟩)
theorem Ff:Rd 164 N5 (λc=>∀ x∈c.reg,eP x):=(Opens.struct Tryz.underlying164 (by kernel_rfl) (CA (λ_=>True) (λl=>∃ xs:List Issue,(∀ x∈xs,eP x)/\l=[.sl (xs.map h9)]) (λl=>∃ xs:List Int,l=[.sl (xs.map encI)]) (λl=>∃ n:Int,l=[rI n]) (λl=>∃ xs:List ChLoop,l=[.sl (xs.map F2)]) (λ_=>True)) (λi f hf=>by
 rcases i with _|_|_|_|i<;>simp at hf<;>subst hf
 ·exact Fu
 ·exact CC
 ·exact oInt
 ·exact Dp)).mono (by
 rintro l ⟨ls,h1,h2,rfl⟩;obtain⟨a,b,c,d,rfl⟩:=FX h1;obtain⟨x,hx,rfl⟩:=h2 0 a rfl;obtain⟨y,rfl⟩:=h2 1 b rfl;obtain⟨z,rfl⟩:=h2 2 c rfl;obtain⟨u,rfl⟩:=h2 3 d rfl;exact⟨⟨x,y,z,u⟩,hx,rfl⟩)
end Go.Proofs
namespace Go.Ab
open Go
structure Note where
 number:Int
 day:Int
 signed:Int
 drawing:Int
 letter:Int
 frm:Int
 to:Int
 cancels:Int
 useUp:Bool
 ways:Int
 deriving DecidableEq
structure Notes where
 reg:List Issue
 notes:List Note
 deriving DecidableEq
def j8 (x:Note):List IC:=[rI x.number,rI x.day,.raw (.int .u8 x.signed),rI x.drawing,rI x.letter,rI x.frm,rI x.to,rI x.cancels,rB x.useUp,.raw (.int .u8 x.ways)]
def A2 (n:Notes):List IC:=[.sl (n.reg.map h9),.sl (n.notes.map j8)]
def ej (x:Note):DV:=.agg ((j8 x).map .im)
def w9 (n:Notes):DV:=.agg ((A2 n).map .im)
attribute [simp] j8 A2 ej w9
end Go.Ab
namespace Go.Proofs
open Go Go.Ab
variable {G:IK}
def FK (x:Note):Bool:=(decide (1<=x.number)&&decide (x.number<=9999))&&(decide (0<=x.day)&&decide (x.day<=14610))
theorem FJ (n:Notes) (i:Nat) (x:Note) (hx:n.notes[i]?=some x):zP Tryz.prog G 325 [w9 n,iv (i:Int)] (bv (FK x)):=by
 refine zf Tryz.func325 Tryz.ntmps325 ?_;try simp only[w9,iv]
 have hi:i<n.notes.length:=e7 hx;have hxe:n.notes[i]=x:=(List.getElem?_eq_some_iff.1 hx).2;have c1:=fV (G:=G) 1 9999 [x.number] (by simp);have c2:=fV (G:=G) 0 14610 [x.day] (by simp);have hs:=za hxe hi;repeat' first|(with_reducible first|refine zz ?_|refine zr ?_|refine zE [0,1,2,4] ?_)|simp -dsimp[hs]|refine zt c1 ?_ ?_ ?_;(focus simp;done);focus (simp;done)|refine zt c2 ?_ ?_ ?_;(focus simp;done);focus (simp;done)|with_reducible refine j7 ?_ ?_<;>intro h<;>have h0:=h<;>(try simp only[i8] at h)<;>have h2:=h<;>(try simp at h2)<;>replace hs:=za h0 (za h (za h2 hs))
 all_goals try clear hs
 all_goals simp_all [FK]
 all_goals omega
def FI (x:Note):Bool:=decide (x.signed<=2)&&decide (x.ways<=3)
theorem FH (n:Notes) (i:Nat) (x:Note) (hx:n.notes[i]?=some x):zP Tryz.prog G 326 [w9 n,iv (i:Int)] (bv (FI x)):=by
 refine zf Tryz.func326 Tryz.ntmps326 ?_;try simp only[w9,iv]
 have hi:i<n.notes.length:=e7 hx;have hxe:n.notes[i]=x:=(List.getElem?_eq_some_iff.1 hx).2;have hs:=za hxe hi;repeat' first|(with_reducible first|refine zz ?_|refine zr ?_|refine zE [0,1,2,4] ?_)|simp -dsimp[hs]|with_reducible refine j7 ?_ ?_<;>intro h<;>have h0:=h<;>(try simp only[i8] at h)<;>have h2:=h<;>(try simp at h2)<;>replace hs:=za h0 (za h (za h2 hs))
 all_goals try clear hs
 all_goals (clear hx;simp_all [FI])
 all_goals omega
def EK (x:Note):Bool:=(decide (1<=x.frm)&&decide (x.frm<=999))&&(decide (1<=x.to)&&decide (x.to<=999))&&decide (x.frm<=x.to)
theorem FG (n:Notes) (i:Nat) (x:Note) (hx:n.notes[i]?=some x):zP Tryz.prog G 327 [w9 n,iv (i:Int)] (bv (EK x)):=by
 refine zf Tryz.func327 Tryz.ntmps327 ?_;try simp only[w9,iv]
 have hi:i<n.notes.length:=e7 hx;have hxe:n.notes[i]=x:=(List.getElem?_eq_some_iff.1 hx).2;have c1:=fV (G:=G) 1 999 [x.frm,x.to] (by simp);have hs:=za hxe hi;repeat' first|(with_reducible first|refine zz ?_|refine zr ?_|refine zE [0,1,2,4,5] ?_)|simp -dsimp[hs]|refine zt c1 ?_ ?_ ?_;(focus simp;done);focus (simp;done)|with_reducible refine j7 ?_ ?_<;>intro h<;>have h0:=h<;>(try simp only[i8] at h)<;>have h2:=h<;>(try simp at h2)<;>replace hs:=za h0 (za h (za h2 hs))
 all_goals try clear hs
 all_goals (clear hx c1;simp_all [EK])
 all_goals omega
end Go.Proofs
namespace Go.Proofs
open Go Go.Ab Tryz
variable {G:IK}
@[simp] abbrev Lb:List Nat:=[0,1,4,5,7,8,9,16]
theorem kA (l:List Note) (p:Note->Bool) (k:Nat) (caps:List DC) (objs:List DObj) (hok:C1 prog k) (hf:∀ x∈l,DCall prog G k (ej x :: caps.map .one) objs (λd o=>d=bv (p x)/\o=objs)) (hl:l.length<1000000):DCall prog G 336 [.one (.im (.sl (l.map j8))),.one (.fn (.func k) caps)] objs (λd o=>d=iv (J4 p l)/\o=objs):=by
 refine g9 func336 rfl ntmps336 (by simp) rfl ?_;have hs:=trivial;repeat' first|(with_reducible first|refine zz ?_|refine zE Lb ?_)|simp -dsimp[hs]
 refine i7 (ι:={ k:Nat // k<=l.length/\∀ j x,j<k->l[j]?=some x->p x=false }) (λi=>⟨19,[(0,.one (.im (.sl (l.map j8)))),(1,.one (.fn (.func k) caps)),(7,iv (l.length:Int)),(8,iv (i.1:Int))],objs⟩) (λi=>l.length-i.1) ⟨0,by simp⟩ (zv [0,1,7,8]) ?_;rintro⟨i,hi,hno⟩;simp only[iv];by_cases hlt:i<l.length
 ·have hx:l[i]?=some l[i]:=by simp[hlt]
  have hw:=zk i;have hc:=hf l[i] (by simp);simp only[ej,j8,List.map_cons,List.map_nil,bv,rI] at hc;have hs:=za hx (za hw hok);repeat' first|(with_reducible first|refine zz ?_|refine And.intro (by omega) ?_|refine zr ?_|refine zE Lb ?_)|simp -dsimp[hs]|refine CallE.here hc ?_|refine j4 ?_ ?_<;>intro h<;>try exact h.elim|with_reducible refine And.intro ?_ ?_
  all_goals try omega
  ·exact(K2 hx (by assumption) hno).symm
  ·exact At.round ⟨i+1,by omega,λj x hj hjx=>by
    by_cases e:j=i
    ·subst e;rw[hx] at hjx;cases hjx;assumption
    ·exact hno j x (by omega) hjx⟩ (by simp;omega) (zv [0,1,7,8])
 ·have hs:=trivial;repeat' first|(with_reducible first|refine zz ?_|refine zr ?_|refine zE Lb ?_)|simp -dsimp[hs]|refine j4 ?_ ?_<;>intro h<;>try exact h.elim|with_reducible refine And.intro ?_ ?_
  all_goals try omega
  exact(S6 λj x hjx=>hno j x (by have:=e7 hjx;omega) hjx).symm
theorem ai (l:List Note) (p:Note->Bool) (k:Nat) (caps:List DC) (objs:List DObj) (hok:C1 prog k) (hf:∀ x∈l,DCall prog G k (ej x :: caps.map .one) objs (λd o=>d=bv (p x)/\o=objs)) (hl:l.length<1000000):DCall prog G 331 [.one (.im (.sl (l.map j8))),.one (.fn (.func k) caps)] objs (λd o=>d=bv (l.any p)/\o=objs):=by
 refine g9 func331 rfl ntmps331 (by simp) rfl ?_;have hc:=kA l p k caps objs hok hf hl;repeat' first|(with_reducible first|refine zz ?_|refine zx ?_|refine zE [0,1,4] ?_)|simp -dsimp|refine CallE.here hc ?_|with_reducible refine And.intro ?_ ?_
 simp[A1]
def FE (x:Note):Bool:=decide (2<=x.letter) || !x.useUp&&decide (x.ways=0)
theorem FD (n:Notes) (i:Nat) (x:Note) (hx:n.notes[i]?=some x):zP prog G 329 [w9 n,iv (i:Int)] (bv (FE x)):=by
 refine zf func329 ntmps329 ?_;try simp only[w9,iv]
 have hi:i<n.notes.length:=e7 hx;have hxe:n.notes[i]=x:=(List.getElem?_eq_some_iff.1 hx).2;have hs:=za hxe hi;repeat' first|(with_reducible first|refine zz ?_|refine zr ?_|refine zE [0,1,2,4,5] ?_)|simp -dsimp[hs]|with_reducible refine j7 ?_ ?_<;>intro h<;>have h0:=h<;>(try simp only[i8] at h)<;>have h2:=h<;>(try simp at h2)<;>replace hs:=za h0 (za h (za h2 hs))
 all_goals try clear hs
 all_goals (clear hx;simp_all [FE])
 all_goals omega
theorem Dv (n:Notes) (x y:Note):DCall prog G 332 (ej y :: [DC.ptr 1 0].map .one) [.row ((A2 n).map .im),.row ((j8 x).map .im)] (λd o=>d=bv (decide (y.number=x.cancels))/\o=[.row ((A2 n).map .im),.row ((j8 x).map .im)]):=by
 refine DCall.drop ?_;refine g9 func332 rfl ntmps332 (by simp) rfl ?_;simp only[ej,j8,A2,rI,rB];repeat' first|(with_reducible first|refine zz ?_|refine zx ?_|refine zE [0,1,2,3] ?_)|simp -dsimp|with_reducible refine And.intro ?_ ?_
def FC (l:List Note) (i:Nat) (x:Note):Bool:=decide (x.cancels=0)||(l.take i).any λy=>decide (y.number=x.cancels)
theorem FB (n:Notes) (i:Nat) (x:Note) (hx:n.notes[i]?=some x) (hl:n.notes.length<1000):zP prog G 330 [w9 n,iv (i:Int)] (bv (FC n.notes i x)):=by
 refine zf func330 ntmps330 ?_;try simp only[w9,iv]
 have hi:i<n.notes.length:=e7 hx;have hxe:n.notes[i]=x:=(List.getElem?_eq_some_iff.1 hx).2;have hlt:(n.notes.take i).length<1000000:=by simp;omega
 have hil:i<=n.notes.length:=by omega
 have c1:=ai (G:=G) (n.notes.take i) (λy=>decide (y.number=x.cancels)) 332 [.ptr 1 0] [.row ((A2 n).map .im),.row ((j8 x).map .im)] (by simp) (λy _=>Dv n x y) hlt;simp only[j8,A2,rI,rB,List.map_take,List.map_cons,List.map_nil] at c1;have hs:=za hxe (za hi hil);repeat' first|(with_reducible first|refine zz ?_|refine zr ?_|refine zE [0,1,2,4,5] ?_)|simp -dsimp[hs]|refine zh c1 ?_|with_reducible refine j7 ?_ ?_<;>intro h<;>have h0:=h<;>(try simp only[i8] at h)<;>have h2:=h<;>(try simp at h2)<;>replace hs:=za h0 (za h (za h2 hs))
 all_goals try clear hs
 all_goals (clear hx c1;simp_all [FC])
theorem Du (n:Notes) (i:Nat) (x y:Note) (hx:n.notes[i]?=some x):DCall prog G 334 (ej y :: [DC.ptr 0 0,DC.ptr 1 0].map .one) [.row ((A2 n).map .im),.row [.im (rI (i:Int))]] (λd o=>d=bv (decide (y.number=x.number))/\o=[.row ((A2 n).map .im),.row [.im (rI (i:Int))]]):=by
 have hi:i<n.notes.length:=e7 hx;have hxe:n.notes[i]=x:=(List.getElem?_eq_some_iff.1 hx).2;refine DCall.drop ?_;refine g9 func334 rfl ntmps334 (by simp) rfl ?_;simp only[ej,j8,A2,rI,rB];have hs:=za hxe hi;repeat' first|(with_reducible first|refine zz ?_|refine zr ?_)|simp -dsimp[hs]|refine zM 1 14 10 [0,1,2,3,4] ?_|with_reducible refine zE [0,1,2,3,4] ?_|with_reducible refine And.intro ?_ ?_
def EI (l:List Note) (i:Nat) (x:Note):Bool:=!(l.take i).any λy=>decide (y.number=x.number)
theorem FA (n:Notes) (i:Nat) (x:Note) (hx:n.notes[i]?=some x) (hl:n.notes.length<1000):zP prog G 333 [w9 n,iv (i:Int)] (bv (EI n.notes i x)):=by
 refine zf func333 ntmps333 ?_;try simp only[w9,iv]
 have hi:i<n.notes.length:=e7 hx;have hlt:(n.notes.take i).length<1000000:=by simp;omega
 have hil:i<=n.notes.length:=by omega
 have c1:=ai (G:=G) (n.notes.take i) (λy=>decide (y.number=x.number)) 334 [.ptr 0 0,.ptr 1 0] [.row ((A2 n).map .im),.row [.im (rI (i:Int))]] (by simp) (λy _=>Du n i x y hx) hlt;simp only[j8,A2,rI,rB,List.map_take,List.map_cons,List.map_nil] at c1;have hs:=za hi hil;repeat' first|(with_reducible first|refine zz ?_|refine zr ?_|refine zE [0,1,2,3,4] ?_)|simp -dsimp[hs]|refine zh c1 ?_
 all_goals try clear hs
 all_goals (clear hx c1;simp_all [EI])
def AW:List Int->Int
 | []=>0
 | x :: r=>if x=0 then AW r else x
@[simp] abbrev LE:List Nat:=[0,2,3,5,6,7,8,9,14]
theorem Hj (l:List Int) (hl:l.length<1000000):zP prog G 59 [A4 l] (iv (AW l)):=by
 refine zf func59 ntmps59 ?_;try simp only[A4]
 have hs:=trivial;repeat' first|(with_reducible first|refine zz ?_|refine zE LE ?_)|simp -dsimp[hs]
 refine i7 (ι:={ p:Nat // p<=l.length/\AW l=AW (l.drop p) }) (λp=>⟨18,[(3,iv 0),(6,.one (.im (.sl (l.map encI)))),(7,iv (l.length:Int)),(8,iv (p.1:Int))],[]⟩) (λp=>l.length-p.1) ⟨0,by simp⟩ (zv [3,6,7,8]) ?_;rintro⟨k,hk,hu⟩;simp only[iv];by_cases hlt:k<l.length
 ·have hw:=zk k;rw[List.drop_eq_getElem_cons hlt,AW] at hu;generalize hx:l[k]=x at *;have hs:=za hx (za hw hlt);repeat' first|(with_reducible first|refine zz ?_|refine zr ?_|refine zE LE ?_)|simp -dsimp[hs]|refine j4 ?_ ?_<;>intro h<;>try exact h.elim
  ·rw[hu,if_neg (by assumption)]
  ·rw[if_pos (by assumption)] at hu;exact zn ⟨k+1,by omega,hu⟩ (zv [3,6,7,8])
 ·rw[List.drop_eq_nil_of_le (by omega)] at hu;have hs:=hlt;repeat' first|(with_reducible first|refine zz ?_|refine zr ?_|refine zE LE ?_)|simp -dsimp[hs]|refine j4 ?_ ?_<;>intro h<;>try exact h.elim
  rw[hu];rfl
def Ex (y x:Note):Bool:=decide (y.day<x.day)||decide (y.day=x.day)&&decide (y.number<x.number)
def EH (l:List Note) (i:Nat) (x:Note):Bool:=if i=0 then true else match l[i-1]? with|some y=>Ex y x|none=>false
theorem Dl (y x:Note):decide (AW [dY y.day x.day,dY y.number x.number]<0)=Ex y x:=by
 unfold Ex dY AW AW AW;rw[Bool.eq_iff_iff];simp only[decide_eq_true_eq,Bool.or_eq_true,Bool.and_eq_true];repeat' split
 all_goals omega
theorem Fz (n:Notes) (i:Nat) (x:Note) (hx:n.notes[i]?=some x) (hl:n.notes.length<1000):zP prog G 335 [w9 n,iv (i:Int)] (bv (EH n.notes i x)):=by
 refine zf func335 ntmps335 ?_;try simp only[w9,iv]
 have hi:i<n.notes.length:=e7 hx;have hxe:n.notes[i]=x:=(List.getElem?_eq_some_iff.1 hx).2;by_cases h00:i=0
 ·subst h00;have hs:=za hxe hi;repeat' first|(with_reducible first|refine zz ?_|refine zr ?_)|simp -dsimp[hs]|refine zM 1 40 36 [0,1,2,4] ?_|with_reducible refine zE [0,1,2,4] ?_
  all_goals simp[EH]
 ·have hi1:i-1<n.notes.length:=by omega
  have hw:IntKind.i64.wrap ((i:Int)-1)=((i-1:Nat):Int):=by rw[r9 (by omega) (by omega)];omega
  have hne:((i:Int)=0)=False:=by simp[h00]
  generalize hy:n.notes[i-1]=y;have c1:=ij (G:=G) y.day x.day;have c2:=ij (G:=G) y.number x.number;have c3:=Hj (G:=G) [dY y.day x.day,dY y.number x.number] (by simp);have hs:=za hxe (za hi (za hi1 (za hw (za hne (za hy h00)))));repeat' first|(with_reducible first|refine zz ?_|refine zr ?_)|simp -dsimp[hs]|refine zq c1 ?_|refine zq c2 ?_|refine zq c3 ?_|refine zM 1 40 36 [0,1,2,4] ?_|with_reducible refine zE [0,1,2,4] ?_
  rw[Dl,EH,if_neg h00,List.getElem?_eq_getElem hi1,hy]
def EJ (l:List Issue) (x:Note):Bool:=if x.drawing=0/\x.letter=0 then decide (x.cancels≠0) else decide (Ch l x.drawing x.letter=0)
theorem FF (n:Notes) (i:Nat) (x:Note) (hx:n.notes[i]?=some x) (hG:o4 G) (hs:Z4 n.reg):zP prog G 328 [w9 n,iv (i:Int)] (bv (EJ n.reg x)):=by
 refine zf func328 ntmps328 ?_;try simp only[w9,iv]
 have hi:i<n.notes.length:=e7 hx;have hxe:n.notes[i]=x:=(List.getElem?_eq_some_iff.1 hx).2;have c1:=Cg (G:=G) n.reg x.drawing x.letter hG hs;simp only[D3] at c1;have hs:=za hxe hi;repeat' first|(with_reducible first|refine zz ?_|refine zr ?_|refine zE [0,1,2,4,5,7,19] ?_)|simp -dsimp[hs]|refine zp c1 ?_|refine j4 ?_ ?_<;>intro h<;>try exact h.elim
 all_goals try clear hs
 ·have h1:x.drawing=0/\x.letter=0:=⟨h.1.symm,h.2.symm⟩
  rw[EJ,if_pos h1];simp
 ·rw[EJ,if_neg (by omega)]
theorem pt (l:List Int) (n:Int) (hl:l.length<1000000):zP prog G 150 [A4 l,iv n] (iv (J4 (λx=>decide (n=x)) l)):=by
 refine zf func150 ntmps150 ?_;try simp only[A4,iv]
 have hs:=trivial;repeat' first|(with_reducible first|refine zz ?_|refine zE Lb ?_)|simp -dsimp[hs]
 refine i7 (ι:={ k:Nat // k<=l.length/\∀ j x,j<k->l[j]?=some x->decide (n=x)=false }) (λi=>⟨19,[(0,A4 l),(1,iv n),(7,iv (l.length:Int)),(8,iv (i.1:Int))],[]⟩) (λi=>l.length-i.1) ⟨0,by simp⟩ (zv [0,1,7,8]) ?_;rintro⟨i,hi,hno⟩;simp only[iv,A4];by_cases hlt:i<l.length
 ·have hx0:l[i]?=some l[i]:=by simp[hlt]
  have hw:=zk i;generalize hx:l[i]=x at *;have hs:=za hx (za hw hlt);repeat' first|(with_reducible first|refine zz ?_|refine zr ?_|refine zE Lb ?_)|simp -dsimp[hs]|refine j4 ?_ ?_<;>intro h<;>try exact h.elim
  ·exact(K2 hx0 (by simp;assumption) hno).symm
  ·exact At.round ⟨i+1,by omega,λj y hj hjx=>by
    by_cases e:j=i
    ·subst e;rw[hx0] at hjx;cases hjx;simp;assumption
    ·exact hno j y (by omega) hjx⟩ (by simp;omega) (zv [0,1,7,8])
 ·have hs:=hlt;repeat' first|(with_reducible first|refine zz ?_|refine zr ?_|refine zE Lb ?_)|simp -dsimp[hs]|refine j4 ?_ ?_<;>intro h<;>try exact h.elim
  exact(S6 λj x hjx=>hno j x (by have:=e7 hjx;omega) hjx).symm
theorem bK (l:List Int) (n:Int) (hl:l.length<1000000):zP prog G 146 [A4 l,iv n] (bv (decide (n∈l))):=by
 refine zf func146 ntmps146 ?_;try simp only[A4,iv]
 have hc:=pt (G:=G) l n hl;repeat' first|(with_reducible first|refine zz ?_|refine zx ?_|refine zE [0,1,4] ?_)|simp -dsimp|refine zp hc ?_
 have h1:=A1 (λx=>decide (n=x)) l;rw[<- decide_eq_true_iff (p:=0<=_),h1];simp
end Go.Proofs
