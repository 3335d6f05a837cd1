/- Part 16 of the proofs. -/
import Derived.Test.YtpcoahkgkgmmlaaGreatDoorR09
import Derived.Test.YtpcoahkgkgmmlaaGreatDoorR14
import Derived.Test.YtpcoahkgkgmmlaaGreatDoorR15
set_option linter.all false
set_option linter.deprecated false
set_option maxHeartbeats 100000000
namespace Go.Ab
open Go
structure Spot where
 drawing:Int
 dim:Int
 deriving DecidableEq
def m8 (x:Spot):List IC:=[rI x.drawing,rI x.dim]
def x8 (l:List Spot):DV:=.one (.im (.sl (l.map m8)))
attribute [simp] m8 x8
def G1 (a b:Spot):Bool:=decide (a.drawing<b.drawing)||(decide (a.drawing=b.drawing)&&decide (a.dim<b.dim))
theorem W8 {a b:Spot}:G1 a b=true↔a.drawing<b.drawing∨a.drawing=b.drawing∧a.dim<b.dim:=by simp[G1]
theorem Q3 (a:Spot):G1 a a=false:=by simp[G1]
theorem be {a b c:Spot} (h:G1 a b=true) (k:G1 b c=true):G1 a c=true:=by
 rw[W8] at *;omega
theorem jN {a b:Spot} (h:a≠b):G1 a b=true∨G1 b a=true:=by
 rw[W8,W8]
 have:¬ (a.drawing=b.drawing∧a.dim=b.dim):=fun e=>h (by cases a;cases b;simp_all)
 omega
theorem mP {a b:Spot} (h:G1 a b=true):G1 b a=false:=by
 cases hq:G1 b a with
 | false=>rfl
 | true=>have:=be h hq;rw[Q3] at this;cases this
def SortedS (l:List Spot):Prop:=l.Pairwise fun a b=>G1 a b=true
theorem SortedS.nodup {l:List Spot} (h:SortedS l):l.Nodup:=h.imp fun h e=>by rw[e,Q3] at h;cases h
theorem cR:∀ {a b:List Spot},SortedS a→SortedS b→(∀ x,x∈a↔x∈b)→a=b
 | [],[],_,_,_=>rfl
 | [],y :: b,_,_,h=>by have:=(h y).2 (by simp);simp at this
 | x :: a,[],_,_,h=>by have:=(h x).1 (by simp);simp at this
 | x :: a,y :: b,ha,hb,h=>by
   have ha':=ha
   have hb':=hb
   unfold SortedS at ha hb
   rw[List.pairwise_cons] at ha hb
   have e:x=y:=by
    rcases List.mem_cons.1 ((h x).1 (by simp)) with e|h1
    ·exact e
    rcases List.mem_cons.1 ((h y).2 (by simp)) with e|h2
    ·exact e.symm
    have:=mP (ha.1 y h2)
    rw[hb.1 x h1] at this;cases this
   subst e
   have:=cR ha.2 hb.2 fun z=>by
    have hz:=h z
    have hn1:=ha'.nodup;have hn2:=hb'.nodup
    rw[List.nodup_cons] at hn1 hn2
    constructor
    ·intro hm
     rcases List.mem_cons.1 (hz.1 (by simp[hm])) with e|h1
     ·subst e;exact absurd hm hn1.1
     ·exact h1
    ·intro hm
     rcases List.mem_cons.1 (hz.2 (by simp[hm])) with e|h1
     ·subst e;exact absurd hm hn2.1
     ·exact h1
   rw[this]
def lg (x:Spot):List Spot→Nat
 | []=>0
 | y :: r=>if G1 y x then lg x r+1 else 0
def pI (x:Spot) (l:List Spot):List Spot:=l.take (lg x l)++x :: l.drop (lg x l)
theorem vf (x:Spot):∀ l:List Spot,lg x l≤l.length
 | []=>Nat.le_refl _
 | y :: r=>by simp only[lg];split<;>simp;exact vf x r
theorem nO (x:Spot):pI x []=[x]:=rfl
theorem lf (x y:Spot) (r:List Spot):pI x (y :: r)=if G1 y x then y :: pI x r else x :: y :: r:=by
 simp only[pI,lg]
 split<;>simp
theorem mem_insS {x z:Spot}:∀ {l:List Spot},z∈pI x l↔z=x∨z∈l
 | []=>by simp[nO]
 | y :: r=>by
   rw[lf]
   split
   ·rw[List.mem_cons,mem_insS,List.mem_cons]
    constructor<;>(rintro (h|h|h)<;>simp[h])
   ·simp
theorem gy {x:Spot}:∀ {l:List Spot},SortedS l→x∉l→SortedS (pI x l)
 | [],_,_=>by rw[nO];exact List.pairwise_singleton _ _
 | y :: r,h,hn=>by
   unfold SortedS at h
   rw[List.pairwise_cons] at h
   rw[lf]
   have hne:x≠y:=fun e=>hn (by simp[e])
   split
   ·rename_i hb
    refine List.pairwise_cons.2 ⟨fun z hz=>?_,gy h.2 fun hm=>hn (by simp[hm])⟩
    rcases mem_insS.1 hz with rfl|hz
    ·exact hb
    ·exact h.1 z hz
   ·rename_i hb
    have hxy:G1 x y=true:=(jN hne).resolve_right hb
    refine List.pairwise_cons.2 ⟨fun z hz=>?_,List.pairwise_cons.2 h⟩
    rcases List.mem_cons.1 hz with rfl|hz
    ·exact hxy
    ·exact be hxy (h.1 z hz)
def qc (f:Spot→Bool) (out:List Spot) (x:Spot):List Spot:=if f x=false∨x∈out then out else pI x out
def xH (f:Spot→Bool) (l:List Spot):List Spot:=l.foldl (qc f) []
theorem ow {f:Spot→Bool} {out:List Spot} (h:SortedS out) (x:Spot):SortedS (qc f out x):=by
 unfold qc
 split
 ·exact h
 ·rename_i hc
  exact gy h fun hm=>hc (.inr hm)
theorem eH {f:Spot→Bool}:∀ (l out:List Spot),SortedS out→SortedS (l.foldl (qc f) out)
 | [],_,h=>h
 | x :: l,out,h=>eH l _ (ow h x)
theorem uW {f:Spot→Bool} {out:List Spot} {x z:Spot}:z∈qc f out x↔z∈out∨z=x∧f x=true:=by
 unfold qc
 split
 ·rename_i hc
  constructor
  ·exact .inl
  ·rintro (h|⟨rfl,h⟩)
   ·exact h
   ·rcases hc with hc|hc
    ·rw[h] at hc;cases hc
    ·exact hc
 ·rename_i hc
  rw[mem_insS]
  have:f x=true:=by
   cases hq:f x with
   | true=>rfl
   | false=>exact absurd (.inl hq) hc
  constructor
  ·rintro (h|h)
   ·exact .inr ⟨h,this⟩
   ·exact .inl h
  ·rintro (h|h)
   ·exact .inr h
   ·exact .inl h.1
theorem kY {f:Spot→Bool} {z:Spot}:∀ {l out:List Spot},z∈l.foldl (qc f) out↔z∈out∨z∈l∧f z=true
 | [],out=>by simp
 | x :: l,out=>by
   rw[List.foldl_cons,kY,uW,List.mem_cons]
   constructor
   ·rintro ((h|⟨rfl,h⟩)|h)
    ·exact .inl h
    ·exact .inr ⟨.inl rfl,h⟩
    ·exact .inr ⟨.inr h.1,h.2⟩
   ·rintro (h|⟨rfl|h1,h2⟩)
    ·exact .inl (.inl h)
    ·exact .inl (.inr ⟨rfl,h2⟩)
    ·exact .inr ⟨h1,h2⟩
theorem ci (f:Spot→Bool) (l:List Spot):SortedS (xH f l):=eH l [] List.Pairwise.nil
theorem ji {f:Spot→Bool} {l:List Spot} {z:Spot}:z∈xH f l↔z∈l∧f z=true:=by rw[xH,kY];simp
def kS (x:Spot):List Value:=[.int .i64 x.drawing,.int .i64 x.dim]
def N9 (l:List Spot):List (List Value×List DC):=l.map fun x=>(kS x,[.im (rB true)])
def bT (l:List Spot):List (List Value×List IC):=l.map fun x=>(kS x,[rB true])
def G5 (x:Spot) (l:List Spot):List Spot:=if x∈l then l else l++[x]
theorem vR (a b:Int) (y:Spot):u6 [.int .i64 a,.int .i64 b] (kS y)=decide (y=⟨a,b⟩):=by
 simp only[kS,u6,Bool.and_true]
 obtain⟨p,q⟩:=y
 rw[Bool.eq_iff_iff]
 simp only[decide_eq_true_eq,Bool.and_eq_true,beq_iff_eq,Spot.mk.injEq]
 constructor<;>(rintro⟨rfl,rfl⟩;exact⟨rfl,rfl⟩)
theorem yK (l:List Spot) (a b:Int):O2 [.int .i64 a,.int .i64 b] [.im (.raw (.bool true))] (N9 l)=N9 (G5 ⟨a,b⟩ l):=by
 have gen:∀ l:List Spot,(⟨a,b⟩∈l→O2 [.int .i64 a,.int .i64 b] [.im (.raw (.bool true))] (N9 l)=N9 l)∧(⟨a,b⟩∉l→O2 [.int .i64 a,.int .i64 b] [.im (.raw (.bool true))] (N9 l)=N9 (l++[⟨a,b⟩])):=by
  intro l
  induction l with
  | nil=>exact⟨fun h=>by simp at h,fun _=>rfl⟩
  | cons p r ih =>
    have e:∀ r,N9 (p :: r)=(kS p,[.im (rB true)]) :: N9 r:=fun _=>rfl
    rw[List.cons_append,e,e]
    simp only[O2,vR,decide_eq_true_eq]
    constructor
    ·intro h
     split
     ·rename_i h1;subst h1;rfl
     ·rename_i h1
      rw[ih.1 ((List.mem_cons.1 h).resolve_left fun h2=>h1 h2.symm)]
    ·intro h
     split
     ·rename_i h1;exact absurd (List.mem_cons.2 (.inl h1.symm)) h
     ·rw[ih.2 fun h2=>h (List.mem_cons_of_mem _ h2)]
 unfold G5
 split
 ·exact(gen l).1 ‹_›
 ·exact(gen l).2 ‹_›
theorem vC (l:List Spot):(N9 l).length=l.length:=by simp[N9]
theorem pA {x:Spot}:∀ {l:List Spot} {i:Nat},l.Nodup→l[i]?=some x→R0 [.int .i64 x.drawing,.int .i64 x.dim] (N9 l)=some i
 | [],i,_,h=>by simp at h
 | y :: r,i,hn,h=>by
   rw[List.nodup_cons] at hn
   have e:N9 (y :: r)=(kS y,[.im (rB true)]) :: N9 r:=rfl
   rw[e]
   simp only[R0,vR,decide_eq_true_eq]
   cases i with
   | zero=>simp at h;subst h;rw[if_pos rfl]
   | succ i =>
     have h':r[i]?=some x:=by simpa using h
     rw[if_neg (fun e=>hn.1 (by cases x;cases y;cases e;exact List.mem_of_getElem? h')),pA hn.2 h'];rfl
theorem yL {x:Spot} {l:List Spot} {i:Nat} (hn:l.Nodup) (h:l[i]?=some x):ev [.int .i64 x.drawing,.int .i64 x.dim] (N9 l)=N9 (l.eraseIdx i):=by
 rw[fO (pA hn h)]
 refine List.ext_getElem? fun j=>?_
 simp only[N9,List.getElem?_map,List.getElem?_eraseIdx]
 split<;>simp
theorem nh {x:Spot} {l:List Spot} (h:l.Nodup):(G5 x l).Nodup:=by
 unfold G5
 split
 ·exact h
 ·rename_i hn
  rw[List.nodup_append]
  exact⟨h,by simp,fun a ha b hb=>by simp at hb;subst hb;exact fun e=>hn (e ▸ ha)⟩
theorem bS:∀ (ys:List Spot) (l:List Spot),l.Nodup→(ys.foldl (fun l x=>G5 x l) l).Nodup
 | [],_,h=>h
 | y :: ys,l,h=>bS ys _ (nh h)
theorem fN {z:Spot}:∀ {ys l:List Spot},z∈ys.foldl (fun l x=>G5 x l) l↔z∈l∨z∈ys
 | [],l=>by simp
 | y :: ys,l=>by
   rw[List.foldl_cons,fN,List.mem_cons]
   unfold G5
   split
   ·rename_i h
    constructor
    ·rintro (h1|h1)
     ·exact .inl h1
     ·exact .inr (.inr h1)
    ·rintro (h1|rfl|h1)
     ·exact .inl h1
     ·exact .inl h
     ·exact .inr h1
   ·rw[List.mem_append,List.mem_singleton]
    constructor
    ·rintro ((h1|h1)|h1)
     ·exact .inl h1
     ·exact .inr (.inl h1)
     ·exact .inr (.inr h1)
    ·rintro (h1|h1|h1)
     ·exact .inl (.inl h1)
     ·exact .inl (.inr h1)
     ·exact .inr h1
@[simp] theorem Bw (k n:Nat) (objs:List DObj) (l:List Spot):H6 (fun x:List Value×List DC=>(H6 (frz (k+1) n objs) x.2).map fun l=>(x.1,l)) (N9 l)=some (bT l):=by
 induction l with
 | nil=>rfl
 | cons p r ih =>
   have e:N9 (p :: r)=(kS p,[.im (rB true)]) :: N9 r:=rfl
   rw[e]
   simp[H6,ih,bT]
@[simp] theorem Aw (n:Nat) (objs:List DObj) (l:List Spot):((N9 l).map fun x=>(x.1,x.2.map (fz n objs)))=N9 l:=by
 simp[N9,fz,DC.lt]
@[simp] theorem AE (L:List Spot) (k:Nat) (h:k<(p6 (L.map m8)).length):(p6 (L.map m8))[k]=[DC.im (.raw (.int .i64 (L[k]'(by simpa[o3] using h)).drawing)),DC.im (.raw (.int .i64 (L[k]'(by simpa[o3] using h)).dim))]:=by
 simp[p6]
theorem vD {l:List Spot} {i:Nat} {x:List Value×List DC} (h:(N9 l)[i]?=some x):∃ y,l[i]?=some y∧x=([.int .i64 y.drawing,.int .i64 y.dim],[.im (.raw (.bool true))]):=by
 simp only[N9,List.getElem?_map,Option.map_eq_some_iff] at h
 obtain⟨y,h1,rfl⟩:=h
 exact⟨y,h1,rfl⟩
theorem sT {l:List Spot} {i:Nat} {a:List Value} {b:List DC} (h:(N9 l)[i]?=some (a,b)):∃ y,l[i]?=some y∧a=[.int .i64 y.drawing,.int .i64 y.dim]∧b=[.im (.raw (.bool true))]:=by
 obtain⟨y,h1,h2⟩:=vD h
 cases h2
 exact⟨y,h1,rfl,rfl⟩
theorem sU {l:List Spot} {i:Nat} {a:List Value} {b:List IC} (h:(bT l)[i]?=some (a,b)):∃ y,l[i]?=some y∧a=[.int .i64 y.drawing,.int .i64 y.dim]∧b=[.raw (.bool true)]:=by
 simp only[bT,List.getElem?_map,Option.map_eq_some_iff] at h
 obtain⟨y,h1,h2⟩:=h
 cases h2
 exact⟨y,h1,rfl,rfl⟩
theorem nY (l:List Spot) (i:Nat):(bT l).eraseIdx i=bT (l.eraseIdx i):=by
 refine List.ext_getElem? fun j=>?_
 simp only[bT,List.getElem?_map,List.getElem?_eraseIdx]
 split<;>simp
theorem eB {α β:Type} (f:α→β) (l:List α) (i:Nat):(l.eraseIdx i).map f=(l.map f).eraseIdx i:=by
 refine List.ext_getElem? fun j=>?_
 simp only[List.getElem?_map,List.getElem?_eraseIdx]
 split<;>simp
theorem nQ {l:List Nat} (hn:l.Nodup) {i s:Nat} (h:l[i]?=some s):l.idxOf? s=some i:=by
 rw[List.idxOf?,List.findIdx?_eq_some_iff_getElem]
 obtain⟨h1,h2⟩:=List.getElem?_eq_some_iff.1 h
 refine⟨h1,by simpa using h2,fun j hj he=>?_⟩
 have he:l[j]=s:=by simpa using he
 have:=(List.getElem_inj hn).1 (he.trans h2.symm)
 omega
def qL (f:Spot→Bool) (seen:List Nat) (p:Spot×Nat):Bool:=!(decide (p.2∈seen) && !f p.1)
def N7 (f:Spot→Bool) (P:List (Spot×Nat)) (seen:List Nat):List (Spot×Nat):=P.filter (qL f seen)
theorem su (f:Spot→Bool) (P:List (Spot×Nat)):N7 f P []=P:=by
 unfold N7
 exact List.filter_eq_self.2 fun p _=>by simp[qL]
theorem pD {f:Spot→Bool} {P:List (Spot×Nat)} {seen:List Nat} {x:Spot} {s:Nat} (hn:(P.map (·.2)).Nodup) (hm:(x,s)∈P) (hf:f x=true):N7 f P (seen++[s])=N7 f P seen:=by
 unfold N7
 refine List.filter_congr fun p hp=>?_
 simp only[qL,List.mem_append,List.mem_singleton]
 by_cases e:p.2=s
 ·have:p=(x,s):=by
   obtain⟨i,hi⟩:=List.mem_iff_getElem?.1 hp
   obtain⟨j,hj⟩:=List.mem_iff_getElem?.1 hm
   have h1:(P.map (·.2))[i]?=some s:=by rw[List.getElem?_map,hi];simp[e]
   have h2:(P.map (·.2))[j]?=some s:=by rw[List.getElem?_map,hj];rfl
   have:i=j:=(List.getElem?_inj (e7 h1) hn).1 (h1.trans h2.symm)
   subst this
   rw[hi] at hj;cases hj;rfl
  subst this
  simp[hf]
 ·simp[e]
theorem S8 {α:Type} {p q:α→Bool} {a:α}:∀ {l:List α} {i:Nat},l.Nodup→(l.filter p)[i]?=some a→(∀ b∈l,b≠a→q b=p b)→q a=false→l.filter q=(l.filter p).eraseIdx i
 | [],i,_,h,_,_=>by simp at h
 | y :: l,i,hn,h,hq,ha=>by
   rw[List.nodup_cons] at hn
   by_cases e:y=a
   ·subst e
    have hp:p y=true:=(List.mem_filter.1 (List.mem_of_getElem? h)).2
    rw[List.filter_cons_of_pos hp] at h ⊢
    rw[List.filter_cons_of_neg (by simp[ha])]
    have hi:i=0:=by
     cases i with
     | zero=>rfl
     | succ i =>
       have:(l.filter p)[i]?=some y:=by simpa using h
       exact absurd (List.mem_filter.1 (List.mem_of_getElem? this)).1 hn.1
    subst hi
    rw[List.eraseIdx_cons_zero]
    exact List.filter_congr fun b hb=>hq b (by simp[hb]) fun e=>hn.1 (e ▸ hb)
   ·have hy:=hq y (by simp) e
    by_cases hp:p y=true
    ·rw[List.filter_cons_of_pos hp] at h ⊢
     rw[List.filter_cons_of_pos (by rw[hy];exact hp)]
     cases i with
     | zero=>simp at h;exact absurd h e
     | succ i =>
       rw[List.eraseIdx_cons_succ,S8 hn.2 (by simpa using h) (fun b hb=>hq b (by simp[hb])) ha]
    ·rw[List.filter_cons_of_neg hp] at h ⊢
     rw[List.filter_cons_of_neg (by rw[hy];exact hp)]
     exact S8 hn.2 h (fun b hb=>hq b (by simp[hb])) ha
theorem sw {f:Spot→Bool} {P:List (Spot×Nat)} {seen:List Nat} {x:Spot} {s i:Nat} (hn:(P.map (·.2)).Nodup) (hi:(N7 f P seen)[i]?=some (x,s)) (hf:f x=false):N7 f P (seen++[s])=(N7 f P seen).eraseIdx i:=by
 have hnP:P.Nodup:=by
  have:=hn
  rw[List.Nodup,List.pairwise_map] at this
  exact this.imp fun h e=>h (by rw[e])
 have hm:(x,s)∈P:=(List.mem_filter.1 (List.mem_of_getElem? hi)).1
 unfold N7 at hi ⊢
 refine S8 hnP hi (fun p hp hne=>?_) (by simp[qL,hf])
 simp only[qL,List.mem_append,List.mem_singleton]
 have:p.2≠s:=fun e=>by
  obtain⟨i,hi⟩:=List.mem_iff_getElem?.1 hp
  obtain⟨j,hj⟩:=List.mem_iff_getElem?.1 hm
  have h1:(P.map (·.2))[i]?=some s:=by rw[List.getElem?_map,hi];simp[e]
  have h2:(P.map (·.2))[j]?=some s:=by rw[List.getElem?_map,hj];rfl
  have:i=j:=(List.getElem?_inj (e7 h1) hn).1 (h1.trans h2.symm)
  subst this
  rw[hi] at hj;cases hj;exact hne rfl
 simp[this]
theorem sv {f:Spot→Bool} {P:List (Spot×Nat)} {seen:List Nat} (h:∀ s∈(N7 f P seen).map (·.2),s∈seen):(N7 f P seen).map (·.1)=(P.map (·.1)).filter f:=by
 rw[List.filter_map]
 unfold N7 at h ⊢
 congr 1
 refine List.filter_congr fun p hp=>?_
 simp only[Function.comp]
 cases hf:f p.1
 ·cases hq:qL f seen p with
  | false=>rfl
  | true =>
    have:=h p.2 (List.mem_map.2 ⟨p,List.mem_filter.2 ⟨hp,hq⟩,rfl⟩)
    simp[qL,hf,this] at hq
 ·simp[qL,hf]
def lQ (P:List (Spot×Nat)) (seen:List Nat):Nat:=(P.filter fun p=>decide (p.2∉seen)).length
theorem rz {P:List (Spot×Nat)} {seen:List Nat} {x:Spot} {s:Nat} (hm:(x,s)∈P) (hs:s∉seen):lQ P (seen++[s])<lQ P seen:=by
 unfold lQ
 have hsub:∀ l:List (Spot×Nat),(l.filter fun p=>decide (p.2∉seen++[s])).length≤(l.filter fun p=>decide (p.2∉seen)).length∧((x,s)∈l→(l.filter fun p=>decide (p.2∉seen++[s])).length<(l.filter fun p=>decide (p.2∉seen)).length):=by
  intro l
  induction l with
  | nil=>exact⟨Nat.le_refl _,fun h=>by simp at h⟩
  | cons p l ih =>
    by_cases h1:p.2∈seen
    ·rw[List.filter_cons_of_neg (by simp[h1]),List.filter_cons_of_neg (by simp[h1])]
     refine⟨ih.1,fun h=>ih.2 ?_⟩
     rcases List.mem_cons.1 h with rfl|h
     ·exact absurd h1 hs
     ·exact h
    ·by_cases h2:p.2=s
     ·rw[List.filter_cons_of_neg (by simp[h2]),List.filter_cons_of_pos (by simp[h1])]
      simp only[List.length_cons]
      exact⟨by omega,fun _=>by omega⟩
     ·rw[List.filter_cons_of_pos (by simp[h1,h2]),List.filter_cons_of_pos (by simp[h1])]
      simp only[List.length_cons]
      refine⟨by omega,fun h=>?_⟩
      rcases List.mem_cons.1 h with rfl|h
      ·exact absurd rfl h2
      ·have:=ih.2 h;omega
 exact(hsub P).2 hm
end Go.Ab
namespace Go.Proofs
open Go Go.Ab
def H1 (y:Link):Spot:=⟨y.drawing,y.dim⟩
def V5 (d:Dim):Int:=min (max d.nominal d.lower) d.upper
def C2 (d:Dim) (g:Int):Dim:=⟨d.nominal,max d.lower (V5 d-g),min d.upper (V5 d+g)⟩
theorem nc {d:Dim} {g:Int} (h:A4 d=true) (hg:0≤g):A4 (C2 d g)=true:=by
 rw[F8] at *
 simp only[C2,V5]
 omega
theorem uf {d:Dim} {g:Int}:d.lower≤(C2 d g).lower∧(C2 d g).upper≤d.upper:=by
 simp only[C2];omega
def kq (c:Chains) (so:Spot→Bool) (g:Int) (y:Link):Dim:=if so (H1 y) then C2 (I6 c y) g else I6 c y
def lV (c:Chains) (so:Spot→Bool) (g:Int) (x:ChLoop):List Dim:=x.links.map (kq c so g)
def P0:Spot→Bool:=fun _=>false
theorem oX {c:Chains} (h:OkC c) {so:Spot→Bool} {g:Int} (hg:0≤g) {x:ChLoop} (hx:x∈c.loops):(lV c so g x).length=x.links.length∧∀ d∈lV c so g x,A4 d=true:=by
 refine⟨by simp[lV],fun d hd=>?_⟩
 obtain⟨y,hy,rfl⟩:=List.mem_map.1 hd
 have:=(bW h hx hy).1
 unfold kq
 split
 ·exact nc this hg
 ·exact this
def wR (c:Chains) (so:Spot→Bool) (g:Int) (x:ChLoop):Int:=S9 x.links (lV c so g x) false
def ws (c:Chains) (so:Spot→Bool) (g:Int) (x:ChLoop):Int:=S9 x.links (lV c so g x) true
theorem yM {c:Chains} (h:OkC c) {so:Spot→Bool} {g:Int} (hg:0≤g) {x:ChLoop} (hx:x∈c.loops):wR c so g x≤ws c so g x:=yi (oX h hg hx).2
def F2 (c:Chains) (so:Spot→Bool) (g:Int) (x:ChLoop):Bool:=decide (x.lo≤wR c so g x)&&decide (ws c so g x≤x.hi)
theorem pW {c:Chains} (h:OkC c) {so:Spot→Bool} {g:Int} (hg:0≤g) {x:ChLoop} (hx:x∈c.loops):([wR c so g x,ws c so g x].all fun n=>decide (x.lo≤n)&&decide (n≤x.hi))=F2 c so g x:=by
 have:=yM h (so:=so) hg hx
 rw[Bool.eq_iff_iff]
 simp only[F2,List.all_cons,List.all_nil,Bool.and_true,Bool.and_eq_true,decide_eq_true_eq]
 omega
def kw (c:Chains) (so:Spot→Bool) (g:Int) (i:Nat):Bool:=match c.loops[i]? with
 | some x=>!F2 c so g x
 | none=>false
theorem ix {c:Chains} {so:Spot→Bool} {g:Int} {i:Nat} (h:i<c.loops.length):kw c so g i=!F2 c so g c.loops[i]:=by
 simp[kw,h]
def F7 (c:Chains) (so:Spot→Bool) (g:Int) (k:Nat):Nat:=k+(c.loops.drop k).findIdx fun x=>!F2 c so g x
theorem ln {c:Chains} {so:Spot→Bool} {g:Int} {k:Nat} (h:c.loops.length≤k):F7 c so g k=k:=by
 simp[F7,List.drop_eq_nil_of_le h]
theorem lq {c:Chains} {so:Spot→Bool} {g:Int} {k:Nat} (h:k<c.loops.length) (hb:F2 c so g c.loops[k]=false):F7 c so g k=k:=by
 rw[F7,List.drop_eq_getElem_cons h,List.findIdx_cons,hb];rfl
theorem jx {c:Chains} {so:Spot→Bool} {g:Int} {k:Nat} (h:k<c.loops.length) (hb:F2 c so g c.loops[k]=true):F7 c so g k=F7 c so g (k+1):=by
 rw[F7,List.drop_eq_getElem_cons h,List.findIdx_cons,hb]
 simp only[Bool.not_true,F7,cond_false];omega
theorem W0 (c:Chains) (so:Spot→Bool) (g:Int):∀ (n k:Nat),c.loops.length-k=n→k≤c.loops.length→k≤F7 c so g k∧F7 c so g k≤c.loops.length∧(∀ i,k≤i→i<F7 c so g k→kw c so g i=false)∧(F7 c so g k<c.loops.length→kw c so g (F7 c so g k)=true)
 | 0,k,hn,hk=>by
   have:k=c.loops.length:=by omega
   rw[ln (by omega)]
   exact⟨by omega,by omega,fun i h1 h2=>by omega,fun h=>by omega⟩
 | n+1,k,hn,hk=>by
   have hlt:k<c.loops.length:=by omega
   cases hb:F2 c so g c.loops[k] with
   | false =>
     rw[lq hlt hb]
     exact⟨by omega,by omega,fun i h1 h2=>by omega,fun h=>by rw[ix hlt,hb];rfl⟩
   | true =>
     obtain⟨h1,h2,h3,h4⟩:=W0 c so g n (k+1) (by omega) (by omega)
     rw[jx hlt hb]
     refine⟨by omega,h2,fun i hi hi2=>?_,h4⟩
     by_cases e:i=k
     ·subst e;rw[ix hlt,hb];rfl
     ·exact h3 i (by omega) hi2
def K4 (c:Chains) (so:Spot→Bool) (g:Int) (k:Nat):List Nat:=(List.range k).filter (kw c so g)
theorem dP (c:Chains) (so:Spot→Bool) (g:Int) (k:Nat):K4 c so g (k+1)=K4 c so g k++if kw c so g k then [k] else []:=by
 rw[K4,List.range_succ,List.filter_append]
 congr 1
 cases h:kw c so g k<;>simp[h]
theorem dQ {c:Chains} {so:Spot→Bool} {g:Int}:∀ (m k:Nat),(∀ i,k≤i→i<k+m→kw c so g i=false)→K4 c so g (k+m)=K4 c so g k
 | 0,_,_=>rfl
 | m+1,k,h=>by
   rw[← Nat.add_assoc,dP,h (k+m) (by omega) (by omega),dQ m k fun i h1 h2=>h i h1 (by omega)]
   simp
theorem lK {c:Chains} {so:Spot→Bool} {g:Int} {k:Nat} (hk:k≤c.loops.length):K4 c so g (F7 c so g k)=K4 c so g k:=by
 obtain⟨h1,_,h3,_⟩:=W0 c so g _ k rfl hk
 obtain⟨m,hm⟩:∃ m,F7 c so g k=k+m:=⟨F7 c so g k-k,by omega⟩
 rw[hm] at h3 ⊢
 exact dQ m k h3
def aH (c:Chains) (so:Spot→Bool) (g:Int):Bool:=c.loops.all (F2 c so g)
theorem gg (c:Chains) (so:Spot→Bool) (g:Int):aH c so g=true↔F7 c so g 0=c.loops.length:=by
 obtain⟨_,h2,h3,h4⟩:=W0 c so g _ 0 rfl (Nat.zero_le _)
 constructor
 ·intro h
  refine Classical.byContradiction fun hne=>?_
  have hlt:F7 c so g 0<c.loops.length:=by omega
  have:=h4 hlt
  rw[ix hlt,List.all_eq_true.1 h _ (List.getElem_mem hlt)] at this
  cases this
 ·intro h
  rw[aH,List.all_eq_true]
  intro x hx
  obtain⟨i,hi,rfl⟩:=List.mem_iff_getElem.1 hx
  have:=h3 i (Nat.zero_le _) (by omega)
  rw[ix hi] at this
  simpa using this
def A3 (c:Chains):List Spot:=c.loops.flatMap fun x=>x.links.map H1
def S7 (B:List (Int×Issue)) (x:Spot):Bool:=decide ((m9 B x.drawing).kind≠3)
def s8 (c:Chains) (x:Spot):Bool:=decide ((i6 c.reg c.lets x.drawing).kind≠3)
def m5 (c:Chains):List Spot:=xH (s8 c) (A3 c)
theorem mem_spotsOf {c:Chains} {z:Spot}:z∈A3 c↔∃ x∈c.loops,∃ y∈x.links,H1 y=z:=by
 simp only[A3,List.mem_flatMap,List.mem_map]
theorem bQ {c:Chains} (h:OkC c) {x:Spot} (hx:x∈A3 c):S7 (B0 c.reg c.lets) x=s8 c x:=by
 obtain⟨l,hl,y,hy,rfl⟩:=mem_spotsOf.1 hx
 have:=(h.link l hl y hy).1
 rw[Bool.eq_iff_iff]
 simp only[S7,s8,H1,B0,E9,if_pos this,decide_eq_true_eq]
 exact decide_eq_true_iff.symm
theorem lW {c:Chains} (h:OkC c) {l:List Spot} (hp:l.Perm (((A3 c).foldl (fun l x=>G5 x l) []).filter (S7 (B0 c.reg c.lets)))) (hs:SortedS l):l=m5 c:=by
 refine cR hs (ci _ _) fun x=>?_
 rw[hp.mem_iff,List.mem_filter,fN,m5,ji]
 constructor
 ·rintro⟨h1|h1,h2⟩
  ·simp at h1
  ·exact⟨h1,by rw[← bQ h h1];exact h2⟩
 ·rintro⟨h1,h2⟩
  exact⟨.inr h1,by rw[bQ h h1];exact h2⟩
theorem iN {c:Chains} (h:OkC c):(m5 c).Perm (((A3 c).foldl (fun l x=>G5 x l) []).filter (S7 (B0 c.reg c.lets))):=by
 have hn:(((A3 c).foldl (fun l x=>G5 x l) []).filter (S7 (B0 c.reg c.lets))).Nodup:=(bS _ _ (by simp)).filter _
 refine(List.perm_ext_iff_of_nodup (ci _ _).nodup hn).2 fun x=>?_
 rw[List.mem_filter,fN,ji]
 constructor
 ·rintro⟨h1,h2⟩
  exact⟨.inr h1,by rw[bQ h h1];exact h2⟩
 ·rintro⟨h1|h1,h2⟩
  ·simp at h1
  ·exact⟨h1,by rw[← bQ h h1];exact h2⟩
def gs (p:Int→Bool):Nat→Int→Int→Int
 | 0,lo,_=>lo
 | k+1,lo,hi=>if lo<hi then (if p (hi-(hi-lo) / 2) then gs p k (hi-(hi-lo) / 2) hi else gs p k lo (hi-(hi-lo) / 2-1)) else lo
theorem ic (p:Int→Bool):∀ (k k':Nat) (lo hi:Int),hi-lo≤k→hi-lo≤k'→gs p k lo hi=gs p k' lo hi
 | 0,0,_,_,_,_=>rfl
 | 0,k'+1,lo,hi,h,_=>by rw[gs,gs,if_neg (by omega)]
 | k+1,0,lo,hi,_,h=>by rw[gs,gs,if_neg (by omega)]
 | k+1,k'+1,lo,hi,h,h'=>by
   rw[gs,gs]
   split
   ·split
    ·exact ic p k k' _ _ (by omega) (by omega)
    ·exact ic p k k' _ _ (by omega) (by omega)
   ·rfl
def oO (p:Int→Bool) (lo hi:Int):Int:=gs p (hi-lo).toNat lo hi
theorem qZ {p:Int→Bool} {lo hi:Int} (h:hi≤lo):oO p lo hi=lo:=by
 rw[oO,show (hi-lo).toNat=0 by omega,gs]
theorem nR {p:Int→Bool} {lo hi:Int} (h:lo<hi):oO p lo hi=if p (hi-(hi-lo) / 2) then oO p (hi-(hi-lo) / 2) hi else oO p lo (hi-(hi-lo) / 2-1):=by
 obtain⟨k,hk⟩:∃ k,(hi-lo).toNat=k+1:=⟨(hi-lo).toNat-1,by omega⟩
 rw[oO,hk,gs,if_pos h]
 split
 ·exact ic p _ _ _ _ (by omega) (by omega)
 ·exact ic p _ _ _ _ (by omega) (by omega)
theorem vk {p:Int→Bool} (hp:∀ m n,m≤n→p n=true→p m=true):∀ (k:Nat) (lo hi:Int),(hi-lo).toNat=k→lo≤hi→p lo=true→p (oO p lo hi)=true∧lo≤oO p lo hi∧oO p lo hi≤hi∧∀ m,oO p lo hi<m→m≤hi→p m=false:=by
 intro k
 induction k using Nat.strongRecOn with
 | ind k ih =>
   intro lo hi hk hle hlo
   by_cases h:lo<hi
   ·rw[nR h]
    split
    ·rename_i hpn
     obtain⟨a,b,c,d⟩:=ih ((hi-(hi-(hi-lo) / 2)).toNat) (by omega) (hi-(hi-lo) / 2) hi rfl (by omega) hpn
     exact⟨a,by omega,c,d⟩
    ·rename_i hpn
     obtain⟨a,b,c,d⟩:=ih ((hi-(hi-lo) / 2-1-lo).toNat) (by omega) lo (hi-(hi-lo) / 2-1) rfl (by omega) hlo
     refine⟨a,b,by omega,fun m h1 h2=>?_⟩
     by_cases hm:m≤hi-(hi-lo) / 2-1
     ·exact d m h1 hm
     ·cases hq:p m with
      | false=>rfl
      | true=>exact absurd (hp (hi-(hi-lo) / 2) m (by omega) hq) (by simpa using hpn)
   ·rw[qZ (by omega)]
    exact⟨hlo,Int.le_refl _,hle,fun m h1 h2=>by omega⟩
def ew:Int:=1000000000
def w9 (c:Chains):Int:=oO (aH c (s8 c)) 0 ew
def aV (c:Chains):Bool:=aH c (s8 c) 0
theorem oU {d:Dim} (hd:A4 d=true) {g g':Int} (h:g≤g'):(C2 d g').lower≤(C2 d g).lower∧(C2 d g).upper≤(C2 d g').upper:=by
 simp only[C2];omega
theorem fY (high:Bool):∀ (q:List (Link×Dim)) (q':List (Link×Dim)) (a b:Int),q.length=q'.length →
 (∀ (i:Nat) (p p':Link×Dim),q[i]?=some p→q'[i]?=some p'→p.1=p'.1∧p'.2.lower≤p.2.lower∧p.2.upper≤p'.2.upper)→(if high then a≤b else b≤a) →
 (if high then q.foldl (fun s p=>s+iP p.1 (L1 high p.1 p.2)) a≤q'.foldl (fun s p=>s+iP p.1 (L1 high p.1 p.2)) b else q'.foldl (fun s p=>s+iP p.1 (L1 high p.1 p.2)) b≤q.foldl (fun s p=>s+iP p.1 (L1 high p.1 p.2)) a)
 | [],[],a,b,_,_,h=>h
 | [],_ :: _,_,_,h,_,_=>by simp at h
 | _ :: _,[],_,_,h,_,_=>by simp at h
 | p :: q,p' :: q',a,b,hl,hp,h=>by
   rw[List.foldl_cons,List.foldl_cons]
   refine fY high q q' _ _ (by simpa using hl) (fun i x x' h1 h2=>hp (i+1) x x' (by simpa using h1) (by simpa using h2)) ?_
   obtain⟨e,h1,h2⟩:=hp 0 p p' rfl rfl
   rw[← e]
   cases high<;>simp only[iP,L1,Bool.false_eq_true,if_false,if_true] at h ⊢<;>cases p.1.back<;>simp<;>omega
theorem xq {ls:List Link} {l l':List Dim} (hl:l.length=l'.length) (h:∀ (i:Nat) (d d':Dim),l[i]?=some d→l'[i]?=some d'→d'.lower≤d.lower∧d.upper≤d'.upper):S9 ls l' false≤S9 ls l false∧S9 ls l true≤S9 ls l' true:=by
 have hz:(ls.zip l).length=(ls.zip l').length:=by simp[hl]
 have hp:∀ (i:Nat) (p p':Link×Dim),(ls.zip l)[i]?=some p→(ls.zip l')[i]?=some p'→p.1=p'.1∧p'.2.lower≤p.2.lower∧p.2.upper≤p'.2.upper:=fun i p p' h1 h2=>by
  rw[List.getElem?_zip_eq_some] at h1 h2
  obtain⟨a1,b1⟩:=h1
  obtain⟨a2,b2⟩:=h2
  rw[a1] at a2
  exact⟨Option.some.inj a2,h i _ _ b1 b2⟩
 exact⟨by have:=fY false _ _ 0 0 hz hp (Int.le_refl _);simpa[S9] using this,by have:=fY true _ _ 0 0 hz hp (Int.le_refl _);simpa[S9] using this⟩
theorem tt {c:Chains} (hk:OkC c) {so so':Spot→Bool} {g g':Int} (hso:∀ x∈A3 c,so' x=true→so x=true) (hg:g≤g'):∀ x∈c.loops,wR c so' g' x≤wR c so g x∧ws c so g x≤ws c so' g' x:=fun x hx=>by
 refine xq (by simp[lV]) fun i d d' h1 h2=>?_
 simp only[lV,List.getElem?_map,Option.map_eq_some_iff] at h1 h2
 obtain⟨y,hy,rfl⟩:=h1
 obtain⟨y',hy',rfl⟩:=h2
 rw[hy] at hy'
 cases hy'
 have hm:=List.mem_of_getElem? hy
 have hd:=(bW hk hx hm).1
 have hs:=hso (H1 y) (mem_spotsOf.2 ⟨x,hx,y,hm,rfl⟩)
 unfold kq
 cases h3:so' (H1 y) with
 | true =>
   rw[hs h3]
   simp only[if_true]
   exact oU hd hg
 | false =>
   simp only[Bool.false_eq_true,if_false]
   split
   ·exact uf
   ·exact⟨Int.le_refl _,Int.le_refl _⟩
theorem mL {c:Chains} (hk:OkC c) {so so':Spot→Bool} {g g':Int} (hso:∀ x∈A3 c,so' x=true→so x=true) (hg:g≤g') {x:ChLoop} (hx:x∈c.loops) (h:F2 c so' g' x=true):F2 c so g x=true:=by
 have:=tt hk hso hg x hx
 simp only[F2,Bool.and_eq_true,decide_eq_true_eq] at *
 omega
theorem rk {c:Chains} (hk:OkC c) {so so':Spot→Bool} {g g':Int} (hso:∀ x∈A3 c,so' x=true→so x=true) (hg:g≤g') (h:aH c so' g'=true):aH c so g=true:=by
 rw[aH,List.all_eq_true] at *
 exact fun x hx=>mL hk hso hg hx (h x hx)
theorem pL {c:Chains} (hk:OkC c) (h:aV c=true):aH c (s8 c) (w9 c)=true∧0≤w9 c∧w9 c≤ew∧∀ m,w9 c<m→m≤ew→aH c (s8 c) m=false:=
 vk (fun m n hmn hn=>rk hk (fun _ _ h=>h) hmn hn) _ 0 ew rfl (by decide) h
def X4 (l:List Spot) (set:Nat):Nat→List Spot
 | 0=>[]
 | k+1=>X4 l set k++(match l[k]? with
   | some x=>if set.testBit k then [x] else []
   | none=>[])
theorem kU {l:List Spot} {set k:Nat} (h:k<l.length):X4 l set (k+1)=X4 l set k++if set.testBit k then [l[k]] else []:=by
 have hx:l[k]?=some l[k]:=by simp[h]
 rw[X4,hx]
theorem nF (l:List Spot) (set:Nat):∀ k,(X4 l set k).length≤k
 | 0=>Nat.le_refl _
 | k+1=>by
   have:=nF l set k
   rw[X4,List.length_append]
   split
   ·split<;>simp<;>omega
   ·simp;omega
theorem kV {l:List Spot} {n:Nat} (hn:l.length≤n):∀ k,k≤l.length→X4 l (2 ^ n-1) k=l.take k
 | 0,_=>by simp[X4]
 | k+1,h=>by
   have hb:(2 ^ n-1).testBit k=true:=by rw[Nat.testBit_two_pow_sub_one];simp;omega
   rw[kU (by omega),kV hn k (by omega),hb,if_pos rfl,List.take_succ_eq_append_getElem (by omega)]
theorem jh {l:List Spot} {s:Nat}:∀ k,(X4 l s k).Sublist (l.take k)
 | 0=>by simp[X4]
 | k+1=>by
   rw[X4]
   cases hx:l[k]? with
   | none=>simp only[List.append_nil];exact(jh k).trans (List.take_sublist_take_left (by omega))
   | some x =>
     have hlt:=e7 hx
     rw[List.take_succ_eq_append_getElem hlt]
     have e:l[k]=x:=(List.getElem?_eq_some_iff.1 hx).2
     refine List.Sublist.append (jh k) ?_
     simp only
     split
     ·rw[e];exact List.Sublist.refl _
     ·exact List.nil_sublist _
def sr:List Spot→List Spot→Bool
 | a :: l,b :: m=>if a=b then sr l m else G1 a b
 | _,_=>false
def V1 (a b:List Spot):Bool:=decide (a.length<b.length)||(decide (a.length=b.length)&&sr a b)
theorem nj {a b:List Spot}:V1 a b=true↔a.length<b.length∨a.length=b.length∧sr a b=true:=by simp[V1]
def iw (best:Option (List Spot)) (x:List Spot):Bool:=match best with
 | none=>true
 | some b=>V1 x b
def nf (good:List Spot→Bool) (best:Option (List Spot)) (x:List Spot):Option (List Spot):=if iw best x&&good x then some x else best
theorem iK {good:List Spot→Bool}:∀ {xs:List (List Spot)} {b0:Option (List Spot)},xs.foldl (nf good) b0=none↔b0=none∧∀ x∈xs,good x=false
 | [],b0=>by simp
 | x :: xs,b0=>by
   rw[List.foldl_cons,iK]
   unfold nf
   cases b0 with
   | none =>
     simp only[iw,Bool.true_and,List.mem_cons,true_and]
     cases hg:good x
     ·simp[hg]
     ·simp[hg]
   | some b=>split<;>simp
def iQ (all:List Spot) (k:Nat):List (List Spot):=(List.range k).map fun s=>X4 all s all.length
theorem nn (all:List Spot) (k:Nat):iQ all (k+1)=iQ all k++[X4 all k all.length]:=by simp[iQ,List.range_succ]
def ib (l:List Spot):Spot→Bool:=fun x=>decide (x∈l)
def gA (c:Chains) (x:List Spot):Bool:=aH c (ib x) 0
def R4 (c:Chains) (b0:Option (List Spot)) (k:Nat):Option (List Spot):=(iQ (m5 c) k).foldl (nf (gA c)) b0
theorem ko (c:Chains) (b0:Option (List Spot)) (k:Nat):R4 c b0 (k+1)=nf (gA c) (R4 c b0 k) (X4 (m5 c) k (m5 c).length):=by
 simp[R4,nn]
def mA (c:Chains):Option (List Spot):=R4 c none (2 ^ (m5 c).length)
theorem vp (l:List Spot):l∈iQ l (2 ^ l.length):=by
 have h:0<2 ^ l.length:=Nat.two_pow_pos _
 exact List.mem_map.2 ⟨2 ^ l.length-1,List.mem_range.2 (by omega),by rw[kV (Nat.le_refl _) _ (Nat.le_refl _),List.take_length]⟩
theorem sK (c:Chains):aV c=gA c (m5 c):=by
 unfold aV gA aH
 rw[Bool.eq_iff_iff,List.all_eq_true,List.all_eq_true]
 refine forall_congr' fun x=>forall_congr' fun hx=>?_
 have:lV c (s8 c) 0 x=lV c (ib (m5 c)) 0 x:=by
  refine List.map_congr_left fun y hy=>?_
  have:s8 c (H1 y)=ib (m5 c) (H1 y):=by
   rw[Bool.eq_iff_iff,ib,decide_eq_true_eq,m5,ji]
   exact⟨fun h=>⟨mem_spotsOf.2 ⟨x,hx,y,hy,rfl⟩,h⟩,fun h=>h.2⟩
  simp only[kq,this]
 have e:F2 c (s8 c) 0 x=F2 c (ib (m5 c)) 0 x:=by unfold F2 wR ws;rw[this]
 rw[e]
theorem sL {c:Chains} (hk:OkC c) {a b:List Spot} (h:∀ x∈a,x∈b) (hg:gA c a=true):gA c b=true:=
 rk hk (fun x _ hx=>by simp only[ib,decide_eq_true_eq] at *;exact h x hx) (Int.le_refl _) hg
theorem nU {c:Chains} (hk:OkC c):mA c=none↔aV c=false:=by
 rw[mA,R4,iK,sK]
 constructor
 ·intro h;exact h.2 _ (vp _)
 ·intro h
  refine⟨rfl,fun x hx=>?_⟩
  obtain⟨s,_,rfl⟩:=List.mem_map.1 hx
  cases hq:gA c (X4 (m5 c) s (m5 c).length) with
  | false=>rfl
  | true =>
    rw[sL hk (fun x hx=>List.mem_of_mem_take ((jh _).subset hx)) hq] at h
    cases h
open Go Go.Ab Tryz
variable {G:Cr}
theorem uU (d:Dim):zP prog G 100 [G2 d] (iv (V5 d)):=by
 refine zf func100 ntmps100 ?_
 try simp only[G2]
 repeat' first|(with_reducible first|refine zz ?_|refine zx ?_|refine zE [0,1,2] ?_)|simp -dsimp
 simp[V5]
theorem qC (d:Dim) (g:Int) (hd:A4 d=true) (h0:0≤g) (h1:g≤2000000000):zP prog G 47 [G2 d,iv g] (G2 (C2 d g)):=by
 refine zf func47 ntmps47 ?_
 try simp only[G2,iv]
 have c1:=uU (G:=G) d
 have hdl:=(F8 d).1 hd
 have hm:0≤V5 d∧V5 d≤1000000000:=by unfold V5;omega
 have hw1:IntKind.i64.wrap (V5 d-g)=V5 d-g:=o6 (by omega) (by omega)
 have hw2:IntKind.i64.wrap (V5 d+g)=V5 d+g:=o6 (by omega) (by omega)
 simp only[G2,l5,List.map_cons,List.map_nil] at c1
 have hs:=za hw1 hw2
 repeat' first|(with_reducible first|refine zz ?_|refine zr ?_|refine zE [0,1,2,4,5] ?_)|simp -dsimp[hs]|refine zp c1 ?_
 all_goals simp[C2]
def SoF (G:Cr) (c:Chains) (fv:IC) (so:Spot→Bool):Prop:=
 (∃ (f:FuncId) (caps:List IC),fv=.fn (.func f) caps∧I9 prog f∧∀ x∈A3 c,∀ objs,DCall prog G f (B8 x.drawing x.dim :: caps.map fun c=>.one (.im c)) objs (fun d o=>d=bv (so x)∧o=objs)) ∨
 (∃ (f:FuncId) (l:List IC),fv=.bf (.func f) l∧I9 prog f∧∀ x∈A3 c,∀ objs,DCall prog G f ((l.map fun c=>DV.one (.im c))++[B8 x.drawing x.dim]) objs (fun d o=>d=bv (so x)∧o=objs))
theorem uQ (c:Chains):SoF G c S6 P0:=.inl ⟨58,[],rfl,by simp,fun x _ objs=>qM (G:=G) x.drawing x.dim objs⟩
theorem kQ (c:Chains) (D:List (Int×Int)) (fv:IC) (so:Spot→Bool) (g:Int) (n:Nat) (hn:n<c.loops.length) (h:OkC c) (hso:SoF G c fv so) (hg0:0≤g) (hg1:g≤2000000000):zP prog G 57 [.one (.im (i8 c D (B0 c.reg c.lets))),iv (n:Int),iv g,.one (.im fv)] (.one (.im (.sl ((lV c so g c.loops[n]).map l5)))):=by
 refine zf func57 ntmps57 ?_
 try simp only[iv,iv]
 have hx:c.loops[n]?=some c.loops[n]:=by simp[hn]
 have hln:=h.gap c.loops[n] (List.getElem_mem hn)
 have hok:=fun y hy=>bW h (List.getElem_mem hn) (y:=y) hy
 have hlk:=h.link c.loops[n] (List.getElem_mem hn)
 have hE:lV c so g c.loops[n]=c.loops[n].links.map (kq c so g):=rfl
 have hmem:∀ y∈c.loops[n].links,H1 y∈A3 c:=fun y hy=>mem_spotsOf.2 ⟨_,List.getElem_mem hn,y,hy,rfl⟩
 simp only[i8]
 have hs:=za hx hn
 repeat' first|(with_reducible first|refine zz ?_|refine zE [0,1,2,3,8,9,11,12,21,22,23,24,42] ?_)|simp -dsimp[hs]
 generalize hls:c.loops[n].links=ls at *
 refine i7 (ι:={ p:Nat×Nat×Bool×List Dim // p.1≤ls.length∧p.2.2.2=(ls.take p.1).map (kq c so g) }) (fun p=>⟨52,[(0,.one (.im (i8 c D (B0 c.reg c.lets)))),(2,iv g),(3,.one (.im fv)),(9,.one (.vec 1 p.1.2.1 0 p.1.2.2.2.length)),(21,.one (.im (.sl (ls.map C5)))),(22,iv (ls.length:Int)),(23,iv (p.1.1:Int))],[.vec 3 [] 0 true,.vec 3 (p6 (p.1.2.2.2.map l5)) p.1.2.1 p.1.2.2.1]⟩) (fun p=>ls.length-p.1.1) ⟨(0,0,true,[]),by simp⟩ (zv [0,2,3,9,21,22,23] (by simp[i8])) ?_
 rintro⟨⟨k,gn,nl,out⟩,hk,ho⟩
 simp only at hk ho
 simp only[iv,i8]
 have hol:out.length=k:=by rw[ho];simp;omega
 by_cases hlt:k<ls.length
 ·have hy:ls[k]?=some ls[k]:=by simp[hlt]
  have hw:=zk k
  obtain⟨l1,l2,l3⟩:=hlk ls[k] (List.getElem_mem hlt)
  obtain⟨hdo,he⟩:=hok ls[k] (List.getElem_mem hlt)
  have hlook:m9 (B0 c.reg c.lets) ls[k].drawing=i6 c.reg c.lets ls[k].drawing:=by rw[B0,E9,if_pos l1]
  have hms:=hmem ls[k] (List.getElem_mem hlt)
  obtain⟨j,hj⟩:∃ j:Nat,ls[k].dim=j:=⟨ls[k].dim.toNat,by omega⟩
  rw[hj,Int.toNat_natCast] at he
  have hjl:=e7 he
  have hje:=(List.getElem?_eq_some_iff.1 he).2
  have c2:=pb (G:=G) ⟨ls[k].drawing,j,ls[k].back⟩
  have c4:=qC (G:=G) (I6 c ls[k]) g hdo hg0 hg1
  have hspot:H1 ls[k]=⟨ls[k].drawing,j⟩:=by rw[H1,hj]
  rw[hspot] at hms
  simp only[B8] at c2
  simp only[G2,l5,List.map_cons,List.map_nil] at c4
  have hon:out++[kq c so g ls[k]]=(ls.take (k+1)).map (kq c so g):=by rw[List.take_succ_eq_append_getElem hlt,List.map_append,ho];rfl
  have hdT:kq c so g ls[k]=if so ⟨ls[k].drawing,j⟩ then C2 (I6 c ls[k]) g else I6 c ls[k]:=by rw[kq,hspot]
  rcases hso with⟨f,caps,rfl,hf,hcall⟩|⟨f,caps,rfl,hf,hcall⟩
  all_goals have c3:=hcall _ hms
  all_goals simp only[B8] at c3
  all_goals cases hq:so ⟨ls[k].drawing,j⟩
  all_goals rw[hq] at hdT c3
  all_goals simp only[Bool.false_eq_true,if_false,if_true] at hdT
  all_goals rw[hdT] at hon
  ·have hs:=za hy (za hw (za hlt (za hlook (za hj (za hjl (za he (za hje hf)))))))
   repeat' first|(with_reducible first|refine zz ?_|refine And.intro (by omega) ?_)|simp -dsimp[hs]|refine zp c2 ?_|refine zp c3 ?_|refine o7 (id:=5) (nt:=52) 13 [] [0,1,2,3,8,9,11,12,21,22,23,24,27,28,29,30,31,32,33,34,35,36,37,38,42] [0,1,2,3,8,9,11,12,21,22,23,24,42] mixed rfl (by kernel_rfl) ?_|with_reducible refine zE [0,1,2,3,8,9,11,12,21,22,23,24,42] ?_|refine j7 ?_ ?_<;>intro h<;>try simp only[j0] at h
   all_goals try omega
   exact zn ⟨(k+1,gn+1,false,out++[I6 c ls[k]]),by omega,hon⟩ (zw [0,2,3,9,21,22,23] 2 (by simp[i8]))
  ·have hs:=za hy (za hw (za hlt (za hlook (za hj (za hjl (za he (za hje hf)))))))
   repeat' first|(with_reducible first|refine zz ?_|refine And.intro (by omega) ?_)|simp -dsimp[hs]|refine zp c2 ?_|refine zp c3 ?_|refine zp c4 ?_|refine o7 (id:=5) (nt:=52) 13 [] [0,1,2,3,8,9,11,12,21,22,23,24,27,28,29,30,31,32,33,34,35,36,37,38,42] [0,1,2,3,8,9,11,12,21,22,23,24,42] mixed rfl (by kernel_rfl) ?_|with_reducible refine zE [0,1,2,3,8,9,11,12,21,22,23,24,42] ?_|refine j7 ?_ ?_<;>intro h<;>try simp only[j0] at h
   all_goals try omega
   exact zn ⟨(k+1,gn+1,false,out++[C2 (I6 c ls[k]) g]),by omega,hon⟩ (zw [0,2,3,9,21,22,23] 2 (by simp[i8]))
  ·have hs:=za hy (za hw (za hlt (za hlook (za hj (za hjl (za he (za hje hf)))))))
   repeat' first|(with_reducible first|refine zz ?_|refine And.intro (by omega) ?_)|simp -dsimp[hs]|refine zp c2 ?_|refine zp c3 ?_|refine o7 (id:=5) (nt:=52) 13 [] [0,1,2,3,8,9,11,12,21,22,23,24,27,28,29,30,31,32,33,34,35,36,37,38,42] [0,1,2,3,8,9,11,12,21,22,23,24,42] mixed rfl (by kernel_rfl) ?_|with_reducible refine zE [0,1,2,3,8,9,11,12,21,22,23,24,42] ?_|refine j7 ?_ ?_<;>intro h<;>try simp only[j0] at h
   all_goals try omega
   exact zn ⟨(k+1,gn+1,false,out++[I6 c ls[k]]),by omega,hon⟩ (zw [0,2,3,9,21,22,23] 2 (by simp[i8]))
  ·have hs:=za hy (za hw (za hlt (za hlook (za hj (za hjl (za he (za hje hf)))))))
   repeat' first|(with_reducible first|refine zz ?_|refine And.intro (by omega) ?_)|simp -dsimp[hs]|refine zp c2 ?_|refine zp c3 ?_|refine zp c4 ?_|refine o7 (id:=5) (nt:=52) 13 [] [0,1,2,3,8,9,11,12,21,22,23,24,27,28,29,30,31,32,33,34,35,36,37,38,42] [0,1,2,3,8,9,11,12,21,22,23,24,42] mixed rfl (by kernel_rfl) ?_|with_reducible refine zE [0,1,2,3,8,9,11,12,21,22,23,24,42] ?_|refine j7 ?_ ?_<;>intro h<;>try simp only[j0] at h
   all_goals try omega
   exact zn ⟨(k+1,gn+1,false,out++[C2 (I6 c ls[k]) g]),by omega,hon⟩ (zw [0,2,3,9,21,22,23] 2 (by simp[i8]))
 ·have hs:=hlt
  repeat' first|(with_reducible first|refine zz ?_|refine zr ?_|refine zE [0,1,2,3,8,9,11,12,21,22,23,24,42] ?_)|simp -dsimp[hs]|refine j7 ?_ ?_<;>intro h<;>try simp only[j0] at h
  all_goals try omega
  rw[hE,ho,List.take_of_length_le (by omega)]
theorem ej (c:Chains) (D:List (Int×Int)) (fv:IC) (so:Spot→Bool) (g:Int) (k:Nat) (hk:k≤c.loops.length) (hl:c.loops.length≤10) (h:OkC c) (hso:SoF G c fv so) (hg0:0≤g) (hg1:g≤2000000000):zP prog G 75 [.one (.im (i8 c D (B0 c.reg c.lets))),iv (k:Int),iv g,.one (.im fv)] (iv (F7 c so g k:Int)):=by
 refine zf func75 ntmps75 ?_
 try simp only[iv,iv]
 simp only[i8]
 have hs:=hk
 repeat' first|(with_reducible first|refine zz ?_|refine zE [0,1,2,3,8,9,10,11,19,20,21,56] ?_)|simp -dsimp[hs]
 all_goals try clear hs
 refine i7 (ι:={ i:Nat // i≤c.loops.length-k∧F7 c so g k=F7 c so g (k+i) }) (fun p=>⟨67,[(0,.one (.im (i8 c D (B0 c.reg c.lets)))),(1,iv (k:Int)),(2,iv g),(3,.one (.im fv)),(19,iv ((c.loops.length-k:Nat):Int)),(20,iv (p.1:Int))],[]⟩) (fun p=>c.loops.length-k-p.1) ⟨0,by simp⟩ (zv [0,1,2,3,19,20] (by simp[i8])) ?_
 rintro⟨i,hi,hf⟩
 simp only[iv,i8]
 by_cases hlt:i<c.loops.length-k
 ·obtain⟨Z,hZ⟩:∃ Z,Z=k+i:=⟨_,rfl⟩
  have hZl:Z<c.loops.length:=by omega
  have hx:c.loops[Z]?=some c.loops[Z]:=by simp[hZl]
  have hw:=zk i
  have hwZ:IntKind.i64.wrap ((k:Int)+(i:Int))=(Z:Int):=by rw[o6 (by omega) (by omega)];omega
  have c1:=kQ (G:=G) c D fv so g Z hZl h hso hg0 hg1
  obtain⟨hsl,hsd⟩:=oX h (so:=so) hg0 (List.getElem_mem hZl)
  have hln:=(h.gap c.loops[Z] (List.getElem_mem hZl)).1
  have c3:=nz (G:=G) c D (B0 c.reg c.lets) Z hZl (lV c so g c.loops[Z]) (by omega) hsl hsd
  have h1:wR c so g c.loops[Z]=S9 c.loops[Z].links (lV c so g c.loops[Z]) false:=rfl
  have h2':ws c so g c.loops[Z]=S9 c.loops[Z].links (lV c so g c.loops[Z]) true:=rfl
  rw[← h1,← h2'] at c3
  have c2:=N8 (G:=G) c.loops[Z].lo c.loops[Z].hi [wR c so g c.loops[Z],ws c so g c.loops[Z]] (by simp)
  rw[pW h hg0 (List.getElem_mem hZl)] at c2
  rw[← hZ] at hf
  have hfg:=jx (c:=c) (so:=so) (g:=g) hZl
  have hfb:=lq (c:=c) (so:=so) (g:=g) hZl
  clear h1 h2'
  generalize wR c so g c.loops[Z]=a at *
  generalize ws c so g c.loops[Z]=b at *
  simp only[i8] at c1 c3
  simp only[B8] at c3
  cases hq:F2 c so g c.loops[Z]
  ·rw[hq] at c2
   have hs:=za hx (za hw (za hwZ (za hlt hZl)))
   repeat' first|(with_reducible first|refine zz ?_|refine zr ?_)|simp -dsimp[hs]|refine zq c1 ?_|refine zq c3 ?_|refine zt c2 ?_ ?_ ?_;(focus simp;done);focus (simp;done)|refine o7 (id:=4) (nt:=67) 25 [12,13,14,15,16,17,18,19,20,21,22] [0,1,2,3,8,9,10,11,19,20,21,23,24,25,26,27,28,29,30,31,32,33,34,56] [0,1,2,3,8,9,10,11,19,20,21,56] mixed rfl (by kernel_rfl) ?_|with_reducible refine zE [0,1,2,3,8,9,10,11,19,20,21,56] ?_|refine j7 ?_ ?_<;>intro h<;>try simp only[j0] at h
   all_goals try clear hs
   all_goals rw[hf,hfb hq]
  ·rw[hq] at c2
   have hs:=za hx (za hw (za hwZ (za hlt hZl)))
   repeat' first|with_reducible refine zz ?_|simp -dsimp[hs]|refine zq c1 ?_|refine zq c3 ?_|refine zt c2 ?_ ?_ ?_;(focus simp;done);focus (simp;done)|refine o7 (id:=4) (nt:=67) 25 [12,13,14,15,16,17,18,19,20,21,22] [0,1,2,3,8,9,10,11,19,20,21,23,24,25,26,27,28,29,30,31,32,33,34,56] [0,1,2,3,8,9,10,11,19,20,21,56] mixed rfl (by kernel_rfl) ?_|with_reducible refine zE [0,1,2,3,8,9,10,11,19,20,21,56] ?_|refine j7 ?_ ?_<;>intro h<;>try simp only[j0] at h
   all_goals try clear hs
   exact zn ⟨i+1,by omega,by rw[hf,hfg hq,hZ,Nat.add_assoc]⟩ (zw [0,1,2,3,19,20] 0 (by simp[i8]))
 ·have he:k+i=c.loops.length:=by omega
  rw[he,ln (Nat.le_refl _)] at hf
  have hs:=hlt
  repeat' first|(with_reducible first|refine zz ?_|refine zr ?_|refine zE [0,1,2,3,8,9,10,11,19,20,21,56] ?_)|simp -dsimp[hs]|refine j7 ?_ ?_<;>intro h<;>try simp only[j0] at h
  all_goals try clear hs
  all_goals simp[hf]
def sn (c:Chains) (n:Int):ChLoop:=(c.loops[n.toNat]?).getD ⟨[],0,0⟩
theorem ml {c:Chains} {k:Nat} (h:k<c.loops.length):sn c (k:Int)=c.loops[k]:=by simp[sn,h]
def lM (c:Chains) (n:Int) (high:Bool):List Int:=if A0 c n=0 then eQ (sn c n).links (H7 c (sn c n)) high else []
def gU (c:Chains) (n:Int):List Int:=if A0 c n=0 then (H7 c (sn c n)).map fun d=>d.upper-d.lower else []
def oR (c:Chains):List Int:=(K4 c P0 0 c.loops.length).map fun i:Nat=>(i:Int)
def lL (c:Chains):List Int:=if j6 c=0 then oR c else []
theorem uJ (c:Chains) (n:Int) (high:Bool) (hG:B4 G) (hC:K1 G) (hs:r7 c):zP prog G 30 [M7 c,iv n,bv high] (.tup [C1 (lM c n high),iv (A0 c n)]):=by
 refine zf func30 ntmps30 ?_
 try simp only[M7,iv,bv]
 have c1:=mn c n hG hC hs
 by_cases hE:A0 c n=0
 ·obtain⟨h0,k,rfl,hk⟩:=Y1 hE
  have h:=mV h0
  have c2:=iZ (G:=G) c (x6 c) k hk h
  obtain⟨hsl,hsd⟩:=dZ h hk
  have hln:=(h.gap c.loops[k] (List.getElem_mem hk)).1
  have c3:=mf (G:=G) c (x6 c) (B0 c.reg c.lets) k hk (H7 c c.loops[k]) high (by omega) hsl hsd
  rw[lM,if_pos hE,ml hk]
  generalize eQ c.loops[k].links (H7 c c.loops[k]) high=out at *
  rw[hE] at c1
  simp only[H5,h0,if_true,i8] at c1
  simp only[i8,S6,C1] at c2 c3
  have hs:=trivial
  repeat' first|(with_reducible first|refine zz ?_|refine zr ?_|refine zE [0,1,2,3,6,7,8,9,10,19] ?_)|simp -dsimp[hs]|refine zp c1 ?_|refine zp c2 ?_|refine zp c3 ?_|refine j7 ?_ ?_<;>intro h<;>try simp only[j0] at h
  all_goals try clear hs
  all_goals simp[hE]
 ·obtain⟨X,hX⟩:=F9 c
  rw[hX] at c1
  rw[lM,if_neg hE]
  have hs:=hE
  repeat' first|(with_reducible first|refine zz ?_|refine zr ?_|refine zE [0,1,2,3,6,7,8,9,10,19] ?_)|simp -dsimp[hs]|refine zp c1 ?_|refine j7 ?_ ?_<;>intro h<;>try simp only[j0] at h
  all_goals try clear hs
theorem sc (c:Chains) (n:Int) (hG:B4 G) (hC:K1 G) (hs:r7 c):zP prog G 31 [M7 c,iv n] (.tup [C1 (gU c n),iv (A0 c n)]):=by
 refine zf func31 ntmps31 ?_
 try simp only[M7,iv]
 have c1:=mn c n hG hC hs
 by_cases hE:A0 c n=0
 ·obtain⟨h0,k,rfl,hk⟩:=Y1 hE
  have h:=mV h0
  have c2:=iZ (G:=G) c (x6 c) k hk h
  obtain⟨hsl,hsd⟩:=dZ h hk
  have hln:=(h.gap c.loops[k] (List.getElem_mem hk)).1
  rw[gU,if_pos hE,ml hk]
  generalize H7 c c.loops[k]=ds at *
  rw[hE] at c1
  simp only[H5,h0,if_true,i8] at c1
  simp only[i8,S6] at c2
  have hs:=trivial
  repeat' first|(with_reducible first|refine zz ?_|refine zE [0,1,2,4,5,6,7,8,10,18,22,23,24,25] ?_)|simp -dsimp[hs]|refine zp c1 ?_|refine zp c2 ?_|refine j7 ?_ ?_<;>intro h<;>try simp only[j0] at h
  all_goals try clear hs
  refine i7 (ι:={ p:Nat×Nat×Bool×List Int // p.1≤ds.length∧p.2.2.2=(ds.take p.1).map fun d=>d.upper-d.lower }) (fun p=>⟨38,[(8,.one (.vec 2 p.1.2.1 0 p.1.2.2.2.length)),(22,.one (.im (.sl (ds.map l5)))),(23,iv (ds.length:Int)),(24,iv (p.1.1:Int))],[.row ((u7 c).map .im),.vec 1 [] 0 true,.vec 1 (p6 (p.1.2.2.2.map encI)) p.1.2.1 p.1.2.2.1]⟩) (fun p=>ds.length-p.1.1) ⟨(0,0,true,[]),by simp⟩ (zv [8,22,23,24]) ?_
  rintro⟨⟨i,gn,nl,out⟩,hi,ho⟩
  simp only at hi ho
  simp only[iv]
  have hol:out.length=i:=by rw[ho];simp;omega
  by_cases hlt:i<ds.length
  ·have hy:ds[i]?=some ds[i]:=by simp[hlt]
   have hw:=zk i
   have hd:=(F8 _).1 (hsd ds[i] (List.getElem_mem hlt))
   have hwd:IntKind.i64.wrap (ds[i].upper-ds[i].lower)=ds[i].upper-ds[i].lower:=o6 (by omega) (by omega)
   have hon:out++[ds[i].upper-ds[i].lower]=(ds.take (i+1)).map fun d=>d.upper-d.lower:=by rw[List.take_succ_eq_append_getElem hlt,List.map_append,ho];rfl
   have hs:=za hy (za hw (za hlt hwd))
   repeat' first|(with_reducible first|refine zz ?_|refine And.intro (by omega) ?_|refine zE [0,1,2,4,5,6,7,8,10,18,22,23,24,25] ?_)|simp -dsimp[hs]|refine j7 ?_ ?_<;>intro h<;>try simp only[j0] at h
   all_goals try clear hs
   all_goals try omega
   exact zn ⟨(i+1,gn+1,false,out++[ds[i].upper-ds[i].lower]),by omega,hon⟩ (zw [8,22,23,24] 3)
  ·rw[List.take_of_length_le (by omega)] at ho
   have hs:=hlt
   repeat' first|(with_reducible first|refine zz ?_|refine zr ?_|refine zE [0,1,2,4,5,6,7,8,10,18,22,23,24,25] ?_)|simp -dsimp[hs]|refine j7 ?_ ?_<;>intro h<;>try simp only[j0] at h
   all_goals try clear hs
   all_goals try omega
   all_goals simp[ho,hE]
 ·obtain⟨X,hX⟩:=F9 c
  rw[hX] at c1
  rw[gU,if_neg hE]
  have hs:=hE
  repeat' first|(with_reducible first|refine zz ?_|refine zr ?_|refine zE [0,1,2,4,5,6,7,8,10,18,22,23,24,25] ?_)|simp -dsimp[hs]|refine zp c1 ?_|refine j7 ?_ ?_<;>intro h<;>try simp only[j0] at h
  all_goals try clear hs
theorem uI (c:Chains) (hG:B4 G) (hC:K1 G) (hs:r7 c):zP prog G 32 [M7 c] (.tup [C1 (lL c),iv (j6 c)]):=by
 refine zf func32 ntmps32 ?_
 try simp only[M7]
 have c1:=O0 c hG hC hs
 by_cases h0:j6 c=0
 ·have h:=mV h0
  have hl:=hs.2.2.1
  have c2:=fun k (hk:k≤c.loops.length)=>ej (G:=G) c (x6 c) S6 P0 0 k hk hl h (uQ c) (by decide) (by decide)
  rw[h0] at c1
  rw[lL,if_pos h0,h0]
  simp only[H5,h0,if_true,i8] at c1
  have hb:=W0 c P0 0
  have hwt:=fun k (hk:k≤c.loops.length)=>lK (c:=c) (so:=P0) (g:=0) hk
  have hws:=dP c P0 0
  simp only[i8,S6] at c2
  have c20:=c2 0 (Nat.zero_le _)
  simp only[Int.ofNat_eq_natCast,Int.natCast_zero] at c20
  have hI:oR c=(K4 c P0 0 c.loops.length).map fun i:Nat=>(i:Int):=rfl
  generalize oR c=W at *
  have hs:=trivial
  repeat' first|(with_reducible first|refine zz ?_|refine zE [0,1,2,3,4,5,6,7,14,22] ?_)|simp -dsimp[hs]|refine zp c1 ?_|refine zp c20 ?_|refine j7 ?_ ?_<;>intro h<;>try simp only[j0] at h
  all_goals try clear hs
  refine i7 (ι:={ p:Nat×Nat×Bool×List Int // p.1≤c.loops.length∧(p.1<c.loops.length→kw c P0 0 p.1=true)∧p.2.2.2=(K4 c P0 0 p.1).map fun i:Nat=>(i:Int) }) (fun p=>⟨32,[(1,.one (.ptr 0 0)),(4,.one (.im (i8 c (x6 c) (B0 c.reg c.lets)))),(6,.one (.vec 2 p.1.2.1 0 p.1.2.2.2.length)),(7,iv (p.1.1:Int))],[.row ((u7 c).map .im),.vec 1 [] 0 true,.vec 1 (p6 (p.1.2.2.2.map encI)) p.1.2.1 p.1.2.2.1]⟩) (fun p=>c.loops.length-p.1.1) ⟨(F7 c P0 0 0,0,true,[]),(hb _ 0 rfl (Nat.zero_le _)).2.1,(hb _ 0 rfl (Nat.zero_le _)).2.2.2,by rw[hwt 0 (Nat.zero_le _)];rfl⟩ (zv [1,4,6,7] (by simp[i8])) ?_
  rintro⟨⟨i,gn,nl,out⟩,hi,hbad,ho⟩
  simp only at hi hbad ho
  simp only[iv,i8]
  have hol:out.length≤i:=by
   rw[ho,List.length_map,K4]
   have:=List.length_filter_le (kw c P0 0) (List.range i)
   simpa using this
  by_cases hlt:i<c.loops.length
  ·have c3:=c2 (i+1) (by omega)
   obtain⟨b1,b2,b3,b4⟩:=hb _ (i+1) rfl (by omega)
   have hwn:=hwt (i+1) (by omega)
   generalize F7 c P0 0 (i+1)=j at *
   obtain⟨Z,hZ⟩:∃ Z,Z=i+1:=⟨_,rfl⟩
   rw[← hZ] at c3
   have hw:IntKind.i64.wrap ((i:Int)+1)=(Z:Int):=by rw[o6 (by omega) (by omega)];omega
   have hon:out++[(i:Int)]=(K4 c P0 0 j).map fun i:Nat=>(i:Int):=by rw[hwn,hws,hbad hlt,if_pos rfl,List.map_append,ho];rfl
   have hs:=za hw hlt
   repeat' first|(with_reducible first|refine zz ?_|refine And.intro (by omega) ?_|refine zE [0,1,2,3,4,5,6,7,14,22] ?_)|simp -dsimp[hs]|refine zp c3 ?_|refine j7 ?_ ?_<;>intro h<;>try simp only[j0] at h
   all_goals try clear hs
   all_goals try omega
   exact zn ⟨(j,gn+1,false,out++[(i:Int)]),b2,b4,hon⟩ (zw [1,4,6,7] 3 (by simp[i8]))
  ·have hie:i=c.loops.length:=by omega
   subst hie
   have hs:=hlt
   repeat' first|(with_reducible first|refine zz ?_|refine zr ?_|refine zE [0,1,2,3,4,5,6,7,14,22] ?_)|simp -dsimp[hs]|refine j7 ?_ ?_<;>intro h<;>try simp only[j0] at h
   all_goals try clear hs
   all_goals try omega
   all_goals simp[ho,hI]
 ·have hD:∃ X,H5 c=.one (.im X):=F9 c
  obtain⟨X,hX⟩:=hD
  rw[hX] at c1
  rw[lL,if_neg h0]
  have hs:=h0
  repeat' first|(with_reducible first|refine zz ?_|refine zr ?_|refine zE [0,1,2,3,4,5,6,7,14,22] ?_)|simp -dsimp[hs]|refine zp c1 ?_|refine j7 ?_ ?_<;>intro h<;>try simp only[j0] at h
  all_goals try clear hs
def bu:List Int→Int
 | []=>0
 | x :: r=>if x=0 then bu r else x
theorem yh (l:List Int) (hl:l.length<1000000):zP prog G 90 [C1 l] (iv (bu l)):=by
 refine zf func90 ntmps90 ?_
 try simp only[C1]
 have hs:=trivial
 repeat' first|(with_reducible first|refine zz ?_|refine zE [0,2,3,5,6,7,8,9,14] ?_)|simp -dsimp[hs]
 refine i7 (ι:={ p:Nat // p≤l.length∧bu l=bu (l.drop p) }) (fun p=>⟨18,[(3,iv 0),(6,.one (.im (.sl (l.map encI)))),(7,iv (l.length:Int)),(8,iv (p.1:Int))],[]⟩) (fun p=>l.length-p.1) ⟨0,by simp⟩ (zv [3,6,7,8]) ?_
 rintro⟨k,hk,hu⟩
 simp only[iv]
 by_cases hlt:k<l.length
 ·have hw:=zk k
  rw[List.drop_eq_getElem_cons hlt,bu] at hu
  generalize hx:l[k]=x at *
  have hs:=za hx (za hw hlt)
  repeat' first|(with_reducible first|refine zz ?_|refine zr ?_|refine zE [0,2,3,5,6,7,8,9,14] ?_)|simp -dsimp[hs]|refine j7 ?_ ?_<;>intro h<;>try simp only[j0] at h
  ·rw[hu,if_neg (by assumption)]
  ·rw[if_pos (by assumption)] at hu
   exact zn ⟨k+1,by omega,hu⟩ (zv [3,6,7,8])
 ·rw[List.drop_eq_nil_of_le (by omega)] at hu
  have hs:=hlt
  repeat' first|(with_reducible first|refine zz ?_|refine zr ?_|refine zE [0,2,3,5,6,7,8,9,14] ?_)|simp -dsimp[hs]|refine j7 ?_ ?_<;>intro h<;>try simp only[j0] at h
  rw[hu];rfl
def bt (a b:Spot):Int:=bu [aZ a.drawing b.drawing,aZ a.dim b.dim]
theorem ordS_lt {a b:Spot}:bt a b<0↔G1 a b=true:=by
 rw[W8]
 unfold bt aZ bu bu bu
 repeat' split
 all_goals omega
theorem mg (a b:Spot):zP prog G 42 [B8 a.drawing a.dim,B8 b.drawing b.dim] (iv (bt a b)):=by
 refine zf func42 ntmps42 ?_
 try simp only[B8,B8]
 have c1:=gc (G:=G) a.drawing b.drawing
 have c2:=gc (G:=G) a.dim b.dim
 have c3:=yh (G:=G) [aZ a.drawing b.drawing,aZ a.dim b.dim] (by simp)
 have hE:bt a b=bu [aZ a.drawing b.drawing,aZ a.dim b.dim]:=rfl
 rw[← hE] at c3
 repeat' first|(with_reducible first|refine zz ?_|refine zx ?_)|simp -dsimp|refine zq c1 ?_|refine zq c2 ?_|refine zq c3 ?_|refine zM 1 17 13 [0,1,2,3,4] ?_|with_reducible refine zE [0,1,2,3,4] ?_
theorem iO (X:IC):zP prog G 40 [.one (.im X)] (.one (.im (.fn (.func 86) [.ip [X]]))):=by
 refine zf func40 ntmps40 ?_
 try simp only[iv]
 repeat' first|(with_reducible first|refine zz ?_|refine zx ?_|refine zE [0,1,2] ?_)|simp -dsimp
def Y7 (G:Cr):Prop:=∀ (l:List Spot) (gn sz:Nat) (nl:Bool),(sz=2∨nl=true∧l=[])→l.length<1000000 →
 DCall prog G 88 [.one (.vec 0 gn 0 l.length),.one (.im (.fn (.func 42) []))] [.vec sz (p6 (l.map m8)) gn nl] (fun d o=>d=.tup []∧∃ l':List Spot,l'.Perm l∧(l'.Pairwise fun a b=>¬ bt b a<0)∧o=[.vec sz (p6 (l'.map m8)) gn nl])
theorem rM {l' l:List Spot} (hp:l'.Perm l) (hn:l.Nodup) (h:l'.Pairwise fun a b=>¬ bt b a<0):SortedS l':=by
 have hn':l'.Nodup:=hp.symm.nodup hn
 unfold SortedS
 refine(List.Pairwise.and h hn').imp fun {a b} ⟨h1,h2⟩=>?_
 rw[ordS_lt] at h1
 exact(jN h2).resolve_right h1
theorem fV:∀ (ys l:List Spot),(ys.foldl (fun l x=>G5 x l) l).length≤l.length+ys.length
 | [],l=>by simp
 | y :: ys,l=>by
   have:=fV ys (G5 y l)
   have h1:(G5 y l).length≤l.length+1:=by unfold G5;split<;>simp
   rw[List.foldl_cons,List.length_cons];omega
theorem fw:∀ (ls:List ChLoop),(∀ x∈ls,x.links.length≤12)→(ls.flatMap fun x=>x.links.map H1).length≤12*ls.length
 | [],_=>by simp
 | x :: ls,h=>by
   have h1:=h x (by simp)
   have h2:=fw ls fun y hy=>h y (by simp[hy])
   rw[List.flatMap_cons,List.length_append,List.length_map,List.length_cons];omega
theorem jb {α:Type} {y:α}:∀ {l:List α} {i:Nat},l[i]?=some y→(y :: l.eraseIdx i).Perm l
 | [],i,h=>by simp at h
 | x :: l,0,h=>by simp at h;subst h;simp
 | x :: l,i+1,h=>by
   rw[List.eraseIdx_cons_succ]
   exact(List.Perm.swap x y _).trans ((jb (by simpa using h)).cons x)
theorem ou (c:Chains) (D:List (Int×Int)) (hOk:OkC c) (hsm:r7 c) (hSF:Y7 G):zP prog G 85 [.one (.im (.raw (.slice none 0 0))),.one (.im (.fn (.func 86) [.ip [i8 c D (B0 c.reg c.lets)]]))] (.one (.im (.sl ((m5 c).map m8)))):=by
 refine zf func85 ntmps85 ?_
 try simp only[iv]
 simp only[i8]
 have hs:=trivial
 repeat' first|(with_reducible first|refine zz ?_|refine zE [0,1,2,4,5,6,7] ?_)|simp -dsimp[hs]
 all_goals try clear hs
 refine Y8 (Weak.nilCell 0 0 rfl rfl) ?_
 have hs:True:=trivial
 all_goals try simp -dsimp[hs]
 all_goals try clear hs
 refine O1 (f:=86) (by simp;exact rfl) (by rfl) call86 ?_
 generalize hR:LoopD.mk _ _ _ _ _ _ _=R
 have hR1:R.st=.ready:=by rw[← hR]
 have hR2:R.pend=none:=by rw[← hR]
 have hR3:R.at .ready none=R:=by rw[← hR];rfl
 have hR4:=(congrArg LoopD.nt hR).symm
 have hR5:=(congrArg LoopD.tm hR).symm
 have hR6:=(congrArg LoopD.ps hR).symm
 have hR7:=(congrArg LoopD.asg hR).symm
 have hR8:=(congrArg LoopD.body hR).symm
 dsimp only at hR4 hR5 hR6 hR7 hR8
 clear hR
 refine j5 func86 rfl ntmps86 (by simp) rfl ?_
 have hR9:∀ objs:List DObj,(R.tm.map fun x=>(x.1,dw 5 objs x.2))=R.tm:=by intro objs;rw[hR5];simp
 have hs:=za hR1 (za hR2 hR3)
 repeat' first|(with_reducible first|refine zz ?_|refine zE [0,1,2,3,4,5,6,7,8,9,10,12,18,19,20,21,25,26,27,28,37,39,50,54,56,65,66,67,68,74] ?_)|simp -dsimp[hs]
 all_goals try clear hs
 refine i7 (ι:={ p:Nat×List Spot // p.1≤c.loops.length∧((c.loops.drop p.1).flatMap fun x=>x.links.map H1).foldl (fun l x=>G5 x l) p.2=(A3 c).foldl (fun l x=>G5 x l) [] }) (fun p=>⟨76,[(0,.one (.yld 3)),(1,.one (.im (.ip [i8 c D (B0 c.reg c.lets)]))),(3,.one (.map 4)),(18,.one (.im (.sl (c.loops.map j9)))),(19,iv (c.loops.length:Int)),(20,iv (p.1.1:Int))],[.row [.vec 2 0 0 0],.vec 2 [] 0 true,.vec 0 [] 0 true,.loop R,.map [.int .i64,.int .i64] (N9 p.1.2)]⟩) (fun p=>c.loops.length-p.1.1) ⟨(0,[]),by simp[A3]⟩ (zv [0,1,3,18,19,20] (by simp[i8,N9])) ?_
 rintro⟨⟨i,L⟩,hi,hL⟩
 simp only at hi hL
 simp only[iv,i8]
 by_cases hlt:i<c.loops.length
 ·have hx:c.loops[i]?=some c.loops[i]:=by simp[hlt]
  have hw:IntKind.i64.wrap ((i:Int)+1)=((i+1:Nat):Int):=o6 (by omega) (by have:=hsm.2.2.1;omega)
  rw[List.drop_eq_getElem_cons hlt,List.flatMap_cons,List.foldl_append] at hL
  have hln:=hsm.2.2.2 c.loops[i] (List.getElem_mem hlt)
  generalize hxe:c.loops[i]=x at *
  have hs:=za hR1 (za hR2 (za hR3 (za hx (za hlt hxe))))
  repeat' first|(with_reducible first|refine zz ?_|refine zE [0,1,2,3,4,5,6,7,8,9,10,12,18,19,20,21,25,26,27,28,37,39,50,54,56,65,66,67,68,74] ?_)|simp -dsimp[hs]|refine j7 ?_ ?_<;>intro h<;>try simp only[j0] at h
  all_goals try clear hs
  refine i7 (ι:={ p:Nat×List Spot // p.1≤x.links.length∧((x.links.drop p.1).map H1).foldl (fun l x=>G5 x l) p.2=(x.links.map H1).foldl (fun l x=>G5 x l) L }) (fun p=>⟨76,[(0,.one (.yld 3)),(1,.one (.im (.ip [i8 c D (B0 c.reg c.lets)]))),(3,.one (.map 4)),(18,.one (.im (.sl (c.loops.map j9)))),(19,iv (c.loops.length:Int)),(20,iv (i:Int)),(25,.one (.im (.sl (x.links.map C5)))),(26,iv (x.links.length:Int)),(27,iv (p.1.1:Int))],[.row [.vec 2 0 0 0],.vec 2 [] 0 true,.vec 0 [] 0 true,.loop R,.map [.int .i64,.int .i64] (N9 p.1.2)]⟩) (fun p=>x.links.length-p.1.1) ⟨(0,L),by simp⟩ (zw [0,1,3,18,19,20,25,26,27] 5 (by clear hR4 hR5 hR6 hR7 hR8;simp[i8,hR1,hR2,hR3,hR9,LoopD.at_eta])) ?_
  rintro⟨⟨u,L'⟩,hu,hL'⟩
  simp only at hu hL'
  simp only[iv,i8]
  by_cases hlu:u<x.links.length
  ·have hy:x.links[u]?=some x.links[u]:=by simp[hlu]
   have hwu:=zk u
   have c2:=pb (G:=G) x.links[u]
   rw[List.drop_eq_getElem_cons hlu,List.map_cons,List.foldl_cons] at hL'
   have hput:=yK L' x.links[u].drawing x.links[u].dim
   have hsp:G5 (H1 x.links[u]) L'=G5 ⟨x.links[u].drawing,x.links[u].dim⟩ L':=rfl
   rw[hsp] at hL'
   simp only[B8,qQ,C5,List.map_cons,List.map_nil] at c2
   have hs:=za hR1 (za hR2 (za hR3 (za hy (za hlu (za hwu hput)))))
   repeat' first|(with_reducible first|refine zz ?_|refine zE [0,1,2,3,4,5,6,7,8,9,10,12,18,19,20,21,25,26,27,28,37,39,50,54,56,65,66,67,68,74] ?_)|simp -dsimp[hs]|refine zp c2 ?_|refine j7 ?_ ?_<;>intro h<;>try simp only[j0] at h
   all_goals try clear hs
   exact zn ⟨(u+1,G5 ⟨x.links[u].drawing,x.links[u].dim⟩ L'),by omega,hL'⟩ (zw [0,1,3,18,19,20,25,26,27] 5 (by clear hR4 hR5 hR6 hR7 hR8;simp[i8,hR1,hR2,hR3,hR9,LoopD.at_eta]))
  ·rw[List.drop_eq_nil_of_le (by omega)] at hL'
   have hLn:L'=(x.links.map H1).foldl (fun l x=>G5 x l) L:=hL'
   rw[← hLn] at hL
   have hs:=za hR1 (za hR2 (za hR3 (za hlu hw)))
   repeat' first|(with_reducible first|refine zz ?_|refine zE [0,1,2,3,4,5,6,7,8,9,10,12,18,19,20,21,25,26,27,28,37,39,50,54,56,65,66,67,68,74] ?_)|simp -dsimp[hs]|refine j7 ?_ ?_<;>intro h<;>try simp only[j0] at h
   all_goals try clear hs
   exact zn ⟨(i+1,L'),by omega,hL⟩ (zv [0,1,3,18,19,20] (by simp[i8]))
 rw[List.drop_eq_nil_of_le (by omega)] at hL
 have hL0:L=(A3 c).foldl (fun l x=>G5 x l) []:=hL
 have hnd:L.Nodup:=by rw[hL0];exact bS _ _ (by simp)
 have hs:=za hR1 (za hR2 (za hR3 hlt))
 repeat' first|(with_reducible first|refine zz ?_|refine zE [0,1,2,3,4,5,6,7,8,9,10,12,18,19,20,21,25,26,27,28,37,39,50,54,56,65,66,67,68,74] ?_)|simp -dsimp[hs]|refine j7 ?_ ?_<;>intro h<;>try simp only[j0] at h
 all_goals try clear hs
 intro l c0 b hll hln hlc
 rw[vC] at hll
 have hP1:(L.zip l).map (·.1)=L:=List.map_fst_zip (by omega)
 have hP2:(L.zip l).map (·.2)=l:=List.map_snd_zip (by omega)
 have hPn:((L.zip l).map (·.2)).Nodup:=by rw[hP2];exact hln
 generalize L.zip l=P at *
 subst hP1
 subst hP2
 have hs:=trivial
 repeat' first|with_reducible refine zz ?_|simp -dsimp[hs]
 all_goals try clear hs
 obtain⟨f,hf⟩:∃ f,f=S7 (B0 c.reg c.lets):=⟨_,rfl⟩
 have hR8':∀ objs:List DObj,(R.tm.map fun x=>(x.1,dw 6 objs x.2))=R.tm:=by intro objs;rw[hR5];simp
 have hR4':∀ objs:List DObj,(R.tm.map fun x=>(x.1,dw 4 objs x.2))=R.tm:=by intro objs;rw[hR5];simp
 refine ya ⟨76,[(0,.one (.yld 3)),(1,.one (.im (.ip [i8 c D (B0 c.reg c.lets)]))),(3,.one (.im (.mp [.int .i64,.int .i64] (bT ((P.map (·.1)).filter f)))))],[.row [.vec 2 0 0 0],.vec 2 [] 0 true,.vec 0 [] 0 true,.loop R]⟩ ?_ ?_
 refine i7 (ι:={ p:List Nat×List Nat×List Spot // p.2.1=(N7 f P p.1).map (·.2)∧p.2.2=(N7 f P p.1).map (·.1) }) (fun p=>⟨76,[(0,.one (.yld 3)),(1,.one (.im (.ip [i8 c D (B0 c.reg c.lets)]))),(3,.one (.map 4)),(37,.one (.itr 5))],[.row [.vec 2 0 0 0],.vec 2 [] 0 true,.vec 0 [] 0 true,.loop R,.map [.st p.1.2.1 c0 b,.int .i64,.int .i64] (N9 p.1.2.2),.liter b p.1.1 c0]⟩) (fun p=>lQ P p.1.1) ⟨([],P.map (·.2),P.map (·.1)),by simp[su]⟩ (zv [0,1,3,37] (by simp[i8])) ?_
 rintro⟨⟨seen,l,K⟩,hl,hK⟩
 simp only at hl hK
 simp only[i8]
 have hs:=za hR1 (za hR2 hR3)
 repeat' first|(with_reducible first|refine zz ?_|refine zE [0,1,2,3,4,5,6,7,8,9,10,12,18,19,20,21,25,26,27,28,37,39,50,54,56,65,66,67,68,74] ?_)|simp -dsimp[hs]|refine j7 ?_ ?_<;>intro h<;>try simp only[j0] at h|with_reducible refine Z8 (fun h=>?_);(try simp only[List.map_eq_nil_iff] at h);(try subst h);try simp -dsimp[hs]|with_reducible refine And.intro ?_ ?_
 all_goals try clear hs
 ·have hend:K=(P.map (·.1)).filter f:=by rw[hK];exact sv (by rw[← hl];assumption)
  have hKn:K.Nodup:=by rw[hend];exact hnd.filter _
  exact⟨rfl,Weak.of_drop [0,1,3] 4 (by simp) (by simp) (by clear hR4 hR5 hR6 hR7 hR8;simp[i8,hend,hR1,hR2,hR3,hR4',LoopD.at_eta])⟩
 ·intro i s xa xb hx hs1 hns
  obtain⟨y,hy,rfl,rfl⟩:=sT hx
  have hgP:(N7 f P seen)[i]?=some (y,s):=by
   rw[hK,List.getElem?_map,Option.map_eq_some_iff] at hy
   rw[hl,List.getElem?_map,Option.map_eq_some_iff] at hs1
   obtain⟨p,hp1,hp2⟩:=hy
   obtain⟨q,hq1,hq2⟩:=hs1
   rw[hp1] at hq1
   cases hq1
   rw[hp1,← hp2,← hq2]
  have hmem:(y,s)∈P:=(List.mem_filter.1 (List.mem_of_getElem? hgP)).1
  have hlt2:=rz hmem hns
  have hln2:l.Nodup:=by rw[hl];exact(hPn.sublist ((List.filter_sublist).map _))
  have hKn:K.Nodup:=by rw[hK];exact(hnd.sublist ((List.filter_sublist).map _))
  have hidx:=nQ hln2 hs1
  have hmi:=pA hKn hy
  have hmd:=yL hKn hy
  by_cases hk3:(m9 (B0 c.reg c.lets) y.drawing).kind=3
  ·have hfy:f y=false:=by rw[hf];simp[S7,hk3]
   have hd:=sw (f:=f) hPn hgP hfy
   have hl2:l.eraseIdx i=(N7 f P (seen++[s])).map (·.2):=by rw[hd,eB,← hl]
   have hK2:K.eraseIdx i=(N7 f P (seen++[s])).map (·.1):=by rw[hd,eB,← hK]
   have hs:=za hR1 (za hR2 (za hR3 (za hx (za hidx (za hk3 (za hmi hmd))))))
   repeat' first|with_reducible refine zz ?_|simp -dsimp[hs]|refine zM 13 76 9 [0,1,3,5,7,8,9,10,12,18,19,20,21,25,26,27,28,37,39,50,54,56,65,66,67,68,74] ?_|with_reducible refine zE [0,1,2,3,4,5,6,7,8,9,10,12,18,19,20,21,25,26,27,28,37,39,50,54,56,65,66,67,68,74] ?_|refine j7 ?_ ?_<;>intro h<;>try simp only[j0] at h
   all_goals try clear hs
   exact At.round ⟨(seen++[s],l.eraseIdx i,K.eraseIdx i),hl2,hK2⟩ hlt2 (zw [0,1,3,37] 6 (by clear hR4 hR5 hR6 hR7 hR8;simp[i8,hR1,hR2,hR3,hR8',LoopD.at_eta]))
  ·have hfy:f y=true:=by rw[hf];simp[S7,hk3]
   have hd:=pD (f:=f) (seen:=seen) hPn hmem hfy
   have hl2:l=(N7 f P (seen++[s])).map (·.2):=by rw[hd,← hl]
   have hK2:K=(N7 f P (seen++[s])).map (·.1):=by rw[hd,← hK]
   have hs:=za hR1 (za hR2 (za hR3 (za hx (za hidx (za hk3 (za hmi hmd))))))
   repeat' first|with_reducible refine zz ?_|simp -dsimp[hs]|refine zM 13 76 9 [0,1,3,5,7,8,9,10,12,18,19,20,21,25,26,27,28,37,39,50,54,56,65,66,67,68,74] ?_|with_reducible refine zE [0,1,2,3,4,5,6,7,8,9,10,12,18,19,20,21,25,26,27,28,37,39,50,54,56,65,66,67,68,74] ?_|refine j7 ?_ ?_<;>intro h<;>try simp only[j0] at h
   all_goals try clear hs
   exact At.round ⟨(seen++[s],l,K),hl2,hK2⟩ hlt2 (zw [0,1,3,37] 6 (by clear hR4 hR5 hR6 hR7 hR8;simp[i8,hR1,hR2,hR3,hR8',LoopD.at_eta]))
 have hKn:((P.map (·.1)).filter f).Nodup:=hnd.filter _
 have hKf:(P.map (·.1)).filter f=((A3 c).foldl (fun l x=>G5 x l) []).filter (S7 (B0 c.reg c.lets)):=by rw[hL0,hf]
 have hKl:((P.map (·.1)).filter f).length≤1000:=by
  have h1:=List.length_filter_le f (P.map (·.1))
  have h2:=fV (A3 c) []
  have h3:=fw c.loops hsm.2.2.2
  have h4:=hsm.2.2.1
  rw[← hL0] at h2
  simp only[A3,List.length_nil] at h2
  omega
 generalize (P.map (·.1)).filter f=K at *
 have hs:=za hR1 (za hR2 hR3)
 repeat' first|(with_reducible first|refine zz ?_|refine zE [0,1,2,3,4,5,6,7,8,9,10,12,18,19,20,21,25,26,27,28,37,39,50,54,56,65,66,67,68,74] ?_)|simp -dsimp[hs]
 all_goals try clear hs
 refine i7 (ι:={ p:List Spot×Option (List Value×List IC)×Nat×Bool×List Spot // (p.2.2.2.2++p.1).Perm K }) (fun p=>⟨76,[(0,.one (.yld 3)),(9,.one (.vec 4 p.1.2.2.1 0 p.1.2.2.2.2.length)),(54,.one (.itr 5))],[.row [.vec 2 0 0 0],.vec 2 [] 0 true,.vec 0 [] 0 true,.loop R,.vec 2 (p6 (p.1.2.2.2.2.map m8)) p.1.2.2.1 p.1.2.2.2.1,.iter (bT p.1.1) p.1.2.1]⟩) (fun p=>p.1.1.length) ⟨(K,none,0,true,[]),by simp⟩ (zv [0,9,54]) ?_
 rintro⟨⟨left,cur,gn,nl,out⟩,hpm⟩
 simp only at hpm
 have hol:out.length+left.length≤1000:=by
  have:=hpm.length_eq
  rw[List.length_append] at this;omega
 have hs:=za hR1 (za hR2 hR3)
 repeat' first|(with_reducible first|refine zz ?_|refine zE [0,1,2,3,4,5,6,7,8,9,10,12,18,19,20,21,25,26,27,28,37,39,50,54,56,65,66,67,68,74] ?_)|simp -dsimp[hs]|refine j7 ?_ ?_<;>intro h<;>try simp only[j0] at h|with_reducible refine Z8 (fun h=>?_);(try simp only[List.map_eq_nil_iff] at h);(try subst h);try simp -dsimp[hs]|with_reducible refine And.intro ?_ ?_
 all_goals try clear hs
 ·have hl0:left=[]:=by simpa[bT] using ‹bT left=[]›
  rw[hl0,List.append_nil] at hpm
  have hon:out.Nodup:=hpm.symm.nodup hKn
  have c5:DCall prog G 88 [.one (.vec 0 gn 0 out.length),.one (.im (.fn (.func 42) []))] [.vec 2 (p6 (out.map m8)) gn nl] (fun d o=>d=.tup []∧o=[.vec 2 (p6 ((m5 c).map m8)) gn nl]):=
   (hSF out gn 2 nl (.inl rfl) (by omega)).mono fun d o ⟨h1,l',h2,h3,h4⟩=>⟨h1,by rw[h4,lW hOk (by rw[← hKf];exact h2.trans hpm) (rM h2 hon h3)]⟩
  have hSl:out.length=(m5 c).length:=by
   have h1:=(iN hOk).length_eq
   have h2:=hpm.length_eq
   rw[h1,h2,hKf]
  generalize m5 c=S at *
  have hSl':S.length≤1000:=by omega
  have hs:=za hR1 (za hR2 hR3)
  repeat' first|(with_reducible first|refine zz ?_|refine zE [0,1,2,3,4,5,6,7,8,9,10,12,18,19,20,21,25,26,27,28,37,39,50,54,56,65,66,67,68,74] ?_)|simp -dsimp[hs]|refine CallE.embed [4] (c5) ?_ ?_ ?_ ?_ ?_ ?_;(focus simp[E0];done);(focus simp;done);(focus simp;done);(focus simp;done);(focus refine D4 ?_;simp[E0,F0];done);try simp -dsimp[x9,E0,hs]
  all_goals try clear hs
  rw[hSl]
  refine i7 (ι:={ p:Nat×Nat×Nat×Bool // p.1≤S.length∧(p.2.2.1=2∨p.2.2.2=true) }) (fun p=>⟨76,[(0,.one (.yld 3)),(65,.one (.im (.sl (S.map m8)))),(66,iv (S.length:Int)),(67,iv (p.1.1:Int))],[.row [.vec 2 p.1.2.1 0 p.1.1],.vec 2 [] 0 true,.vec p.1.2.2.1 (p6 ((S.take p.1.1).map m8)) p.1.2.1 p.1.2.2.2,.loop R]⟩) (fun p=>S.length-p.1.1) ⟨(0,0,0,true),by simp⟩ (zw [0,65,66,67] 4 (by clear hR4 hR5 hR6 hR7 hR8;simp[hR1,hR2,hR3,hR4',LoopD.at_eta])) ?_
  rintro⟨⟨k,gn,sz,nl⟩,hk,hz⟩
  simp only at hk hz
  simp only[iv]
  have htk:(p6 ((S.map m8).take k)).take k=p6 ((S.map m8).take k):=List.take_of_length_le (by simp[o3];omega)
  by_cases hlt:k<S.length
  ·have hx:S[k]?=some S[k]:=by simp[hlt]
   have hw:=zk k
   have hmin:min k S.length=k:=Nat.min_eq_left (by omega)
   have hsn:(S.map m8).take (k+1)=(S.map m8).take k++[m8 S[k]]:=by
    rw[List.take_succ];simp[hx]
   have hs:=za hR1 (za hR2 (za hR3 (za hx (za hw (za hlt (za hz hmin))))))
   repeat' first|(with_reducible first|refine zz ?_|refine And.intro (by omega) ?_|refine zE [0,1,2,3,4,5,6,7,8,9,10,12,18,19,20,21,25,26,27,28,37,39,50,54,56,65,66,67,68,74] ?_)|simp -dsimp[hs]|with_reducible refine At.yield_end ?_;simp -dsimp[hs]|refine cN ?_ ?_<;>simp -dsimp[hs]|refine U7 ?_;simp -dsimp[T2,hR4,hR5,hR6,hR7,hR8,hs]|refine j7 ?_ ?_<;>intro h<;>try simp only[j0] at h
   all_goals try clear hs
   all_goals try omega
   exact zn ⟨(k+1,gn+1,2,false),by simp;omega⟩ (zw [0,65,66,67] 4 (by clear hR4 hR5 hR6 hR7 hR8;simp[hR1,hR2,hR3,hR4',LoopD.at_eta,hsn,htk,aU]))
  ·have hkl:k=S.length:=by omega
   subst hkl
   have hall:(S.map m8).take S.length=S.map m8:=List.take_of_length_le (by simp)
   rw[hall] at htk
   have hs:=za hR1 (za hR2 (za hR3 (za hall htk)))
   repeat' first|(with_reducible first|refine zz ?_|refine zr ?_ (by simp -dsimp[r8,hs];exact rfl)|refine ze ?_ (by simp -dsimp[r8,hs];exact rfl)|refine zE [0,1,2,3,4,5,6,7,8,9,10,12,18,19,20,21,25,26,27,28,37,39,50,54,56,65,66,67,68,74] ?_)|simp -dsimp[r8,hs]|with_reducible show r8 _ _ _ _ _ _ _ _;simp -dsimp[r8,hs]|refine j7 ?_ ?_<;>intro h<;>try simp only[j0] at h
   all_goals try clear hs
 ·intro i xa xb hi
  obtain⟨y,hy,rfl,rfl⟩:=sU hi
  rw[nY]
  have hlen:(left.eraseIdx i).length<left.length:=by
   have:=e7 hy
   rw[List.length_eraseIdx];split<;>omega
  have hp2:((out++[y])++left.eraseIdx i).Perm K:=by
   refine List.Perm.trans ?_ hpm
   rw[List.append_assoc]
   refine List.Perm.append_left _ ?_
   exact jb hy
  have hs:=za hR1 (za hR2 hR3)
  repeat' first|(with_reducible first|refine zz ?_|refine And.intro (by omega) ?_|refine zE [0,1,2,3,4,5,6,7,8,9,10,12,18,19,20,21,25,26,27,28,37,39,50,54,56,65,66,67,68,74] ?_)|simp -dsimp[hs]|refine j7 ?_ ?_<;>intro h<;>try simp only[j0] at h
  all_goals try clear hs
  all_goals try omega
  exact At.round ⟨(left.eraseIdx i,some ([.int .i64 y.drawing,.int .i64 y.dim],[.raw (.bool true)]),gn+1,false,out++[y]),hp2⟩ hlen (zw [0,9,54] 6 (by clear hR4 hR5 hR6 hR7 hR8;simp[hR1,hR2,hR3,hR8',LoopD.at_eta]))
theorem rU (d:Dim):zP prog G 53 [G2 d] (iv (V5 d)):=by
 refine zf func53 ntmps53 ?_
 try simp only[G2]
 repeat' first|(with_reducible first|refine zz ?_|refine zx ?_|refine zE [0,1,2] ?_)|simp -dsimp
 simp[V5]
theorem uF (d:Dim) (g:Int) (hd:A4 d=true) (h0:0≤g) (h1:g≤2000000000):zP prog G 17 [G2 d,iv g] (G2 (C2 d g)):=by
 refine zf func17 ntmps17 ?_
 try simp only[G2,iv]
 have c1:=rU (G:=G) d
 have hdl:=(F8 d).1 hd
 have hm:0≤V5 d∧V5 d≤1000000000:=by unfold V5;omega
 have hw1:IntKind.i64.wrap (V5 d-g)=V5 d-g:=o6 (by omega) (by omega)
 have hw2:IntKind.i64.wrap (V5 d+g)=V5 d+g:=o6 (by omega) (by omega)
 simp only[G2,l5,List.map_cons,List.map_nil] at c1
 have hs:=za hw1 hw2
 repeat' first|(with_reducible first|refine zz ?_|refine zr ?_|refine zE [0,1,2,4,5] ?_)|simp -dsimp[hs]|refine zp c1 ?_
 all_goals simp[C2]
attribute [simp] p9 dO A1 C3 nilV N6 ZK
theorem ge (c:Chains) (D:List (Int×Int)) (hOk:OkC c) (hsm:r7 c) (hSF:Y7 G):zP prog G 39 [.one (.im (.fn (.func 86) [.ip [i8 c D (B0 c.reg c.lets)]]))] (.one (.im (.sl ((m5 c).map m8)))):=by
 refine zf func39 ntmps39 ?_
 try simp only[iv]
 have c1:=ou (G:=G) c D hOk hsm hSF
 simp only[i8] at c1
 simp only[i8]
 repeat' first|(with_reducible first|refine zz ?_|refine zx ?_)|simp -dsimp|refine zp c1 ?_|with_reducible refine qv [0,2] ?_;simp -dsimp
def fx (c:Chains):List Spot:=if j6 c=0 then m5 c else []
theorem nA (c:Chains) (hG:B4 G) (hC:K1 G) (hsm:r7 c) (hSF:Y7 G):zP prog G 7 [M7 c] (.tup [x8 (fx c),iv (j6 c)]):=by
 refine zf func7 ntmps7 ?_
 try simp only[M7]
 have c1:=O0 c hG hC hsm
 simp only[x8]
 by_cases h00:j6 c=0
 ·have hOk:=mV h00
  have c2:=iO (G:=G) (i8 c (x6 c) (B0 c.reg c.lets))
  have c3:=ge (G:=G) c (x6 c) hOk hsm hSF
  rw[h00] at c1
  rw[fx,if_pos h00,h00]
  simp only[H5,h00,if_true,i8] at c1
  simp only[i8] at c2 c3
  have hs:=trivial
  repeat' first|(with_reducible first|refine zz ?_|refine zr ?_|refine zE [0,1,2,3,4,5,12] ?_)|simp -dsimp[hs]|refine zp c1 ?_|refine zp c2 ?_|refine zp c3 ?_|refine j7 ?_ ?_<;>intro h<;>try simp only[j0] at h
 ·obtain⟨X,hX⟩:=F9 c
  rw[hX] at c1
  rw[fx,if_neg h00]
  have hs:=h00
  repeat' first|(with_reducible first|refine zz ?_|refine zr ?_|refine zE [0,1,2,3,4,5,12] ?_)|simp -dsimp[hs]|refine zp c1 ?_|refine j7 ?_ ?_<;>intro h<;>try simp only[j0] at h
theorem gl (l:List Spot) (hl:l.length<1000000):zP prog G 27 [x8 l,x8 l] (bv true):=by
 refine zf func27 ntmps27 ?_
 try simp only[iv]
 simp only[x8]
 have hs:=trivial
 repeat' first|(with_reducible first|refine zz ?_|refine zE [0,1,4,5,10,14,25] ?_)|simp -dsimp[hs]|refine j7 ?_ ?_<;>intro h<;>try simp only[j0] at h
 refine i7 (ι:={ i:Nat // i≤l.length }) (fun p=>⟨26,[(0,.one (.im (.sl (l.map m8)))),(1,.one (.im (.sl (l.map m8)))),(5,iv (p.1:Int))],[]⟩) (fun p=>l.length-p.1) ⟨0,by simp⟩ (zv [0,1,5]) ?_
 rintro⟨i,hi⟩
 simp only[iv]
 by_cases hlt:i<l.length
 ·have hx:l[i]?=some l[i]:=by simp[hlt]
  have hw:=zk i
  have hs:=za hx (za hw hlt)
  repeat' first|with_reducible refine zz ?_|simp -dsimp[hs]|refine zM 6 26 9 [0,1,4,5,10,14,25] ?_|with_reducible refine zE [0,1,4,5,10,14,25] ?_|refine j7 ?_ ?_<;>intro h<;>try simp only[j0] at h
  exact zn ⟨i+1,by omega⟩ (zw [0,1,5] 0)
 ·have hs:=hlt
  repeat' first|(with_reducible first|refine zz ?_|refine zr ?_|refine zE [0,1,4,5,10,14,25] ?_)|simp -dsimp[hs]|refine j7 ?_ ?_<;>intro h<;>try simp only[j0] at h
end Go.Proofs
