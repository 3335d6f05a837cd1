/- Part 19 of the proofs. -/
import Derived.Test.YtpcoahkgkgmmlaaGreatDoorR08
import Derived.Test.YtpcoahkgkgmmlaaGreatDoorR13
import Derived.Test.YtpcoahkgkgmmlaaGreatDoorR14
import Derived.Test.YtpcoahkgkgmmlaaGreatDoorR15
import Derived.Test.YtpcoahkgkgmmlaaGreatDoorR16
import Derived.Test.YtpcoahkgkgmmlaaGreatDoorR17
import Derived.Test.YtpcoahkgkgmmlaaGreatDoorR18
set_option linter.all false
set_option linter.deprecated false
set_option maxHeartbeats 100000000
namespace Go.Proofs
open Go Go.Ab Tryz
variable {G:Cr}
attribute [simp] p9 dO F1 U3 A1 C3 nilV N6 ZK
def kr (a b:Issue):Int:=bu [a.drawing-b.drawing,a.letter-b.letter]
def ox (x:Issue):Prop:=0≤x.drawing∧x.drawing≤1000000000∧0≤x.letter∧x.letter≤1000000000
theorem zA (a b:Issue) (ha:ox a) (hb:ox b):DCall prog G 98 [.agg ((e8 a).map wk),.agg ((e8 b).map wk)] [] (fun d o=>d=iv (kr a b)∧o=[]):=by
 refine DCall.drop ?_
 obtain⟨a1,a2,a3,a4⟩:=ha
 obtain⟨b1,b2,b3,b4⟩:=hb
 have w1:IntKind.i64.wrap (a.drawing-b.drawing)=a.drawing-b.drawing:=o6 (by omega) (by omega)
 have w2:IntKind.i64.wrap (a.letter-b.letter)=a.letter-b.letter:=o6 (by omega) (by omega)
 have c3:=yh (G:=G) [a.drawing-b.drawing,a.letter-b.letter] (by simp)
 have hE:kr a b=bu [a.drawing-b.drawing,a.letter-b.letter]:=rfl
 rw[← hE] at c3
 simp only[e8,List.map_cons,List.map_nil,rI,wk]
 refine j5 func98 rfl ntmps98 (by simp) rfl ?_
 have hs:=za w1 w2
 repeat' first|(with_reducible first|refine zz ?_|refine zr ?_|refine zE [0,1,2,3,4] ?_)|simp -dsimp[hs]|refine zt c3 ?_ ?_ ?_;(focus simp;done);focus (simp;done)|with_reducible refine And.intro ?_ ?_
theorem AR (n:Int):zP prog G 99 [iv n] (bv (decide (8<n))):=by
 refine zf func99 ntmps99 ?_
 try simp only[iv]
 repeat' first|(with_reducible first|refine zz ?_|refine zx ?_|refine zE [0,2] ?_)|simp -dsimp
theorem xx (a b:Dim):(a.nominal=b.nominal∧a.lower=b.lower∧a.upper=b.upper)↔a=b:=by
 constructor
 ·intro⟨h1,h2,h3⟩;cases a;cases b;simp_all
 ·rintro rfl;simp
theorem vA (a b:List Dim) (ha:a.length<1000000) (hb:b.length<1000000):zP prog G 95 [.one (.im (.sl (a.map l5))),.one (.im (.sl (b.map l5)))] (bv (decide (a=b))):=by
 refine zf func95 ntmps95 ?_
 try simp only[iv]
 by_cases hl:a.length=b.length
 ·have hli:(a.length:Int)=b.length:=by omega
  have hs:=za hl hli
  repeat' first|(with_reducible first|refine zz ?_|refine zE [0,1,4,5,10,12,13,14,24] ?_)|simp -dsimp[hs]|refine j7 ?_ ?_<;>intro h<;>try simp only[j0] at h
  refine i7 (ι:={ k:Nat // k≤b.length∧a.take k=b.take k }) (fun p=>⟨26,[(0,.one (.im (.sl (a.map l5)))),(1,.one (.im (.sl (b.map l5)))),(12,iv (b.length:Int)),(13,iv (p.1:Int))],[]⟩) (fun p=>b.length-p.1) ⟨0,by simp⟩ (zv [0,1,12,13] (by simp[hl])) ?_
  rintro⟨k,hk,he⟩
  simp only[iv]
  by_cases hlt:k<b.length
  ·have hw:=zk k
   have hka:k<a.length:=by omega
   have hta:a.take (k+1)=a.take k++[a[k]]:=List.take_succ_eq_append_getElem hka
   have htb:b.take (k+1)=b.take k++[b[k]]:=List.take_succ_eq_append_getElem hlt
   generalize hx:a[k]=x at *
   generalize hy:b[k]=y at *
   by_cases hxy:x=y
   ·have hs:=za hx (za hy (za hlt (za hka (za hw hxy))))
    repeat' first|with_reducible refine zz ?_|simp -dsimp[hs]|refine zM 6 26 9 [0,1,4,5,10,12,13,14,24] ?_|with_reducible refine zE [0,1,4,5,10,12,13,14,24] ?_|refine j7 ?_ ?_<;>intro h<;>try simp only[j0] at h
    all_goals exact zn ⟨k+1,by omega,by rw[hta,htb,he,hxy]⟩ (zv [0,1,12,13] (by simp[hl]))
   ·have hne:¬ a=b:=fun e=>hxy (by subst e;rw[← hx,← hy])
    have hxy':=mt (xx x y).1 hxy
    have hs:=za hx (za hy (za hlt (za hka hxy')))
    repeat' first|(with_reducible first|refine zz ?_|refine zr ?_)|simp -dsimp[hs]|refine zM 6 26 9 [0,1,4,5,10,12,13,14,24] ?_|with_reducible refine zE [0,1,4,5,10,12,13,14,24] ?_|refine j7 ?_ ?_<;>intro h<;>try simp only[j0] at h
    all_goals first|exact hne|(exact absurd (by assumption) hxy')|simp[hne]
  ·obtain rfl:k=b.length:=by omega
   rw[List.take_length,← hl,List.take_length] at he
   have hs:=hlt
   repeat' first|(with_reducible first|refine zz ?_|refine zr ?_|refine zE [0,1,4,5,10,12,13,14,24] ?_)|simp -dsimp[hs]|refine j7 ?_ ?_<;>intro h<;>try simp only[j0] at h
   all_goals simp[he]
 ·have hli:¬ (a.length:Int)=b.length:=by omega
  have hne:¬ a=b:=fun e=>hl (by rw[e])
  have hs:=za hl hli
  repeat' first|(with_reducible first|refine zz ?_|refine zr ?_|refine zE [0,1,4,5,10,12,13,14,24] ?_)|simp -dsimp[hs]|refine j7 ?_ ?_<;>intro h<;>try simp only[j0] at h
  all_goals simp[hne]
abbrev tz:={ x:Issue // ox x }
def xt (x:tz):List IC:=e8 x.1
theorem ba (a b:Issue):kr a b<0↔a.drawing<b.drawing∨a.drawing=b.drawing∧a.letter<b.letter:=by
 unfold kr bu bu bu
 repeat' split
 all_goals omega
def bi (G:Cr):Prop:=∀ (l:List tz) (gn sz:Nat) (nl:Bool),(sz=5∨nl=true∧l=[])→l.length<1000000 →
 DCall prog G 97 [.one (.vec 0 gn 0 l.length),.one (.im (.fn (.func 98) []))] [.vec sz (p6 (l.map xt)) gn nl] (fun d o=>d=.tup []∧∃ l':List tz,l'.Perm l∧(l'.Pairwise fun a b=>¬ kr b.1 a.1<0)∧o=[.vec sz (p6 (l'.map xt)) gn nl])
end Go.Proofs
namespace Go.Proofs
open Go Go.Ab Tryz
def dL (R:List Issue):Prop:=∀ a∈R,∀ b∈R,a.drawing=b.drawing→a.letter=b.letter→a=b
def pJ (x:Issue):List Issue→List Issue
 | []=>[x]
 | y :: r=>if kr x y<0 then x :: y :: r else y :: pJ x r
def cS (l:List Issue):List Issue:=l.foldr pJ []
theorem fT (x:Issue):∀ l,(pJ x l).Perm (x :: l)
 | []=>.refl _
 | y :: r=>by
   unfold pJ
   split
   ·exact .refl _
   ·exact((fT x r).cons y).trans (.swap x y r)
theorem aL:∀ l,(cS l).Perm l
 | []=>.refl _
 | x :: r=>(fT x _).trans ((aL r).cons x)
def K8 (l:List Issue):Prop:=l.Pairwise fun a b=>¬ kr b a<0
theorem gz (x:Issue):∀ l,K8 l→K8 (pJ x l)
 | [],_=>by simp[pJ,K8]
 | y :: r,h=>by
   have h':K8 (y :: r):=h
   unfold K8 at h
   rw[List.pairwise_cons] at h
   unfold pJ
   split
   ·rename_i hc
    unfold K8
    rw[List.pairwise_cons]
    refine⟨fun b hb=>?_,h'⟩
    rw[ba] at hc ⊢
    rcases List.mem_cons.1 hb with rfl|hb
    ·omega
    ·have:=h.1 b hb
     rw[ba] at this
     omega
   ·rename_i hc
    unfold K8
    rw[List.pairwise_cons]
    refine⟨fun b hb=>?_,gz x r h.2⟩
    rcases List.mem_cons.1 ((fT x r).mem_iff.1 hb) with rfl|hb
    ·exact hc
    ·exact h.1 b hb
theorem dY:∀ l,K8 (cS l)
 | []=>by simp[cS,K8]
 | x :: r=>gz x _ (dY r)
theorem dX {l l':List Issue} (hp:l'.Perm l) (hk:dL l) (hs:K8 l'):l'=cS l:=by
 refine List.Perm.eq_of_pairwise (le:=fun a b=>¬ kr b a<0) (fun a b ha hb h1 h2=>?_) hs (dY l) (hp.trans (aL l).symm)
 rw[ba] at h1 h2
 exact hk a (hp.mem_iff.1 ha) b ((aL l).mem_iff.1 hb) (by omega) (by omega)
theorem fy (l:List Issue):(cS l).length=l.length:=(aL l).length_eq
theorem wB {G:Cr} (hSF:bi G) {l:List Issue} (hT:∀ x∈l,ox x) (hk:dL l) (hl:l.length<1000000) (gn:Nat) (nl:Bool) :
 DCall prog G 97 [.one (.vec 0 gn 0 l.length),.one (.im (.fn (.func 98) []))] [.vec 5 (p6 (l.map e8)) gn nl] (fun d o=>d=.tup []∧o=[.vec 5 (p6 ((cS l).map e8)) gn nl]):=by
 have h:=hSF (l.attach.map fun x=>⟨x.1,hT x.1 x.2⟩) gn 5 nl (.inl rfl) (by simpa using hl)
 have e1:(l.attach.map fun x=>(⟨x.1,hT x.1 x.2⟩:tz)).map xt=l.map e8:=by
  rw[List.map_map]
  exact(List.map_attach_eq_pmap ..).trans (List.pmap_eq_map ..)
 rw[e1] at h
 simp only[List.length_map,List.length_attach] at h
 refine h.mono fun d o ⟨h1,l',h2,h3,h4⟩=>⟨h1,?_⟩
 have h5:(l'.map Subtype.val)=cS l:=by
  refine dX ?_ hk ?_
  ·have:=h2.map Subtype.val
   rw[List.map_map] at this
   refine this.trans ?_
   have e2:(l.attach.map (Subtype.val ∘ fun x=>(⟨x.1,hT x.1 x.2⟩:tz)))=l:=(List.map_attach_eq_pmap ..).trans ((List.pmap_eq_map ..).trans (List.map_id _))
   rw[e2]
  ·unfold K8
   rw[List.pairwise_map]
   exact h3
 rw[h4,← h5,List.map_map]
 rfl
def di (reg:List Issue) (x:Issue) (n:Int) (ds:List Dim):Issue:={ x with letter:=(C0 reg n:Int)+1,dims:=ds }
def X5 (reg:List Issue) (B:List (Int×Issue)) (f:Issue→List Dim×Int):List Int→Nat→List Issue→List Int→List Issue×List Int×Int
 | [],_,R,L=>(R,L,0)
 | n :: r,i,R,L=>if (f (m9 B n)).2≠0 then (R,L,(f (m9 B n)).2) else if (f (m9 B n)).1=(m9 B n).dims then X5 reg B f r (i+1) R L else
   X5 reg B f r (i+1) (R++[di reg (m9 B n) n (f (m9 B n)).1]) (L.set i ((C0 reg n:Int)+1))
theorem mN {reg:List Issue} {B:List (Int×Issue)} {f:Issue→List Dim×Int} (hreg:reg.length≤1000):∀ (r:List Int) (i:Nat) (R:List Issue) (L:List Int),r.Nodup→(∀ n∈r,(m9 B n).drawing=n∧0≤n∧n≤1000000000)→(∀ x∈R,ox x)→dL R →
 (∀ x∈R,x.drawing∈r→x.letter≤(C0 reg x.drawing:Int))→(∀ x∈(X5 reg B f r i R L).1,ox x)∧dL (X5 reg B f r i R L).1∧(X5 reg B f r i R L).1.length≤R.length+r.length∧(X5 reg B f r i R L).2.1.length=L.length
 | [],i,R,L,_,_,h1,h2,_=>⟨h1,h2,by simp[X5],rfl⟩
 | n :: r,i,R,L,hn,hB,h1,h2,h3=>by
   rw[List.nodup_cons] at hn
   have hr:∀ m∈r,(m9 B m).drawing=m∧0≤m∧m≤1000000000:=fun m hm=>hB m (List.mem_cons_of_mem _ hm)
   obtain⟨b1,b2,b3⟩:=hB n List.mem_cons_self
   unfold X5
   split
   ·exact⟨h1,h2,by simp,rfl⟩
   ·split
    ·obtain⟨k1,k2,k3,k4⟩:=mN (f:=f) hreg r (i+1) R L hn.2 hr h1 h2 fun x hx hm=>h3 x hx (List.mem_cons_of_mem _ hm)
     exact⟨k1,k2,by rw[List.length_cons];omega,k4⟩
    ·have hc:C0 reg n≤reg.length:=List.length_filter_le _ _
     have hd:(di reg (m9 B n) n (f (m9 B n)).1).drawing=n:=b1
     have hl:(di reg (m9 B n) n (f (m9 B n)).1).letter=(C0 reg n:Int)+1:=rfl
     generalize di reg (m9 B n) n (f (m9 B n)).1=y at *
     obtain⟨k1,k2,k3,k4⟩:=mN (f:=f) hreg r (i+1) (R++[y]) (L.set i ((C0 reg n:Int)+1)) hn.2 hr (fun x hx=>by
      rcases List.mem_append.1 hx with hx|hx
      ·exact h1 x hx
      ·simp at hx;subst hx
       exact⟨by omega,by omega,by omega,by omega⟩) (fun a ha b hb e1 e2=>by
      rcases List.mem_append.1 ha with ha|ha<;>rcases List.mem_append.1 hb with hb|hb
      ·exact h2 a ha b hb e1 e2
      ·simp at hb;subst hb
       have:=h3 a (by assumption) (by rw[e1,hd];exact List.mem_cons_self)
       rw[e1,hd] at this;omega
      ·simp at ha;subst ha
       have:=h3 b (by assumption) (by rw[← e1,hd];exact List.mem_cons_self)
       rw[← e1,hd] at this;omega
      ·simp at ha hb;rw[ha,hb]) (fun x hx hm=>by
      rcases List.mem_append.1 hx with hx|hx
      ·exact h3 x hx (List.mem_cons_of_mem _ hm)
      ·simp at hx;subst hx
       rw[hd] at hm;exact absurd hm hn.1)
     exact⟨k1,k2,by rw[List.length_append] at k3;simp at k3 ⊢;omega,by rw[k4,List.length_set]⟩
theorem pg {p:Option Issue} {x:Issue} {r:List Issue} {ds:List Int} (h:l4 p (x :: r)=some ds) :
 ∃ ds',l4 (some x) r=some ds'∧((∃ y,p=some y∧y.drawing=x.drawing∧x.letter=y.letter+1)∨((∀ y,p=some y→y.drawing<x.drawing)∧x.letter=1)):=by
 have hok:m3 x=true:=by
  cases hx:m3 x
  ·rw[fB hx] at h;cases h
  ·rfl
 cases p with
 | none =>
   simp only[l4,hok] at h
   split at h
   ·cases h
   ·split at h
    ·cases h
    ·rename_i hl
     obtain⟨ds',h1,h2⟩:=Option.map_eq_some_iff.1 h
     exact⟨ds',h1,.inr ⟨by simp,by simpa using hl⟩⟩
 | some y =>
   simp only[l4,hok] at h
   split at h
   ·cases h
   ·split at h
    ·rename_i hd
     split at h
     ·cases h
     ·rename_i hl
      exact⟨ds,h,.inl ⟨y,rfl,hd,by omega⟩⟩
    ·split at h
     ·cases h
     ·split at h
      ·cases h
      ·rename_i hl
       obtain⟨ds',h1,h2⟩:=Option.map_eq_some_iff.1 h
       exact⟨ds',h1,.inr ⟨fun y' e=>by cases e;omega,by simpa using hl⟩⟩
def fH (p:Option Issue) (d:Int):Int:=match p with|some y=>if y.drawing=d then y.letter else 0|none=>0
theorem cK (x:Issue) (r:List Issue) (d:Int):C0 (x :: r) d=(if x.drawing=d then 1 else 0)+C0 r d:=by
 unfold C0
 rw[List.filter_cons]
 by_cases h:x.drawing=d
 ·simp[h];omega
 ·simp[h]
theorem ap:∀ (l:List Issue) (p:Option Issue) (ds:List Int),l4 p l=some ds→(∀ y,p=some y→0≤y.letter) →
 (∀ y,p=some y→∀ x∈l,y.drawing<x.drawing∨(y.drawing=x.drawing∧y.letter<x.letter))∧l.Pairwise (fun a b=>a.drawing<b.drawing∨(a.drawing=b.drawing∧a.letter<b.letter))∧∀ x∈l,1≤x.letter∧x.letter≤fH p x.drawing+(C0 l x.drawing:Int)
 | [],p,ds,_,_=>by simp
 | x :: r,p,ds,h,hp=>by
   obtain⟨ds',h1,h2⟩:=pg h
   have hx1:1≤x.letter:=by
    rcases h2 with⟨y,hy,_,h3⟩|⟨_,h3⟩
    ·have:=hp y hy;omega
    ·omega
   obtain⟨k1,k2,k3⟩:=ap r (some x) ds' h1 (fun y e=>by cases e;omega)
   have k1':=k1 x rfl
   have hxp:∀ y,p=some y→y.drawing<x.drawing∨(y.drawing=x.drawing∧y.letter<x.letter):=fun y hy=>by
    rcases h2 with⟨y',hy',h4,h3⟩|⟨h4,_⟩
    ·rw[hy] at hy';cases hy';exact .inr ⟨h4,by omega⟩
    ·exact .inl (h4 y hy)
   refine⟨fun y hy z hz=>?_,List.pairwise_cons.2 ⟨k1',k2⟩,fun z hz=>?_⟩
   ·have h5:=hxp y hy
    rcases List.mem_cons.1 hz with rfl|hz
    ·exact h5
    ·have:=k1' z hz;omega
   ·rw[cK]
    rcases List.mem_cons.1 hz with rfl|hz
    ·refine⟨hx1,?_⟩
     rw[if_pos rfl]
     rcases h2 with⟨y,rfl,h4,h3⟩|⟨h4,h3⟩
     ·simp only[fH,h4,if_true];omega
     ·have:0≤fH p z.drawing:=by
       unfold fH;split
       ·split
        ·exact hp _ rfl
        ·omega
       ·omega
      omega
    ·obtain⟨m1,m2⟩:=k3 z hz
     refine⟨m1,?_⟩
     simp only[fH] at m2
     by_cases e:x.drawing=z.drawing
     ·rw[if_pos e] at m2 ⊢
      have:x.letter≤fH p z.drawing+1:=by
       rcases h2 with⟨y,rfl,h4,h3⟩|⟨h4,h3⟩
       ·simp only[fH,h4.trans e,if_true];omega
       ·have:0≤fH p z.drawing:=by
         unfold fH;split
         ·split
          ·exact hp _ rfl
          ·omega
         ·omega
        omega
      omega
     ·rw[if_neg e] at m2 ⊢
      have:0≤fH p z.drawing:=by
       unfold fH;split
       ·split
        ·exact hp _ rfl
        ·omega
       ·omega
      omega
theorem bM {l:List Issue} (h:l8 l=0):dL l∧∀ x∈l,1≤x.letter∧x.letter≤(C0 l x.drawing:Int):=by
 have hs:=u4 (p4 h)
 obtain⟨_,k2,k3⟩:=ap l none _ hs (fun y e=>by cases e)
 refine⟨fun a ha b hb e1 e2=>?_,fun x hx=>?_⟩
 ·obtain⟨i,hi⟩:=List.mem_iff_getElem?.1 ha
  obtain⟨j,hj⟩:=List.mem_iff_getElem?.1 hb
  obtain⟨hil,hia⟩:=List.getElem?_eq_some_iff.1 hi
  obtain⟨hjl,hjb⟩:=List.getElem?_eq_some_iff.1 hj
  rw[List.pairwise_iff_getElem] at k2
  rcases Nat.lt_trichotomy i j with h'|h'|h'
  ·have:=k2 i j hil hjl h'
   rw[hia,hjb] at this;omega
  ·subst h';rw[hi] at hj;exact Option.some.inj hj
  ·have:=k2 j i hjl hil h'
   rw[hia,hjb] at this;omega
 ·have:=k3 x hx
  simpa[fH] using this
open Go Go.Ab
theorem xG (s i:Nat):IntKind.i64.wrap ((BitVec.ofInt 64 ((s:Int).fdiv (2 ^ i)) &&& BitVec.ofInt 64 1).toNat:Int)=if s.testBit i=true then 1 else 0:=by
 have e1:(s:Int).fdiv (2 ^ i)=((s / 2 ^ i:Nat):Int):=by
  rw[Int.fdiv_eq_ediv_of_nonneg _ (by exact Int.pow_nonneg (by omega))]
  simp
 have e2:(BitVec.ofInt 64 ((s / 2 ^ i:Nat):Int) &&& BitVec.ofInt 64 1).toNat=(s / 2 ^ i) % 2:=by
  have h1:(BitVec.ofInt 64 1)=1#64:=by decide
  rw[h1,BitVec.ofInt_natCast,BitVec.toNat_and,BitVec.toNat_ofNat,BitVec.toNat_ofNat]
  rw[show (1 % 2 ^ 64:Nat)=1 by decide,Nat.and_one_is_mod]
  omega
 rw[e1,e2,Nat.testBit_eq_decide_div_mod_eq]
 rcases Nat.mod_two_eq_zero_or_one (s / 2 ^ i) with h|h
 ·rw[h];simp;decide
 ·rw[h];simp;decide
def jz (c:Chains):Int:=if j6 c≠0 then j6 c else if 12<(m5 c).length then 4 else if aV c then 0 else 6
def sN (c:Chains):List Spot:=if jz c=0 then (mA c).getD [] else []
variable {G:Cr}
attribute [simp] p9 dO F1 U3 A1 C3 nilV N6 ZK
def J9 (c:Chains) (f:Issue→List Dim×Int):List Issue×List Int×Int:=X5 c.reg (B0 c.reg c.lets) f (nums c.reg) 0 c.reg c.lets
def w5 (c:Chains) (f:Issue→List Dim×Int):Int:=if (J9 c f).2.2≠0 then (J9 c f).2.2 else if 60<(J9 c f).1.length∨((J9 c f).2.1.any fun n=>decide (8<n))=true then 9 else 0
def i9 (c:Chains) (f:Issue→List Dim×Int):Chains:={ reg:=cS (J9 c f).1,lets:=(J9 c f).2.1,of:=c.of,loops:=c.loops }
def G4:Chains:={ reg:=[],lets:=[],of:=0,loops:=[] }
def H0 (c:Chains) (f:Issue→List Dim×Int):Chains:=if w5 c f=0 then i9 c f else G4
def qe (G:Cr) (c:Chains) (fv:IC) (f:Issue→List Dim×Int):Prop:=
 ∃ (fn:FuncId) (caps:List IC),fv=.fn (.func fn) caps∧I9 prog fn∧∀ n∈nums c.reg,(f (m9 (B0 c.reg c.lets) n)).1.length≤8∧∀ objs,DCall prog G fn (D3 (m9 (B0 c.reg c.lets) n) :: caps.map fun c=>.one (.im c)) objs
  (fun d o=>d=.tup [.one (.im (.sl ((f (m9 (B0 c.reg c.lets) n)).1.map l5))),iv (f (m9 (B0 c.reg c.lets) n)).2]∧o=objs)
theorem lT {c:Chains} (hOk:OkC c) {n:Int} (hn:n∈nums c.reg):m9 (B0 c.reg c.lets) n∈c.reg∧(m9 (B0 c.reg c.lets) n).drawing=n:=by
 rw[B0,E9,if_pos hn]
 have h:=B2 hOk.reg hOk.lets hn
 exact⟨h.1,h.2.1⟩
theorem nr {c:Chains} (hOk:OkC c) {x:Issue} (hx:x∈c.reg):1≤x.drawing∧x.drawing≤9999∧1≤x.letter∧x.letter≤8:=by
 have h:=(B7 (u4 (p4 hOk.reg))).2.2.2.1 x hx
 simp only[m3,vL,Bool.and_eq_true,decide_eq_true_eq] at h
 omega
theorem ot {c:Chains} (f:Issue→List Dim×Int) (hOk:OkC c) (hsm:r7 c):(∀ x∈(J9 c f).1,ox x)∧dL (J9 c f).1∧(J9 c f).1.length≤c.reg.length+(nums c.reg).length∧(J9 c f).2.1.length=c.lets.length:=by
 have hN:=(A5 hOk.reg).1
 have hK:=bM hOk.reg
 refine mN (by have:=hsm.1.1;omega) _ 0 _ _ (hN.imp fun h=>by omega) (fun n hn=>?_) (fun x hx=>?_) hK.1 (fun x hx _=>(hK.2 x hx).2)
 ·have h:=lT hOk hn
  have h1:=nr hOk h.1
  rw[h.2] at h1
  exact⟨h.2,by omega,by omega⟩
 ·have h1:=nr hOk hx
  exact⟨by omega,by omega,by omega,by omega⟩
theorem AH {P:Program} {G:Cr} {f k:FuncId} {a:DV} {objs:List DObj} {Q:DV→List DObj→Prop} (h:DCall P G f [a,.one (.fn (.func k) [])] objs Q):DCall P G f [a,.one (.im (.fn (.func k) []))] objs Q:=by
 intro M vs hM ho hsz hr
 refine h M vs hM ho (by simpa using hsz) fun j d v h1 h2=>?_
 match j with
 | 0=>exact hr 0 d v h1 h2
 | 1 =>
   simp at h1;subst h1
   have h3:=hr 1 _ v rfl h2
   cases h3 with
   | one _ _ h3=>cases h3 with
     | im _ _ h3=>cases h3 with
       | fn _ _ vs h4 _ =>
         have:vs=#[]:=Array.eq_empty_of_size_eq_zero (by simpa using h4.symm)
         subst this
         exact .one _ _ (.fn _ _ _ rfl (fun j c v h=>by simp at h))
 | j+2=>simp at h1
theorem lF (c:Chains) (D:List (Int×Int)) (fv:IC) (f:Issue→List Dim×Int) (hG:B4 G) (hOk:OkC c) (hsm:r7 c) (hf:qe G c fv f) (hSF:bi G):zP prog G 44 [.one (.im (i8 c D (B0 c.reg c.lets))),.one (.im fv)] (.tup [M7 (H0 c f),iv (w5 c f)]):=by
 refine zf func44 ntmps44 ?_
 try simp only[iv]
 obtain⟨fn,caps,rfl,hok,hcall⟩:=hf
 have c1:=qa (G:=G) c hsm
 have c2:=jB (G:=G) c.reg hG hsm.1
 simp only[i8,BC,BB] at c1 ⊢
 have hs:=trivial
 repeat' first|(with_reducible first|refine zz ?_|refine zE [0,1,4,5,6,7,9,10,11,12,13,14,30,31,32,33,50,56,100] ?_)|simp -dsimp[hs]|refine CallE.embed_ex [] (c1) ?_ ?_ ?_ ?_ ?_ ?_;(focus simp[E0];done);(focus simp;done);(focus simp;done);(focus simp;done);(focus refine D4 ?_;simp[E0,F0];done);intro mmA hmmA;try simp -dsimp[x9,E0,hs]|refine zp c2 ?_
 have hgo0:J9 c f=X5 c.reg (B0 c.reg c.lets) f (nums c.reg) 0 c.reg c.lets:=rfl
 have hok0:(∀ x∈(J9 c f).1,ox x)∧dL (J9 c f).1∧(J9 c f).1.length≤c.reg.length+(nums c.reg).length∧(J9 c f).2.1.length=c.lets.length:=ot f hOk hsm
 have hd:jC c.reg=nums c.reg:=by rw[jC,if_pos hOk.reg]
 rw[hd]
 have hN:(nums c.reg).length≤80:=by have:=o5 c.reg c.reg.length;have:=hsm.1.1;unfold nums;omega
 generalize hNe:nums c.reg=N at *
 refine i7 (ι:={ p:Nat×Nat×Bool×List Issue×List Int // p.1≤N.length∧p.2.2.2.1.length≤c.reg.length+p.1∧p.2.2.2.2.length=c.lets.length∧X5 c.reg (B0 c.reg c.lets) f N 0 c.reg c.lets=X5 c.reg (B0 c.reg c.lets) f (N.drop p.1) p.1 p.2.2.2.1 p.2.2.2.2 }) (fun p=>⟨103,[(0,.one (.im (i8 c D (B0 c.reg c.lets)))),(1,.one (.im (.fn (.func fn) caps))),(4,.one (.ptr 3 0)),(5,iv 0),(6,.one (.ptr 18 0)),(30,.one (.im (.sl (N.map Ab.encI)))),(31,iv (N.length:Int)),(32,iv (p.1.1:Int))],
  [.vec 0 [] 0 true,.vec 0 [] 0 true,.vec 0 [] 0 true,.row [.vec 0 0 0 0,.vec 1 0 0 0,.im (rI 0),.vec 2 0 0 0],
   .row [.vec 14 mmA.2.2.1 0 c.reg.length,.vec 10 mmA.1.1 0 c.lets.length,.im (rI c.of),.vec 12 mmA.2.1.1 0 c.loops.length],.vec 0 [] 0 true,.vec 0 [] 0 true,.vec 0 [] 0 true,.row [.vec 14 mmA.2.2.1 0 c.reg.length,.vec 10 mmA.1.1 0 c.lets.length,.im (rI c.of),.vec 12 mmA.2.1.1 0 c.loops.length],
   .vec 1 [] 0 true,.vec 1 (p6 (p.1.2.2.2.2.map Ab.encI)) mmA.1.1 mmA.1.2,.vec 3 [] 0 true,.vec 3 (p6 (c.loops.map j9)) mmA.2.1.1 mmA.2.1.2,.vec 5 [] 0 true,.vec 5 (p6 (p.1.2.2.2.1.map e8)) p.1.2.1 p.1.2.2.1,
   .vec 0 [] 0 true,.vec 0 [] 0 true,.vec 0 [] 0 true,.row [.vec 14 p.1.2.1 0 p.1.2.2.2.1.length,.vec 10 mmA.1.1 0 c.lets.length,.im (rI c.of),.vec 12 mmA.2.1.1 0 c.loops.length]]⟩) (fun p=>N.length-p.1.1) ⟨(0,mmA.2.2.1,mmA.2.2.2,c.reg,c.lets),by simp⟩ (zv [0,1,4,5,6,30,31,32] (by simp[i8])) ?_
 rintro⟨⟨i,gn,nl,R,L⟩,hi,hR,hL,hgo⟩
 simp only at hi hR hL hgo
 simp only[iv,rI,i8]
 by_cases hlt:i<N.length
 ·obtain⟨n,hn⟩:∃ n,N[i]?=some n:=⟨N[i],by simp[hlt]⟩
  have hnm:n∈N:=List.mem_of_getElem? hn
  have hdr:N.drop i=n :: N.drop (i+1):=by
   rw[List.drop_eq_getElem_cons hlt];congr 1
   rw[List.getElem?_eq_getElem hlt] at hn;exact Option.some.inj hn
  rw[hdr,X5] at hgo
  obtain⟨hfl,hcn⟩:=hcall n hnm
  have hw:=zk i
  have hne:∀ h,N[i]'h=n:=fun h=>by rw[List.getElem?_eq_getElem h] at hn;exact Option.some.inj hn
  have hlet:i<c.lets.length:=by
   have h1:=hOk.lets
   simp only[m4,Bool.and_eq_true,decide_eq_true_eq,beq_iff_eq] at h1
   have h2:=h1.1
   rw[hNe] at h2
   omega
  have hLi:i<L.length:=by omega
  have hLl:R.length≤200:=by have:=hsm.1.1;omega
  have c3:=wM (G:=G) c.reg n hG hsm.1
  have hk0:V7 c.reg n=0:=by rw[V7,if_neg (by simp[hOk.reg]),if_pos (by rw[hNe];exact hnm)]
  rw[qS,hk0,if_pos rfl] at c3
  have hwl:IntKind.i64.wrap ((C0 c.reg n:Int)+1)=(C0 c.reg n:Int)+1:=by
   have h1:C0 c.reg n≤c.reg.length:=List.length_filter_le _ _
   have:=hsm.1.1
   exact o6 (by omega) (by omega)
  have hxd:(m9 (B0 c.reg c.lets) n).dims.length<1000000:=by
   have h1:=hsm.1.2 _ (lT hOk (by rw[hNe];exact hnm)).1
   omega
  generalize hxe:m9 (B0 c.reg c.lets) n=x at *
  have c4:=vA (G:=G) (f x).1 x.dims (by omega) hxd
  simp only[D3,e8,rI,List.map_cons,List.map_nil] at hcn
  generalize hfx:f x=y at *
  obtain⟨dm,e⟩:=y
  simp only at hcn hgo hfl c4
  by_cases he:e=0
  ·subst he
   rw[if_neg (by simp)] at hgo
   by_cases hq:dm=x.dims
   ·rw[if_pos hq] at hgo
    rw[decide_eq_true hq] at c4
    have hs:=za hn (za hxe (za hne (za hlt (za hw hok))))
    repeat' first|(with_reducible first|refine zz ?_|refine zE [0,1,4,5,6,7,9,10,11,12,13,14,30,31,32,33,50,56,100] ?_)|simp -dsimp[hs]|refine zp hcn ?_|refine zp c4 ?_|refine j7 ?_ ?_<;>intro h<;>try simp only[j0] at h
    all_goals exact zn ⟨(i+1,gn,nl,R,L),by omega,by simp only;omega,hL,hgo⟩ (zw [0,1,4,5,6,30,31,32] 19 (by simp[hw]))
   ·rw[if_neg hq] at hgo
    rw[decide_eq_false hq] at c4
    have happ:p6 (R.map e8)++[[DC.im (.raw (.int .i64 x.drawing)),DC.im (.raw (.int .i64 ((C0 c.reg n:Int)+1))),DC.im (.raw (.int .u8 x.kind)),DC.im (.sl (x.items.map n7)),DC.im (.sl (dm.map l5))]]=p6 (R.map e8++[e8 (di c.reg x n dm)]):=by
     simp[p6,di,e8,rI]
    have hs:=za hn (za hxe (za hne (za hlt (za hlet (za hLi (za hL (za hw (za hok hwl))))))))
    repeat' first|(with_reducible first|refine zz ?_|refine And.intro (by omega) ?_)|simp -dsimp[hs]|refine zp hcn ?_|refine zp c4 ?_|refine zp c3 ?_|refine Y9 (id:=13) (nt:=103) [none,none,none,none,none,none,none,none,none,none,none,some [],some [11],none,some [1,2],none] [0,1,2,3,4,5,6,7,9,10,11,12,14,8,13,15] 13 [([0,1,2,8,9,10,11,12],[0,1,4,5,6,7,9,10,11,12,13,14,30,31,32,33,50,56,77,79,100]),([2,8,9,12],[0,1,4,5,6,7,9,10,11,12,13,14,30,31,32,33,50,56,73,80,84,100])] [0,1,4,5,6,7,9,10,11,12,13,14,30,31,32,33,50,56,100] mixed rfl (by kernel_rfl) (by kernel_rfl) (by kernel_rfl) ?_|with_reducible refine zE [0,1,4,5,6,7,9,10,11,12,13,14,30,31,32,33,50,56,100] ?_|refine j7 ?_ ?_<;>intro h<;>try simp only[j0] at h
    all_goals exact zn ⟨(i+1,gn+1,false,R++[di c.reg x n dm],L.set i ((C0 c.reg n:Int)+1)),by omega,by simp only[List.length_append,List.length_singleton];omega,by simp only[List.length_set];omega,hgo⟩ (zw [0,1,4,5,6,30,31,32] 19 (by simp[hw,happ,encI,rI]))
  ·rw[if_pos he] at hgo
   have hE:w5 c f=e:=by rw[w5,hgo0,hgo,if_pos he]
   have hR':H0 c f=G4:=by rw[H0,if_neg (by rw[hE];exact he)]
   rw[hE,hR']
   have hs:=za hn (za hxe (za hne (za hlt (za hw (za hok he)))))
   repeat' first|(with_reducible first|refine zz ?_|refine zr ?_|refine zE [0,1,4,5,6,7,9,10,11,12,13,14,30,31,32,33,50,56,100] ?_)|simp -dsimp[hs]|refine zp hcn ?_|refine j7 ?_ ?_<;>intro h<;>try simp only[j0] at h
   all_goals simp[G4]
 ·obtain rfl:i=N.length:=by omega
  rw[List.drop_eq_nil_of_le (Nat.le_refl _),X5] at hgo
  rw[hgo0,hgo] at hok0
  simp only at hok0
  obtain⟨k1,k2,k3,k4⟩:=hok0
  have c6:=wB (G:=G) hSF k1 k2 (by have:=hsm.1.1;omega) gn nl
  have c7:=fun objs=>AH (J5 (G:=G) L (fun n=>decide (8<n)) 99 [] objs (by simp) (fun y _=>AR (G:=G) y objs) (by have:=hsm.2.1;omega))
  have hSl:=fy R
  have hE:w5 c f=if 60<R.length∨(L.any fun n=>decide (8<n))=true then 9 else 0:=by rw[w5,hgo0,hgo];simp
  have hC:i9 c f={ reg:=cS R,lets:=L,of:=c.of,loops:=c.loops }:=by rw[i9,hgo0,hgo]
  have htk:(p6 (L.map Ab.encI)).take L.length=p6 (L.map Ab.encI):=List.take_of_length_le (by simp[o3])
  simp only[← hL]
  by_cases h60:60<R.length
  ·have h60':(60:Int)<(R.length:Int):=by omega
   rw[if_pos (.inl h60)] at hE
   rw[H0,hE,if_neg (by decide)]
   have hs:=za hlt h60'
   repeat' first|(with_reducible first|refine zz ?_|refine zr ?_|refine zE [0,1,4,5,6,7,9,10,11,12,13,14,30,31,32,33,50,56,100] ?_)|simp -dsimp[hs]|refine CallE.embed [14] (c6) ?_ ?_ ?_ ?_ ?_ ?_;(focus simp[E0];done);(focus simp;done);(focus simp;done);(focus simp;done);(focus refine D4 ?_;simp[E0,F0];done);try simp -dsimp[x9,E0,hs]|refine j7 ?_ ?_<;>intro h<;>try simp only[j0] at h
   all_goals simp[G4]
  ·have h60':¬ (60:Int)<(R.length:Int):=by omega
   cases hany:L.any fun n=>decide (8<n)
   ·simp only[hany] at c7 hE
    rw[if_neg (by simp[h60])] at hE
    rw[H0,hE,if_pos rfl,hC]
    have hs:=za hlt h60'
    repeat' first|(with_reducible first|refine zz ?_|refine zr ?_|refine zE [0,1,4,5,6,7,9,10,11,12,13,14,30,31,32,33,50,56,100] ?_)|simp -dsimp[hs]|refine CallE.embed [14] (c6) ?_ ?_ ?_ ?_ ?_ ?_;(focus simp[E0];done);(focus simp;done);(focus simp;done);(focus simp;done);(focus refine D4 ?_;simp[E0,F0];done);try simp -dsimp[x9,E0,hs]|refine zt c7 ?_ ?_ ?_;(focus simp;done);focus (simp;done)|refine j7 ?_ ?_<;>intro h<;>try simp only[j0] at h
    all_goals (rw[← hSl];simp)
   ·simp only[hany] at c7 hE
    rw[if_pos (.inr trivial)] at hE
    rw[H0,hE,if_neg (by decide)]
    have hs:=za hlt h60'
    repeat' first|(with_reducible first|refine zz ?_|refine zr ?_|refine zE [0,1,4,5,6,7,9,10,11,12,13,14,30,31,32,33,50,56,100] ?_)|simp -dsimp[hs]|refine CallE.embed [14] (c6) ?_ ?_ ?_ ?_ ?_ ?_;(focus simp[E0];done);(focus simp;done);(focus simp;done);(focus simp;done);(focus refine D4 ?_;simp[E0,F0];done);try simp -dsimp[x9,E0,hs]|refine zt c7 ?_ ?_ ?_;(focus simp;done);focus (simp;done)|refine j7 ?_ ?_<;>intro h<;>try simp only[j0] at h
    all_goals simp[G4]
theorem se (c:Chains) (hG:B4 G) (hC:K1 G) (hsm:r7 c) (hSF:Y7 G):zP prog G 35 [M7 c] (.tup [x8 (sN c),iv (jz c)]):=by
 refine zf func35 ntmps35 ?_
 try simp only[M7]
 have c1:=O0 c hG hC hsm
 simp only[x8]
 by_cases h00:j6 c=0
 ·have hOk:=mV h00
  have c2:=iO (G:=G) (i8 c (x6 c) (B0 c.reg c.lets))
  have c3:=ge (G:=G) c (x6 c) hOk hsm hSF
  rw[h00] at c1
  simp only[H5,h00,if_true,i8] at c1
  simp only[i8] at c2 c3
  by_cases h12:12<(m5 c).length
  ·have hE:jz c=4:=by rw[jz,if_neg (by simp[h00]),if_pos h12]
   rw[sN,hE,if_neg (by decide)]
   have h12':(12:Int)<((m5 c).length:Int):=by omega
   have hs:=za h12 h12'
   repeat' first|(with_reducible first|refine zz ?_|refine zr ?_|refine zE [0,1,2,3,4,5,6,7,8,9,10,11,12,13,20,27,30,31,32,34,35,36,37,45,85,89] ?_)|simp -dsimp[hs]|refine zp c1 ?_|refine zp c2 ?_|refine zp c3 ?_|refine j7 ?_ ?_<;>intro h<;>try simp only[j0] at h
  ·have hEE:jz c=if aV c then 0 else 6:=by rw[jz,if_neg (by simp[h00]),if_neg h12]
   have h12':¬ (12:Int)<((m5 c).length:Int):=by omega
   have hnone:=nU hOk
   have hF:mA c=R4 c none (2 ^ (m5 c).length):=rfl
   have hF0:R4 c none 0=none:=rfl
   have hst:=ko c none
   have hgd:∀ x,gA c x=aH c (ib x) 0:=fun _=>rfl
   have hwr:=fun (l:List Spot) (hl:l.length<1000000)=>ej (G:=G) c (x6 c) (zm l) (ib l) 0 0 (Nat.zero_le _) hsm.2.2.1 hOk (zi c hl) (by decide) (by decide)
   have hfind:=fun l:List Spot=>gg c (ib l) 0
   generalize hS:m5 c=S at *
   have hPe:(2:Nat) ^ S.length≤2 ^ 12:=Nat.pow_le_pow_right (by omega) (by omega)
   have hmin:min S.length 64=S.length:=by omega
   have hb64:IntKind.i64.bits=64:=rfl
   have hlnn:¬ ((S.length:Int)<0):=by omega
   have hsh:IntKind.i64.wrap ((2:Int) ^ S.length)=((2 ^ S.length:Nat):Int):=by
    rw[show ((2:Int) ^ S.length)=((2 ^ S.length:Nat):Int) by simp]
    exact(fun (P:Nat) (h:P≤2 ^ 12)=>(o6 (by omega) (by omega):IntKind.i64.wrap (P:Int)=(P:Int))) _ hPe
   generalize hP:2 ^ S.length=P at *
   have hs:=za h12 (za h12' (za hmin (za hb64 (za hlnn hsh))))
   repeat' first|(with_reducible first|refine zz ?_|refine zE [0,1,2,3,4,5,6,7,8,9,10,11,12,13,20,27,30,31,32,34,35,36,37,45,85,89] ?_)|simp -dsimp[hs]|refine zp c1 ?_|refine zp c2 ?_|refine zp c3 ?_|refine j7 ?_ ?_<;>intro h<;>try simp only[j0] at h
   refine i7 (ι:={ p:Nat×Option (List Spot) // p.1≤P∧p.2=R4 c none p.1∧∀ b,p.2=some b→b.length≤12 }) (fun p=>⟨91,[(4,.one (.im (i8 c (x6 c) (B0 c.reg c.lets)))),(6,.one (.im (.sl (S.map m8)))),(7,.one (.im (.sl ((p.1.2.getD []).map m8)))),(8,bv p.1.2.isSome),(30,iv (P:Int)),(31,iv (p.1.1:Int))],[]⟩) (fun p=>P-p.1.1) ⟨(0,none),by simp[hF0]⟩ (zw [4,6,7,8,30,31] 0 (by simp[i8])) ?_
   rintro⟨⟨s,best⟩,hs1,hbest,hbl⟩
   simp only at hs1 hbest hbl
   simp only[iv,bv,i8]
   by_cases hlt:s<P
   ·have hw:=zk s
    have hs:=hlt
    repeat' first|(with_reducible first|refine zz ?_|refine zE [0,1,2,3,4,5,6,7,8,9,10,11,12,13,20,27,30,31,32,34,35,36,37,45,85,89] ?_)|simp -dsimp[hs]|refine j7 ?_ ?_<;>intro h<;>try simp only[j0] at h
    refine i7 (ι:={ p:Nat×Nat×Nat×Bool // p.1≤S.length∧(p.2.2.1=2∨p.2.2.2=true) }) (fun p=>⟨91,[(4,.one (.im (i8 c (x6 c) (B0 c.reg c.lets)))),(6,.one (.im (.sl (S.map m8)))),(7,.one (.im (.sl ((best.getD []).map m8)))),(8,bv best.isSome),(9,iv (s:Int)),(10,.one (.ptr 1 0)),(30,iv (P:Int)),(31,iv (s:Int)),(34,.one (.im (.sl (S.map m8)))),(35,iv (S.length:Int)),(36,iv (p.1.1:Int))],[.vec p.1.2.2.1 (p6 ((X4 S s p.1.1).map m8)) p.1.2.1 p.1.2.2.2,.row [.vec 0 p.1.2.1 0 (X4 S s p.1.1).length]]⟩) (fun p=>S.length-p.1.1) ⟨(0,0,0,true),by simp⟩ (zv [4,6,7,8,9,10,30,31,34,35,36] (by simp[i8,X4])) ?_
    rintro⟨⟨i,gn,sz,nl⟩,hi,hz⟩
    simp only at hi hz
    simp only[iv,bv,i8]
    have hmlen:=nF S s i
    by_cases hlti:i<S.length
    ·have hx:S[i]?=some S[i]:=by simp[hlti]
     have hwi:=zk i
     have hi63:min i 64=i:=by omega
     have hin:¬ ((i:Int)<0):=by omega
     have hbit:=xG s i
     have hsu:=kU (set:=s) hlti
     generalize hxe:S[i]=x at *
     cases hb:s.testBit i
     ·rw[hb] at hbit hsu
      simp at hbit
      rw[if_neg Bool.false_ne_true,List.append_nil] at hsu
      have hs:=za hx (za hxe (za hlti (za hwi (za hin (za hi63 (za hb64 hbit))))))
      repeat' first|(with_reducible first|refine zz ?_|refine zE [0,1,2,3,4,5,6,7,8,9,10,11,12,13,20,27,30,31,32,34,35,36,37,45,85,89] ?_)|simp -dsimp[hs]|refine j7 ?_ ?_<;>intro h<;>try simp only[j0] at h
      all_goals exact zn ⟨(i+1,gn,sz,nl),by omega,hz⟩ (zw [4,6,7,8,9,10,30,31,34,35,36] 2 (by simp[i8,hsu]))
     ·rw[hb] at hbit hsu
      simp at hbit
      rw[if_pos rfl] at hsu
      generalize X4 S s i=L at *
      have hs:=za hx (za hxe (za hlti (za hwi (za hin (za hi63 (za hb64 (za hbit hz)))))))
      repeat' first|(with_reducible first|refine zz ?_|refine And.intro (by omega) ?_|refine zE [0,1,2,3,4,5,6,7,8,9,10,11,12,13,20,27,30,31,32,34,35,36,37,45,85,89] ?_)|simp -dsimp[hs]|refine j7 ?_ ?_<;>intro h<;>try simp only[j0] at h
      all_goals try omega
      all_goals exact zn ⟨(i+1,gn+1,2,false),by simp;omega⟩ (zw [4,6,7,8,9,10,30,31,34,35,36] 2 (by simp[i8,hsu]))
    ·have hie:i=S.length:=by omega
     subst hie
     have hstep:=hst s
     rw[← hbest] at hstep
     rw[nf,hgd] at hstep
     have hwL:=hwr (X4 S s S.length) (by omega)
     have hfL:=hfind (X4 S s S.length)
     generalize X4 S s S.length=L at *
     simp only[i8,zm,Int.natCast_zero] at hwL
     generalize F7 c (ib L) 0 0=m at *
     generalize aH c (ib L) 0=r at *
     have hr:r=decide ((m:Int)=(c.loops.length:Int)):=by
      rw[Bool.eq_iff_iff,hfL,decide_eq_true_iff];omega
     cases best with
     | none =>
       simp only[iw,Bool.true_and] at hstep
       by_cases hm:(m:Int)=(c.loops.length:Int)
       ·rw[hr,decide_eq_true hm,if_pos rfl] at hstep
        have hs:=za hlti (za hw (za hm hz))
        repeat' first|with_reducible refine zz ?_|simp -dsimp[hs]|refine QCall.thaw (hwL) ?_ ?_ ?_;(focus simp;done);(focus simp;done)|refine zM 20 91 13 [0,1,2,3,4,5,6,7,8,9,10,11,12,13,20,27,30,31,32,34,35,36,37,45,85,89] ?_|with_reducible refine zE [0,1,2,3,4,5,6,7,8,9,10,11,12,13,20,27,30,31,32,34,35,36,37,45,85,89] ?_|refine j7 ?_ ?_<;>intro h<;>try simp only[j0] at h
        all_goals exact zn ⟨(s+1,some L),by omega,hstep.symm,fun b hb=>by cases hb;omega⟩ (zw [4,6,7,8,30,31] 0 (by simp[i8]))
       ·rw[hr,decide_eq_false hm,if_neg Bool.false_ne_true] at hstep
        have hs:=za hlti (za hw (za hm hz))
        repeat' first|with_reducible refine zz ?_|simp -dsimp[hs]|refine QCall.thaw (hwL) ?_ ?_ ?_;(focus simp;done);(focus simp;done)|refine zM 20 91 13 [0,1,2,3,4,5,6,7,8,9,10,11,12,13,20,27,30,31,32,34,35,36,37,45,85,89] ?_|with_reducible refine zE [0,1,2,3,4,5,6,7,8,9,10,11,12,13,20,27,30,31,32,34,35,36,37,45,85,89] ?_|refine j7 ?_ ?_<;>intro h<;>try simp only[j0] at h
        all_goals exact zn ⟨(s+1,none),by omega,hstep.symm,fun b hb=>by cases hb⟩ (zw [4,6,7,8,30,31] 0 (by simp[i8]))
     | some b =>
       have hbl':=hbl b rfl
       simp only[iw] at hstep
       have hsh2:=nj (a:=L) (b:=b)
       have c4:=zu (G:=G) L b (by omega) (by omega)
       have hlx:=rg (a:=L) (b:=b)
       simp only[x8] at c4
       generalize gP L b=q at *
       by_cases hl1:L.length<b.length
       ·have hs2:V1 L b=true:=hsh2.2 (.inl hl1)
        by_cases hm:(m:Int)=(c.loops.length:Int)
        ·simp only[hs2,hr,decide_eq_true hm,Bool.and_self,if_true] at hstep
         have hs:=za hlti (za hw (za hm (za hz hl1)))
         repeat' first|with_reducible refine zz ?_|simp -dsimp[hs]|refine QCall.thaw (hwL) ?_ ?_ ?_;(focus simp;done);(focus simp;done)|refine zM 20 91 13 [0,1,2,3,4,5,6,7,8,9,10,11,12,13,20,27,30,31,32,34,35,36,37,45,85,89] ?_|with_reducible refine zE [0,1,2,3,4,5,6,7,8,9,10,11,12,13,20,27,30,31,32,34,35,36,37,45,85,89] ?_|refine j7 ?_ ?_<;>intro h<;>try simp only[j0] at h
         all_goals exact zn ⟨(s+1,some L),by omega,hstep.symm,fun b hb=>by cases hb;omega⟩ (zw [4,6,7,8,30,31] 0 (by simp[i8]))
        ·simp only[hs2,hr,decide_eq_false hm,Bool.and_false,Bool.false_eq_true,if_false] at hstep
         have hs:=za hlti (za hw (za hm (za hz hl1)))
         repeat' first|with_reducible refine zz ?_|simp -dsimp[hs]|refine QCall.thaw (hwL) ?_ ?_ ?_;(focus simp;done);(focus simp;done)|refine zM 20 91 13 [0,1,2,3,4,5,6,7,8,9,10,11,12,13,20,27,30,31,32,34,35,36,37,45,85,89] ?_|with_reducible refine zE [0,1,2,3,4,5,6,7,8,9,10,11,12,13,20,27,30,31,32,34,35,36,37,45,85,89] ?_|refine j7 ?_ ?_<;>intro h<;>try simp only[j0] at h
         all_goals exact zn ⟨(s+1,some b),by omega,hstep.symm,hbl⟩ (zw [4,6,7,8,30,31] 0 (by simp[i8]))
       ·by_cases hl2:L.length=b.length
        ·have hl2':((L.length:Int)=(b.length:Int))=True:=eq_true (by omega)
         by_cases hq:q<0
         ·have hs2:V1 L b=true:=hsh2.2 (.inr ⟨hl2,(hlx hl2).1 hq⟩)
          by_cases hm:(m:Int)=(c.loops.length:Int)
          ·simp only[hs2,hr,decide_eq_true hm,Bool.and_self,if_true] at hstep
           have hs:=za hlti (za hw (za hm (za hz (za hl1 (za hl2' hq)))))
           repeat' first|with_reducible refine zz ?_|simp -dsimp[hs]|refine QCall.thaw (hwL) ?_ ?_ ?_;(focus simp;done);(focus simp;done)|refine zt c4 ?_ ?_ ?_;(focus simp;done);focus (simp;done)|refine zM 20 91 13 [0,1,2,3,4,5,6,7,8,9,10,11,12,13,20,27,30,31,32,34,35,36,37,45,85,89] ?_|with_reducible refine zE [0,1,2,3,4,5,6,7,8,9,10,11,12,13,20,27,30,31,32,34,35,36,37,45,85,89] ?_|refine j7 ?_ ?_<;>intro h<;>try simp only[j0] at h
           all_goals exact zn ⟨(s+1,some L),by omega,hstep.symm,fun b hb=>by cases hb;omega⟩ (zw [4,6,7,8,30,31] 0 (by simp[i8]))
          ·simp only[hs2,hr,decide_eq_false hm,Bool.and_false,Bool.false_eq_true,if_false] at hstep
           have hs:=za hlti (za hw (za hm (za hz (za hl1 (za hl2' hq)))))
           repeat' first|with_reducible refine zz ?_|simp -dsimp[hs]|refine QCall.thaw (hwL) ?_ ?_ ?_;(focus simp;done);(focus simp;done)|refine zt c4 ?_ ?_ ?_;(focus simp;done);focus (simp;done)|refine zM 20 91 13 [0,1,2,3,4,5,6,7,8,9,10,11,12,13,20,27,30,31,32,34,35,36,37,45,85,89] ?_|with_reducible refine zE [0,1,2,3,4,5,6,7,8,9,10,11,12,13,20,27,30,31,32,34,35,36,37,45,85,89] ?_|refine j7 ?_ ?_<;>intro h<;>try simp only[j0] at h
           all_goals exact zn ⟨(s+1,some b),by omega,hstep.symm,hbl⟩ (zw [4,6,7,8,30,31] 0 (by simp[i8]))
         ·have hs2:V1 L b=false:=by
           rw[← Bool.not_eq_true,hsh2,← hlx hl2];omega
          simp only[hs2,Bool.false_and,Bool.false_eq_true,if_false] at hstep
          have hs:=za hlti (za hw (za hz (za hl1 (za hl2' hq))))
          repeat' first|with_reducible refine zz ?_|simp -dsimp[hs]|refine zt c4 ?_ ?_ ?_;(focus simp;done);focus (simp;done)|refine zM 20 91 13 [0,1,2,3,4,5,6,7,8,9,10,11,12,13,20,27,30,31,32,34,35,36,37,45,85,89] ?_|with_reducible refine zE [0,1,2,3,4,5,6,7,8,9,10,11,12,13,20,27,30,31,32,34,35,36,37,45,85,89] ?_|refine j7 ?_ ?_<;>intro h<;>try simp only[j0] at h
          all_goals exact zn ⟨(s+1,some b),by omega,hstep.symm,hbl⟩ (zw [4,6,7,8,30,31] 0 (by simp[i8]))
        ·have hl2':¬ (L.length:Int)=(b.length:Int):=by omega
         have hs2:V1 L b=false:=by
          rw[← Bool.not_eq_true,hsh2];omega
         simp only[hs2,Bool.false_and,Bool.false_eq_true,if_false] at hstep
         have hs:=za hlti (za hw (za hz (za hl1 hl2')))
         repeat' first|with_reducible refine zz ?_|simp -dsimp[hs]|refine zM 20 91 13 [0,1,2,3,4,5,6,7,8,9,10,11,12,13,20,27,30,31,32,34,35,36,37,45,85,89] ?_|with_reducible refine zE [0,1,2,3,4,5,6,7,8,9,10,11,12,13,20,27,30,31,32,34,35,36,37,45,85,89] ?_|refine j7 ?_ ?_<;>intro h<;>try simp only[j0] at h
         all_goals exact zn ⟨(s+1,some b),by omega,hstep.symm,hbl⟩ (zw [4,6,7,8,30,31] 0 (by simp[i8]))
   ·have hsP:s=P:=by omega
    subst hsP
    rw[← hF] at hbest
    rw[← hbest] at hnone
    cases best with
    | none =>
      have hg:=hnone.1 rfl
      have hE:jz c=6:=by rw[hEE,hg];rfl
      rw[sN,hE,if_neg (by decide)]
      have hs:=hlt
      repeat' first|(with_reducible first|refine zz ?_|refine zr ?_|refine zE [0,1,2,3,4,5,6,7,8,9,10,11,12,13,20,27,30,31,32,34,35,36,37,45,85,89] ?_)|simp -dsimp[hs]|refine j7 ?_ ?_<;>intro h<;>try simp only[j0] at h
    | some b =>
      have hg:aV c=true:=by
       cases hq:aV c with
       | true=>rfl
       | false=>have:=hnone.2 hq;cases this
      have hE:jz c=0:=by rw[hEE,hg];rfl
      rw[sN,hE,if_pos rfl,← hbest]
      have hs:=hlt
      repeat' first|(with_reducible first|refine zz ?_|refine zr ?_|refine zE [0,1,2,3,4,5,6,7,8,9,10,11,12,13,20,27,30,31,32,34,35,36,37,45,85,89] ?_)|simp -dsimp[hs]|refine j7 ?_ ?_<;>intro h<;>try simp only[j0] at h
 ·obtain⟨X,hX⟩:=F9 c
  rw[hX] at c1
  have hE:jz c=j6 c:=by rw[jz,if_pos h00]
  rw[sN,hE,if_neg h00]
  have hs:=h00
  repeat' first|(with_reducible first|refine zz ?_|refine zr ?_|refine zE [0,1,2,3,4,5,6,7,8,9,10,11,12,13,20,27,30,31,32,34,35,36,37,45,85,89] ?_)|simp -dsimp[hs]|refine zp c1 ?_|refine j7 ?_ ?_<;>intro h<;>try simp only[j0] at h
def jS (c:Chains):Prop:=fj c.reg∧c.lets.length≤80∧c.loops.length≤10∧∀ x∈c.loops,x.links.length≤12
def fA (c:Chains):Bool:=open Classical in decide (fj c.reg)&&(decide (c.lets.length≤80)&&decide (c.loops.length≤10)&&c.loops.all fun x=>decide (x.links.length≤12))
theorem vm (c:Chains):zP prog G 22 [M7 c] (bv (!fA c)):=by
 refine zf func22 ntmps22 ?_
 try simp only[M7]
 have c1:=xh (G:=G) c.reg
 have hE:fA c=(open Classical in decide (fj c.reg)&&(decide (c.lets.length≤80)&&decide (c.loops.length≤10)&&c.loops.all fun x=>decide (x.links.length≤12))):=rfl
 by_cases hS:fj c.reg
 ·have e1:(!(open Classical in decide (fj c.reg)))=false:=by simp[hS]
  have c1':∀ objs,DCall prog G 59 [B1 c.reg] objs (fun d objs'=>d=bv false∧objs'=objs):=fun objs=>(c1 objs).mono fun d o ⟨h1,h2⟩=>⟨by rw[h1];simp[hS],h2⟩
  rw[decide_eq_true hS,Bool.true_and] at hE
  by_cases h80:c.lets.length≤80
  ·have h80':¬ (80:Int)<(c.lets.length:Int):=by omega
   by_cases h10:c.loops.length≤10
   ·have h10':¬ (10:Int)<(c.loops.length:Int):=by omega
    rw[decide_eq_true h80,decide_eq_true h10,Bool.true_and,Bool.true_and] at hE
    have hs:=za h80' h10'
    repeat' first|(with_reducible first|refine zz ?_|refine zE [0,1,2,3,18,23,33] ?_)|simp -dsimp[hs]|refine zp c1' ?_|refine j7 ?_ ?_<;>intro h<;>try simp only[j0] at h
    refine i7 (ι:={ k:Nat // k≤c.loops.length∧(c.loops.all fun x=>decide (x.links.length≤12))=(c.loops.drop k).all fun x=>decide (x.links.length≤12) }) (fun p=>⟨34,[(1,.one (.ptr 0 0)),(2,bv false),(3,iv (p.1:Int))],[.row ((u7 c).map .im)]⟩) (fun p=>c.loops.length-p.1) ⟨0,by simp⟩ (zv [1,2,3]) ?_
    rintro⟨k,hk,hall⟩
    simp only[iv,bv]
    by_cases hlt:k<c.loops.length
    ·have hx:c.loops[k]?=some c.loops[k]:=by simp[hlt]
     have hw:=zk k
     have hst:=R7 hlt hall
     by_cases h12:c.loops[k].links.length≤12
     ·have h12':¬ (12:Int)<(c.loops[k].links.length:Int):=by omega
      have hs:=za hx (za hlt (za hw h12'))
      repeat' first|(with_reducible first|refine zz ?_|refine zE [0,1,2,3,18,23,33] ?_)|simp -dsimp[hs]|refine j7 ?_ ?_<;>intro h<;>try simp only[j0] at h
      exact zn ⟨k+1,by omega,B5 hst (by simpa using h12)⟩ (zv [1,2,3])
     ·have h12':(12:Int)<(c.loops[k].links.length:Int):=by omega
      have hs:=za hx (za hlt (za hw h12'))
      repeat' first|(with_reducible first|refine zz ?_|refine zr ?_|refine zE [0,1,2,3,18,23,33] ?_)|simp -dsimp[hs]|refine j7 ?_ ?_<;>intro h<;>try simp only[j0] at h
      rw[hE,r5 hst (by simpa using h12)];try rfl
    ·have hok:(c.loops.all fun x=>decide (x.links.length≤12))=true:=by rw[hall,List.drop_eq_nil_of_le (by omega)];rfl
     have hs:=hlt
     repeat' first|(with_reducible first|refine zz ?_|refine zr ?_|refine zE [0,1,2,3,18,23,33] ?_)|simp -dsimp[hs]|refine j7 ?_ ?_<;>intro h<;>try simp only[j0] at h
     rw[hE,hok];try rfl
   ·have h10':(10:Int)<(c.loops.length:Int):=by omega
    rw[decide_eq_false h10,Bool.and_false,Bool.false_and] at hE
    have hs:=za h80' h10'
    repeat' first|(with_reducible first|refine zz ?_|refine zr ?_|refine zE [0,1,2,3,18,23,33] ?_)|simp -dsimp[hs]|refine zp c1' ?_|refine j7 ?_ ?_<;>intro h<;>try simp only[j0] at h
    rw[hE];try rfl
  ·have h80':(80:Int)<(c.lets.length:Int):=by omega
   rw[decide_eq_false h80,Bool.false_and,Bool.false_and] at hE
   have hs:=h80'
   repeat' first|(with_reducible first|refine zz ?_|refine zr ?_|refine zE [0,1,2,3,18,23,33] ?_)|simp -dsimp[hs]|refine zp c1' ?_|refine j7 ?_ ?_<;>intro h<;>try simp only[j0] at h
   rw[hE];try rfl
 ·have c1':∀ objs,DCall prog G 59 [B1 c.reg] objs (fun d objs'=>d=bv true∧objs'=objs):=fun objs=>(c1 objs).mono fun d o ⟨h1,h2⟩=>⟨by rw[h1];simp[hS],h2⟩
  rw[decide_eq_false hS,Bool.false_and] at hE
  have hs:=trivial
  repeat' first|(with_reducible first|refine zz ?_|refine zr ?_|refine zE [0,1,2,3,18,23,33] ?_)|simp -dsimp[hs]|refine zp c1' ?_|refine j7 ?_ ?_<;>intro h<;>try simp only[j0] at h
  rw[hE];try rfl
def qu (l:List Issue):Prop:=∀ x∈l,0≤x.kind∧x.kind≤255
theorem smallB_iff {c:Chains}:fA c=true↔jS c:=by
 simp only[fA,jS,Bool.and_eq_true,decide_eq_true_eq,List.all_eq_true,and_assoc]
theorem fg {c:Chains} (h:OkC c) (hs:r7 c):(m5 c).length≤120:=by
 have h0:=(iN h).length_eq
 have h1:=List.length_filter_le (S7 (B0 c.reg c.lets)) ((A3 c).foldl (fun l x=>G5 x l) [])
 have h2:=fV (A3 c) []
 have h3:=fw c.loops hs.2.2.2
 have h4:=hs.2.2.1
 simp only[A3,List.length_nil] at *
 omega
attribute [simp] p9 dO A1 C3 nilV N6 ZK
attribute [simp] p9 dO A1 C3 nilV N6 ZK
attribute [simp] p9 dO F1 U3 A1 C3 nilV N6 ZK
theorem lD (l:List Dim) (hl:l.length<1000):DCall prog G 46 [.one (.im (.sl (l.map l5)))] [] (fun d o=>∃ i:Nat×Bool,(i.2=true→l=[])∧d=.one (.vec 1 i.1 0 l.length)∧o=[.vec 3 [] 0 true,.vec 3 (p6 (l.map l5)) i.1 i.2]):=by
 refine j5 func46 rfl ntmps46 (by simp) rfl ?_
 repeat' first|(with_reducible first|refine zz ?_|refine And.intro (by omega) ?_|refine zx ?_|refine zE [0,2,4] ?_)|simp -dsimp|refine j7 ?_ ?_<;>intro h<;>try simp only[j0] at h|with_reducible refine Z8 (fun h=>?_);(try simp only[List.map_eq_nil_iff] at h);(try subst h);try simp -dsimp|with_reducible refine And.intro ?_ ?_
@[simp] theorem zU (L:List Dim) (k:Nat) (h:k<(p6 (L.map l5)).length):(p6 (L.map l5))[k]=[DC.im (.raw (.int .i64 (L[k]'(by simpa[o3] using h)).nominal)),DC.im (.raw (.int .i64 (L[k]'(by simpa[o3] using h)).lower)),DC.im (.raw (.int .i64 (L[k]'(by simpa[o3] using h)).upper))]:=by
 simp[p6,l5,rI]
theorem lh (L:List Dim) (k:Nat) (d:Dim):(p6 (L.map l5)).set k [DC.im (.raw (.int .i64 d.nominal)),DC.im (.raw (.int .i64 d.lower)),DC.im (.raw (.int .i64 d.upper))]=p6 ((L.set k d).map l5):=by
 simp[p6,l5,rI,List.map_set]
def X2 (T ds:List Dim) (k:Nat):List Dim:=T.take k++ds.drop k
theorem qO {T ds:List Dim} (hl:T.length=ds.length) {k:Nat} (hk:k≤ds.length):(X2 T ds k).length=ds.length:=by
 simp[X2];omega
theorem qP {T ds:List Dim} (hl:T.length=ds.length):X2 T ds ds.length=T:=by simp[X2,← hl]
theorem mi {T ds:List Dim} (hl:T.length=ds.length) {k:Nat} (hk:k<ds.length):(X2 T ds k)[k]?=some ds[k]:=by
 rw[X2,List.getElem?_append_right (by simp;omega)]
 simp[show k-min k T.length=0 by omega,hk]
theorem mh {T ds:List Dim} (hl:T.length=ds.length) {k:Nat} (hk:k<ds.length) {d:Dim} (hd:T[k]?=some d):(X2 T ds k).set k d=X2 T ds (k+1):=by
 have hkT:k<T.length:=by omega
 have hTk:T[k]=d:=by rw[List.getElem?_eq_getElem hkT] at hd;exact Option.some.inj hd
 rw[X2,List.set_append_right _ _ (by simp;omega),X2]
 rw[List.take_succ_eq_append_getElem hkT,hTk,List.append_assoc]
 congr 1
 rw[show k-(T.take k).length=0 by simp;omega,List.drop_eq_getElem_cons hk,List.set_cons_zero]
 rfl
theorem uT {T ds:List Dim} (hl:T.length=ds.length) {k:Nat} (hk:k<ds.length) (hd:T[k]?=some ds[k]):X2 T ds (k+1)=X2 T ds k:=by
 rw[← mh hl hk hd]
 exact iR (mi hl hk)
def wy (l:List Spot) (g:Int) (x:Issue):List Dim:=x.dims.mapIdx fun i d=>if ib l ⟨x.drawing,(i:Int)⟩ then C2 d g else d
theorem dU (l:List Spot) (g:Int) (x:Issue):(wy l g x).length=x.dims.length:=by simp[wy]
theorem lU (l:List Spot) (g:Int) (x:Issue) {k:Nat} (hk:k<x.dims.length):(wy l g x)[k]?=some (if ib l ⟨x.drawing,(k:Int)⟩ then C2 x.dims[k] g else x.dims[k]):=by simp[wy,hk]
theorem oT (x:Issue) (l:List Spot) (g:Int) (hx:x.dims.length≤8) (hd:∀ d∈x.dims,A4 d=true) (hl:l.length<1000000) (h0:0≤g) (h1:g≤2000000000):zP prog G 45 [D3 x,.one (.im (.ip [.sl (l.map m8)])),.one (.im (.ip [rI g]))] (.tup [.one (.im (.sl ((wy l g x).map l5))),iv 0]):=by
 refine zf func45 ntmps45 ?_
 try simp only[D3]
 have c1:=lD (G:=G) x.dims (by omega)
 simp only[D3,e8,rI,List.map_cons,List.map_nil]
 have hs:=trivial
 repeat' first|(with_reducible first|refine zz ?_|refine zE [0,1,2,3,4,5,6,7,12,13,14,21] ?_)|simp -dsimp[hs]|refine CallE.embed_ex [] (c1) ?_ ?_ ?_ ?_ ?_ ?_;(focus simp[E0];done);(focus simp;done);(focus simp;done);(focus simp;done);(focus refine D4 ?_;simp[E0,F0];done);intro mmA hmmA;try simp -dsimp[x9,E0,hs]
 have hTl:=dU l g x
 have hTg:=fun k hk=>lU l g x (k:=k) hk
 generalize wy l g x=T at *
 refine i7 (ι:={ k:Nat // k≤x.dims.length }) (fun k=>⟨33,[(1,.one (.im (.ip [.sl (l.map m8)]))),(2,.one (.im (.ip [rI g]))),(3,.one (.ptr 0 0)),(6,.one (.vec 3 mmA.1 0 x.dims.length)),(12,iv (x.dims.length:Int)),(13,iv (k.1:Int))],[.row [.im (rI x.drawing),.im (rI x.letter),.im (.raw (.int .u8 x.kind)),.im (.sl (x.items.map n7)),.im (.sl (x.dims.map l5))],.vec 3 [] 0 true,.vec 3 [] 0 true,.vec 3 (p6 ((X2 T x.dims k.1).map l5)) mmA.1 mmA.2]⟩) (fun k=>x.dims.length-k.1) ⟨0,by omega⟩ (zv [1,2,3,6,12,13] (by simp[X2])) ?_
 rintro⟨k,hk⟩
 simp only[iv,rI]
 by_cases hlt:k<x.dims.length
 ·have hw:=zk k
  have hlm:=qO hTl hk
  have hge:=mi hTl hlt
  have hgm:∀ h,(X2 T x.dims k)[k]'h=x.dims[k]:=fun h=>by rw[List.getElem?_eq_getElem h] at hge;exact Option.some.inj hge
  have hklm:k<(X2 T x.dims k).length:=by omega
  have c2:=aY (G:=G) l ⟨x.drawing,(k:Int)⟩ hl
  have hTk:=hTg k hlt
  have c3:=qC (G:=G) x.dims[k] g (hd _ (List.getElem_mem hlt)) h0 h1
  have hset:=lh (X2 T x.dims k) k (C2 x.dims[k] g)
  simp only[x8,B8] at c2
  generalize hdk:x.dims[k]=dk at *
  cases hin:ib l ⟨x.drawing,(k:Int)⟩
  ·rw[hin] at c2 hTk
   have hst:=uT hTl hlt (by rw[hTk,hdk];rfl)
   have hs:=za hlt hw
   repeat' first|(with_reducible first|refine zz ?_|refine zE [0,1,2,3,4,5,6,7,12,13,14,21] ?_)|simp -dsimp[hs]|refine zp c2 ?_|refine j7 ?_ ?_<;>intro h<;>try simp only[j0] at h
   all_goals exact zn ⟨k+1,by omega⟩ (zv [1,2,3,6,12,13] (by simp[hst]))
  ·rw[hin,if_pos rfl] at hTk
   rw[hin] at c2
   have hst:=mh hTl hlt hTk
   rw[hst] at hset
   have hs:=za hlt (za hw (za hlm (za hklm (za hgm hset))))
   repeat' first|with_reducible refine zz ?_|simp -dsimp[hs]|refine zp c2 ?_|refine zq c3 ?_|refine zM 6 33 9 [0,1,2,3,4,5,6,7,12,13,14,21] ?_|with_reducible refine zE [0,1,2,3,4,5,6,7,12,13,14,21] ?_|refine j7 ?_ ?_<;>intro h<;>try simp only[j0] at h
   all_goals exact zn ⟨k+1,by omega⟩ (zv [1,2,3,6,12,13] (by simp[hst]))
 ·obtain rfl:k=x.dims.length:=by omega
  have hme:=qP hTl
  have hs:=za hlt hme
  repeat' first|(with_reducible first|refine zz ?_|refine zr ?_|refine zE [0,1,2,3,4,5,6,7,12,13,14,21] ?_)|simp -dsimp[hs]|refine j7 ?_ ?_<;>intro h<;>try simp only[j0] at h
  all_goals (rw[← hTl];simp)
def wq (S:List Spot):Option Spot→List Spot→Bool
 | _,[]=>true
 | p,x :: r=>(ib S x&&(match p with|none=>true|some y=>decide (bt y x<0)))&&wq S (some x) r
theorem nB (S:List Spot) (p:Option Spot) (x:Spot) (r:List Spot):wq S p (x :: r)=((ib S x&&(match p with|none=>true|some y=>decide (bt y x<0)))&&wq S (some x) r):=by cases p<;>rfl
theorem qK (S:List Spot) (p:Option Spot):wq S p []=true:=by cases p<;>rfl
def ny (l:List Spot):Nat→Option Spot
 | 0=>none
 | k+1=>l[k]?
def Z1 (l:List Spot) (g:Int):Issue→List Dim×Int:=fun x=>(wy l g x,0)
def aj (c:Chains) (l:List Spot) (g:Int):Int:=if j6 c≠0 then j6 c else if wq (m5 c) none l=true∧0≤g∧g≤1000000000 then w5 c (Z1 l g) else 2
def bC (c:Chains) (l:List Spot) (g:Int):Chains:=if aj c l g=0 then i9 c (Z1 l g) else G4
theorem ug {c:Chains} (hOk:OkC c) (hsm:r7 c) {l:List Spot} {g:Int} (hl:l.length<1000000) (h0:0≤g) (h1:g≤2000000000):qe G c (.fn (.func 45) [.ip [.sl (l.map m8)],.ip [rI g]]) (Z1 l g):=by
 refine⟨45,_,rfl,by simp,fun n hn=>?_⟩
 have hm:=lT hOk hn
 have h8:=(hsm.1.2 _ hm.1).2.2.2
 refine⟨by simp only[Z1,dU];exact h8,fun objs=>?_⟩
 refine oT (G:=G) _ l g h8 (fun d hd=>?_) hl h0 h1 objs
 have h:=(B7 (u4 (p4 hOk.reg))).2.2.2.1 _ hm.1
 simp only[m3,Bool.and_eq_true,List.all_eq_true] at h
 exact h.2 d hd
theorem jd (c:Chains) (l:List Spot) (g:Int) (hG:B4 G) (hC:K1 G) (hsm:r7 c) (hSF:Y7 G) (hSG:bi G) (hl:l.length<1000000):zP prog G 8 [M7 c,x8 l,iv g] (.tup [M7 (bC c l g),iv (aj c l g)]):=by
 refine zf func8 ntmps8 ?_
 try simp only[M7,iv]
 have c1:=O0 c hG hC hsm
 simp only[x8]
 by_cases h00:j6 c=0
 ·have hOk:=mV h00
  have c2:=iO (G:=G) (i8 c (x6 c) (B0 c.reg c.lets))
  have c3:=ge (G:=G) c (x6 c) hOk hsm hSF
  rw[h00] at c1
  simp only[H5,h00,if_true,i8] at c1
  simp only[i8] at c2 c3
  have hSlen:(m5 c).length<1000000:=by have:=fg hOk hsm;omega
  generalize hS:m5 c=S at *
  have hs:=trivial
  repeat' first|(with_reducible first|refine zz ?_|refine zE [0,1,2,3,4,5,6,7,8,9,10,11,12,19,25,26,27,28,49,55] ?_)|simp -dsimp[hs]|refine zp c1 ?_|refine zp c2 ?_|refine zp c3 ?_|refine j7 ?_ ?_<;>intro h<;>try simp only[j0] at h
  have hE0:aj c l g=if wq S none l=true∧0≤g∧g≤1000000000 then w5 c (Z1 l g) else 2:=by rw[aj,if_neg (by simp[h00]),hS]
  refine i7 (ι:={ k:Nat // k≤l.length∧wq S none l=wq S (ny l k) (l.drop k) }) (fun k=>⟨62,[(3,.one (.ptr 0 0)),(4,.one (.ptr 1 0)),(5,.one (.ptr 2 0)),(6,.one (.ptr 6 0)),(7,iv 0),(8,.one (.im (i8 c (x6 c) (B0 c.reg c.lets)))),(10,.one (.im (.sl (S.map m8)))),(25,.one (.im (.sl (l.map m8)))),(26,iv (l.length:Int)),(27,iv (k.1:Int))],
   [.row [.im (.sl (c.reg.map e8)),.im (.sl (c.lets.map Ab.encI)),.im (rI c.of),.im (.sl (c.loops.map j9))],.row [.im (.sl (l.map m8))],.row [.im (rI g)],.vec 0 [] 0 true,.vec 0 [] 0 true,.vec 0 [] 0 true,.row [.vec 3 0 0 0,.vec 4 0 0 0,.im (rI 0),.vec 5 0 0 0]]⟩) (fun k=>l.length-k.1) ⟨0,by simp[ny]⟩ (zv [3,4,5,6,7,8,10,25,26,27] (by simp[i8])) ?_
  rintro⟨k,hk,hok⟩
  simp only[iv,rI,i8]
  by_cases hlt:k<l.length
  ·obtain⟨x,hx⟩:∃ x,l[k]?=some x:=⟨l[k],by simp[hlt]⟩
   have hxe:∀ h,l[k]'h=x:=fun h=>by rw[List.getElem?_eq_getElem h] at hx;exact Option.some.inj hx
   have hdr:l.drop k=x :: l.drop (k+1):=by rw[List.drop_eq_getElem_cons hlt,hxe]
   have hw:=zk k
   rw[hdr,nB] at hok
   have hpv:ny l (k+1)=some x:=hx
   have c4:=aY (G:=G) S x hSlen
   simp only[x8,B8] at c4
   cases hin:ib S x
   ·rw[hin] at c4 hok
    rw[Bool.false_and,Bool.false_and] at hok
    have hE:aj c l g=2:=by rw[hE0,hok];simp
    rw[bC,hE,if_neg (by decide)]
    have hs:=za hlt (za hx (za hxe hw))
    repeat' first|(with_reducible first|refine zz ?_|refine zr ?_)|simp -dsimp[hs]|refine zq c4 ?_|refine zM 8 62 18 [0,1,2,3,4,5,6,7,8,9,10,11,12,19,25,26,27,28,49,55] ?_|with_reducible refine zE [0,1,2,3,4,5,6,7,8,9,10,11,12,19,25,26,27,28,49,55] ?_|refine j7 ?_ ?_<;>intro h<;>try simp only[j0] at h
    all_goals simp[G4]
   ·rw[hin] at c4 hok
    rw[Bool.true_and] at hok
    cases k with
    | zero =>
      simp only[ny,Bool.true_and] at hok
      have hw1:IntKind.i64.wrap 1=1:=by decide
      have hs:=za hlt (za hx (za hxe (za hw hw1)))
      repeat' first|with_reducible refine zz ?_|simp -dsimp[hs]|refine zq c4 ?_|refine zM 8 62 18 [0,1,2,3,4,5,6,7,8,9,10,11,12,19,25,26,27,28,49,55] ?_|with_reducible refine zE [0,1,2,3,4,5,6,7,8,9,10,11,12,19,25,26,27,28,49,55] ?_|refine j7 ?_ ?_<;>intro h<;>try simp only[j0] at h
      all_goals exact zn ⟨0+1,by omega,by rw[hpv];exact hok⟩ (zw [3,4,5,6,7,8,10,25,26,27] 7 (by simp[i8,hw1]))
    | succ k =>
      obtain⟨y,hy⟩:∃ y,l[k]?=some y:=⟨l[k],by simp[show k<l.length by omega]⟩
      have hye:∀ h,l[k]'h=y:=fun h=>by rw[List.getElem?_eq_getElem h] at hy;exact Option.some.inj hy
      simp only[ny,hy] at hok
      have c5:=mg (G:=G) y x
      simp only[B8] at c5
      have hw2:IntKind.i64.wrap (k:Int)=(k:Int):=o6 (by omega) (by omega)
      have hw3:((k+1:Nat):Int)-1=(k:Int):=by omega
      have hw4:IntKind.i64.wrap ((k:Int)+1+1)=(k:Int)+1+1:=o6 (by omega) (by omega)
      have hltI:(k:Int)+1<(l.length:Int):=by omega
      have hkn:(0:Int)≤(k:Int)+1:=by omega
      have hkq:(0:Int)<(k:Int)+1:=by omega
      have hkm:¬ ((k:Int)<0):=by omega
      have hkp:(0:Int)<((k+1:Nat):Int):=by omega
      generalize bt y x=q at *
      by_cases hq:q<0
      ·rw[decide_eq_true hq,Bool.true_and] at hok
       have hq':¬ (0:Int)≤q:=by omega
       have hs:=za hlt (za hx (za hxe (za hw (za hw2 (za hw3 (za hy (za hye (za hkp (za hltI (za hkn (za hkq (za hkm hq'))))))))))))
       repeat' first|with_reducible refine zz ?_|simp -dsimp[hs]|refine zq c4 ?_|refine zq c5 ?_|refine zM 8 62 18 [0,1,2,3,4,5,6,7,8,9,10,11,12,19,25,26,27,28,49,55] ?_|with_reducible refine zE [0,1,2,3,4,5,6,7,8,9,10,11,12,19,25,26,27,28,49,55] ?_|refine j7 ?_ ?_<;>intro h<;>try simp only[j0] at h
       all_goals exact zn ⟨k+1+1,by omega,by rw[hpv];exact hok⟩ (zw [3,4,5,6,7,8,10,25,26,27] 7 (by simp[i8,hw4]))
      ·rw[decide_eq_false hq,Bool.false_and] at hok
       have hq':(0:Int)≤q:=by omega
       have hE:aj c l g=2:=by rw[hE0,hok];simp
       rw[bC,hE,if_neg (by decide)]
       have hs:=za hlt (za hx (za hxe (za hw (za hw2 (za hw3 (za hy (za hye (za hkp (za hltI (za hkn (za hkq (za hkm hq'))))))))))))
       repeat' first|(with_reducible first|refine zz ?_|refine zr ?_)|simp -dsimp[hs]|refine zq c4 ?_|refine zq c5 ?_|refine zM 8 62 18 [0,1,2,3,4,5,6,7,8,9,10,11,12,19,25,26,27,28,49,55] ?_|with_reducible refine zE [0,1,2,3,4,5,6,7,8,9,10,11,12,19,25,26,27,28,49,55] ?_|refine j7 ?_ ?_<;>intro h<;>try simp only[j0] at h
       all_goals simp[G4]
  ·obtain rfl:k=l.length:=by omega
   rw[List.drop_eq_nil_of_le (Nat.le_refl _),qK] at hok
   rw[hok] at hE0
   simp only[true_and] at hE0
   have c6:=N8 (G:=G) 0 1000000000 [g] (by simp)
   simp only[C1,List.map_cons,List.map_nil,Ab.encI,encI,rI,List.all_cons,List.all_nil,Bool.and_true] at c6
   by_cases hg:0≤g∧g≤1000000000
   ·have c7:=lF (G:=G) c (x6 c) _ _ hG hOk hsm (ug (G:=G) hOk hsm hl hg.1 (by omega)) hSG
    rw[if_pos hg] at hE0
    have hR:bC c l g=H0 c (Z1 l g):=by rw[bC,H0,hE0]
    rw[hR,hE0]
    have hgt:(decide (0≤g)&&decide (g≤1000000000))=true:=by simp[hg]
    simp only[i8,rI] at c7
    rw[hgt] at c6
    have c8:DCall prog G 44 [.one (.im (i8 c (x6 c) (B0 c.reg c.lets))),.one (.fn (.func 45) [.ptr 0 0,.ptr 1 0])] [.row [.im (.sl (l.map m8))],.row [.im (.raw (.int .i64 g))]] (fun d o=>d=.tup [M7 (H0 c (Z1 l g)),iv (w5 c (Z1 l g))]∧o=[]++A1 2):=
     DCall.freeze 0 (c7 []) (Nat.zero_le _) rfl (by simp[fz,DC.lt,frz,H6,i8,rI]) (fun o r _ h=>by
      match o with
      | 0=>simp at h
      | 1=>simp at h
      | o+2=>simp at h)
    simp only[i8,rI,List.nil_append,A1,List.replicate] at c8
    have hs:=hlt
    repeat' first|(with_reducible first|refine zz ?_|refine zr ?_|refine zE [0,1,2,3,4,5,6,7,8,9,10,11,12,19,25,26,27,28,49,55] ?_)|simp -dsimp[hs]|refine zt c6 ?_ ?_ ?_;(focus simp;done);focus (simp;done)|refine CallE.embed [1,2] (c8) ?_ ?_ ?_ ?_ ?_ ?_;(focus simp[E0];done);(focus simp;done);(focus simp;done);(focus simp;done);(focus refine D4 ?_;simp[E0,F0];done);try simp -dsimp[x9,E0,hs]|refine j7 ?_ ?_<;>intro h<;>try simp only[j0] at h
   ·rw[if_neg hg] at hE0
    rw[bC,hE0,if_neg (by decide)]
    have hgt:(decide (0≤g)&&decide (g≤1000000000))=false:=by
     rw[Bool.eq_false_iff];simpa using hg
    rw[hgt] at c6
    have hs:=hlt
    repeat' first|(with_reducible first|refine zz ?_|refine zr ?_|refine zE [0,1,2,3,4,5,6,7,8,9,10,11,12,19,25,26,27,28,49,55] ?_)|simp -dsimp[hs]|refine zt c6 ?_ ?_ ?_;(focus simp;done);focus (simp;done)|refine j7 ?_ ?_<;>intro h<;>try simp only[j0] at h
    all_goals simp[G4]
 ·obtain⟨X,hX⟩:=F9 c
  rw[hX] at c1
  have hE:aj c l g=j6 c:=by rw[aj,if_pos h00]
  rw[bC,hE,if_neg h00]
  have hs:=h00
  repeat' first|(with_reducible first|refine zz ?_|refine zr ?_|refine zE [0,1,2,3,4,5,6,7,8,9,10,11,12,19,25,26,27,28,49,55] ?_)|simp -dsimp[hs]|refine zp c1 ?_|refine j7 ?_ ?_<;>intro h<;>try simp only[j0] at h
  all_goals simp[G4]
attribute [simp] p9 dO F1 U3 A1 C3 nilV N6 ZK
@[simp] theorem Cn:D6 prog 216=some [.int .i64 0,.int .i64 0,.string ⟨#[]⟩,.nilFunc]:=by kernel_rfl
def tX (n s:Int):Int:=n-n % s
def rO (n s:Int):Int:=if n % s=0 then n else n-n % s+s
theorem fD (n s:Int) (h0:0≤n) (h1:n≤1000000000) (h2:1≤s) (h3:s≤1000):zP prog G 212 [iv n,iv s] (.tup [iv (tX n s),iv (rO n s)]):=by
 refine zf func212 ntmps212 ?_
 try simp only[iv,iv]
 have hm:n.tmod s=n % s:=Int.tmod_eq_emod_of_nonneg h0
 have m0:0≤n % s:=Int.emod_nonneg _ (by omega)
 have m1:n % s<s:=Int.emod_lt_of_pos _ (by omega)
 have m2:n % s≤n:=by
  have:=Int.ediv_mul_add_emod n s
  have h5:0≤n / s:=Int.ediv_nonneg h0 (by omega)
  have h6:0≤n / s*s:=Int.mul_nonneg h5 (by omega)
  omega
 have hs0:¬ s=0:=by omega
 rw[tX,rO]
 generalize n % s=m at *
 have w1:IntKind.i64.wrap m=m:=o6 (by omega) (by omega)
 have w2:IntKind.i64.wrap (n-m)=n-m:=o6 (by omega) (by omega)
 have w3:IntKind.i64.wrap (n-m+s)=n-m+s:=o6 (by omega) (by omega)
 by_cases hz:m=0
 ·subst hz
  have w4:IntKind.i64.wrap n=n:=o6 (by omega) (by omega)
  have hs:=za hm (za w1 (za w2 (za w3 (za w4 hs0))))
  repeat' first|(with_reducible first|refine zz ?_|refine zr ?_|refine zE [0,1,4,5,13] ?_)|simp -dsimp[hs]|refine j7 ?_ ?_<;>intro h<;>try simp only[j0] at h
 ·have hne:¬ n-m=n:=by omega
  have hs:=za hm (za w1 (za w2 (za w3 (za hs0 hne))))
  repeat' first|(with_reducible first|refine zz ?_|refine zr ?_|refine zE [0,1,4,5,13] ?_)|simp -dsimp[hs]|refine j7 ?_ ?_<;>intro h<;>try simp only[j0] at h
  all_goals simp[hz]
def bx (G:Cr) (a b c:IC):Prop:=G 2=some [rI 0,rI 0,a,.raw .nilFunc,rI 100,rI 3,b,.fn (.func 212) [],rI 254,rI 4,c,.fn (.func 212) []]
def kH (n:Int):Int:=if n=1 then 100 else 254
def bw (s t:Int) (a:IC):DV:=.agg [.im (rI s),.im (rI t),.im a,.im (.fn (.func 212) [])]
theorem ud (s t:Int) (a:IC):ImV (bw s t a):=by simp[bw]
attribute [simp] ud
def ft (b c:IC) (n:Int):DV:=if n=1 then bw 100 3 b else bw 254 4 c
theorem rA (b c:IC) (n:Int):ImV (ft b c n):=by unfold ft;split<;>simp
attribute [simp] rA
def dG (d:Dim) (s:Int):Dim:=⟨if rO d.nominal s > 1000000000∨d.nominal-tX d.nominal s≤rO d.nominal s-d.nominal then tX d.nominal s else rO d.nominal s,rO d.lower s,tX d.upper s⟩
theorem po {n s:Int} (h0:0≤n) (h2:1≤s):0≤tX n s∧tX n s≤n∧n≤rO n s∧rO n s<n+s:=by
 have m0:0≤n % s:=Int.emod_nonneg _ (by omega)
 have m1:n % s<s:=Int.emod_lt_of_pos _ (by omega)
 have m2:n % s≤n:=by
  have:=Int.ediv_mul_add_emod n s
  have h5:0≤n / s:=Int.ediv_nonneg h0 (by omega)
  have h6:0≤n / s*s:=Int.mul_nonneg h5 (by omega)
  omega
 unfold tX rO
 split<;>omega
theorem xJ (d:Dim) (s t:Int) (a:IC) (hd:A4 d=true) (h2:1≤s) (h3:s≤1000):zP prog G 172 [G2 d,bw s t a] (.tup [G2 (dG d s),bv (decide (rO d.lower s≤tX d.upper s))]):=by
 refine zf func172 ntmps172 ?_
 try simp only[G2]
 rw[F8] at hd
 obtain⟨d1,d2,d3,d4,d5,d6⟩:=hd
 have c1:=fD (G:=G) d.lower s (by omega) (by omega) h2 h3
 have c2:=fD (G:=G) d.upper s (by omega) (by omega) h2 h3
 have c3:=fD (G:=G) d.nominal s (by omega) (by omega) h2 h3
 have e1:=po (n:=d.nominal) (s:=s) (by omega) h2
 have e2:=po (n:=d.lower) (s:=s) (by omega) h2
 have e3:=po (n:=d.upper) (s:=s) (by omega) h2
 simp only[bw,rI,dG]
 generalize tX d.nominal s=dn at *
 generalize rO d.nominal s=up at *
 generalize rO d.lower s=lo at *
 generalize tX d.upper s=hi at *
 have w1:IntKind.i64.wrap (d.nominal-dn)=d.nominal-dn:=o6 (by omega) (by omega)
 have w2:IntKind.i64.wrap (up-d.nominal)=up-d.nominal:=o6 (by omega) (by omega)
 by_cases hb:1000000000<up
 ·rw[if_pos (Or.inl hb)]
  have hs:=za w1 (za w2 hb)
  repeat' first|(with_reducible first|refine zz ?_|refine zr ?_|refine zE [0,1,2,3,4,5,7,8,10,11,59] ?_)|simp -dsimp[hs]|refine zp c1 ?_|refine zp c2 ?_|refine zp c3 ?_|refine j7 ?_ ?_<;>intro h<;>try simp only[j0] at h
 ·by_cases hc:d.nominal-dn≤up-d.nominal
  ·rw[if_pos (Or.inr hc)]
   have hs:=za w1 (za w2 (za hb hc))
   repeat' first|(with_reducible first|refine zz ?_|refine zr ?_|refine zE [0,1,2,3,4,5,7,8,10,11,59] ?_)|simp -dsimp[hs]|refine zp c1 ?_|refine zp c2 ?_|refine zp c3 ?_|refine j7 ?_ ?_<;>intro h<;>try simp only[j0] at h
  ·rw[if_neg (by omega)]
   have hs:=za w1 (za w2 (za hb hc))
   repeat' first|(with_reducible first|refine zz ?_|refine zr ?_|refine zE [0,1,2,3,4,5,7,8,10,11,59] ?_)|simp -dsimp[hs]|refine zp c1 ?_|refine zp c2 ?_|refine zp c3 ?_|refine j7 ?_ ?_<;>intro h<;>try simp only[j0] at h
theorem Bk (n:Int) (a b c:IC) (hU:bx G a b c) (hn:n=1∨n=2):zP prog G 144 [ue n] (.tup [ft b c n,iv 0]):=by
 refine zf func144 ntmps144 ?_
 try simp only[ue]
 have c1:=qW (G:=G) 1 2 [n] (by simp)
 simp only[C1,List.map_cons,List.map_nil,Ab.encI,encI,rI,List.all_cons,List.all_nil,Bool.and_true] at c1
 unfold bx at hU
 rw[show (decide ((1:Int)≤n)&&decide (n≤(2:Int)))=true by rw[Bool.and_eq_true,decide_eq_true_iff,decide_eq_true_iff];omega] at c1
 have w0:IntKind.i64.wrap n=n:=o6 (by omega) (by omega)
 rw[ft]
 rcases hn with rfl|rfl
 ·have w0':IntKind.i64.wrap 1=1:=by decide
  rw[if_pos rfl]
  have hs:=za hU w0'
  repeat' first|(with_reducible first|refine zz ?_|refine zr ?_|refine zE [0,2,3,8] ?_)|simp -dsimp[hs]|refine zt c1 ?_ ?_ ?_;(focus simp;done);focus (simp;done)|refine j7 ?_ ?_<;>intro h<;>try simp only[j0] at h
  all_goals simp[bw]
 ·have w0':IntKind.i64.wrap 2=2:=by decide
  rw[if_neg (by decide)]
  have hs:=za hU w0'
  repeat' first|(with_reducible first|refine zz ?_|refine zr ?_|refine zE [0,2,3,8] ?_)|simp -dsimp[hs]|refine zt c1 ?_ ?_ ?_;(focus simp;done);focus (simp;done)|refine j7 ?_ ?_<;>intro h<;>try simp only[j0] at h
  all_goals simp[bw]
theorem wE (d:Dim) (n:Int):DCall prog G 145 [G2 d,.one (.im (.sl [[.raw (.int .u8 n)]]))] [] (fun r o=>r=.one (.fn (.func 171) [.ptr 1 0,.ptr 0 0])∧o=[.row [.im (rI d.nominal),.im (rI d.lower),.im (rI d.upper)],.row [.im (.sl [[.raw (.int .u8 n)]])]]):=by
 simp only[G2,rI]
 refine j5 func145 rfl ntmps145 (by simp) rfl ?_
 repeat' first|(with_reducible first|refine zz ?_|refine zx ?_|refine zE [0,1,2,3,4] ?_)|simp -dsimp|with_reducible refine And.intro ?_ ?_
attribute [simp] p9 dO F1 U3 A1 C3 nilV N6 ZK
def xA (d:Dim) (n:Int):Int:=if (dG d (kH n)).lower≤(dG d (kH n)).upper then 0 else 6
def tZ (d:Dim) (n:Int):Dim:=if (dG d (kH n)).lower≤(dG d (kH n)).upper then dG d (kH n) else rp
theorem rL (d:Dim) (n:Int) (a b c:IC) (hU:bx G a b c) (hd:A4 d=true) (hn:n=1∨n=2):zP prog G 113 [G2 d,.one (.im (.sl [[.raw (.int .u8 n)]]))] (.tup [G2 (tZ d n),iv (xA d n)]):=by
 refine zf func113 ntmps113 ?_
 try simp only[G2]
 have c1:=gk (G:=G) d
 rw[if_pos hd] at c1
 have c2:=Bk (G:=G) n a b c hU hn
 obtain⟨t,m,hUe⟩:∃ t m,ft b c n=bw (kH n) t m:=by
  rcases hn with rfl|rfl
  ·exact⟨3,b,rfl⟩
  ·exact⟨4,c,rfl⟩
 rw[hUe] at c2
 simp only[bw,rI] at c2
 have c3:=wE (G:=G) d n
 simp only[G2,rI] at c1 c3
 have hs:=trivial
 repeat' first|(with_reducible first|refine zz ?_|refine zE [0,1,2,4,5,6,8,10,11,12,13,17,22,24,25,26,27,36,44,45,52] ?_)|simp -dsimp[hs]|refine zp c1 ?_|refine j7 ?_ ?_<;>intro h<;>try simp only[j0] at h
 all_goals try clear hs
 refine i7 (ι:={ k:Nat // k≤1 }) (fun k=>⟨56,[(1,.one (.im (.sl [[.raw (.int .u8 n)]]))),(2,.one (.ptr 0 0)),(4,.one (.ptr 1 0)),(5,iv 0),(24,.one (.im (.sl [[.raw (.int .u8 n)]]))),(25,iv 1),(26,iv (k.1:Int))],[.row [.im (rI d.nominal),.im (rI d.lower),.im (rI d.upper)],.row [.im (rI 0),.im (rI 0),.im (rI 0)]]⟩) (fun k=>1-k.1) ⟨0,by omega⟩ (zv [1,2,4,5,24,25,26]) ?_
 rintro⟨k,hk⟩
 simp only[iv,rI]
 have hk2:k=0∨k=1:=by omega
 rcases hk2 with rfl|rfl
 ·have w1:IntKind.i64.wrap 1=1:=by decide
  have hs:=w1
  repeat' first|(with_reducible first|refine zz ?_|refine zE [0,1,2,4,5,6,8,10,11,12,13,17,22,24,25,26,27,36,44,45,52] ?_)|simp -dsimp[hs]|refine zp c2 ?_|refine j7 ?_ ?_<;>intro h<;>try simp only[j0] at h
  all_goals try clear hs
  all_goals exact At.round ⟨1,by omega⟩ (by simp) (zw [1,2,4,5,24,25,26] 2 (by simp[w1]))
 ·have hs:=trivial
  repeat' first|(with_reducible first|refine zz ?_|refine zE [0,1,2,4,5,6,8,10,11,12,13,17,22,24,25,26,27,36,44,45,52] ?_)|simp -dsimp[hs]|refine CallE.embed [] (c3) ?_ ?_ ?_ ?_ ?_ ?_;(focus simp[E0];done);(focus simp;done);(focus simp;done);(focus simp;done);(focus refine D4 ?_;simp[E0,F0];done);try simp -dsimp[x9,E0,hs]|refine j7 ?_ ?_<;>intro h<;>try simp only[j0] at h
  all_goals try clear hs
  refine O1 (f:=171) (by simp;exact rfl) (by rfl) call171 ?_
  generalize hR:LoopD.mk _ _ _ _ _ _ _=R
  have hR1:R.st=.ready:=by rw[← hR]
  have hR2:R.pend=none:=by rw[← hR]
  have hR3:R.at .ready none=R:=by rw[← hR];rfl
  have hR4:=(congrArg LoopD.nt hR).symm
  have hR5:=(congrArg LoopD.tm hR).symm
  have hR6:=(congrArg LoopD.ps hR).symm
  have hR7:=(congrArg LoopD.asg hR).symm
  have hR8:=(congrArg LoopD.body hR).symm
  dsimp only at hR4 hR5 hR6 hR7 hR8
  clear hR
  refine j5 func171 rfl ntmps171 (by simp) rfl ?_
  have hs:=za hR1 (za hR2 hR3)
  repeat' first|(with_reducible first|refine zz ?_|refine zE [0,1,2,4,5,6,7,8,9,10,11,12,13,17,22,24,25,26,27,29,36,44,45,52] ?_)|simp -dsimp[hs]
  all_goals try clear hs
  have c4:=xJ (G:=G) d (kH n) t m hd (by unfold kH;split<;>omega) (by unfold kH;split<;>omega)
  have hcv:xA d n=if (dG d (kH n)).lower≤(dG d (kH n)).upper then 0 else 6:=rfl
  have hcd:tZ d n=if (dG d (kH n)).lower≤(dG d (kH n)).upper then dG d (kH n) else rp:=rfl
  have hlo:rO d.lower (kH n)=(dG d (kH n)).lower:=rfl
  have hhi:tX d.upper (kH n)=(dG d (kH n)).upper:=rfl
  rw[hlo,hhi] at c4
  rw[hcv,hcd]
  simp only[bw,ft,rI] at c4 hUe
  generalize dG d (kH n)=x at *
  generalize kH n=s at *
  unfold bx at hU
  refine i7 (ι:={ k:Nat // k≤1∧(k=1→x.lower≤x.upper) }) (fun k=>⟨32,[(0,.one (.yld 6)),(1,.one (.ptr 5 0)),(2,.one (.ptr 4 0)),(8,.one (.im (.sl [[.raw (.int .u8 n)]]))),(9,iv 1),(10,iv (k.1:Int))],[.row [.im (rI d.nominal),.im (rI d.lower),.im (rI d.upper)],.row [.im (rI 0),.im (rI 0),.im (rI 0)],.row [.im (rI (if k.1=0 then d else x).nominal),.im (rI (if k.1=0 then d else x).lower),.im (rI (if k.1=0 then d else x).upper)],.row [.im (rI (k.1:Int))],.row [.im (rI (if k.1=0 then d else x).nominal),.im (rI (if k.1=0 then d else x).lower),.im (rI (if k.1=0 then d else x).upper)],.row [.im (.sl [[.raw (.int .u8 n)]])],.loop R]⟩) (fun k=>1-k.1) ⟨0,by simp⟩ (zv [0,1,2,8,9,10]) ?_
  rintro⟨k,hk,hxk⟩
  simp only[iv,rI]
  have hk2:k=0∨k=1:=by omega
  rcases hk2 with rfl|rfl
  ·have w1:IntKind.i64.wrap 1=1:=by decide
   have hR9:∀ objs:List DObj,(R.tm.map fun x=>(x.1,dw 7 objs x.2))=R.tm:=by intro objs;rw[hR5];simp
   by_cases hle:x.lower≤x.upper
   ·rw[if_pos hle,if_pos hle]
    rw[decide_eq_true hle] at c4
    rcases hn with rfl|rfl
    ·simp at hUe
     obtain⟨rfl,rfl,rfl⟩:=hUe
     have hs:=za hR1 (za hR2 (za hR3 (za w1 (za hU hle))))
     repeat' first|with_reducible refine zz ?_|simp -dsimp[hs]|with_reducible refine At.yield_end ?_;simp -dsimp[hs]|refine cN ?_ ?_<;>simp -dsimp[hs]|refine U7 ?_;simp -dsimp[T2,hR4,hR5,hR6,hR7,hR8,hs]|refine zq c4 ?_|refine o7 (id:=3) (nt:=32) 9 [7] [0,1,2,5,6,7,8,9,10,11,14,15,16,17,18,19,20,29] [0,1,2,5,6,7,8,9,10,11,29] mixed rfl (by kernel_rfl) ?_|with_reducible refine zE [0,1,2,4,5,6,7,8,9,10,11,12,13,17,22,24,25,26,27,29,36,44,45,52] ?_|refine j7 ?_ ?_<;>intro h<;>try simp only[j0] at h
     all_goals try clear hs
     all_goals exact At.round ⟨1,by omega,fun _=>hle⟩ (by simp) (zw [0,1,2,8,9,10] 7 (by simp[hR9]))
    ·simp at hUe
     obtain⟨rfl,rfl,rfl⟩:=hUe
     have hs:=za hR1 (za hR2 (za hR3 (za w1 (za hU hle))))
     repeat' first|with_reducible refine zz ?_|simp -dsimp[hs]|with_reducible refine At.yield_end ?_;simp -dsimp[hs]|refine cN ?_ ?_<;>simp -dsimp[hs]|refine U7 ?_;simp -dsimp[T2,hR4,hR5,hR6,hR7,hR8,hs]|refine zq c4 ?_|refine o7 (id:=3) (nt:=32) 9 [7] [0,1,2,5,6,7,8,9,10,11,14,15,16,17,18,19,20,29] [0,1,2,5,6,7,8,9,10,11,29] mixed rfl (by kernel_rfl) ?_|with_reducible refine zE [0,1,2,4,5,6,7,8,9,10,11,12,13,17,22,24,25,26,27,29,36,44,45,52] ?_|refine j7 ?_ ?_<;>intro h<;>try simp only[j0] at h
     all_goals try clear hs
     all_goals exact At.round ⟨1,by omega,fun _=>hle⟩ (by simp) (zw [0,1,2,8,9,10] 7 (by simp[hR9]))
   ·rw[if_neg hle,if_neg hle]
    rw[decide_eq_false hle] at c4
    rcases hn with rfl|rfl
    ·simp at hUe
     obtain⟨rfl,rfl,rfl⟩:=hUe
     have hs:=za hR1 (za hR2 (za hR3 (za w1 (za hU hle))))
     repeat' first|(with_reducible first|refine zz ?_|refine zr ?_ (by simp -dsimp[r8,hs];exact rfl))|simp -dsimp[r8,hs]|with_reducible show r8 _ _ _ _ _ _ _ _;simp -dsimp[r8,hs]|refine zq c4 ?_|refine o7 (id:=3) (nt:=32) 9 [7] [0,1,2,5,6,7,8,9,10,11,14,15,16,17,18,19,20,29] [0,1,2,5,6,7,8,9,10,11,29] mixed rfl (by kernel_rfl) ?_|with_reducible refine zE [0,1,2,4,5,6,7,8,9,10,11,12,13,17,22,24,25,26,27,29,36,44,45,52] ?_|refine j7 ?_ ?_<;>intro h<;>try simp only[j0] at h
     all_goals try clear hs
     all_goals simp[rp]
    ·simp at hUe
     obtain⟨rfl,rfl,rfl⟩:=hUe
     have hs:=za hR1 (za hR2 (za hR3 (za w1 (za hU hle))))
     repeat' first|(with_reducible first|refine zz ?_|refine zr ?_ (by simp -dsimp[r8,hs];exact rfl))|simp -dsimp[r8,hs]|with_reducible show r8 _ _ _ _ _ _ _ _;simp -dsimp[r8,hs]|refine zq c4 ?_|refine o7 (id:=3) (nt:=32) 9 [7] [0,1,2,5,6,7,8,9,10,11,14,15,16,17,18,19,20,29] [0,1,2,5,6,7,8,9,10,11,29] mixed rfl (by kernel_rfl) ?_|with_reducible refine zE [0,1,2,4,5,6,7,8,9,10,11,12,13,17,22,24,25,26,27,29,36,44,45,52] ?_|refine j7 ?_ ?_<;>intro h<;>try simp only[j0] at h
     all_goals try clear hs
     all_goals simp[rp]
  ·have hle:=hxk rfl
   rw[if_pos hle,if_pos hle]
   have hs:=za hR1 (za hR2 hR3)
   repeat' first|(with_reducible first|refine zz ?_|refine zr ?_ (by simp -dsimp[r8,hs];exact rfl)|refine ze ?_ (by simp -dsimp[r8,hs];exact rfl)|refine zE [0,1,2,4,5,6,7,8,9,10,11,12,13,17,22,24,25,26,27,29,36,44,45,52] ?_)|simp -dsimp[r8,hs]|with_reducible show r8 _ _ _ _ _ _ _ _;simp -dsimp[r8,hs]|refine j7 ?_ ?_<;>intro h<;>try simp only[j0] at h
   all_goals try clear hs
theorem tc (d:Dim) (n:Int) (a b c:IC) (hU:bx G a b c) (hd:A4 d=true) (hn:n=1∨n=2):zP prog G 68 [G2 d,ue n] (.tup [G2 (tZ d n),iv (xA d n)]):=by
 refine zf func68 ntmps68 ?_
 try simp only[G2,ue]
 have c1:=rL (G:=G) d n a b c hU hd hn
 generalize tZ d n=x at *
 generalize xA d n=e at *
 simp only[G2,rI] at c1
 repeat' first|(with_reducible first|refine zz ?_|refine zx ?_|refine zE [0,1,2,4,5] ?_)|simp -dsimp|refine zt c1 ?_ ?_ ?_;(focus simp;done);focus (simp;done)
end Go.Proofs
