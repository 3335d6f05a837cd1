/- Part 19 of the proofs. -/
import Derived.Test.YtpcoahkgkgmmlaaGreatDoorS09
import Derived.Test.YtpcoahkgkgmmlaaGreatDoorS14
import Derived.Test.YtpcoahkgkgmmlaaGreatDoorS15
import Derived.Test.YtpcoahkgkgmmlaaGreatDoorS16
import Derived.Test.YtpcoahkgkgmmlaaGreatDoorS17
import Derived.Test.YtpcoahkgkgmmlaaGreatDoorS18
set_option linter.all false
set_option linter.deprecated false
set_option maxHeartbeats 100000000
namespace Go.Proofs
open Go Go.Ab Tryz
variable {G:Es}
attribute [simp] r5 aT D9 J6 o9 x7 nilV H2 ZK
def aD (a b:Issue):Int:=ei [a.drawing-b.drawing,a.letter-b.letter]
def iC (x:Issue):Prop:=0≤x.drawing∧x.drawing≤1000000000∧0≤x.letter∧x.letter≤1000000000
theorem AY (a b:Issue) (ha:iC a) (hb:iC b):DCall prog G 98 [.agg ((j0 a).map wk),.agg ((j0 b).map wk)] [] (fun d o=>d=iv (aD a b)∧o=[]):=by
 refine DCall.drop ?_
 obtain⟨a1,a2,a3,a4⟩:=ha
 obtain⟨b1,b2,b3,b4⟩:=hb
 have w1:IntKind.i64.wrap (a.drawing-b.drawing)=a.drawing-b.drawing:=u7 (by omega) (by omega)
 have w2:IntKind.i64.wrap (a.letter-b.letter)=a.letter-b.letter:=u7 (by omega) (by omega)
 have c3:=vM (G:=G) [a.drawing-b.drawing,a.letter-b.letter] (by simp)
 have hE:aD a b=ei [a.drawing-b.drawing,a.letter-b.letter]:=rfl
 rw[← hE] at c3
 simp only[j0,List.map_cons,List.map_nil,rI,wk]
 refine l5 func98 rfl ntmps98 (by simp) rfl ?_
 have hs:=za w1 w2
 repeat' first|(with_reducible first|refine zz ?_|refine zr ?_|refine zE [0,1,2,3,4] ?_)|simp -dsimp[hs]|refine zt c3 ?_ ?_ ?_;(focus simp;done);focus (simp;done)|with_reducible refine And.intro ?_ ?_
theorem zT (n:Int):zP prog G 99 [iv n] (bv (decide (8<n))):=by
 refine zf func99 ntmps99 ?_
 try simp only[iv]
 repeat' first|(with_reducible first|refine zz ?_|refine zx ?_|refine zE [0,2] ?_)|simp -dsimp
theorem sw (a b:Dim):(a.nominal=b.nominal∧a.lower=b.lower∧a.upper=b.upper)↔a=b:=by
 constructor
 ·intro⟨h1,h2,h3⟩;cases a;cases b;simp_all
 ·rintro rfl;simp
theorem pb (a b:List Dim) (ha:a.length<1000000) (hb:b.length<1000000):zP prog G 95 [.one (.im (.sl (a.map l6))),.one (.im (.sl (b.map l6)))] (bv (decide (a=b))):=by
 refine zf func95 ntmps95 ?_
 try simp only[iv]
 by_cases hl:a.length=b.length
 ·have hli:(a.length:Int)=b.length:=by omega
  have hs:=za hl hli
  repeat' first|(with_reducible first|refine zz ?_|refine zE [0,1,4,5,10,12,13,14,24] ?_)|simp -dsimp[hs]|refine m5 ?_ ?_<;>intro h<;>try simp only[l8] at h
  refine j7 (ι:={ k:Nat // k≤b.length∧a.take k=b.take k }) (fun p=>⟨26,[(0,.one (.im (.sl (a.map l6)))),(1,.one (.im (.sl (b.map l6)))),(12,iv (b.length:Int)),(13,iv (p.1:Int))],[]⟩) (fun p=>b.length-p.1) ⟨0,by simp⟩ (zv [0,1,12,13] (by simp[hl])) ?_
  rintro⟨k,hk,he⟩
  simp only[iv]
  by_cases hlt:k<b.length
  ·have hw:=zk k
   have hka:k<a.length:=by omega
   have hta:a.take (k+1)=a.take k++[a[k]]:=List.take_succ_eq_append_getElem hka
   have htb:b.take (k+1)=b.take k++[b[k]]:=List.take_succ_eq_append_getElem hlt
   generalize hx:a[k]=x at *
   generalize hy:b[k]=y at *
   by_cases hxy:x=y
   ·have hs:=za hx (za hy (za hlt (za hka (za hw hxy))))
    repeat' first|with_reducible refine zz ?_|simp -dsimp[hs]|refine zM 6 26 9 [0,1,4,5,10,12,13,14,24] ?_|with_reducible refine zE [0,1,4,5,10,12,13,14,24] ?_|refine m5 ?_ ?_<;>intro h<;>try simp only[l8] at h
    all_goals exact zn ⟨k+1,by omega,by rw[hta,htb,he,hxy]⟩ (zv [0,1,12,13] (by simp[hl]))
   ·have hne:¬ a=b:=fun e=>hxy (by subst e;rw[← hx,← hy])
    have hxy':=mt (sw x y).1 hxy
    have hs:=za hx (za hy (za hlt (za hka hxy')))
    repeat' first|(with_reducible first|refine zz ?_|refine zr ?_)|simp -dsimp[hs]|refine zM 6 26 9 [0,1,4,5,10,12,13,14,24] ?_|with_reducible refine zE [0,1,4,5,10,12,13,14,24] ?_|refine m5 ?_ ?_<;>intro h<;>try simp only[l8] at h
    all_goals first|exact hne|(exact absurd (by assumption) hxy')|simp[hne]
  ·obtain rfl:k=b.length:=by omega
   rw[List.take_length,← hl,List.take_length] at he
   have hs:=hlt
   repeat' first|(with_reducible first|refine zz ?_|refine zr ?_|refine zE [0,1,4,5,10,12,13,14,24] ?_)|simp -dsimp[hs]|refine m5 ?_ ?_<;>intro h<;>try simp only[l8] at h
   all_goals simp[he]
 ·have hli:¬ (a.length:Int)=b.length:=by omega
  have hne:¬ a=b:=fun e=>hl (by rw[e])
  have hs:=za hl hli
  repeat' first|(with_reducible first|refine zz ?_|refine zr ?_|refine zE [0,1,4,5,10,12,13,14,24] ?_)|simp -dsimp[hs]|refine m5 ?_ ?_<;>intro h<;>try simp only[l8] at h
  all_goals simp[hne]
abbrev uw:={ x:Issue // iC x }
def yx (x:uw):List IC:=j0 x.1
theorem K0 (a b:Issue):aD a b<0↔a.drawing<b.drawing∨a.drawing=b.drawing∧a.letter<b.letter:=by
 unfold aD ei ei ei
 repeat' split
 all_goals omega
def Z0 (G:Es):Prop:=∀ (l:List uw) (gn sz:Nat) (nl:Bool),(sz=5∨nl=true∧l=[])→l.length<1000000 →
 DCall prog G 97 [.one (.vec 0 gn 0 l.length),.one (.im (.fn (.func 98) []))] [.vec sz (o7 (l.map yx)) gn nl] (fun d o=>d=.tup []∧∃ l':List uw,l'.Perm l∧(l'.Pairwise fun a b=>¬ aD b.1 a.1<0)∧o=[.vec sz (o7 (l'.map yx)) gn nl])
end Go.Proofs
namespace Go.Proofs
open Go Go.Ab Tryz
def N4 (R:List Issue):Prop:=∀ a∈R,∀ b∈R,a.drawing=b.drawing→a.letter=b.letter→a=b
def qJ (x:Issue):List Issue→List Issue
 | []=>[x]
 | y :: r=>if aD x y<0 then x :: y :: r else y :: qJ x r
def x5 (l:List Issue):List Issue:=l.foldr qJ []
theorem ii (x:Issue):∀ l,(qJ x l).Perm (x :: l)
 | []=>.refl _
 | y :: r=>by
   unfold qJ
   split
   ·exact .refl _
   ·exact((ii x r).cons y).trans (.swap x y r)
theorem E0:∀ l,(x5 l).Perm l
 | []=>.refl _
 | x :: r=>(ii x _).trans ((E0 r).cons x)
def D5 (l:List Issue):Prop:=l.Pairwise fun a b=>¬ aD b a<0
theorem iO (x:Issue):∀ l,D5 l→D5 (qJ x l)
 | [],_=>by simp[qJ,D5]
 | y :: r,h=>by
   have h':D5 (y :: r):=h
   unfold D5 at h
   rw[List.pairwise_cons] at h
   unfold qJ
   split
   ·rename_i hc
    unfold D5
    rw[List.pairwise_cons]
    refine⟨fun b hb=>?_,h'⟩
    rw[K0] at hc ⊢
    rcases List.mem_cons.1 hb with rfl|hb
    ·omega
    ·have:=h.1 b hb
     rw[K0] at this
     omega
   ·rename_i hc
    unfold D5
    rw[List.pairwise_cons]
    refine⟨fun b hb=>?_,iO x r h.2⟩
    rcases List.mem_cons.1 ((ii x r).mem_iff.1 hb) with rfl|hb
    ·exact hc
    ·exact h.1 b hb
theorem X5:∀ l,D5 (x5 l)
 | []=>by simp[x5,D5]
 | x :: r=>iO x _ (X5 r)
theorem I5 {l l':List Issue} (hp:l'.Perm l) (hk:N4 l) (hs:D5 l'):l'=x5 l:=by
 refine List.Perm.eq_of_pairwise (le:=fun a b=>¬ aD b a<0) (fun a b ha hb h1 h2=>?_) hs (X5 l) (hp.trans (E0 l).symm)
 rw[K0] at h1 h2
 exact hk a (hp.mem_iff.1 ha) b ((E0 l).mem_iff.1 hb) (by omega) (by omega)
theorem R8 (l:List Issue):(x5 l).length=l.length:=(E0 l).length_eq
theorem xH {G:Es} (hSF:Z0 G) {l:List Issue} (hT:∀ x∈l,iC x) (hk:N4 l) (hl:l.length<1000000) (gn:Nat) (nl:Bool) :
 DCall prog G 97 [.one (.vec 0 gn 0 l.length),.one (.im (.fn (.func 98) []))] [.vec 5 (o7 (l.map j0)) gn nl] (fun d o=>d=.tup []∧o=[.vec 5 (o7 ((x5 l).map j0)) gn nl]):=by
 have h:=hSF (l.attach.map fun x=>⟨x.1,hT x.1 x.2⟩) gn 5 nl (.inl rfl) (by simpa using hl)
 have e1:(l.attach.map fun x=>(⟨x.1,hT x.1 x.2⟩:uw)).map yx=l.map j0:=by
  rw[List.map_map]
  exact(List.map_attach_eq_pmap ..).trans (List.pmap_eq_map ..)
 rw[e1] at h
 simp only[List.length_map,List.length_attach] at h
 refine h.mono fun d o ⟨h1,l',h2,h3,h4⟩=>⟨h1,?_⟩
 have h5:(l'.map Subtype.val)=x5 l:=by
  refine I5 ?_ hk ?_
  ·have:=h2.map Subtype.val
   rw[List.map_map] at this
   refine this.trans ?_
   have e2:(l.attach.map (Subtype.val ∘ fun x=>(⟨x.1,hT x.1 x.2⟩:uw)))=l:=(List.map_attach_eq_pmap ..).trans ((List.pmap_eq_map ..).trans (List.map_id _))
   rw[e2]
  ·unfold D5
   rw[List.pairwise_map]
   exact h3
 rw[h4,← h5,List.map_map]
 rfl
def K7 (reg:List Issue) (x:Issue) (n:Int) (ds:List Dim):Issue:={ x with letter:=(B6 reg n:Int)+1,dims:=ds }
def R0 (reg:List Issue) (B:List (Int×Issue)) (f:Issue→List Dim×Int):List Int→Nat→List Issue→List Int→List Issue×List Int×Int
 | [],_,R,L=>(R,L,0)
 | n :: r,i,R,L=>if (f (p4 B n)).2≠0 then (R,L,(f (p4 B n)).2) else if (f (p4 B n)).1=(p4 B n).dims then R0 reg B f r (i+1) R L else
   R0 reg B f r (i+1) (R++[K7 reg (p4 B n) n (f (p4 B n)).1]) (L.set i ((B6 reg n:Int)+1))
theorem nG {reg:List Issue} {B:List (Int×Issue)} {f:Issue→List Dim×Int} (hreg:reg.length≤1000):∀ (r:List Int) (i:Nat) (R:List Issue) (L:List Int),r.Nodup→(∀ n∈r,(p4 B n).drawing=n∧0≤n∧n≤1000000000)→(∀ x∈R,iC x)→N4 R →
 (∀ x∈R,x.drawing∈r→x.letter≤(B6 reg x.drawing:Int))→(∀ x∈(R0 reg B f r i R L).1,iC x)∧N4 (R0 reg B f r i R L).1∧(R0 reg B f r i R L).1.length≤R.length+r.length∧(R0 reg B f r i R L).2.1.length=L.length
 | [],i,R,L,_,_,h1,h2,_=>⟨h1,h2,by simp[R0],rfl⟩
 | n :: r,i,R,L,hn,hB,h1,h2,h3=>by
   rw[List.nodup_cons] at hn
   have hr:∀ m∈r,(p4 B m).drawing=m∧0≤m∧m≤1000000000:=fun m hm=>hB m (List.mem_cons_of_mem _ hm)
   obtain⟨b1,b2,b3⟩:=hB n List.mem_cons_self
   unfold R0
   split
   ·exact⟨h1,h2,by simp,rfl⟩
   ·split
    ·obtain⟨k1,k2,k3,k4⟩:=nG (f:=f) hreg r (i+1) R L hn.2 hr h1 h2 fun x hx hm=>h3 x hx (List.mem_cons_of_mem _ hm)
     exact⟨k1,k2,by rw[List.length_cons];omega,k4⟩
    ·have hc:B6 reg n≤reg.length:=List.length_filter_le _ _
     have hd:(K7 reg (p4 B n) n (f (p4 B n)).1).drawing=n:=b1
     have hl:(K7 reg (p4 B n) n (f (p4 B n)).1).letter=(B6 reg n:Int)+1:=rfl
     generalize K7 reg (p4 B n) n (f (p4 B n)).1=y at *
     obtain⟨k1,k2,k3,k4⟩:=nG (f:=f) hreg r (i+1) (R++[y]) (L.set i ((B6 reg n:Int)+1)) hn.2 hr (fun x hx=>by
      rcases List.mem_append.1 hx with hx|hx
      ·exact h1 x hx
      ·simp at hx;subst hx
       exact⟨by omega,by omega,by omega,by omega⟩) (fun a ha b hb e1 e2=>by
      rcases List.mem_append.1 ha with ha|ha<;>rcases List.mem_append.1 hb with hb|hb
      ·exact h2 a ha b hb e1 e2
      ·simp at hb;subst hb
       have:=h3 a (by assumption) (by rw[e1,hd];exact List.mem_cons_self)
       rw[e1,hd] at this;omega
      ·simp at ha;subst ha
       have:=h3 b (by assumption) (by rw[← e1,hd];exact List.mem_cons_self)
       rw[← e1,hd] at this;omega
      ·simp at ha hb;rw[ha,hb]) (fun x hx hm=>by
      rcases List.mem_append.1 hx with hx|hx
      ·exact h3 x hx (List.mem_cons_of_mem _ hm)
      ·simp at hx;subst hx
       rw[hd] at hm;exact absurd hm hn.1)
     exact⟨k1,k2,by rw[List.length_append] at k3;simp at k3 ⊢;omega,by rw[k4,List.length_set]⟩
theorem qh {p:Option Issue} {x:Issue} {r:List Issue} {ds:List Int} (h:o3 p (x :: r)=some ds) :
 ∃ ds',o3 (some x) r=some ds'∧((∃ y,p=some y∧y.drawing=x.drawing∧x.letter=y.letter+1)∨((∀ y,p=some y→y.drawing<x.drawing)∧x.letter=1)):=by
 have hok:o8 x=true:=by
  cases hx:o8 x
  ·rw[gL hx] at h;cases h
  ·rfl
 cases p with
 | none =>
   simp only[o3,hok] at h
   split at h
   ·cases h
   ·split at h
    ·cases h
    ·rename_i hl
     obtain⟨ds',h1,h2⟩:=Option.map_eq_some_iff.1 h
     exact⟨ds',h1,.inr ⟨by simp,by simpa using hl⟩⟩
 | some y =>
   simp only[o3,hok] at h
   split at h
   ·cases h
   ·split at h
    ·rename_i hd
     split at h
     ·cases h
     ·rename_i hl
      exact⟨ds,h,.inl ⟨y,rfl,hd,by omega⟩⟩
    ·split at h
     ·cases h
     ·split at h
      ·cases h
      ·rename_i hl
       obtain⟨ds',h1,h2⟩:=Option.map_eq_some_iff.1 h
       exact⟨ds',h1,.inr ⟨fun y' e=>by cases e;omega,by simpa using hl⟩⟩
def gU (p:Option Issue) (d:Int):Int:=match p with|some y=>if y.drawing=d then y.letter else 0|none=>0
theorem dY (x:Issue) (r:List Issue) (d:Int):B6 (x :: r) d=(if x.drawing=d then 1 else 0)+B6 r d:=by
 unfold B6
 rw[List.filter_cons]
 by_cases h:x.drawing=d
 ·simp[h];omega
 ·simp[h]
theorem bo:∀ (l:List Issue) (p:Option Issue) (ds:List Int),o3 p l=some ds→(∀ y,p=some y→0≤y.letter) →
 (∀ y,p=some y→∀ x∈l,y.drawing<x.drawing∨(y.drawing=x.drawing∧y.letter<x.letter))∧l.Pairwise (fun a b=>a.drawing<b.drawing∨(a.drawing=b.drawing∧a.letter<b.letter))∧∀ x∈l,1≤x.letter∧x.letter≤gU p x.drawing+(B6 l x.drawing:Int)
 | [],p,ds,_,_=>by simp
 | x :: r,p,ds,h,hp=>by
   obtain⟨ds',h1,h2⟩:=qh h
   have hx1:1≤x.letter:=by
    rcases h2 with⟨y,hy,_,h3⟩|⟨_,h3⟩
    ·have:=hp y hy;omega
    ·omega
   obtain⟨k1,k2,k3⟩:=bo r (some x) ds' h1 (fun y e=>by cases e;omega)
   have k1':=k1 x rfl
   have hxp:∀ y,p=some y→y.drawing<x.drawing∨(y.drawing=x.drawing∧y.letter<x.letter):=fun y hy=>by
    rcases h2 with⟨y',hy',h4,h3⟩|⟨h4,_⟩
    ·rw[hy] at hy';cases hy';exact .inr ⟨h4,by omega⟩
    ·exact .inl (h4 y hy)
   refine⟨fun y hy z hz=>?_,List.pairwise_cons.2 ⟨k1',k2⟩,fun z hz=>?_⟩
   ·have h5:=hxp y hy
    rcases List.mem_cons.1 hz with rfl|hz
    ·exact h5
    ·have:=k1' z hz;omega
   ·rw[dY]
    rcases List.mem_cons.1 hz with rfl|hz
    ·refine⟨hx1,?_⟩
     rw[if_pos rfl]
     rcases h2 with⟨y,rfl,h4,h3⟩|⟨h4,h3⟩
     ·simp only[gU,h4,if_true];omega
     ·have:0≤gU p z.drawing:=by
       unfold gU;split
       ·split
        ·exact hp _ rfl
        ·omega
       ·omega
      omega
    ·obtain⟨m1,m2⟩:=k3 z hz
     refine⟨m1,?_⟩
     simp only[gU] at m2
     by_cases e:x.drawing=z.drawing
     ·rw[if_pos e] at m2 ⊢
      have:x.letter≤gU p z.drawing+1:=by
       rcases h2 with⟨y,rfl,h4,h3⟩|⟨h4,h3⟩
       ·simp only[gU,h4.trans e,if_true];omega
       ·have:0≤gU p z.drawing:=by
         unfold gU;split
         ·split
          ·exact hp _ rfl
          ·omega
         ·omega
        omega
      omega
     ·rw[if_neg e] at m2 ⊢
      have:0≤gU p z.drawing:=by
       unfold gU;split
       ·split
        ·exact hp _ rfl
        ·omega
       ·omega
      omega
theorem U7 {l:List Issue} (h:o6 l=0):N4 l∧∀ x∈l,1≤x.letter∧x.letter≤(B6 l x.drawing:Int):=by
 have hs:=x6 (r9 h)
 obtain⟨_,k2,k3⟩:=bo l none _ hs (fun y e=>by cases e)
 refine⟨fun a ha b hb e1 e2=>?_,fun x hx=>?_⟩
 ·obtain⟨i,hi⟩:=List.mem_iff_getElem?.1 ha
  obtain⟨j,hj⟩:=List.mem_iff_getElem?.1 hb
  obtain⟨hil,hia⟩:=List.getElem?_eq_some_iff.1 hi
  obtain⟨hjl,hjb⟩:=List.getElem?_eq_some_iff.1 hj
  rw[List.pairwise_iff_getElem] at k2
  rcases Nat.lt_trichotomy i j with h'|h'|h'
  ·have:=k2 i j hil hjl h'
   rw[hia,hjb] at this;omega
  ·subst h';rw[hi] at hj;exact Option.some.inj hj
  ·have:=k2 j i hjl hil h'
   rw[hia,hjb] at this;omega
 ·have:=k3 x hx
  simpa[gU] using this
open Go Go.Ab
variable {G:Es}
attribute [simp] r5 aT D9 J6 o9 x7 nilV H2 ZK
def D3 (c:Chains) (f:Issue→List Dim×Int):List Issue×List Int×Int:=R0 c.reg (C9 c.reg c.lets) f (nums c.reg) 0 c.reg c.lets
def A0 (c:Chains) (f:Issue→List Dim×Int):Int:=if (D3 c f).2.2≠0 then (D3 c f).2.2 else if 60<(D3 c f).1.length∨((D3 c f).2.1.any fun n=>decide (8<n))=true then 9 else 0
def l9 (c:Chains) (f:Issue→List Dim×Int):Chains:={ reg:=x5 (D3 c f).1,lets:=(D3 c f).2.1,of:=c.of,loops:=c.loops }
def x8:Chains:={ reg:=[],lets:=[],of:=0,loops:=[] }
def J4 (c:Chains) (f:Issue→List Dim×Int):Chains:=if A0 c f=0 then l9 c f else x8
def nK (G:Es) (c:Chains) (fv:IC) (f:Issue→List Dim×Int):Prop:=
 ∃ (fn:FuncId) (caps:List IC),fv=.fn (.func fn) caps∧L4 prog fn∧∀ n∈nums c.reg,(f (p4 (C9 c.reg c.lets) n)).1.length≤8∧∀ objs,DCall prog G fn (E4 (p4 (C9 c.reg c.lets) n) :: caps.map fun c=>.one (.im c)) objs
  (fun d o=>d=.tup [.one (.im (.sl ((f (p4 (C9 c.reg c.lets) n)).1.map l6))),iv (f (p4 (C9 c.reg c.lets) n)).2]∧o=objs)
theorem eI {c:Chains} (hOk:OkC c) {n:Int} (hn:n∈nums c.reg):p4 (C9 c.reg c.lets) n∈c.reg∧(p4 (C9 c.reg c.lets) n).drawing=n:=by
 rw[C9,F9,if_pos hn]
 have h:=A7 hOk.reg hOk.lets hn
 exact⟨h.1,h.2.1⟩
theorem fF {c:Chains} (hOk:OkC c) {x:Issue} (hx:x∈c.reg):1≤x.drawing∧x.drawing≤9999∧1≤x.letter∧x.letter≤8:=by
 have h:=(F1 (x6 (r9 hOk.reg))).2.2.2.1 x hx
 simp only[o8,wK,Bool.and_eq_true,decide_eq_true_eq] at h
 omega
theorem kX {c:Chains} (f:Issue→List Dim×Int) (hOk:OkC c) (hsm:w9 c):(∀ x∈(D3 c f).1,iC x)∧N4 (D3 c f).1∧(D3 c f).1.length≤c.reg.length+(nums c.reg).length∧(D3 c f).2.1.length=c.lets.length:=by
 have hN:=(u4 hOk.reg).1
 have hK:=U7 hOk.reg
 refine nG (by have:=hsm.1.1;omega) _ 0 _ _ (hN.imp fun h=>by omega) (fun n hn=>?_) (fun x hx=>?_) hK.1 (fun x hx _=>(hK.2 x hx).2)
 ·have h:=eI hOk hn
  have h1:=fF hOk h.1
  rw[h.2] at h1
  exact⟨h.2,by omega,by omega⟩
 ·have h1:=fF hOk hx
  exact⟨by omega,by omega,by omega,by omega⟩
theorem zI {P:Program} {G:Es} {f k:FuncId} {a:DV} {objs:List DObj} {Q:DV→List DObj→Prop} (h:DCall P G f [a,.one (.fn (.func k) [])] objs Q):DCall P G f [a,.one (.im (.fn (.func k) []))] objs Q:=by
 intro M vs hM ho hsz hr
 refine h M vs hM ho (by simpa using hsz) fun j d v h1 h2=>?_
 match j with
 | 0=>exact hr 0 d v h1 h2
 | 1 =>
   simp at h1;subst h1
   have h3:=hr 1 _ v rfl h2
   cases h3 with
   | one _ _ h3=>cases h3 with
     | im _ _ h3=>cases h3 with
       | fn _ _ vs h4 _ =>
         have:vs=#[]:=Array.eq_empty_of_size_eq_zero (by simpa using h4.symm)
         subst this
         exact .one _ _ (.fn _ _ _ rfl (fun j c v h=>by simp at h))
 | j+2=>simp at h1
theorem mH (c:Chains) (D:List (Int×Int)) (fv:IC) (f:Issue→List Dim×Int) (hG:I6 G) (hOk:OkC c) (hsm:w9 c) (hf:nK G c fv f) (hSF:Z0 G):zP prog G 44 [.one (.im (n9 c D (C9 c.reg c.lets))),.one (.im fv)] (.tup [M9 (J4 c f),iv (A0 c f)]):=by
 refine zf func44 ntmps44 ?_
 try simp only[iv]
 obtain⟨fn,caps,rfl,hok,hcall⟩:=hf
 have c1:=ri (G:=G) c hsm
 have c2:=eY (G:=G) c.reg hG hsm.1
 simp only[n9,CI,CH] at c1 ⊢
 have hs:=trivial
 repeat' first|(with_reducible first|refine zz ?_|refine zE [0,1,4,5,6,7,9,10,11,12,13,14,30,31,32,33,50,56,100] ?_)|simp -dsimp[hs]|refine CallE.embed_ex [] (c1) ?_ ?_ ?_ ?_ ?_ ?_;(focus simp[C4];done);(focus simp;done);(focus simp;done);(focus simp;done);(focus refine A3 ?_;simp[C4,B7];done);intro mmA hmmA;try simp -dsimp[s8,C4,hs]|refine zp c2 ?_
 have hgo0:D3 c f=R0 c.reg (C9 c.reg c.lets) f (nums c.reg) 0 c.reg c.lets:=rfl
 have hok0:(∀ x∈(D3 c f).1,iC x)∧N4 (D3 c f).1∧(D3 c f).1.length≤c.reg.length+(nums c.reg).length∧(D3 c f).2.1.length=c.lets.length:=kX f hOk hsm
 have hd:gp c.reg=nums c.reg:=by rw[gp,if_pos hOk.reg]
 rw[hd]
 have hN:(nums c.reg).length≤80:=by have:=p8 c.reg c.reg.length;have:=hsm.1.1;unfold nums;omega
 generalize hNe:nums c.reg=N at *
 refine j7 (ι:={ p:Nat×Nat×Bool×List Issue×List Int // p.1≤N.length∧p.2.2.2.1.length≤c.reg.length+p.1∧p.2.2.2.2.length=c.lets.length∧R0 c.reg (C9 c.reg c.lets) f N 0 c.reg c.lets=R0 c.reg (C9 c.reg c.lets) f (N.drop p.1) p.1 p.2.2.2.1 p.2.2.2.2 }) (fun p=>⟨103,[(0,.one (.im (n9 c D (C9 c.reg c.lets)))),(1,.one (.im (.fn (.func fn) caps))),(4,.one (.ptr 3 0)),(5,iv 0),(6,.one (.ptr 18 0)),(30,.one (.im (.sl (N.map Ab.encI)))),(31,iv (N.length:Int)),(32,iv (p.1.1:Int))],
  [.vec 0 [] 0 true,.vec 0 [] 0 true,.vec 0 [] 0 true,.row [.vec 0 0 0 0,.vec 1 0 0 0,.im (rI 0),.vec 2 0 0 0],
   .row [.vec 14 mmA.2.2.1 0 c.reg.length,.vec 10 mmA.1.1 0 c.lets.length,.im (rI c.of),.vec 12 mmA.2.1.1 0 c.loops.length],.vec 0 [] 0 true,.vec 0 [] 0 true,.vec 0 [] 0 true,.row [.vec 14 mmA.2.2.1 0 c.reg.length,.vec 10 mmA.1.1 0 c.lets.length,.im (rI c.of),.vec 12 mmA.2.1.1 0 c.loops.length],
   .vec 1 [] 0 true,.vec 1 (o7 (p.1.2.2.2.2.map Ab.encI)) mmA.1.1 mmA.1.2,.vec 3 [] 0 true,.vec 3 (o7 (c.loops.map j5)) mmA.2.1.1 mmA.2.1.2,.vec 5 [] 0 true,.vec 5 (o7 (p.1.2.2.2.1.map j0)) p.1.2.1 p.1.2.2.1,
   .vec 0 [] 0 true,.vec 0 [] 0 true,.vec 0 [] 0 true,.row [.vec 14 p.1.2.1 0 p.1.2.2.2.1.length,.vec 10 mmA.1.1 0 c.lets.length,.im (rI c.of),.vec 12 mmA.2.1.1 0 c.loops.length]]⟩) (fun p=>N.length-p.1.1) ⟨(0,mmA.2.2.1,mmA.2.2.2,c.reg,c.lets),by simp⟩ (zv [0,1,4,5,6,30,31,32] (by simp[n9])) ?_
 rintro⟨⟨i,gn,nl,R,L⟩,hi,hR,hL,hgo⟩
 simp only at hi hR hL hgo
 simp only[iv,rI,n9]
 by_cases hlt:i<N.length
 ·obtain⟨n,hn⟩:∃ n,N[i]?=some n:=⟨N[i],by simp[hlt]⟩
  have hnm:n∈N:=List.mem_of_getElem? hn
  have hdr:N.drop i=n :: N.drop (i+1):=by
   rw[List.drop_eq_getElem_cons hlt];congr 1
   rw[List.getElem?_eq_getElem hlt] at hn;exact Option.some.inj hn
  rw[hdr,R0] at hgo
  obtain⟨hfl,hcn⟩:=hcall n hnm
  have hw:=zk i
  have hne:∀ h,N[i]'h=n:=fun h=>by rw[List.getElem?_eq_getElem h] at hn;exact Option.some.inj hn
  have hlet:i<c.lets.length:=by
   have h1:=hOk.lets
   simp only[o5,Bool.and_eq_true,decide_eq_true_eq,beq_iff_eq] at h1
   have h2:=h1.1
   rw[hNe] at h2
   omega
  have hLi:i<L.length:=by omega
  have hLl:R.length≤200:=by have:=hsm.1.1;omega
  have c3:=se (G:=G) c.reg n hG hsm.1
  have hk0:S7 c.reg n=0:=by rw[S7,if_neg (by simp[hOk.reg]),if_pos (by rw[hNe];exact hnm)]
  rw[oL,hk0,if_pos rfl] at c3
  have hwl:IntKind.i64.wrap ((B6 c.reg n:Int)+1)=(B6 c.reg n:Int)+1:=by
   have h1:B6 c.reg n≤c.reg.length:=List.length_filter_le _ _
   have:=hsm.1.1
   exact u7 (by omega) (by omega)
  have hxd:(p4 (C9 c.reg c.lets) n).dims.length<1000000:=by
   have h1:=hsm.1.2 _ (eI hOk (by rw[hNe];exact hnm)).1
   omega
  generalize hxe:p4 (C9 c.reg c.lets) n=x at *
  have c4:=pb (G:=G) (f x).1 x.dims (by omega) hxd
  simp only[E4,j0,rI,List.map_cons,List.map_nil] at hcn
  generalize hfx:f x=y at *
  obtain⟨dm,e⟩:=y
  simp only at hcn hgo hfl c4
  by_cases he:e=0
  ·subst he
   rw[if_neg (by simp)] at hgo
   by_cases hq:dm=x.dims
   ·rw[if_pos hq] at hgo
    rw[decide_eq_true hq] at c4
    have hs:=za hn (za hxe (za hne (za hlt (za hw hok))))
    repeat' first|(with_reducible first|refine zz ?_|refine zE [0,1,4,5,6,7,9,10,11,12,13,14,30,31,32,33,50,56,100] ?_)|simp -dsimp[hs]|refine zp hcn ?_|refine zp c4 ?_|refine m5 ?_ ?_<;>intro h<;>try simp only[l8] at h
    all_goals exact zn ⟨(i+1,gn,nl,R,L),by omega,by simp only;omega,hL,hgo⟩ (zw [0,1,4,5,6,30,31,32] 19 (by simp[hw]))
   ·rw[if_neg hq] at hgo
    rw[decide_eq_false hq] at c4
    have happ:o7 (R.map j0)++[[DC.im (.raw (.int .i64 x.drawing)),DC.im (.raw (.int .i64 ((B6 c.reg n:Int)+1))),DC.im (.raw (.int .u8 x.kind)),DC.im (.sl (x.items.map l7)),DC.im (.sl (dm.map l6))]]=o7 (R.map j0++[j0 (K7 c.reg x n dm)]):=by
     simp[o7,K7,j0,rI]
    have hs:=za hn (za hxe (za hne (za hlt (za hlet (za hLi (za hL (za hw (za hok hwl))))))))
    repeat' first|(with_reducible first|refine zz ?_|refine And.intro (by omega) ?_)|simp -dsimp[hs]|refine zp hcn ?_|refine zp c4 ?_|refine zp c3 ?_|refine I3 (id:=13) (nt:=103) [none,none,none,none,none,none,none,none,none,none,none,some [],some [11],none,some [1,2],none] [0,1,2,3,4,5,6,7,9,10,11,12,14,8,13,15] 13 [([0,1,2,8,9,10,11,12],[0,1,4,5,6,7,9,10,11,12,13,14,30,31,32,33,50,56,77,79,100]),([2,8,9,12],[0,1,4,5,6,7,9,10,11,12,13,14,30,31,32,33,50,56,73,80,84,100])] [0,1,4,5,6,7,9,10,11,12,13,14,30,31,32,33,50,56,100] mixed rfl (by kernel_rfl) (by kernel_rfl) (by kernel_rfl) ?_|with_reducible refine zE [0,1,4,5,6,7,9,10,11,12,13,14,30,31,32,33,50,56,100] ?_|refine m5 ?_ ?_<;>intro h<;>try simp only[l8] at h
    all_goals exact zn ⟨(i+1,gn+1,false,R++[K7 c.reg x n dm],L.set i ((B6 c.reg n:Int)+1)),by omega,by simp only[List.length_append,List.length_singleton];omega,by simp only[List.length_set];omega,hgo⟩ (zw [0,1,4,5,6,30,31,32] 19 (by simp[hw,happ,Ab.encI,rI]))
  ·rw[if_pos he] at hgo
   have hE:A0 c f=e:=by rw[A0,hgo0,hgo,if_pos he]
   have hR':J4 c f=x8:=by rw[J4,if_neg (by rw[hE];exact he)]
   rw[hE,hR']
   have hs:=za hn (za hxe (za hne (za hlt (za hw (za hok he)))))
   repeat' first|(with_reducible first|refine zz ?_|refine zr ?_|refine zE [0,1,4,5,6,7,9,10,11,12,13,14,30,31,32,33,50,56,100] ?_)|simp -dsimp[hs]|refine zp hcn ?_|refine m5 ?_ ?_<;>intro h<;>try simp only[l8] at h
   all_goals simp[x8]
 ·obtain rfl:i=N.length:=by omega
  rw[List.drop_eq_nil_of_le (Nat.le_refl _),R0] at hgo
  rw[hgo0,hgo] at hok0
  simp only at hok0
  obtain⟨k1,k2,k3,k4⟩:=hok0
  have c6:=xH (G:=G) hSF k1 k2 (by have:=hsm.1.1;omega) gn nl
  have c7:=fun objs=>zI (H8 (G:=G) L (fun n=>decide (8<n)) 99 [] objs (by simp) (fun y _=>zT (G:=G) y objs) (by have:=hsm.2.1;omega))
  have hSl:=R8 R
  have hE:A0 c f=if 60<R.length∨(L.any fun n=>decide (8<n))=true then 9 else 0:=by rw[A0,hgo0,hgo];simp
  have hC:l9 c f={ reg:=x5 R,lets:=L,of:=c.of,loops:=c.loops }:=by rw[l9,hgo0,hgo]
  have htk:(o7 (L.map Ab.encI)).take L.length=o7 (L.map Ab.encI):=List.take_of_length_le (by simp[p6])
  simp only[← hL]
  by_cases h60:60<R.length
  ·have h60':(60:Int)<(R.length:Int):=by omega
   rw[if_pos (.inl h60)] at hE
   rw[J4,hE,if_neg (by decide)]
   have hs:=za hlt h60'
   repeat' first|(with_reducible first|refine zz ?_|refine zr ?_|refine zE [0,1,4,5,6,7,9,10,11,12,13,14,30,31,32,33,50,56,100] ?_)|simp -dsimp[hs]|refine CallE.embed [14] (c6) ?_ ?_ ?_ ?_ ?_ ?_;(focus simp[C4];done);(focus simp;done);(focus simp;done);(focus simp;done);(focus refine A3 ?_;simp[C4,B7];done);try simp -dsimp[s8,C4,hs]|refine m5 ?_ ?_<;>intro h<;>try simp only[l8] at h
   all_goals simp[x8]
  ·have h60':¬ (60:Int)<(R.length:Int):=by omega
   cases hany:L.any fun n=>decide (8<n)
   ·simp only[hany] at c7 hE
    rw[if_neg (by simp[h60])] at hE
    rw[J4,hE,if_pos rfl,hC]
    have hs:=za hlt h60'
    repeat' first|(with_reducible first|refine zz ?_|refine zr ?_|refine zE [0,1,4,5,6,7,9,10,11,12,13,14,30,31,32,33,50,56,100] ?_)|simp -dsimp[hs]|refine CallE.embed [14] (c6) ?_ ?_ ?_ ?_ ?_ ?_;(focus simp[C4];done);(focus simp;done);(focus simp;done);(focus simp;done);(focus refine A3 ?_;simp[C4,B7];done);try simp -dsimp[s8,C4,hs]|refine zt c7 ?_ ?_ ?_;(focus simp;done);focus (simp;done)|refine m5 ?_ ?_<;>intro h<;>try simp only[l8] at h
    all_goals (rw[← hSl];simp)
   ·simp only[hany] at c7 hE
    rw[if_pos (.inr trivial)] at hE
    rw[J4,hE,if_neg (by decide)]
    have hs:=za hlt h60'
    repeat' first|(with_reducible first|refine zz ?_|refine zr ?_|refine zE [0,1,4,5,6,7,9,10,11,12,13,14,30,31,32,33,50,56,100] ?_)|simp -dsimp[hs]|refine CallE.embed [14] (c6) ?_ ?_ ?_ ?_ ?_ ?_;(focus simp[C4];done);(focus simp;done);(focus simp;done);(focus simp;done);(focus refine A3 ?_;simp[C4,B7];done);try simp -dsimp[s8,C4,hs]|refine zt c7 ?_ ?_ ?_;(focus simp;done);focus (simp;done)|refine m5 ?_ ?_<;>intro h<;>try simp only[l8] at h
    all_goals simp[x8]
def ay (c:Chains):Prop:=dl c.reg∧c.lets.length≤80∧c.loops.length≤10∧∀ x∈c.loops,x.links.length≤12
def jQ (c:Chains):Bool:=open Classical in decide (dl c.reg)&&(decide (c.lets.length≤80)&&decide (c.loops.length≤10)&&c.loops.all fun x=>decide (x.links.length≤12))
theorem wo (c:Chains):zP prog G 22 [M9 c] (bv (!jQ c)):=by
 refine zf func22 ntmps22 ?_
 try simp only[M9]
 have c1:=yn (G:=G) c.reg
 have hE:jQ c=(open Classical in decide (dl c.reg)&&(decide (c.lets.length≤80)&&decide (c.loops.length≤10)&&c.loops.all fun x=>decide (x.links.length≤12))):=rfl
 by_cases hS:dl c.reg
 ·have e1:(!(open Classical in decide (dl c.reg)))=false:=by simp[hS]
  have c1':∀ objs,DCall prog G 59 [C8 c.reg] objs (fun d objs'=>d=bv false∧objs'=objs):=fun objs=>(c1 objs).mono fun d o ⟨h1,h2⟩=>⟨by rw[h1];simp[hS],h2⟩
  rw[decide_eq_true hS,Bool.true_and] at hE
  by_cases h80:c.lets.length≤80
  ·have h80':¬ (80:Int)<(c.lets.length:Int):=by omega
   by_cases h10:c.loops.length≤10
   ·have h10':¬ (10:Int)<(c.loops.length:Int):=by omega
    rw[decide_eq_true h80,decide_eq_true h10,Bool.true_and,Bool.true_and] at hE
    have hs:=za h80' h10'
    repeat' first|(with_reducible first|refine zz ?_|refine zE [0,1,2,3,18,23,33] ?_)|simp -dsimp[hs]|refine zp c1' ?_|refine m5 ?_ ?_<;>intro h<;>try simp only[l8] at h
    refine j7 (ι:={ k:Nat // k≤c.loops.length∧(c.loops.all fun x=>decide (x.links.length≤12))=(c.loops.drop k).all fun x=>decide (x.links.length≤12) }) (fun p=>⟨34,[(1,.one (.ptr 0 0)),(2,bv false),(3,iv (p.1:Int))],[.row ((p5 c).map .im)]⟩) (fun p=>c.loops.length-p.1) ⟨0,by simp⟩ (zv [1,2,3]) ?_
    rintro⟨k,hk,hall⟩
    simp only[iv,bv]
    by_cases hlt:k<c.loops.length
    ·have hx:c.loops[k]?=some c.loops[k]:=by simp[hlt]
     have hw:=zk k
     have hst:=V8 hlt hall
     by_cases h12:c.loops[k].links.length≤12
     ·have h12':¬ (12:Int)<(c.loops[k].links.length:Int):=by omega
      have hs:=za hx (za hlt (za hw h12'))
      repeat' first|(with_reducible first|refine zz ?_|refine zE [0,1,2,3,18,23,33] ?_)|simp -dsimp[hs]|refine m5 ?_ ?_<;>intro h<;>try simp only[l8] at h
      exact zn ⟨k+1,by omega,E9 hst (by simpa using h12)⟩ (zv [1,2,3])
     ·have h12':(12:Int)<(c.loops[k].links.length:Int):=by omega
      have hs:=za hx (za hlt (za hw h12'))
      repeat' first|(with_reducible first|refine zz ?_|refine zr ?_|refine zE [0,1,2,3,18,23,33] ?_)|simp -dsimp[hs]|refine m5 ?_ ?_<;>intro h<;>try simp only[l8] at h
      rw[hE,A5 hst (by simpa using h12)];try rfl
    ·have hok:(c.loops.all fun x=>decide (x.links.length≤12))=true:=by rw[hall,List.drop_eq_nil_of_le (by omega)];rfl
     have hs:=hlt
     repeat' first|(with_reducible first|refine zz ?_|refine zr ?_|refine zE [0,1,2,3,18,23,33] ?_)|simp -dsimp[hs]|refine m5 ?_ ?_<;>intro h<;>try simp only[l8] at h
     rw[hE,hok];try rfl
   ·have h10':(10:Int)<(c.loops.length:Int):=by omega
    rw[decide_eq_false h10,Bool.and_false,Bool.false_and] at hE
    have hs:=za h80' h10'
    repeat' first|(with_reducible first|refine zz ?_|refine zr ?_|refine zE [0,1,2,3,18,23,33] ?_)|simp -dsimp[hs]|refine zp c1' ?_|refine m5 ?_ ?_<;>intro h<;>try simp only[l8] at h
    rw[hE];try rfl
  ·have h80':(80:Int)<(c.lets.length:Int):=by omega
   rw[decide_eq_false h80,Bool.false_and,Bool.false_and] at hE
   have hs:=h80'
   repeat' first|(with_reducible first|refine zz ?_|refine zr ?_|refine zE [0,1,2,3,18,23,33] ?_)|simp -dsimp[hs]|refine zp c1' ?_|refine m5 ?_ ?_<;>intro h<;>try simp only[l8] at h
   rw[hE];try rfl
 ·have c1':∀ objs,DCall prog G 59 [C8 c.reg] objs (fun d objs'=>d=bv true∧objs'=objs):=fun objs=>(c1 objs).mono fun d o ⟨h1,h2⟩=>⟨by rw[h1];simp[hS],h2⟩
  rw[decide_eq_false hS,Bool.false_and] at hE
  have hs:=trivial
  repeat' first|(with_reducible first|refine zz ?_|refine zr ?_|refine zE [0,1,2,3,18,23,33] ?_)|simp -dsimp[hs]|refine zp c1' ?_|refine m5 ?_ ?_<;>intro h<;>try simp only[l8] at h
  rw[hE];try rfl
theorem mV (c:Chains) (hs:ay c):zP prog G 26 [M9 c,M9 c] (bv true):=by
 refine zf func26 ntmps26 ?_
 try simp only[M9,M9]
 have c1:=Ag (G:=G) c.reg c.reg hs.1
 have c2:=qi (G:=G) c.lets c.lets (by have:=hs.2.1;omega)
 simp only[decide_true] at c1 c2
 have hl:=hs.2.2.1
 have hs:=trivial
 repeat' first|(with_reducible first|refine zz ?_|refine zE [0,1,2,3,4,5,6,7,8,38,43,69,74,87] ?_)|simp -dsimp[hs]|refine zp c1 ?_|refine zp c2 ?_|refine m5 ?_ ?_<;>intro h<;>try simp only[l8] at h
 all_goals try clear hs
 refine j7 (ι:={ k:Nat // k≤c.loops.length }) (fun p=>⟨88,[(2,.one (.ptr 0 0)),(3,.one (.ptr 1 0)),(4,bv false),(5,iv (p.1:Int))],[.row ((p5 c).map .im),.row ((p5 c).map .im)]⟩) (fun p=>c.loops.length-p.1) ⟨0,by simp⟩ (zv [2,3,4,5]) ?_
 rintro⟨k,hk⟩
 simp only[iv,bv]
 by_cases hlt:k<c.loops.length
 ·have hx:c.loops[k]?=some c.loops[k]:=by simp[hlt]
  have hw:=zk k
  have hln:=hs.2.2.2 c.loops[k] (List.getElem_mem hlt)
  have hs:=za hx hlt
  repeat' first|with_reducible refine zz ?_|simp -dsimp[hs]|refine p9 (id:=6) (nt:=88) 12 [5,6,7,8,9] [0,1,2,3,4,5,6,7,8,38,43,46,47,48,49,50,69,74,87] [0,1,2,3,4,5,6,7,8,38,43,69,74,87] mixed rfl (by kernel_rfl) ?_|with_reducible refine zE [0,1,2,3,4,5,6,7,8,38,43,69,74,87] ?_|refine m5 ?_ ?_<;>intro h<;>try simp only[l8] at h
  all_goals try clear hs
  refine j7 (ι:={ i:Nat // i≤c.loops[k].links.length }) (fun p=>⟨88,[(2,.one (.ptr 0 0)),(3,.one (.ptr 1 0)),(4,bv false),(5,iv (k:Int)),(6,.one (.ptr 2 0)),(7,.one (.ptr 3 0)),(8,iv (p.1:Int))],[.row ((p5 c).map .im),.row ((p5 c).map .im),.row ((j5 c.loops[k]).map .im),.row ((j5 c.loops[k]).map .im)]⟩) (fun p=>c.loops[k].links.length-p.1) ⟨0,by omega⟩ (zv [2,3,4,5,6,7,8]) ?_
  rintro⟨i,hi⟩
  simp only[iv,bv]
  by_cases hli:i<c.loops[k].links.length
  ·have hy:c.loops[k].links[i]?=some c.loops[k].links[i]:=by simp[hli]
   have hw2:=zk i
   have hs:=za hy (za hli hw2)
   repeat' first|with_reducible refine zz ?_|simp -dsimp[hs]|refine zM 12 88 11 [0,1,2,3,4,5,6,7,8,38,43,69,74,87] ?_|with_reducible refine zE [0,1,2,3,4,5,6,7,8,38,43,69,74,87] ?_|refine m5 ?_ ?_<;>intro h<;>try simp only[l8] at h
   all_goals try clear hs
   exact zn ⟨i+1,by omega⟩ (zv [2,3,4,5,6,7,8])
  ·have hs:=za hli hw
   repeat' first|(with_reducible first|refine zz ?_|refine zE [0,1,2,3,4,5,6,7,8,38,43,69,74,87] ?_)|simp -dsimp[hs]|refine m5 ?_ ?_<;>intro h<;>try simp only[l8] at h
   all_goals try clear hs
   exact zn ⟨k+1,by omega⟩ (zw [2,3,4,5] 2)
 ·have hs:=hlt
  repeat' first|(with_reducible first|refine zz ?_|refine zr ?_|refine zE [0,1,2,3,4,5,6,7,8,38,43,69,74,87] ?_)|simp -dsimp[hs]|refine m5 ?_ ?_<;>intro h<;>try simp only[l8] at h
  all_goals try clear hs
theorem mR (c:Chains) (hs:ay c):zP prog G 19 [M9 c] (M9 c):=by
 refine zf func19 ntmps19 ?_
 try simp only[M9]
 have c1:=zY (G:=G) c.reg hs.1
 have hl:=hs.2.2.1
 have hl2:=hs.2.1
 have hs:=trivial
 repeat' first|(with_reducible first|refine zz ?_|refine And.intro (by omega) ?_)|simp -dsimp[hs]|refine zq c1 ?_|refine pK (id:=1) (nt:=43) 11 [] [0,1,2,3,4,5,6,7,8,9,10,11,12,13,14,19] [0,1,2,3,4,19] mixed rfl (by kernel_rfl) ?_|with_reducible refine zE [0,1,2,3,4,19] ?_
 all_goals try clear hs
 refine cm (Weak.nilCell 5 3 rfl rfl) ?_
 refine j7 (ι:={ p:Nat×Nat×Nat×Bool // p.1≤c.loops.length∧(p.2.2.1=3∨p.2.2.2=true) }) (fun p=>⟨43,[(1,.one (.ptr 0 0)),(2,.one (.ptr 4 0)),(3,.one (.ptr 5 0)),(4,iv (p.1.1:Int))],[.row ((p5 c).map .im),.vec 0 [] 0 true,.vec 0 [] 0 true,.vec 0 [] 0 true,.row [.vec 1 0 0 0,.vec 2 0 0 0,.im (rI 0),.vec 3 0 0 0],.row [.im (.sl (c.reg.map j0)),.im (.sl (c.lets.map Ab.encI)),.im (rI c.of),.vec 6 p.1.2.1 0 p.1.1],.vec p.1.2.2.1 (o7 ((c.loops.take p.1.1).map j5)) p.1.2.1 p.1.2.2.2]⟩) (fun p=>c.loops.length-p.1.1) ⟨(0,0,0,true),by simp⟩ (zv [1,2,3,4]) ?_
 rintro⟨⟨k,g,sz,nl⟩,hk,hz⟩
 simp only at hk hz
 simp only[iv]
 have htk:(o7 ((c.loops.map j5).take k)).take k=o7 ((c.loops.map j5).take k):=List.take_of_length_le (by simp[p6];omega)
 by_cases hlt:k<c.loops.length
 ·have hx:c.loops[k]?=some c.loops[k]:=by simp[hlt]
  have hw:=zk k
  have hmin:min k c.loops.length=k:=Nat.min_eq_left (by omega)
  have hln:=hs.2.2.2 c.loops[k] (List.getElem_mem hlt)
  have hsn:(c.loops.map j5).take (k+1)=(c.loops.map j5).take k++[j5 c.loops[k]]:=by
   rw[List.take_succ];simp[hx]
  have hs:=za hx (za hw (za hlt (za hz hmin)))
  repeat' first|(with_reducible first|refine zz ?_|refine And.intro (by omega) ?_)|simp -dsimp[hs]|refine zM 5 43 18 [0,1,2,3,4,19] ?_|with_reducible refine zE [0,1,2,3,4,19] ?_|refine m5 ?_ ?_<;>intro h<;>try simp only[l8] at h
  all_goals try clear hs
  all_goals try omega
  exact zn ⟨(k+1,g+1,3,false),by simp;omega⟩ (zw [1,2,3,4] 7 (by simp[hsn,htk,O8]))
 ·have hkl:k=c.loops.length:=by omega
  subst hkl
  have hall:(c.loops.map j5).take c.loops.length=c.loops.map j5:=List.take_of_length_le (by simp)
  rw[hall] at htk
  have hs:=za hall htk
  repeat' first|(with_reducible first|refine zz ?_|refine zr ?_|refine zE [0,1,2,3,4,19] ?_)|simp -dsimp[hs]|refine m5 ?_ ?_<;>intro h<;>try simp only[l8] at h
  all_goals try clear hs
def Bj (l:List Issue):Prop:=∀ x∈l,0≤x.kind∧x.kind≤255
theorem smallB_iff {c:Chains}:jQ c=true↔ay c:=by
 simp only[jQ,ay,Bool.and_eq_true,decide_eq_true_eq,List.all_eq_true,and_assoc]
theorem ci {c:Chains} (h:OkC c) (hs:w9 c):(w8 c).length≤120:=by
 have h0:=(jN h).length_eq
 have h1:=List.length_filter_le (aW (C9 c.reg c.lets)) ((E5 c).foldl (fun l x=>I9 x l) [])
 have h2:=ij (E5 c) []
 have h3:=gK c.loops hs.2.2.2
 have h4:=hs.2.2.1
 simp only[E5,List.length_nil] at *
 omega
attribute [simp] r5 aT o9 x7 nilV H2 ZK
attribute [simp] r5 aT o9 x7 nilV H2 ZK
attribute [simp] r5 aT D9 J6 o9 x7 nilV H2 ZK
theorem ec (l:List Dim) (hl:l.length<1000):DCall prog G 46 [.one (.im (.sl (l.map l6)))] [] (fun d o=>∃ i:Nat×Bool,(i.2=true→l=[])∧d=.one (.vec 1 i.1 0 l.length)∧o=[.vec 3 [] 0 true,.vec 3 (o7 (l.map l6)) i.1 i.2]):=by
 refine l5 func46 rfl ntmps46 (by simp) rfl ?_
 repeat' first|(with_reducible first|refine zz ?_|refine And.intro (by omega) ?_|refine zx ?_|refine zE [0,2,4] ?_)|simp -dsimp|refine m5 ?_ ?_<;>intro h<;>try simp only[l8] at h|with_reducible refine S9 (fun h=>?_);(try simp only[List.map_eq_nil_iff] at h);(try subst h);try simp -dsimp|with_reducible refine And.intro ?_ ?_
@[simp] theorem Bt (L:List Dim) (k:Nat) (h:k<(o7 (L.map l6)).length):(o7 (L.map l6))[k]=[DC.im (.raw (.int .i64 (L[k]'(by simpa[p6] using h)).nominal)),DC.im (.raw (.int .i64 (L[k]'(by simpa[p6] using h)).lower)),DC.im (.raw (.int .i64 (L[k]'(by simpa[p6] using h)).upper))]:=by
 simp[o7,l6,rI]
theorem bx (L:List Dim) (k:Nat) (d:Dim):(o7 (L.map l6)).set k [DC.im (.raw (.int .i64 d.nominal)),DC.im (.raw (.int .i64 d.lower)),DC.im (.raw (.int .i64 d.upper))]=o7 ((L.set k d).map l6):=by
 simp[o7,l6,rI,List.map_set]
def J5 (T ds:List Dim) (k:Nat):List Dim:=T.take k++ds.drop k
theorem fN {T ds:List Dim} (hl:T.length=ds.length) {k:Nat} (hk:k≤ds.length):(J5 T ds k).length=ds.length:=by
 simp[J5];omega
theorem fO {T ds:List Dim} (hl:T.length=ds.length):J5 T ds ds.length=T:=by simp[J5,← hl]
theorem dM {T ds:List Dim} (hl:T.length=ds.length) {k:Nat} (hk:k<ds.length):(J5 T ds k)[k]?=some ds[k]:=by
 rw[J5,List.getElem?_append_right (by simp;omega)]
 simp[show k-min k T.length=0 by omega,hk]
theorem dL {T ds:List Dim} (hl:T.length=ds.length) {k:Nat} (hk:k<ds.length) {d:Dim} (hd:T[k]?=some d):(J5 T ds k).set k d=J5 T ds (k+1):=by
 have hkT:k<T.length:=by omega
 have hTk:T[k]=d:=by rw[List.getElem?_eq_getElem hkT] at hd;exact Option.some.inj hd
 rw[J5,List.set_append_right _ _ (by simp;omega),J5]
 rw[List.take_succ_eq_append_getElem hkT,hTk,List.append_assoc]
 congr 1
 rw[show k-(T.take k).length=0 by simp;omega,List.drop_eq_getElem_cons hk,List.set_cons_zero]
 rfl
theorem ku {T ds:List Dim} (hl:T.length=ds.length) {k:Nat} (hk:k<ds.length) (hd:T[k]?=some ds[k]):J5 T ds (k+1)=J5 T ds k:=by
 rw[← dL hl hk hd]
 exact jR (dM hl hk)
def ve (l:List Spot) (g:Int) (x:Issue):List Dim:=x.dims.mapIdx fun i d=>if js l ⟨x.drawing,(i:Int)⟩ then W0 d g else d
theorem dy (l:List Spot) (g:Int) (x:Issue):(ve l g x).length=x.dims.length:=by simp[ve]
theorem jk (l:List Spot) (g:Int) (x:Issue) {k:Nat} (hk:k<x.dims.length):(ve l g x)[k]?=some (if js l ⟨x.drawing,(k:Int)⟩ then W0 x.dims[k] g else x.dims[k]):=by simp[ve,hk]
theorem pV (x:Issue) (l:List Spot) (g:Int) (hx:x.dims.length≤8) (hd:∀ d∈x.dims,D8 d=true) (hl:l.length<1000000) (h0:0≤g) (h1:g≤2000000000):zP prog G 45 [E4 x,.one (.im (.ip [.sl (l.map m6)])),.one (.im (.ip [rI g]))] (.tup [.one (.im (.sl ((ve l g x).map l6))),iv 0]):=by
 refine zf func45 ntmps45 ?_
 try simp only[E4]
 have c1:=ec (G:=G) x.dims (by omega)
 simp only[E4,j0,rI,List.map_cons,List.map_nil]
 have hs:=trivial
 repeat' first|(with_reducible first|refine zz ?_|refine zE [0,1,2,3,4,5,6,7,12,13,14,21] ?_)|simp -dsimp[hs]|refine CallE.embed_ex [] (c1) ?_ ?_ ?_ ?_ ?_ ?_;(focus simp[C4];done);(focus simp;done);(focus simp;done);(focus simp;done);(focus refine A3 ?_;simp[C4,B7];done);intro mmA hmmA;try simp -dsimp[s8,C4,hs]
 have hTl:=dy l g x
 have hTg:=fun k hk=>jk l g x (k:=k) hk
 generalize ve l g x=T at *
 refine j7 (ι:={ k:Nat // k≤x.dims.length }) (fun k=>⟨33,[(1,.one (.im (.ip [.sl (l.map m6)]))),(2,.one (.im (.ip [rI g]))),(3,.one (.ptr 0 0)),(6,.one (.vec 3 mmA.1 0 x.dims.length)),(12,iv (x.dims.length:Int)),(13,iv (k.1:Int))],[.row [.im (rI x.drawing),.im (rI x.letter),.im (.raw (.int .u8 x.kind)),.im (.sl (x.items.map l7)),.im (.sl (x.dims.map l6))],.vec 3 [] 0 true,.vec 3 [] 0 true,.vec 3 (o7 ((J5 T x.dims k.1).map l6)) mmA.1 mmA.2]⟩) (fun k=>x.dims.length-k.1) ⟨0,by omega⟩ (zv [1,2,3,6,12,13] (by simp[J5])) ?_
 rintro⟨k,hk⟩
 simp only[iv,rI]
 by_cases hlt:k<x.dims.length
 ·have hw:=zk k
  have hlm:=fN hTl hk
  have hge:=dM hTl hlt
  have hgm:∀ h,(J5 T x.dims k)[k]'h=x.dims[k]:=fun h=>by rw[List.getElem?_eq_getElem h] at hge;exact Option.some.inj hge
  have hklm:k<(J5 T x.dims k).length:=by omega
  have c2:=Y5 (G:=G) l ⟨x.drawing,(k:Int)⟩ hl
  have hTk:=hTg k hlt
  have c3:=rR (G:=G) x.dims[k] g (hd _ (List.getElem_mem hlt)) h0 h1
  have hset:=bx (J5 T x.dims k) k (W0 x.dims[k] g)
  simp only[A4,D7] at c2
  generalize hdk:x.dims[k]=dk at *
  cases hin:js l ⟨x.drawing,(k:Int)⟩
  ·rw[hin] at c2 hTk
   have hst:=ku hTl hlt (by rw[hTk,hdk];rfl)
   have hs:=za hlt hw
   repeat' first|(with_reducible first|refine zz ?_|refine zE [0,1,2,3,4,5,6,7,12,13,14,21] ?_)|simp -dsimp[hs]|refine zp c2 ?_|refine m5 ?_ ?_<;>intro h<;>try simp only[l8] at h
   all_goals exact zn ⟨k+1,by omega⟩ (zv [1,2,3,6,12,13] (by simp[hst]))
  ·rw[hin,if_pos rfl] at hTk
   rw[hin] at c2
   have hst:=dL hTl hlt hTk
   rw[hst] at hset
   have hs:=za hlt (za hw (za hlm (za hklm (za hgm hset))))
   repeat' first|with_reducible refine zz ?_|simp -dsimp[hs]|refine zp c2 ?_|refine zq c3 ?_|refine zM 6 33 9 [0,1,2,3,4,5,6,7,12,13,14,21] ?_|with_reducible refine zE [0,1,2,3,4,5,6,7,12,13,14,21] ?_|refine m5 ?_ ?_<;>intro h<;>try simp only[l8] at h
   all_goals exact zn ⟨k+1,by omega⟩ (zv [1,2,3,6,12,13] (by simp[hst]))
 ·obtain rfl:k=x.dims.length:=by omega
  have hme:=fO hTl
  have hs:=za hlt hme
  repeat' first|(with_reducible first|refine zz ?_|refine zr ?_|refine zE [0,1,2,3,4,5,6,7,12,13,14,21] ?_)|simp -dsimp[hs]|refine m5 ?_ ?_<;>intro h<;>try simp only[l8] at h
  all_goals (rw[← hTl];simp)
def tB (S:List Spot):Option Spot→List Spot→Bool
 | _,[]=>true
 | p,x :: r=>(js S x&&(match p with|none=>true|some y=>decide (fL y x<0)))&&tB S (some x) r
theorem ko (S:List Spot) (p:Option Spot) (x:Spot) (r:List Spot):tB S p (x :: r)=((js S x&&(match p with|none=>true|some y=>decide (fL y x<0)))&&tB S (some x) r):=by cases p<;>rfl
theorem sf (S:List Spot) (p:Option Spot):tB S p []=true:=by cases p<;>rfl
def aI (l:List Spot):Nat→Option Spot
 | 0=>none
 | k+1=>l[k]?
def lq (l:List Spot) (g:Int):Issue→List Dim×Int:=fun x=>(ve l g x,0)
def J7 (c:Chains) (l:List Spot) (g:Int):Int:=if p7 c≠0 then p7 c else if tB (w8 c) none l=true∧0≤g∧g≤1000000000 then A0 c (lq l g) else 2
def K2 (c:Chains) (l:List Spot) (g:Int):Chains:=if J7 c l g=0 then l9 c (lq l g) else x8
theorem nT {c:Chains} (hOk:OkC c) (hsm:w9 c) {l:List Spot} {g:Int} (hl:l.length<1000000) (h0:0≤g) (h1:g≤2000000000):nK G c (.fn (.func 45) [.ip [.sl (l.map m6)],.ip [rI g]]) (lq l g):=by
 refine⟨45,_,rfl,by simp,fun n hn=>?_⟩
 have hm:=eI hOk hn
 have h8:=(hsm.1.2 _ hm.1).2.2.2
 refine⟨by simp only[lq,dy];exact h8,fun objs=>?_⟩
 refine pV (G:=G) _ l g h8 (fun d hd=>?_) hl h0 h1 objs
 have h:=(F1 (x6 (r9 hOk.reg))).2.2.2.1 _ hm.1
 simp only[o8,Bool.and_eq_true,List.all_eq_true] at h
 exact h.2 d hd
theorem qu (c:Chains) (l:List Spot) (g:Int) (hG:I6 G) (hC:bZ G) (hsm:w9 c) (hSF:aO G) (hSG:Z0 G) (hl:l.length<1000000):zP prog G 8 [M9 c,A4 l,iv g] (.tup [M9 (K2 c l g),iv (J7 c l g)]):=by
 refine zf func8 ntmps8 ?_
 try simp only[M9,iv]
 have c1:=de c hG hC hsm
 simp only[A4]
 by_cases h00:p7 c=0
 ·have hOk:=vO h00
  have c2:=jO (G:=G) (n9 c (B0 c) (C9 c.reg c.lets))
  have c3:=iz (G:=G) c (B0 c) hOk hsm hSF
  rw[h00] at c1
  simp only[V6,h00,if_true,n9] at c1
  simp only[n9] at c2 c3
  have hSlen:(w8 c).length<1000000:=by have:=ci hOk hsm;omega
  generalize hS:w8 c=S at *
  have hs:=trivial
  repeat' first|(with_reducible first|refine zz ?_|refine zE [0,1,2,3,4,5,6,7,8,9,10,11,12,19,25,26,27,28,49,55] ?_)|simp -dsimp[hs]|refine zp c1 ?_|refine zp c2 ?_|refine zp c3 ?_|refine m5 ?_ ?_<;>intro h<;>try simp only[l8] at h
  have hE0:J7 c l g=if tB S none l=true∧0≤g∧g≤1000000000 then A0 c (lq l g) else 2:=by rw[J7,if_neg (by simp[h00]),hS]
  refine j7 (ι:={ k:Nat // k≤l.length∧tB S none l=tB S (aI l k) (l.drop k) }) (fun k=>⟨62,[(3,.one (.ptr 0 0)),(4,.one (.ptr 1 0)),(5,.one (.ptr 2 0)),(6,.one (.ptr 6 0)),(7,iv 0),(8,.one (.im (n9 c (B0 c) (C9 c.reg c.lets)))),(10,.one (.im (.sl (S.map m6)))),(25,.one (.im (.sl (l.map m6)))),(26,iv (l.length:Int)),(27,iv (k.1:Int))],
   [.row [.im (.sl (c.reg.map j0)),.im (.sl (c.lets.map Ab.encI)),.im (rI c.of),.im (.sl (c.loops.map j5))],.row [.im (.sl (l.map m6))],.row [.im (rI g)],.vec 0 [] 0 true,.vec 0 [] 0 true,.vec 0 [] 0 true,.row [.vec 3 0 0 0,.vec 4 0 0 0,.im (rI 0),.vec 5 0 0 0]]⟩) (fun k=>l.length-k.1) ⟨0,by simp[aI]⟩ (zv [3,4,5,6,7,8,10,25,26,27] (by simp[n9])) ?_
  rintro⟨k,hk,hok⟩
  simp only[iv,rI,n9]
  by_cases hlt:k<l.length
  ·obtain⟨x,hx⟩:∃ x,l[k]?=some x:=⟨l[k],by simp[hlt]⟩
   have hxe:∀ h,l[k]'h=x:=fun h=>by rw[List.getElem?_eq_getElem h] at hx;exact Option.some.inj hx
   have hdr:l.drop k=x :: l.drop (k+1):=by rw[List.drop_eq_getElem_cons hlt,hxe]
   have hw:=zk k
   rw[hdr,ko] at hok
   have hpv:aI l (k+1)=some x:=hx
   have c4:=Y5 (G:=G) S x hSlen
   simp only[A4,D7] at c4
   cases hin:js S x
   ·rw[hin] at c4 hok
    rw[Bool.false_and,Bool.false_and] at hok
    have hE:J7 c l g=2:=by rw[hE0,hok];simp
    rw[K2,hE,if_neg (by decide)]
    have hs:=za hlt (za hx (za hxe hw))
    repeat' first|(with_reducible first|refine zz ?_|refine zr ?_)|simp -dsimp[hs]|refine zq c4 ?_|refine zM 8 62 18 [0,1,2,3,4,5,6,7,8,9,10,11,12,19,25,26,27,28,49,55] ?_|with_reducible refine zE [0,1,2,3,4,5,6,7,8,9,10,11,12,19,25,26,27,28,49,55] ?_|refine m5 ?_ ?_<;>intro h<;>try simp only[l8] at h
    all_goals simp[x8]
   ·rw[hin] at c4 hok
    rw[Bool.true_and] at hok
    cases k with
    | zero =>
      simp only[aI,Bool.true_and] at hok
      have hw1:IntKind.i64.wrap 1=1:=by decide
      have hs:=za hlt (za hx (za hxe (za hw hw1)))
      repeat' first|with_reducible refine zz ?_|simp -dsimp[hs]|refine zq c4 ?_|refine zM 8 62 18 [0,1,2,3,4,5,6,7,8,9,10,11,12,19,25,26,27,28,49,55] ?_|with_reducible refine zE [0,1,2,3,4,5,6,7,8,9,10,11,12,19,25,26,27,28,49,55] ?_|refine m5 ?_ ?_<;>intro h<;>try simp only[l8] at h
      all_goals exact zn ⟨0+1,by omega,by rw[hpv];exact hok⟩ (zw [3,4,5,6,7,8,10,25,26,27] 7 (by simp[n9,hw1]))
    | succ k =>
      obtain⟨y,hy⟩:∃ y,l[k]?=some y:=⟨l[k],by simp[show k<l.length by omega]⟩
      have hye:∀ h,l[k]'h=y:=fun h=>by rw[List.getElem?_eq_getElem h] at hy;exact Option.some.inj hy
      simp only[aI,hy] at hok
      have c5:=mY (G:=G) y x
      simp only[D7] at c5
      have hw2:IntKind.i64.wrap (k:Int)=(k:Int):=u7 (by omega) (by omega)
      have hw3:((k+1:Nat):Int)-1=(k:Int):=by omega
      have hw4:IntKind.i64.wrap ((k:Int)+1+1)=(k:Int)+1+1:=u7 (by omega) (by omega)
      have hltI:(k:Int)+1<(l.length:Int):=by omega
      have hkn:(0:Int)≤(k:Int)+1:=by omega
      have hkq:(0:Int)<(k:Int)+1:=by omega
      have hkm:¬ ((k:Int)<0):=by omega
      have hkp:(0:Int)<((k+1:Nat):Int):=by omega
      generalize fL y x=q at *
      by_cases hq:q<0
      ·rw[decide_eq_true hq,Bool.true_and] at hok
       have hq':¬ (0:Int)≤q:=by omega
       have hs:=za hlt (za hx (za hxe (za hw (za hw2 (za hw3 (za hy (za hye (za hkp (za hltI (za hkn (za hkq (za hkm hq'))))))))))))
       repeat' first|with_reducible refine zz ?_|simp -dsimp[hs]|refine zq c4 ?_|refine zq c5 ?_|refine zM 8 62 18 [0,1,2,3,4,5,6,7,8,9,10,11,12,19,25,26,27,28,49,55] ?_|with_reducible refine zE [0,1,2,3,4,5,6,7,8,9,10,11,12,19,25,26,27,28,49,55] ?_|refine m5 ?_ ?_<;>intro h<;>try simp only[l8] at h
       all_goals exact zn ⟨k+1+1,by omega,by rw[hpv];exact hok⟩ (zw [3,4,5,6,7,8,10,25,26,27] 7 (by simp[n9,hw4]))
      ·rw[decide_eq_false hq,Bool.false_and] at hok
       have hq':(0:Int)≤q:=by omega
       have hE:J7 c l g=2:=by rw[hE0,hok];simp
       rw[K2,hE,if_neg (by decide)]
       have hs:=za hlt (za hx (za hxe (za hw (za hw2 (za hw3 (za hy (za hye (za hkp (za hltI (za hkn (za hkq (za hkm hq'))))))))))))
       repeat' first|(with_reducible first|refine zz ?_|refine zr ?_)|simp -dsimp[hs]|refine zq c4 ?_|refine zq c5 ?_|refine zM 8 62 18 [0,1,2,3,4,5,6,7,8,9,10,11,12,19,25,26,27,28,49,55] ?_|with_reducible refine zE [0,1,2,3,4,5,6,7,8,9,10,11,12,19,25,26,27,28,49,55] ?_|refine m5 ?_ ?_<;>intro h<;>try simp only[l8] at h
       all_goals simp[x8]
  ·obtain rfl:k=l.length:=by omega
   rw[List.drop_eq_nil_of_le (Nat.le_refl _),sf] at hok
   rw[hok] at hE0
   simp only[true_and] at hE0
   have c6:=V3 (G:=G) 0 1000000000 [g] (by simp)
   simp only[H0,List.map_cons,List.map_nil,Ab.encI,Ab.encI,rI,List.all_cons,List.all_nil,Bool.and_true] at c6
   by_cases hg:0≤g∧g≤1000000000
   ·have c7:=mH (G:=G) c (B0 c) _ _ hG hOk hsm (nT (G:=G) hOk hsm hl hg.1 (by omega)) hSG
    rw[if_pos hg] at hE0
    have hR:K2 c l g=J4 c (lq l g):=by rw[K2,J4,hE0]
    rw[hR,hE0]
    have hgt:(decide (0≤g)&&decide (g≤1000000000))=true:=by simp[hg]
    simp only[n9,rI] at c7
    rw[hgt] at c6
    have c8:DCall prog G 44 [.one (.im (n9 c (B0 c) (C9 c.reg c.lets))),.one (.fn (.func 45) [.ptr 0 0,.ptr 1 0])] [.row [.im (.sl (l.map m6))],.row [.im (.raw (.int .i64 g))]] (fun d o=>d=.tup [M9 (J4 c (lq l g)),iv (A0 c (lq l g))]∧o=[]++o9 2):=
     DCall.freeze 0 (c7 []) (Nat.zero_le _) rfl (by simp[fz,DC.lt,frz,G2,n9,rI]) (fun o r _ h=>by
      match o with
      | 0=>simp at h
      | 1=>simp at h
      | o+2=>simp at h)
    simp only[n9,rI,List.nil_append,o9,List.replicate] at c8
    have hs:=hlt
    repeat' first|(with_reducible first|refine zz ?_|refine zr ?_|refine zE [0,1,2,3,4,5,6,7,8,9,10,11,12,19,25,26,27,28,49,55] ?_)|simp -dsimp[hs]|refine zt c6 ?_ ?_ ?_;(focus simp;done);focus (simp;done)|refine CallE.embed [1,2] (c8) ?_ ?_ ?_ ?_ ?_ ?_;(focus simp[C4];done);(focus simp;done);(focus simp;done);(focus simp;done);(focus refine A3 ?_;simp[C4,B7];done);try simp -dsimp[s8,C4,hs]|refine m5 ?_ ?_<;>intro h<;>try simp only[l8] at h
   ·rw[if_neg hg] at hE0
    rw[K2,hE0,if_neg (by decide)]
    have hgt:(decide (0≤g)&&decide (g≤1000000000))=false:=by
     rw[Bool.eq_false_iff];simpa using hg
    rw[hgt] at c6
    have hs:=hlt
    repeat' first|(with_reducible first|refine zz ?_|refine zr ?_|refine zE [0,1,2,3,4,5,6,7,8,9,10,11,12,19,25,26,27,28,49,55] ?_)|simp -dsimp[hs]|refine zt c6 ?_ ?_ ?_;(focus simp;done);focus (simp;done)|refine m5 ?_ ?_<;>intro h<;>try simp only[l8] at h
    all_goals simp[x8]
 ·obtain⟨X,hX⟩:=ir c
  rw[hX] at c1
  have hE:J7 c l g=p7 c:=by rw[J7,if_pos h00]
  rw[K2,hE,if_neg h00]
  have hs:=h00
  repeat' first|(with_reducible first|refine zz ?_|refine zr ?_|refine zE [0,1,2,3,4,5,6,7,8,9,10,11,12,19,25,26,27,28,49,55] ?_)|simp -dsimp[hs]|refine zp c1 ?_|refine m5 ?_ ?_<;>intro h<;>try simp only[l8] at h
  all_goals simp[x8]
attribute [simp] r5 aT D9 J6 o9 x7 nilV H2 ZK
@[simp] theorem En:F6 prog 216=some [.int .i64 0,.int .i64 0,.string ⟨#[]⟩,.nilFunc]:=by kernel_rfl
def ja (n s:Int):Int:=n-n % s
def gM (n s:Int):Int:=if n % s=0 then n else n-n % s+s
theorem gO (n s:Int) (h0:0≤n) (h1:n≤1000000000) (h2:1≤s) (h3:s≤1000):zP prog G 212 [iv n,iv s] (.tup [iv (ja n s),iv (gM n s)]):=by
 refine zf func212 ntmps212 ?_
 try simp only[iv,iv]
 have hm:n.tmod s=n % s:=Int.tmod_eq_emod_of_nonneg h0
 have m0:0≤n % s:=Int.emod_nonneg _ (by omega)
 have m1:n % s<s:=Int.emod_lt_of_pos _ (by omega)
 have m2:n % s≤n:=by
  have:=Int.ediv_mul_add_emod n s
  have h5:0≤n / s:=Int.ediv_nonneg h0 (by omega)
  have h6:0≤n / s*s:=Int.mul_nonneg h5 (by omega)
  omega
 have hs0:¬ s=0:=by omega
 rw[ja,gM]
 generalize n % s=m at *
 have w1:IntKind.i64.wrap m=m:=u7 (by omega) (by omega)
 have w2:IntKind.i64.wrap (n-m)=n-m:=u7 (by omega) (by omega)
 have w3:IntKind.i64.wrap (n-m+s)=n-m+s:=u7 (by omega) (by omega)
 by_cases hz:m=0
 ·subst hz
  have w4:IntKind.i64.wrap n=n:=u7 (by omega) (by omega)
  have hs:=za hm (za w1 (za w2 (za w3 (za w4 hs0))))
  repeat' first|(with_reducible first|refine zz ?_|refine zr ?_|refine zE [0,1,4,5,13] ?_)|simp -dsimp[hs]|refine m5 ?_ ?_<;>intro h<;>try simp only[l8] at h
 ·have hne:¬ n-m=n:=by omega
  have hs:=za hm (za w1 (za w2 (za w3 (za hs0 hne))))
  repeat' first|(with_reducible first|refine zz ?_|refine zr ?_|refine zE [0,1,4,5,13] ?_)|simp -dsimp[hs]|refine m5 ?_ ?_<;>intro h<;>try simp only[l8] at h
  all_goals simp[hz]
def aE (G:Es) (a b c:IC):Prop:=G 2=some [rI 0,rI 0,a,.raw .nilFunc,rI 100,rI 3,b,.fn (.func 212) [],rI 254,rI 4,c,.fn (.func 212) []]
def W2 (n:Int):Int:=if n=1 then 100 else 254
def cB (s t:Int) (a:IC):DV:=.agg [.im (rI s),.im (rI t),.im a,.im (.fn (.func 212) [])]
theorem uW (s t:Int) (a:IC):ImV (cB s t a):=by simp[cB]
attribute [simp] uW
def gH (b c:IC) (n:Int):DV:=if n=1 then cB 100 3 b else cB 254 4 c
theorem sO (b c:IC) (n:Int):ImV (gH b c n):=by unfold gH;split<;>simp
attribute [simp] sO
def aw (d:Dim) (s:Int):Dim:=⟨if gM d.nominal s > 1000000000∨d.nominal-ja d.nominal s≤gM d.nominal s-d.nominal then ja d.nominal s else gM d.nominal s,gM d.lower s,ja d.upper s⟩
theorem aU {n s:Int} (h0:0≤n) (h2:1≤s):0≤ja n s∧ja n s≤n∧n≤gM n s∧gM n s<n+s:=by
 have m0:0≤n % s:=Int.emod_nonneg _ (by omega)
 have m1:n % s<s:=Int.emod_lt_of_pos _ (by omega)
 have m2:n % s≤n:=by
  have:=Int.ediv_mul_add_emod n s
  have h5:0≤n / s:=Int.ediv_nonneg h0 (by omega)
  have h6:0≤n / s*s:=Int.mul_nonneg h5 (by omega)
  omega
 unfold ja gM
 split<;>omega
theorem yQ (d:Dim) (s t:Int) (a:IC) (hd:D8 d=true) (h2:1≤s) (h3:s≤1000):zP prog G 172 [H1 d,cB s t a] (.tup [H1 (aw d s),bv (decide (gM d.lower s≤ja d.upper s))]):=by
 refine zf func172 ntmps172 ?_
 try simp only[H1]
 rw[M7] at hd
 obtain⟨d1,d2,d3,d4,d5,d6⟩:=hd
 have c1:=gO (G:=G) d.lower s (by omega) (by omega) h2 h3
 have c2:=gO (G:=G) d.upper s (by omega) (by omega) h2 h3
 have c3:=gO (G:=G) d.nominal s (by omega) (by omega) h2 h3
 have e1:=aU (n:=d.nominal) (s:=s) (by omega) h2
 have e2:=aU (n:=d.lower) (s:=s) (by omega) h2
 have e3:=aU (n:=d.upper) (s:=s) (by omega) h2
 simp only[cB,rI,aw]
 generalize ja d.nominal s=dn at *
 generalize gM d.nominal s=up at *
 generalize gM d.lower s=lo at *
 generalize ja d.upper s=hi at *
 have w1:IntKind.i64.wrap (d.nominal-dn)=d.nominal-dn:=u7 (by omega) (by omega)
 have w2:IntKind.i64.wrap (up-d.nominal)=up-d.nominal:=u7 (by omega) (by omega)
 by_cases hb:1000000000<up
 ·rw[if_pos (Or.inl hb)]
  have hs:=za w1 (za w2 hb)
  repeat' first|(with_reducible first|refine zz ?_|refine zr ?_|refine zE [0,1,2,3,4,5,7,8,10,11,59] ?_)|simp -dsimp[hs]|refine zp c1 ?_|refine zp c2 ?_|refine zp c3 ?_|refine m5 ?_ ?_<;>intro h<;>try simp only[l8] at h
 ·by_cases hc:d.nominal-dn≤up-d.nominal
  ·rw[if_pos (Or.inr hc)]
   have hs:=za w1 (za w2 (za hb hc))
   repeat' first|(with_reducible first|refine zz ?_|refine zr ?_|refine zE [0,1,2,3,4,5,7,8,10,11,59] ?_)|simp -dsimp[hs]|refine zp c1 ?_|refine zp c2 ?_|refine zp c3 ?_|refine m5 ?_ ?_<;>intro h<;>try simp only[l8] at h
  ·rw[if_neg (by omega)]
   have hs:=za w1 (za w2 (za hb hc))
   repeat' first|(with_reducible first|refine zz ?_|refine zr ?_|refine zE [0,1,2,3,4,5,7,8,10,11,59] ?_)|simp -dsimp[hs]|refine zp c1 ?_|refine zp c2 ?_|refine zp c3 ?_|refine m5 ?_ ?_<;>intro h<;>try simp only[l8] at h
theorem CQ (n:Int) (a b c:IC) (hU:aE G a b c) (hn:n=1∨n=2):zP prog G 144 [jj n] (.tup [gH b c n,iv 0]):=by
 refine zf func144 ntmps144 ?_
 try simp only[jj]
 have c1:=sk (G:=G) 1 2 [n] (by simp)
 simp only[H0,List.map_cons,List.map_nil,Ab.encI,Ab.encI,rI,List.all_cons,List.all_nil,Bool.and_true] at c1
 unfold aE at hU
 rw[show (decide ((1:Int)≤n)&&decide (n≤(2:Int)))=true by rw[Bool.and_eq_true,decide_eq_true_iff,decide_eq_true_iff];omega] at c1
 have w0:IntKind.i64.wrap n=n:=u7 (by omega) (by omega)
 rw[gH]
 rcases hn with rfl|rfl
 ·have w0':IntKind.i64.wrap 1=1:=by decide
  rw[if_pos rfl]
  have hs:=za hU w0'
  repeat' first|(with_reducible first|refine zz ?_|refine zr ?_|refine zE [0,2,3,8] ?_)|simp -dsimp[hs]|refine zt c1 ?_ ?_ ?_;(focus simp;done);focus (simp;done)|refine m5 ?_ ?_<;>intro h<;>try simp only[l8] at h
  all_goals simp[cB]
 ·have w0':IntKind.i64.wrap 2=2:=by decide
  rw[if_neg (by decide)]
  have hs:=za hU w0'
  repeat' first|(with_reducible first|refine zz ?_|refine zr ?_|refine zE [0,2,3,8] ?_)|simp -dsimp[hs]|refine zt c1 ?_ ?_ ?_;(focus simp;done);focus (simp;done)|refine m5 ?_ ?_<;>intro h<;>try simp only[l8] at h
  all_goals simp[cB]
theorem xM (d:Dim) (n:Int):DCall prog G 145 [H1 d,.one (.im (.sl [[.raw (.int .u8 n)]]))] [] (fun r o=>r=.one (.fn (.func 171) [.ptr 1 0,.ptr 0 0])∧o=[.row [.im (rI d.nominal),.im (rI d.lower),.im (rI d.upper)],.row [.im (.sl [[.raw (.int .u8 n)]])]]):=by
 simp only[H1,rI]
 refine l5 func145 rfl ntmps145 (by simp) rfl ?_
 repeat' first|(with_reducible first|refine zz ?_|refine zx ?_|refine zE [0,1,2,3,4] ?_)|simp -dsimp|with_reducible refine And.intro ?_ ?_
attribute [simp] r5 aT D9 J6 o9 x7 nilV H2 ZK
def pP (d:Dim) (n:Int):Int:=if (aw d (W2 n)).lower≤(aw d (W2 n)).upper then 0 else 6
def dX (d:Dim) (n:Int):Dim:=if (aw d (W2 n)).lower≤(aw d (W2 n)).upper then aw d (W2 n) else sJ
theorem sW (d:Dim) (n:Int) (a b c:IC) (hU:aE G a b c) (hd:D8 d=true) (hn:n=1∨n=2):zP prog G 113 [H1 d,.one (.im (.sl [[.raw (.int .u8 n)]]))] (.tup [H1 (dX d n),iv (pP d n)]):=by
 refine zf func113 ntmps113 ?_
 try simp only[H1]
 have c1:=iF (G:=G) d
 rw[if_pos hd] at c1
 have c2:=CQ (G:=G) n a b c hU hn
 obtain⟨t,m,hUe⟩:∃ t m,gH b c n=cB (W2 n) t m:=by
  rcases hn with rfl|rfl
  ·exact⟨3,b,rfl⟩
  ·exact⟨4,c,rfl⟩
 rw[hUe] at c2
 simp only[cB,rI] at c2
 have c3:=xM (G:=G) d n
 simp only[H1,rI] at c1 c3
 have hs:=trivial
 repeat' first|(with_reducible first|refine zz ?_|refine zE [0,1,2,4,5,6,8,10,11,12,13,17,22,24,25,26,27,36,44,45,52] ?_)|simp -dsimp[hs]|refine zp c1 ?_|refine m5 ?_ ?_<;>intro h<;>try simp only[l8] at h
 all_goals try clear hs
 refine j7 (ι:={ k:Nat // k≤1 }) (fun k=>⟨56,[(1,.one (.im (.sl [[.raw (.int .u8 n)]]))),(2,.one (.ptr 0 0)),(4,.one (.ptr 1 0)),(5,iv 0),(24,.one (.im (.sl [[.raw (.int .u8 n)]]))),(25,iv 1),(26,iv (k.1:Int))],[.row [.im (rI d.nominal),.im (rI d.lower),.im (rI d.upper)],.row [.im (rI 0),.im (rI 0),.im (rI 0)]]⟩) (fun k=>1-k.1) ⟨0,by omega⟩ (zv [1,2,4,5,24,25,26]) ?_
 rintro⟨k,hk⟩
 simp only[iv,rI]
 have hk2:k=0∨k=1:=by omega
 rcases hk2 with rfl|rfl
 ·have w1:IntKind.i64.wrap 1=1:=by decide
  have hs:=w1
  repeat' first|(with_reducible first|refine zz ?_|refine zE [0,1,2,4,5,6,8,10,11,12,13,17,22,24,25,26,27,36,44,45,52] ?_)|simp -dsimp[hs]|refine zp c2 ?_|refine m5 ?_ ?_<;>intro h<;>try simp only[l8] at h
  all_goals try clear hs
  all_goals exact At.round ⟨1,by omega⟩ (by simp) (zw [1,2,4,5,24,25,26] 2 (by simp[w1]))
 ·have hs:=trivial
  repeat' first|(with_reducible first|refine zz ?_|refine zE [0,1,2,4,5,6,8,10,11,12,13,17,22,24,25,26,27,36,44,45,52] ?_)|simp -dsimp[hs]|refine CallE.embed [] (c3) ?_ ?_ ?_ ?_ ?_ ?_;(focus simp[C4];done);(focus simp;done);(focus simp;done);(focus simp;done);(focus refine A3 ?_;simp[C4,B7];done);try simp -dsimp[s8,C4,hs]|refine m5 ?_ ?_<;>intro h<;>try simp only[l8] at h
  all_goals try clear hs
  refine R2 (f:=171) (by simp;exact rfl) (by rfl) call171 ?_
  generalize hR:LoopD.mk _ _ _ _ _ _ _=R
  have hR1:R.st=.ready:=by rw[← hR]
  have hR2:R.pend=none:=by rw[← hR]
  have hR3:R.at .ready none=R:=by rw[← hR];rfl
  have hR4:=(congrArg LoopD.nt hR).symm
  have hR5:=(congrArg LoopD.tm hR).symm
  have hR6:=(congrArg LoopD.ps hR).symm
  have hR7:=(congrArg LoopD.asg hR).symm
  have hR8:=(congrArg LoopD.body hR).symm
  dsimp only at hR4 hR5 hR6 hR7 hR8
  clear hR
  refine l5 func171 rfl ntmps171 (by simp) rfl ?_
  have hs:=za hR1 (za hR2 hR3)
  repeat' first|(with_reducible first|refine zz ?_|refine zE [0,1,2,4,5,6,7,8,9,10,11,12,13,17,22,24,25,26,27,29,36,44,45,52] ?_)|simp -dsimp[hs]
  all_goals try clear hs
  have c4:=yQ (G:=G) d (W2 n) t m hd (by unfold W2;split<;>omega) (by unfold W2;split<;>omega)
  have hcv:pP d n=if (aw d (W2 n)).lower≤(aw d (W2 n)).upper then 0 else 6:=rfl
  have hcd:dX d n=if (aw d (W2 n)).lower≤(aw d (W2 n)).upper then aw d (W2 n) else sJ:=rfl
  have hlo:gM d.lower (W2 n)=(aw d (W2 n)).lower:=rfl
  have hhi:ja d.upper (W2 n)=(aw d (W2 n)).upper:=rfl
  rw[hlo,hhi] at c4
  rw[hcv,hcd]
  simp only[cB,gH,rI] at c4 hUe
  generalize aw d (W2 n)=x at *
  generalize W2 n=s at *
  unfold aE at hU
  refine j7 (ι:={ k:Nat // k≤1∧(k=1→x.lower≤x.upper) }) (fun k=>⟨32,[(0,.one (.yld 6)),(1,.one (.ptr 5 0)),(2,.one (.ptr 4 0)),(8,.one (.im (.sl [[.raw (.int .u8 n)]]))),(9,iv 1),(10,iv (k.1:Int))],[.row [.im (rI d.nominal),.im (rI d.lower),.im (rI d.upper)],.row [.im (rI 0),.im (rI 0),.im (rI 0)],.row [.im (rI (if k.1=0 then d else x).nominal),.im (rI (if k.1=0 then d else x).lower),.im (rI (if k.1=0 then d else x).upper)],.row [.im (rI (k.1:Int))],.row [.im (rI (if k.1=0 then d else x).nominal),.im (rI (if k.1=0 then d else x).lower),.im (rI (if k.1=0 then d else x).upper)],.row [.im (.sl [[.raw (.int .u8 n)]])],.loop R]⟩) (fun k=>1-k.1) ⟨0,by simp⟩ (zv [0,1,2,8,9,10]) ?_
  rintro⟨k,hk,hxk⟩
  simp only[iv,rI]
  have hk2:k=0∨k=1:=by omega
  rcases hk2 with rfl|rfl
  ·have w1:IntKind.i64.wrap 1=1:=by decide
   have hR9:∀ objs:List DObj,(R.tm.map fun x=>(x.1,aK 7 objs x.2))=R.tm:=by intro objs;rw[hR5];simp
   by_cases hle:x.lower≤x.upper
   ·rw[if_pos hle,if_pos hle]
    rw[decide_eq_true hle] at c4
    rcases hn with rfl|rfl
    ·simp at hUe
     obtain⟨rfl,rfl,rfl⟩:=hUe
     have hs:=za hR1 (za hR2 (za hR3 (za w1 (za hU hle))))
     repeat' first|with_reducible refine zz ?_|simp -dsimp[hs]|with_reducible refine At.yield_end ?_;simp -dsimp[hs]|refine ee ?_ ?_<;>simp -dsimp[hs]|refine Z5 ?_;simp -dsimp[W8,hR4,hR5,hR6,hR7,hR8,hs]|refine zq c4 ?_|refine p9 (id:=3) (nt:=32) 9 [7] [0,1,2,5,6,7,8,9,10,11,14,15,16,17,18,19,20,29] [0,1,2,5,6,7,8,9,10,11,29] mixed rfl (by kernel_rfl) ?_|with_reducible refine zE [0,1,2,4,5,6,7,8,9,10,11,12,13,17,22,24,25,26,27,29,36,44,45,52] ?_|refine m5 ?_ ?_<;>intro h<;>try simp only[l8] at h
     all_goals try clear hs
     all_goals exact At.round ⟨1,by omega,fun _=>hle⟩ (by simp) (zw [0,1,2,8,9,10] 7 (by simp[hR9]))
    ·simp at hUe
     obtain⟨rfl,rfl,rfl⟩:=hUe
     have hs:=za hR1 (za hR2 (za hR3 (za w1 (za hU hle))))
     repeat' first|with_reducible refine zz ?_|simp -dsimp[hs]|with_reducible refine At.yield_end ?_;simp -dsimp[hs]|refine ee ?_ ?_<;>simp -dsimp[hs]|refine Z5 ?_;simp -dsimp[W8,hR4,hR5,hR6,hR7,hR8,hs]|refine zq c4 ?_|refine p9 (id:=3) (nt:=32) 9 [7] [0,1,2,5,6,7,8,9,10,11,14,15,16,17,18,19,20,29] [0,1,2,5,6,7,8,9,10,11,29] mixed rfl (by kernel_rfl) ?_|with_reducible refine zE [0,1,2,4,5,6,7,8,9,10,11,12,13,17,22,24,25,26,27,29,36,44,45,52] ?_|refine m5 ?_ ?_<;>intro h<;>try simp only[l8] at h
     all_goals try clear hs
     all_goals exact At.round ⟨1,by omega,fun _=>hle⟩ (by simp) (zw [0,1,2,8,9,10] 7 (by simp[hR9]))
   ·rw[if_neg hle,if_neg hle]
    rw[decide_eq_false hle] at c4
    rcases hn with rfl|rfl
    ·simp at hUe
     obtain⟨rfl,rfl,rfl⟩:=hUe
     have hs:=za hR1 (za hR2 (za hR3 (za w1 (za hU hle))))
     repeat' first|(with_reducible first|refine zz ?_|refine zr ?_ (by simp -dsimp[A6,hs];exact rfl))|simp -dsimp[A6,hs]|with_reducible show A6 _ _ _ _ _ _ _ _;simp -dsimp[A6,hs]|refine zq c4 ?_|refine p9 (id:=3) (nt:=32) 9 [7] [0,1,2,5,6,7,8,9,10,11,14,15,16,17,18,19,20,29] [0,1,2,5,6,7,8,9,10,11,29] mixed rfl (by kernel_rfl) ?_|with_reducible refine zE [0,1,2,4,5,6,7,8,9,10,11,12,13,17,22,24,25,26,27,29,36,44,45,52] ?_|refine m5 ?_ ?_<;>intro h<;>try simp only[l8] at h
     all_goals try clear hs
     all_goals simp[sJ]
    ·simp at hUe
     obtain⟨rfl,rfl,rfl⟩:=hUe
     have hs:=za hR1 (za hR2 (za hR3 (za w1 (za hU hle))))
     repeat' first|(with_reducible first|refine zz ?_|refine zr ?_ (by simp -dsimp[A6,hs];exact rfl))|simp -dsimp[A6,hs]|with_reducible show A6 _ _ _ _ _ _ _ _;simp -dsimp[A6,hs]|refine zq c4 ?_|refine p9 (id:=3) (nt:=32) 9 [7] [0,1,2,5,6,7,8,9,10,11,14,15,16,17,18,19,20,29] [0,1,2,5,6,7,8,9,10,11,29] mixed rfl (by kernel_rfl) ?_|with_reducible refine zE [0,1,2,4,5,6,7,8,9,10,11,12,13,17,22,24,25,26,27,29,36,44,45,52] ?_|refine m5 ?_ ?_<;>intro h<;>try simp only[l8] at h
     all_goals try clear hs
     all_goals simp[sJ]
  ·have hle:=hxk rfl
   rw[if_pos hle,if_pos hle]
   have hs:=za hR1 (za hR2 hR3)
   repeat' first|(with_reducible first|refine zz ?_|refine zr ?_ (by simp -dsimp[A6,hs];exact rfl)|refine ze ?_ (by simp -dsimp[A6,hs];exact rfl)|refine zE [0,1,2,4,5,6,7,8,9,10,11,12,13,17,22,24,25,26,27,29,36,44,45,52] ?_)|simp -dsimp[A6,hs]|with_reducible show A6 _ _ _ _ _ _ _ _;simp -dsimp[A6,hs]|refine m5 ?_ ?_<;>intro h<;>try simp only[l8] at h
   all_goals try clear hs
theorem mz (d:Dim) (n:Int) (a b c:IC) (hU:aE G a b c) (hd:D8 d=true) (hn:n=1∨n=2):zP prog G 68 [H1 d,jj n] (.tup [H1 (dX d n),iv (pP d n)]):=by
 refine zf func68 ntmps68 ?_
 try simp only[H1,jj]
 have c1:=sW (G:=G) d n a b c hU hd hn
 generalize dX d n=x at *
 generalize pP d n=e at *
 simp only[H1,rI] at c1
 repeat' first|(with_reducible first|refine zz ?_|refine zx ?_|refine zE [0,1,2,4,5] ?_)|simp -dsimp|refine zt c1 ?_ ?_ ?_;(focus simp;done);focus (simp;done)
attribute [simp] r5 aT D9 J6 o9 x7 nilV H2 ZK
def P7 (n:Int) (ds:List Dim):Bool:=ds.all fun d=>decide (pP d n=0)
def aV (c:Chains) (n:Int):Issue→List Dim×Int:=fun x=>if n7 (B0 c) x.drawing=0 then (x.dims,0) else if P7 n x.dims=true then (x.dims.map (dX · n),0) else ([],6)
theorem nE (d:Dim) (n:Int):pP d n=0∨pP d n=6:=by unfold pP;split<;>simp
theorem tj (cc:Chains) (x:Issue) (n:Int) (a b c:IC) (hU:aE G a b c) (hn:n=1∨n=2) (hx:x.dims.length≤8) (hd:∀ d∈x.dims,D8 d=true):zP prog G 67 [E4 x,.one (.im (.ip [n9 cc (B0 cc) (C9 cc.reg cc.lets)])),.one (.im (.ip [.raw (.int .u8 n)]))] (.tup [.one (.im (.sl ((aV cc n x).1.map l6))),iv (aV cc n x).2]):=by
 refine zf func67 ntmps67 ?_
 try simp only[E4]
 have c1:=ec (G:=G) x.dims (by omega)
 simp only[E4,j0,rI,List.map_cons,List.map_nil,n9]
 have hs:=trivial
 repeat' first|(with_reducible first|refine zz ?_|refine zE [0,1,2,3,4,5,6,7,8,9,14,15,16,25,36] ?_)|simp -dsimp[hs]|refine CallE.embed_ex [] (c1) ?_ ?_ ?_ ?_ ?_ ?_;(focus simp[C4];done);(focus simp;done);(focus simp;done);(focus simp;done);(focus refine A3 ?_;simp[C4,B7];done);intro mmA hmmA;try simp -dsimp[s8,C4,hs]
 generalize hcnt:n7 (B0 cc) x.drawing=m at *
 by_cases hm:m=0
 ·have hF:aV cc n x=(x.dims,0):=by rw[aV,hcnt,if_pos hm]
  rw[hF]
  refine j7 (ι:={ k:Nat // k≤x.dims.length }) (fun k=>⟨44,[(1,.one (.im (.ip [n9 cc (B0 cc) (C9 cc.reg cc.lets)]))),(2,.one (.im (.ip [.raw (.int .u8 n)]))),(3,.one (.ptr 0 0)),(6,.one (.vec 3 mmA.1 0 x.dims.length)),(14,iv (x.dims.length:Int)),(15,iv (k.1:Int))],[.row [.im (rI x.drawing),.im (rI x.letter),.im (.raw (.int .u8 x.kind)),.im (.sl (x.items.map l7)),.im (.sl (x.dims.map l6))],.vec 3 [] 0 true,.vec 3 [] 0 true,.vec 3 (o7 (x.dims.map l6)) mmA.1 mmA.2]⟩) (fun k=>x.dims.length-k.1) ⟨0,by omega⟩ (zv [1,2,3,6,14,15] (by simp[n9])) ?_
  rintro⟨k,hk⟩
  simp only[iv,rI,n9]
  by_cases hlt:k<x.dims.length
  ·have hw:=zk k
   have hs:=za hlt (za hw (za hcnt hm))
   repeat' first|with_reducible refine zz ?_|simp -dsimp[hs]|refine zM 5 44 8 [0,1,2,3,4,5,6,7,8,9,14,15,16,25,36] ?_|with_reducible refine zE [0,1,2,3,4,5,6,7,8,9,14,15,16,25,36] ?_|refine m5 ?_ ?_<;>intro h<;>try simp only[l8] at h
   all_goals exact zn ⟨k+1,by omega⟩ (zv [1,2,3,6,14,15])
  ·obtain rfl:k=x.dims.length:=by omega
   have hs:=hlt
   repeat' first|(with_reducible first|refine zz ?_|refine zr ?_|refine zE [0,1,2,3,4,5,6,7,8,9,14,15,16,25,36] ?_)|simp -dsimp[hs]|refine m5 ?_ ?_<;>intro h<;>try simp only[l8] at h
 ·have hF:aV cc n x=if P7 n x.dims=true then (x.dims.map (dX · n),0) else ([],6):=by rw[aV,hcnt,if_neg hm]
  have hTl:(x.dims.map (dX · n)).length=x.dims.length:=by simp
  have hTg:∀ k (h:k<x.dims.length),(x.dims.map (dX · n))[k]?=some (dX x.dims[k] n):=fun k h=>by simp[h]
  generalize x.dims.map (dX · n)=T at *
  refine j7 (ι:={ k:Nat // k≤x.dims.length∧P7 n (x.dims.take k)=true }) (fun k=>⟨44,[(1,.one (.im (.ip [n9 cc (B0 cc) (C9 cc.reg cc.lets)]))),(2,.one (.im (.ip [.raw (.int .u8 n)]))),(3,.one (.ptr 0 0)),(6,.one (.vec 3 mmA.1 0 x.dims.length)),(14,iv (x.dims.length:Int)),(15,iv (k.1:Int))],[.row [.im (rI x.drawing),.im (rI x.letter),.im (.raw (.int .u8 x.kind)),.im (.sl (x.items.map l7)),.im (.sl (x.dims.map l6))],.vec 3 [] 0 true,.vec 3 [] 0 true,.vec 3 (o7 ((J5 T x.dims k.1).map l6)) mmA.1 mmA.2]⟩) (fun k=>x.dims.length-k.1) ⟨0,by simp[P7]⟩ (zv [1,2,3,6,14,15] (by simp[J5,n9])) ?_
  rintro⟨k,hk,hok⟩
  simp only[iv,rI,n9]
  by_cases hlt:k<x.dims.length
  ·have hw:=zk k
   have hlm:=fN hTl hk
   have hge:=dM hTl hlt
   have hgm:∀ h,(J5 T x.dims k)[k]'h=x.dims[k]:=fun h=>by rw[List.getElem?_eq_getElem h] at hge;exact Option.some.inj hge
   have hklm:k<(J5 T x.dims k).length:=by omega
   have hTk:=hTg k hlt
   have c3:=mz (G:=G) x.dims[k] n a b c hU (hd _ (List.getElem_mem hlt)) hn
   have hset:=bx (J5 T x.dims k) k (dX x.dims[k] n)
   have hst:=dL hTl hlt hTk
   rw[hst] at hset
   have htk:x.dims.take (k+1)=x.dims.take k++[x.dims[k]]:=List.take_succ_eq_append_getElem hlt
   have hall:P7 n x.dims=true→pP x.dims[k] n=0:=fun h=>by
    have:=List.all_eq_true.1 h _ (List.getElem_mem hlt)
    simpa using this
   simp only[jj] at c3
   have h2:=nE x.dims[k] n
   generalize hdk:x.dims[k]=dk at *
   generalize dX dk n=y at *
   rcases h2 with he|he
   ·rw[he] at c3
    have hok':P7 n (x.dims.take (k+1))=true:=by
     rw[htk,P7,List.all_append]
     simp only[P7] at hok
     rw[hok];simp[he]
    have hs:=za hlt (za hw (za hlm (za hklm (za hgm (za hset (za hcnt hm))))))
    repeat' first|with_reducible refine zz ?_|simp -dsimp[hs]|refine zq c3 ?_|refine zM 5 44 8 [0,1,2,3,4,5,6,7,8,9,14,15,16,25,36] ?_|refine p9 (id:=6) (nt:=44) 10 [8] [0,1,2,3,4,5,6,7,8,9,14,15,16,25,26,27,28,29,30,31,32,33,36] [0,1,2,3,4,5,6,7,8,9,14,15,16,25,36] mixed rfl (by kernel_rfl) ?_|with_reducible refine zE [0,1,2,3,4,5,6,7,8,9,14,15,16,25,36] ?_|refine m5 ?_ ?_<;>intro h<;>try simp only[l8] at h
    all_goals exact zn ⟨k+1,by omega,hok'⟩ (zw [1,2,3,6,14,15] 4 (by simp[hst]))
   ·have hno:¬ P7 n x.dims=true:=fun h=>by
     have:=hall h
     omega
    rw[he] at c3
    rw[hF,if_neg hno]
    have hs:=za hlt (za hw (za hlm (za hklm (za hgm (za hset (za hcnt hm))))))
    repeat' first|(with_reducible first|refine zz ?_|refine zr ?_)|simp -dsimp[hs]|refine zq c3 ?_|refine zM 5 44 8 [0,1,2,3,4,5,6,7,8,9,14,15,16,25,36] ?_|refine p9 (id:=6) (nt:=44) 10 [8] [0,1,2,3,4,5,6,7,8,9,14,15,16,25,26,27,28,29,30,31,32,33,36] [0,1,2,3,4,5,6,7,8,9,14,15,16,25,36] mixed rfl (by kernel_rfl) ?_|with_reducible refine zE [0,1,2,3,4,5,6,7,8,9,14,15,16,25,36] ?_|refine m5 ?_ ?_<;>intro h<;>try simp only[l8] at h
  ·obtain rfl:k=x.dims.length:=by omega
   have hme:=fO hTl
   rw[List.take_length] at hok
   rw[hF,if_pos hok]
   have hs:=za hlt hme
   repeat' first|(with_reducible first|refine zz ?_|refine zr ?_|refine zE [0,1,2,3,4,5,6,7,8,9,14,15,16,25,36] ?_)|simp -dsimp[hs]|refine m5 ?_ ?_<;>intro h<;>try simp only[l8] at h
   all_goals (rw[← hTl];simp)
theorem ot {c:Chains} (hOk:OkC c) (hsm:w9 c) {n:Int} {a b d:IC} (hU:aE G a b d) (hn:n=1∨n=2):nK G c (.fn (.func 67) [.ip [n9 c (B0 c) (C9 c.reg c.lets)],.ip [.raw (.int .u8 n)]]) (aV c n):=by
 refine⟨67,_,rfl,by simp,fun k hk=>?_⟩
 have hm:=eI hOk hk
 have h8:=(hsm.1.2 _ hm.1).2.2.2
 refine⟨?_,fun objs=>?_⟩
 ·unfold aV
  split
  ·exact h8
  ·split
   ·simpa using h8
   ·simp
 ·refine tj (G:=G) c _ n a b d hU hn h8 (fun x hx=>?_) objs
  have h:=(F1 (x6 (r9 hOk.reg))).2.2.2.1 _ hm.1
  simp only[o8,Bool.and_eq_true,List.all_eq_true] at h
  exact h.2 x hx
def W4 (c:Chains) (n:Int):Int:=if p7 c≠0 then p7 c else if n=1∨n=2 then A0 c (aV c n) else 11
def br (c:Chains) (n:Int):Chains:=if W4 c n=0 then l9 c (aV c n) else x8
theorem tz (c:Chains) (n:Int) (a b d:IC) (hG:I6 G) (hC:bZ G) (hU:aE G a b d) (hsm:w9 c) (hSG:Z0 G) (h0:0≤n) (h255:n≤255):zP prog G 24 [M9 c,jj n] (.tup [M9 (br c n),iv (W4 c n)]):=by
 refine zf func24 ntmps24 ?_
 try simp only[M9,jj]
 have c1:=de c hG hC hsm
 have w0:IntKind.i64.wrap n=n:=u7 (by omega) (by omega)
 by_cases h00:p7 c=0
 ·have hOk:=vO h00
  rw[h00] at c1
  simp only[V6,h00,if_true,n9] at c1
  have c6:=V3 (G:=G) 1 2 [n] (by simp)
  simp only[H0,List.map_cons,List.map_nil,Ab.encI,Ab.encI,rI,List.all_cons,List.all_nil,Bool.and_true] at c6
  by_cases hn:n=1∨n=2
  ·have hE:W4 c n=A0 c (aV c n):=by rw[W4,if_neg (by simp[h00]),if_pos hn]
   have hR:br c n=J4 c (aV c n):=by rw[br,J4,hE]
   rw[hR,hE]
   rw[show (decide ((1:Int)≤n)&&decide (n≤(2:Int)))=true by rw[Bool.and_eq_true,decide_eq_true_iff,decide_eq_true_iff];omega] at c6
   have c7:=mH (G:=G) c (B0 c) _ _ hG hOk hsm (ot (G:=G) hOk hsm hU hn) hSG
   have c8:DCall prog G 44 [.one (.im (n9 c (B0 c) (C9 c.reg c.lets))),.one (.fn (.func 67) [.ptr 1 0,.ptr 0 0])] [.row [.im (.raw (.int .u8 n))],.row [.im (n9 c (B0 c) (C9 c.reg c.lets))]] (fun d o=>d=.tup [M9 (J4 c (aV c n)),iv (A0 c (aV c n))]∧o=[]++o9 2):=
    DCall.freeze 0 (c7 []) (Nat.zero_le _) rfl (by simp[fz,DC.lt,frz,G2,n9,rI]) (fun o r _ h=>by
     match o with
     | 0=>simp at h
     | 1=>simp at h
     | o+2=>simp at h)
   simp only[n9,rI,List.nil_append,o9,List.replicate] at c8
   have hs:=w0
   repeat' first|(with_reducible first|refine zz ?_|refine zr ?_|refine zE [0,1,2,3,4,5,6,7,14,21] ?_)|simp -dsimp[hs]|refine zp c1 ?_|refine zt c6 ?_ ?_ ?_;(focus simp;done);focus (simp;done)|refine CallE.embed [1,6] (c8) ?_ ?_ ?_ ?_ ?_ ?_;(focus simp[C4];done);(focus simp;done);(focus simp;done);(focus simp;done);(focus refine A3 ?_;simp[C4,B7];done);try simp -dsimp[s8,C4,hs]|refine m5 ?_ ?_<;>intro h<;>try simp only[l8] at h
  ·have hE:W4 c n=11:=by rw[W4,if_neg (by simp[h00]),if_neg hn]
   rw[br,hE,if_neg (by decide)]
   rw[show (decide ((1:Int)≤n)&&decide (n≤(2:Int)))=false by rw[Bool.eq_false_iff];intro h;rw[Bool.and_eq_true,decide_eq_true_iff,decide_eq_true_iff] at h;omega] at c6
   have hs:=w0
   repeat' first|(with_reducible first|refine zz ?_|refine zr ?_|refine zE [0,1,2,3,4,5,6,7,14,21] ?_)|simp -dsimp[hs]|refine zp c1 ?_|refine zt c6 ?_ ?_ ?_;(focus simp;done);focus (simp;done)|refine m5 ?_ ?_<;>intro h<;>try simp only[l8] at h
   all_goals simp[x8]
 ·obtain⟨X,hX⟩:=ir c
  rw[hX] at c1
  have hE:W4 c n=p7 c:=by rw[W4,if_pos h00]
  rw[br,hE,if_neg h00]
  have hs:=h00
  repeat' first|(with_reducible first|refine zz ?_|refine zr ?_|refine zE [0,1,2,3,4,5,6,7,14,21] ?_)|simp -dsimp[hs]|refine zp c1 ?_|refine m5 ?_ ?_<;>intro h<;>try simp only[l8] at h
  all_goals simp[x8]
attribute [simp] r5 aT D9 J6 o9 x7 nilV H2 ZK
def BY (x:Link):DV:=.agg ((C2 x).map .im)
theorem xX (x:Link):ImV (BY x):=by simp[BY]
attribute [simp] xX
end Go.Proofs
namespace Go.Proofs
open Go Go.Ab
variable {G:Es}
attribute [local simp] F0
attribute [simp] r5 aT D9 J6 o9 x7 nilV H2 ZK
end Go.Proofs
namespace Go.Proofs
open Go Go.Ab
variable {G:Es}
attribute [simp] r5 aT D9 J6 o9 x7 nilV H2 ZK
def Dl (n:Int):List IC:=[.raw (.int .u32 n)]
end Go.Proofs
