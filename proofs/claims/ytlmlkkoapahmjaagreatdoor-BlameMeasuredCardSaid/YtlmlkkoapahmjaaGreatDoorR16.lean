/- Part 16 of the proofs. -/
import Derived.Test.YtlmlkkoapahmjaaGreatDoorR14
import Derived.Test.YtlmlkkoapahmjaaGreatDoorR15
set_option linter.all false
set_option maxHeartbeats 100000000
namespace Go.Proofs
open Go Go.Ab Tryz
variable {G:LY}
theorem AE (n:Notes) (hG:p8 G) (hN:E5 G) (hS:v8 G) (hs:CW n):zP prog G 227 [r5 n] (iv (v7 n)):=by
 refine zf func227 ntmps227 ?_;try simp only[r5]
 have c1:=qY n hG hN hS hs;have hs:=trivial;repeat' first|(with_reducible first|refine zz ?_|refine zr ?_|refine zE [0,1,2,4] ?_)|simp -dsimp[hs]|refine zp c1 ?_
 all_goals try clear hs
theorem wA {O:List Int} {j:Nat} (hd:O.Nodup) (hj:j<O.length):ph O[j] (O.take j)=O.take (j+1):=by
 unfold ph;rw[if_neg,List.take_succ_eq_append_getElem hj];intro hm;obtain⟨i,hi,e⟩:=List.mem_take_iff_getElem.1 hm;have:=(List.getElem_inj hd).1 e;omega
@[simp] abbrev Qz:List Nat:=[0,1,4,5,7,8,9,14,15,16,17,23,24,25,26,46]
theorem Dc (a b c:IC) (O s:List Int) (hd:O.Nodup) (hO:O.length<1000) (hsl:s.length<1000):zP prog G 161 [.one (.im (.ip [a,b,c,.sl (O.map encI)])),v6 s] (iv (if K2 O s then 0 else 31)):=by
 refine zf func161 ntmps161 ?_;try simp only[v6]
 have hs:=trivial;repeat' first|(with_reducible first|refine zz ?_|refine zE Qz ?_)|simp -dsimp[hs]
 refine i6 (ι:={ j:Nat // j<=O.length }) (λp=>⟨50,[(1,v6 s),(4,iv 0),(5,.one (.map 0)),(14,.one (.im (.sl (O.map encI)))),(15,iv (O.length:Int)),(16,iv (p.1:Int))],[.map [.int .i64] (J6 (O.take p.1))]⟩) (λp=>O.length-p.1) ⟨0,by omega⟩ (zv [1,4,5,14,15,16] (by simp[J6])) ?_;rintro⟨j,hj⟩;simp only[iv,v6];by_cases hlt:j<O.length
 ·have hw:=zk j;have hst:=wA hd hlt;generalize hx:O[j]=x at *;have hs:=za hx (za hlt (za hw hst));repeat' first|(with_reducible first|refine zz ?_|refine zE Qz ?_)|simp -dsimp[hs]|refine i8 ?_ ?_<;>intro h<;>try exact h.elim
  exact zn ⟨j+1,by omega⟩ (zv [1,4,5,14,15,16] (by simp[hst]))
 ·obtain rfl:j=O.length:=by omega
  rw[List.take_length];have hs:=hlt;repeat' first|(with_reducible first|refine zz ?_|refine zE Qz ?_)|simp -dsimp[hs]|refine i8 ?_ ?_<;>intro h<;>try exact h.elim
  refine i6 (ι:={ p:Nat×List Int // p.1<=s.length/\p.2.Nodup/\(∀ m,m∈p.2↔m∈O/\m∉s.take p.1)/\eI O s p.1 }) (λp=>⟨50,[(1,v6 s),(5,.one (.map 0)),(23,v6 s),(24,iv (s.length:Int)),(25,iv (p.1.1:Int))],[.map [.int .i64] (J6 p.1.2)]⟩) (λp=>s.length-p.1.1) ⟨(0,O),by simp,hd,by simp,λi v h=>by omega⟩ (zv [1,5,23,24,25]) ?_;rintro⟨⟨i,L⟩,hi,hLd,hLm,hto⟩;simp only at hi hLd hLm hto;simp only[iv,v6];by_cases hlt2:i<s.length
  ·have hx0:s[i]?=some s[i]:=by simp[hlt2]
   have hw:=zk i;have hLv:=hLm s[i];have hLn:∀ m,m∈L.erase s[i]↔m∈O/\m∉s.take (i+1):=λm=>by
    rw[hLd.mem_erase_iff,hLm,List.take_succ_eq_append_getElem hlt2];simp only[List.mem_append,List.mem_singleton,not_or];exact⟨λh=>⟨h.2.1,h.2.2,h.1⟩,λh=>⟨h.2.2,h.1,h.2.1⟩⟩
   have hLe:=hLd.erase s[i];generalize hv:s[i]=v at *;by_cases hmem:v∈L
   ·have hmd:decide (v∈L)=true:=by simp[hmem]
    by_cases h00:i=0
    ·have hnext:=gF hto hx0 (hLv.1 hmem).1 (λj u e=>by omega);subst h00;have hs:=za hv (za hlt2 (za hmd hmem));repeat' first|(with_reducible first|refine zz ?_|refine zE Qz ?_)|simp -dsimp[hs]|refine i8 ?_ ?_<;>intro h<;>try exact h.elim
     exact zn ⟨(0+1,L.erase v),by omega,hLe,hLn,hnext⟩ (zv [1,5,23,24,25] (by simp;exact o7 (by omega) (by omega)))
    ·have hq:i-1<s.length:=by omega
     have hwq:IntKind.i64.wrap ((i:Int)-1)=((i-1:Nat):Int):=by rw[o7 (by omega) (by omega)];omega
     have hi0:(0:Int)<(i:Int):=by omega
     have hin0:0<i:=by omega
     have hu0:s[i-1]?=some s[i-1]:=by simp[hq]
     have hnin:s[i-1]≠v:=λe=>(hLv.1 hmem).2 (e ▸ List.mem_take_iff_getElem.2 ⟨i-1,by omega,rfl⟩);generalize hu:s[i-1]=u at *;by_cases hlu:v<u
     ·have hb:=nA (o:=O) hx0 (.inr ⟨i-1,u,by omega,hu0,by omega⟩);have hs:=za hv (za hu (za hq (za hlt2 (za hw (za hwq (za hmd (za hmem (za hi0 (za hin0 hlu)))))))));repeat' first|(with_reducible first|refine zz ?_|refine zr ?_|refine zE Qz ?_)|simp -dsimp[hs]|refine i8 ?_ ?_<;>intro h<;>try exact h.elim
      all_goals simp[hb]
     ·have hnext:=gF hto hx0 (hLv.1 hmem).1 (λj u' e hu'=>by
       obtain rfl:i-1=j:=by omega
       rw[hu0] at hu';cases hu';omega)
      have hs:=za hv (za hu (za hq (za hlt2 (za hw (za hwq (za hmd (za hmem (za hi0 (za hin0 hlu)))))))));repeat' first|(with_reducible first|refine zz ?_|refine zE Qz ?_)|simp -dsimp[hs]|refine i8 ?_ ?_<;>intro h<;>try exact h.elim
      exact zn ⟨(i+1,L.erase v),by omega,hLe,hLn,hnext⟩ (zv [1,5,23,24,25])
   ·have hmd:decide (v∈L)=false:=by simp[hmem]
    have hb:K2 O s=false:=by
     refine nA hx0 ?_;by_cases ho:v∈O
     ·refine .inr ?_;cases i with
      | zero=>exact absurd (hLv.2 ⟨ho,by simp⟩) hmem
      | succ q =>
        have hq:q<s.length:=by omega
        refine⟨q,s[q],rfl,by simp[hq],Int.not_lt.1 λhlt3=>hmem (hLv.2 ⟨ho,qA hto hq hlt3⟩)⟩
     ·exact .inl ho
    have hs:=za hv (za hlt2 (za hmd hmem));repeat' first|(with_reducible first|refine zz ?_|refine zr ?_|refine zE Qz ?_)|simp -dsimp[hs]|refine i8 ?_ ?_<;>intro h<;>try exact h.elim
    all_goals simp[hb]
  ·have hb:K2 O s=true:=lh (qB (by rwa [show i=s.length by omega] at hto));have hs:=hlt2;repeat' first|(with_reducible first|refine zz ?_|refine zr ?_|refine zE Qz ?_)|simp -dsimp[hs]|refine i8 ?_ ?_<;>intro h<;>try exact h.elim
   all_goals simp[hb]
def F6 (n:Notes) (s:List Int) (m:Int):Int:=if v7 n≠0 then v7 n else if K2 (l6 (l7 n.notes)) s=false then 31 else if 1<=m/\m<=999 then 0 else 2
def Q6 (n:Notes) (s:List Int) (m:Int):DV:=if F6 n s m=0 then .one (.im (I1 n)) else .one (.im (.raw (.pointer none)))
theorem yr (n:Notes) (s:List Int) (m:Int):ImV (Q6 n s m):=by unfold Q6;split<;>simp[I1]
attribute [simp] yr
theorem Cr {n:Notes} {s:List Int} {m:Int} (h:F6 n s m=0):v7 n=0/\K2 (l6 (l7 n.notes)) s=true/\1<=m/\m<=999:=by
 unfold F6 at h;split at h
 ·contradiction
 ·split at h
  ·cases h
  ·split at h
   ·rename_i h1 h2 h3;exact⟨by simpa using h1,by simpa using h2,h3⟩
   ·cases h
theorem gY {n:Notes} (h:v7 n=0):j8 n.reg=0/\n.notes.length<=12/\mN n/\(l7 n.notes).length<=5:=by
 unfold v7 at h;split at h
 ·contradiction
 ·split at h
  ·rename_i h1 h2;exact⟨by simpa using h1,notesB_iff.1 h2⟩
  ·cases h
@[simp] abbrev Wt:List Nat:=[0,1,2,3,6,7,8,9,10,17,23,28]
theorem we (n:Notes) (s:List Int) (m:Int) (hG:p8 G) (hN:E5 G) (hS:v8 G) (hs:CW n) (hsl:s.length<1000):zP prog G 102 [r5 n,v6 s,iv m] (.tup [Q6 n s m,iv (F6 n s m)]):=by
 refine zf func102 ntmps102 ?_;try simp only[r5,v6,iv]
 have c1:=qY n hG hN hS hs;by_cases h0:v7 n=0
 ·rw[h0,show dh n=.one (.im (I1 n)) by unfold dh;rw[if_pos h0]] at c1;have hok:=gY h0;have hnl:=hs.2.1;have hol:=aj n.notes;have c2:=Dc (G:=G) (.sl (n.reg.map e9)) (.sl (n.notes.map j9)) (.sl ((nums n.reg).map encI)) (l6 (l7 n.notes)) s (rE (jU hok.2.2.1)) (by rw[O1];omega) hsl;have c3:=iw (G:=G) 1 999 [m] (by simp);have hE:F6 n s m=if K2 (l6 (l7 n.notes)) s=false then 31 else if 1<=m/\m<=999 then 0 else 2:=by unfold F6;rw[if_neg (by simp[h0])]
  simp only[I1] at c1;cases ht:K2 (l6 (l7 n.notes)) s
  ·rw[ht] at c2 hE;have hE:F6 n s m=31:=by rw[hE];rfl
   have hs:=trivial;repeat' first|(with_reducible first|refine zz ?_|refine zr ?_|refine zE Wt ?_)|simp -dsimp[hs]|refine zp c1 ?_|refine zp c2 ?_|refine i8 ?_ ?_<;>intro h<;>try exact h.elim
   all_goals try clear hs
   all_goals simp[Q6,hE]
  ·rw[ht] at c2 hE;by_cases hm:1<=m/\m<=999
   ·have hE:F6 n s m=0:=by rw[hE,if_neg (by simp),if_pos hm]
    have hin:([m].all λx=>decide (1<=x)&&decide (x<=999))=true:=by simp[hm]
    rw[hin] at c3;have hs:=trivial;repeat' first|(with_reducible first|refine zz ?_|refine zr ?_|refine zE Wt ?_)|simp -dsimp[hs]|refine zp c1 ?_|refine zp c2 ?_|refine zt c3 ?_ ?_ ?_;(focus simp;done);focus (simp;done)|refine i8 ?_ ?_<;>intro h<;>try exact h.elim
    all_goals try clear hs
    all_goals simp[Q6,hE,I1]
   ·have hE:F6 n s m=2:=by rw[hE,if_neg (by simp),if_neg hm]
    have hin:([m].all λx=>decide (1<=x)&&decide (x<=999))=false:=by simp;omega
    rw[hin] at c3;have hs:=trivial;repeat' first|(with_reducible first|refine zz ?_|refine zr ?_|refine zE Wt ?_)|simp -dsimp[hs]|refine zp c1 ?_|refine zp c2 ?_|refine zt c3 ?_ ?_ ?_;(focus simp;done);focus (simp;done)|refine i8 ?_ ?_<;>intro h<;>try exact h.elim
    all_goals try clear hs
    all_goals simp[Q6,hE]
 ·rw[show dh n=.one (.im (.raw (.pointer none))) by unfold dh;rw[if_neg h0]] at c1;have hE:F6 n s m=v7 n:=by unfold F6;rw[if_pos h0]
  have hs:=h0;repeat' first|(with_reducible first|refine zz ?_|refine zr ?_|refine zE Wt ?_)|simp -dsimp[hs]|refine zp c1 ?_|refine i8 ?_ ?_<;>intro h<;>try exact h.elim
  all_goals try clear hs
  all_goals simp[Q6,hE,h0]
def Ht (n:Notes) (s:List Int) (m d:Int):Int:=if F6 n s m≠0 then F6 n s m else if d∈nums n.reg then 0 else 6
def BJ (n:Notes) (s:List Int) (m d:Int):DV:=if Ht n s m d=0 then .one (.im (I1 n)) else .one (.im (.raw (.pointer none)))
theorem xX (n:Notes) (s:List Int) (m d:Int):ImV (BJ n s m d):=by unfold BJ;split<;>simp[I1]
attribute [simp] xX
end Go.Proofs
namespace Go.Ab
open Go
structure Holder where
 id:Int
 frm:Int
 to:Int
 draws:List Int
 deriving DecidableEq
structure Print where
 number:Int
 day:Int
 holder:Int
 drawing:Int
 letter:Int
 back:Int
 lost:Int
 deriving DecidableEq
structure Prints where
 n:Notes
 holders:List Holder
 prints:List Print
 deriving DecidableEq
def p7 (x:Holder):List IC:=[rI x.id,rI x.frm,rI x.to,.sl (x.draws.map encI)]
def A6 (x:Print):List IC:=[rI x.number,rI x.day,rI x.holder,rI x.drawing,rI x.letter,rI x.back,.raw (.int .u8 x.lost)]
def o8 (p:Prints):List IC:=[.sl (p.n.reg.map e9),.sl (p.n.notes.map j9),.sl (p.holders.map p7),.sl (p.prints.map A6)]
def jZ (x:Holder):DV:=.agg ((p7 x).map .im)
def dO (x:Print):DV:=.agg ((A6 x).map .im)
def C9 (p:Prints):DV:=.agg ((o8 p).map .im)
attribute [simp] p7 A6 o8 jZ dO C9
end Go.Ab
namespace Go.Proofs
open Go Go.Ab
variable {G:LY}
theorem tY (x lo hi:Int):DCall Tryz.prog G 238 (iv x :: [DC.ptr 0 0,DC.ptr 1 0].map .one) [.row [.im (rI lo)],.row [.im (rI hi)]] (λd o=>d=bv (decide (x<lo)||decide (hi<x))/\o=[.row [.im (rI lo)],.row [.im (rI hi)]]):=by
 refine g9 Tryz.func238 rfl Tryz.ntmps238 (by simp) rfl ?_;simp only[rI];have hs:=trivial;repeat' first|(with_reducible first|refine zz ?_|refine zr ?_|refine zE [0,1,2,4] ?_)|simp -dsimp[hs]|with_reducible refine j0 ?_ ?_<;>intro h<;>have h0:=h<;>(try simp only[i7] at h)<;>have h2:=h<;>(try simp at h2)<;>replace hs:=za h0 (za h (za h2 hs))|with_reducible refine And.intro ?_ ?_
 all_goals try clear hs
 all_goals simp[*]
theorem V9 (lo hi:Int) (l:List Int) (hl:l.length<1000000):zP Tryz.prog G 190 [iv lo,iv hi,v6 l] (bv (l.all λx=>decide (lo<=x)&&decide (x<=hi))):=by
 refine zf Tryz.func190 Tryz.ntmps190 ?_;try simp only[iv,iv,v6]
 have hc:=D6 (G:=G) l (λx=>decide (x<lo)||decide (hi<x)) 238 [.ptr 0 0,.ptr 1 0] [.row [.im (rI lo)],.row [.im (rI hi)]] (by simp) (λx _=>tY x lo hi) hl;simp only[rI] at hc;repeat' first|(with_reducible first|refine zz ?_|refine zx ?_|refine zE [0,1,2,3,4,6] ?_)|simp -dsimp|refine CallE.here hc ?_
 rw[Bool.eq_iff_iff];simp;exact exists_congr λx=>and_congr_right λ_=>by omega
@[simp] abbrev Qb:List Nat:=[0,1,4,5,7,8,9,16]
theorem dW (l:List Holder) (p:Holder->Bool) (k:Nat) (caps:List DC) (objs:List DObj) (hok:E2 Tryz.prog k) (hf:∀ x∈l,DCall Tryz.prog G k (jZ x :: caps.map .one) objs (λd o=>d=bv (p x)/\o=objs)) (hl:l.length<1000000):DCall Tryz.prog G 178 [.one (.im (.sl (l.map p7))),.one (.fn (.func k) caps)] objs (λd o=>d=iv (J1 p l)/\o=objs):=by
 refine g9 Tryz.func178 rfl Tryz.ntmps178 (by simp) rfl ?_;have hs:=trivial;repeat' first|(with_reducible first|refine zz ?_|refine zE Qb ?_)|simp -dsimp[hs]
 refine i6 (ι:={ k:Nat // k<=l.length/\∀ j x,j<k->l[j]?=some x->p x=false }) (λi=>⟨19,[(0,.one (.im (.sl (l.map p7)))),(1,.one (.fn (.func k) caps)),(7,iv (l.length:Int)),(8,iv (i.1:Int))],objs⟩) (λi=>l.length-i.1) ⟨0,by simp⟩ (zv [0,1,7,8]) ?_;rintro⟨i,hi,hno⟩;simp only[iv];by_cases hlt:i<l.length
 ·have hx:l[i]?=some l[i]:=by simp[hlt]
  have hw:=zk i;have hc:=hf l[i] (by simp);simp only[jZ,p7,List.map_cons,List.map_nil,bv,rI] at hc;have hs:=za hx (za hw hok);repeat' first|(with_reducible first|refine zz ?_|refine And.intro (by omega) ?_|refine zr ?_|refine zE Qb ?_)|simp -dsimp[hs]|refine CallE.here hc ?_|refine i8 ?_ ?_<;>intro h<;>try exact h.elim|with_reducible refine And.intro ?_ ?_
  all_goals try omega
  ·exact(N4 hx (by assumption) hno).symm
  ·exact At.round ⟨i+1,by omega,λj x hj hjx=>by
    by_cases e:j=i
    ·subst e;rw[hx] at hjx;cases hjx;assumption
    ·exact hno j x (by omega) hjx⟩ (by simp;omega) (zv [0,1,7,8])
 ·have hs:=trivial;repeat' first|(with_reducible first|refine zz ?_|refine zr ?_|refine zE Qb ?_)|simp -dsimp[hs]|refine i8 ?_ ?_<;>intro h<;>try exact h.elim|with_reducible refine And.intro ?_ ?_
  all_goals try omega
  exact(T5 λj x hjx=>hno j x (by have:=e7 hjx;omega) hjx).symm
theorem iT (l:List Holder) (p:Holder->Bool) (k:Nat) (caps:List DC) (objs:List DObj) (hok:E2 Tryz.prog k) (hf:∀ x∈l,DCall Tryz.prog G k (jZ x :: caps.map .one) objs (λd o=>d=bv (p x)/\o=objs)) (hl:l.length<1000000):DCall Tryz.prog G 120 [.one (.im (.sl (l.map p7))),.one (.fn (.func k) caps)] objs (λd o=>d=bv (l.any p)/\o=objs):=by
 refine g9 Tryz.func120 rfl Tryz.ntmps120 (by simp) rfl ?_;have hc:=dW l p k caps objs hok hf hl;repeat' first|(with_reducible first|refine zz ?_|refine zx ?_|refine zE [0,1,4] ?_)|simp -dsimp|refine CallE.here hc ?_|with_reducible refine And.intro ?_ ?_
 simp[B6]
theorem nm (l:List Issue) (p:Issue->Bool) (k:Nat) (caps:List DC) (objs:List DObj) (hok:E2 Tryz.prog k) (hf:∀ x∈l,DCall Tryz.prog G k (N3 x :: caps.map .one) objs (λd o=>d=bv (p x)/\o=objs)) (hl:l.length<1000000):DCall Tryz.prog G 344 [.one (.im (.sl (l.map e9))),.one (.fn (.func k) caps)] objs (λd o=>d=iv (J1 p l)/\o=objs):=by
 refine g9 Tryz.func344 rfl Tryz.ntmps344 (by simp) rfl ?_;have hs:=trivial;repeat' first|(with_reducible first|refine zz ?_|refine zE Qb ?_)|simp -dsimp[hs]
 refine i6 (ι:={ k:Nat // k<=l.length/\∀ j x,j<k->l[j]?=some x->p x=false }) (λi=>⟨19,[(0,.one (.im (.sl (l.map e9)))),(1,.one (.fn (.func k) caps)),(7,iv (l.length:Int)),(8,iv (i.1:Int))],objs⟩) (λi=>l.length-i.1) ⟨0,by simp⟩ (zv [0,1,7,8]) ?_;rintro⟨i,hi,hno⟩;simp only[iv];by_cases hlt:i<l.length
 ·have hx:l[i]?=some l[i]:=by simp[hlt]
  have hw:=zk i;have hc:=hf l[i] (by simp);simp only[N3,e9,List.map_cons,List.map_nil,bv,rI] at hc;have hs:=za hx (za hw hok);repeat' first|(with_reducible first|refine zz ?_|refine And.intro (by omega) ?_|refine zr ?_|refine zE Qb ?_)|simp -dsimp[hs]|refine CallE.here hc ?_|refine i8 ?_ ?_<;>intro h<;>try exact h.elim|with_reducible refine And.intro ?_ ?_
  all_goals try omega
  ·exact(N4 hx (by assumption) hno).symm
  ·exact At.round ⟨i+1,by omega,λj x hj hjx=>by
    by_cases e:j=i
    ·subst e;rw[hx] at hjx;cases hjx;assumption
    ·exact hno j x (by omega) hjx⟩ (by simp;omega) (zv [0,1,7,8])
 ·have hs:=trivial;repeat' first|(with_reducible first|refine zz ?_|refine zr ?_|refine zE Qb ?_)|simp -dsimp[hs]|refine i8 ?_ ?_<;>intro h<;>try exact h.elim|with_reducible refine And.intro ?_ ?_
  all_goals try omega
  exact(T5 λj x hjx=>hno j x (by have:=e7 hjx;omega) hjx).symm
theorem jJ (l:List Issue) (p:Issue->Bool) (k:Nat) (caps:List DC) (objs:List DObj) (hok:E2 Tryz.prog k) (hf:∀ x∈l,DCall Tryz.prog G k (N3 x :: caps.map .one) objs (λd o=>d=bv (p x)/\o=objs)) (hl:l.length<1000000):DCall Tryz.prog G 340 [.one (.im (.sl (l.map e9))),.one (.fn (.func k) caps)] objs (λd o=>d=bv (l.any p)/\o=objs):=by
 refine g9 Tryz.func340 rfl Tryz.ntmps340 (by simp) rfl ?_;have hc:=nm l p k caps objs hok hf hl;repeat' first|(with_reducible first|refine zz ?_|refine zx ?_|refine zE [0,1,4] ?_)|simp -dsimp|refine CallE.here hc ?_|with_reducible refine And.intro ?_ ?_
 simp[B6]
def l8 (p:Prints):IC:=.ip [.sl (p.n.reg.map e9),.sl (p.n.notes.map j9),.sl (p.holders.map p7),.sl (p.prints.map A6),.sl ((nums p.n.reg).map encI)]
theorem xD (n:Int) (y:Holder):DCall Tryz.prog G 191 (jZ y :: [DC.ptr 0 0].map .one) [.row [.im (rI n)]] (λd o=>d=bv (decide (y.id=n))/\o=[.row [.im (rI n)]]):=by
 refine DCall.drop ?_;refine g9 Tryz.func191 rfl Tryz.ntmps191 (by simp) rfl ?_;simp only[jZ,p7,rI];repeat' first|(with_reducible first|refine zz ?_|refine zx ?_|refine zE [0,1,2,3] ?_)|simp -dsimp|with_reducible refine And.intro ?_ ?_
theorem rK (p:Prints) (n:Int) (hl:p.holders.length<1000000):zP Tryz.prog G 144 [.one (.im (l8 p)),iv n] (iv (J1 (λy=>decide (y.id=n)) p.holders)):=by
 refine zf Tryz.func144 Tryz.ntmps144 ?_;try simp only[iv]
 simp only[l8];have c1:=dW (G:=G) p.holders (λy=>decide (y.id=n)) 191 [.ptr 0 0] [.row [.im (rI n)]] (by simp) (λy _=>xD n y) hl;simp only[rI] at c1;repeat' first|(with_reducible first|refine zz ?_|refine zx ?_|refine zE [0,1,3,4] ?_)|simp -dsimp|refine zh c1 ?_
def HT (x:Print):Bool:=(decide (1<=x.number)&&decide (x.number<=9999))&&(decide (0<=x.day)&&decide (x.day<=14610))
theorem ID (d:IC) (x:Print):zP Tryz.prog G 337 [.one (.im d),dO x] (bv (HT x)):=by
 refine zf Tryz.func337 Tryz.ntmps337 ?_;try simp only[iv]
 have c1:=V9 (G:=G) 1 9999 [x.number] (by simp);have c2:=V9 (G:=G) 0 14610 [x.day] (by simp);have hs:=trivial;repeat' first|(with_reducible first|refine zz ?_|refine zr ?_|refine zE [1,3,4] ?_)|simp -dsimp[hs]|refine zt c1 ?_ ?_ ?_;(focus simp;done);focus (simp;done)|refine zt c2 ?_ ?_ ?_;(focus simp;done);focus (simp;done)|with_reducible refine j0 ?_ ?_<;>intro h<;>have h0:=h<;>(try simp only[i7] at h)<;>have h2:=h<;>(try simp at h2)<;>replace hs:=za h0 (za h (za h2 hs))
 all_goals try clear hs
 all_goals simp_all [HT]
 all_goals omega
def IB (l:List Holder) (x:Print):Bool:=l.any λy=>decide (y.id=x.holder)
theorem IA (p:Prints) (x:Print) (hl:p.holders.length<1000000):zP Tryz.prog G 338 [.one (.im (l8 p)),dO x] (bv (IB p.holders x)):=by
 refine zf Tryz.func338 Tryz.ntmps338 ?_;try simp only[iv]
 have c1:=rK (G:=G) p x.holder hl;simp only[l8] at c1 ⊢;repeat' first|(with_reducible first|refine zz ?_|refine zx ?_|refine zE [0,1,3,4] ?_)|simp -dsimp|refine zp c1 ?_
 rw[B6];rfl
def Gr (l:List Issue) (x:Print):Bool:=l.any λy=>decide (x.drawing=y.drawing/\x.letter=y.letter)
theorem Gq (x:Print) (y:Issue):DCall Tryz.prog G 341 (N3 y :: [DC.ptr 0 0].map .one) [.row ((A6 x).map .im)] (λd o=>d=bv (decide (x.drawing=y.drawing/\x.letter=y.letter))/\o=[.row ((A6 x).map .im)]):=by
 refine DCall.drop ?_;refine g9 Tryz.func341 rfl Tryz.ntmps341 (by simp) rfl ?_;simp only[N3,e9,A6,rI];repeat' first|(with_reducible first|refine zz ?_|refine zx ?_|refine zE [0,1,2,3] ?_)|simp -dsimp|with_reducible refine And.intro ?_ ?_
theorem Iz (p:Prints) (x:Print) (hl:p.n.reg.length<1000000):zP Tryz.prog G 339 [.one (.im (l8 p)),dO x] (bv (Gr p.n.reg x)):=by
 refine zf Tryz.func339 Tryz.ntmps339 ?_;try simp only[iv]
 simp only[l8];have c1:=jJ (G:=G) p.n.reg (λy=>decide (x.drawing=y.drawing/\x.letter=y.letter)) 341 [.ptr 0 0] [.row ((A6 x).map .im)] (by simp) (λy _=>Gq x y) hl;simp only[A6,rI,List.map_cons,List.map_nil] at c1;repeat' first|(with_reducible first|refine zz ?_|refine zx ?_|refine zE [0,1,3,4] ?_)|simp -dsimp|refine zh c1 ?_
 simp[Gr]
def HS (x:Print):Bool:=decide (x.lost<=2)
theorem Iy (d:IC) (x:Print):zP Tryz.prog G 342 [.one (.im d),dO x] (bv (HS x)):=by
 refine zf Tryz.func342 Tryz.ntmps342 ?_;try simp only[iv]
 repeat' first|(with_reducible first|refine zz ?_|refine zx ?_|refine zE [1,3,4] ?_)|simp -dsimp
 all_goals simp[HS]
def HR (x:Print):Bool:=decide (x.back=-1)||(decide (x.day<=x.back)&&decide (x.back<=14610))&&decide (x.lost=0)
theorem Ix (d:IC) (x:Print):zP Tryz.prog G 343 [.one (.im d),dO x] (bv (HR x)):=by
 refine zf Tryz.func343 Tryz.ntmps343 ?_;try simp only[iv]
 have c1:=V9 (G:=G) x.day 14610 [x.back] (by simp);have hs:=trivial;repeat' first|(with_reducible first|refine zz ?_|refine zr ?_|refine zE [1,3,4] ?_)|simp -dsimp[hs]|refine zt c1 ?_ ?_ ?_;(focus simp;done);focus (simp;done)|with_reducible refine j0 ?_ ?_<;>intro h<;>have h0:=h<;>(try simp only[i7] at h)<;>have h2:=h<;>(try simp at h2)<;>replace hs:=za h0 (za h (za h2 hs))
 all_goals try clear hs
 all_goals simp_all [HR]
 all_goals omega
end Go.Proofs
namespace Go.Proofs
open Go Go.Ab Tryz
variable {G:LY}
def Ew (D l:List Int) (k:Nat) (d:Int):Prop:=d∈D/\(0<k->∀ e,l[k-1]?=some e->e<d)
def Kf (l:List Holder) (i:Nat) (x:Holder):Prop:=(1<=x.id/\x.id<=9999)/\(0<i->∀ y,l[i-1]?=some y->y.id<x.id)/\(1<=x.frm/\x.frm<=999)/\(1<=x.to/\x.to<=999)/\x.frm<=x.to/\x.draws.length<=8
def sX (D:List Int) (l:List Holder) (i:Nat) (x:Holder):Prop:=Kf l i x/\∀ k d,x.draws[k]?=some d->Ew D x.draws k d
def As (p:Prints) (x:Print):Nat->Bool
 | 0=>HT x
 | 1=>IB p.holders x
 | 2=>Gr p.n.reg x
 | 3=>HS x
 | _=>HR x
def wR (p:Prints) (i:Nat) (x:Print):Prop:=(0<i->∀ y,p.prints[i-1]?=some y->y.number<x.number)/\∀ c,c<5->As p x c=true
structure PrintsOk (p:Prints):Prop where
 hl:p.holders.length<=6
 pl:p.prints.length<=30
 h:∀ i x,p.holders[i]?=some x->sX (nums p.n.reg) p.holders i x
 q:∀ i x,p.prints[i]?=some x->wR p i x
noncomputable def G9 (p:Prints):Bool:=open Classical in decide (PrintsOk p)
theorem L8 {p:Prints} (h:¬ PrintsOk p):G9 p=false:=by simp[G9,h]
theorem dP {p:Prints} (h:PrintsOk p):G9 p=true:=by simp[G9,h]
structure SmallP (p:Prints):Prop where
 r:(nums p.n.reg).length<1000
 l:p.n.reg.length<1000
 h:p.holders.length<=8
 q:p.prints.length<=40
 d:∀ x∈p.holders,x.draws.length<=20
 lo:∀ x∈p.prints,0<=x.lost/\x.lost<=255
def A0 (G:LY):Prop:=G 6=some [.fn (.func 337) [],.fn (.func 338) [],.fn (.func 339) [],.fn (.func 342) [],.fn (.func 343) []]
@[simp] abbrev Qf:List Nat:=[0,2,3,4,5,6,7,8,9,11,27,32,33,34,35,84,86,87,88,89,113,120,121,122,123,143,144,145,146,154]
theorem Dt (p:Prints) (hR:A0 G) (hs:SmallP p):zP prog G 228 [.one (.im (l8 p))] (bv (G9 p)):=by
 refine zf func228 ntmps228 ?_;try simp only[iv]
 have hR':G 6=some [.fn (.func 337) [],.fn (.func 338) [],.fn (.func 339) [],.fn (.func 342) [],.fn (.func 343) []]:=hR;obtain⟨hsr,hsl,hsh,hsq,hsd,hslo⟩:=hs;by_cases h6:¬ p.holders.length<=6
 ·have h6':(6:Int)<p.holders.length:=by omega
  have hno:=L8 (p:=p) λh=>h6 h.hl;simp only[l8];have hs:=h6';repeat' first|(with_reducible first|refine zz ?_|refine zr ?_|refine zE Qf ?_)|simp -dsimp[hs]|refine i8 ?_ ?_<;>intro h<;>try exact h.elim
  all_goals try clear hs
  all_goals simp[hno]
 by_cases h30:¬ p.prints.length<=30
 ·replace h6:=Classical.not_not.1 h6;have h6':¬ (6:Int)<p.holders.length:=by omega
  have h30':(30:Int)<p.prints.length:=by omega
  have hno:=L8 (p:=p) λh=>h30 h.pl;simp only[l8];have hs:=za h6' h30';repeat' first|(with_reducible first|refine zz ?_|refine zr ?_|refine zE Qf ?_)|simp -dsimp[hs]|refine i8 ?_ ?_<;>intro h<;>try exact h.elim
  all_goals try clear hs
  all_goals simp[hno]
 replace h6:=Classical.not_not.1 h6;replace h30:=Classical.not_not.1 h30;have h6':¬ (6:Int)<p.holders.length:=by omega
 have h30':¬ (30:Int)<p.prints.length:=by omega
 simp only[l8];have hs:=za h6' h30';repeat' first|(with_reducible first|refine zz ?_|refine zE Qf ?_)|simp -dsimp[hs]|refine i8 ?_ ?_<;>intro h<;>try exact h.elim
 all_goals try clear hs
 refine i6 (ι:={ k:Nat // k<=p.holders.length/\∀ (j:Nat) (x:Holder),j<k->p.holders[j]?=some x->sX (nums p.n.reg) p.holders j x }) (λq=>⟨158,[(0,.one (.im (l8 p))),(32,.one (.im (.sl (p.holders.map p7)))),(33,iv (p.holders.length:Int)),(34,iv (q.1:Int))],[]⟩) (λq=>p.holders.length-q.1) ⟨0,by simp⟩ (zv [0,32,33,34] (by simp[l8])) ?_;rintro⟨k,hk,hok⟩;simp only[iv,l8];by_cases hlt:k<p.holders.length
 ·have hx0:p.holders[k]?=some p.holders[k]:=by simp[hlt]
  have hw:=zk k;have hdl:=hsd p.holders[k] (List.getElem_mem hlt);generalize hx:p.holders[k]=x at *;have hbad:¬ sX (nums p.n.reg) p.holders k x->G9 p=false:=λh=>L8 λh'=>h (h'.h k x hx0);have hstep:sX (nums p.n.reg) p.holders k x->∀ (j:Nat) (z:Holder),j<k+1->p.holders[j]?=some z->sX (nums p.n.reg) p.holders j z:=λh j z hj hz=>by
   by_cases e:j=k
   ·subst e;rw[hx0] at hz;cases hz;exact h
   ·exact hok j z (by omega) hz
  have c1:=V9 (G:=G) 1 9999 [x.id] (by simp);have c2:=V9 (G:=G) 1 999 [x.frm,x.to] (by simp);have c3:=λd=>cV (G:=G) (nums p.n.reg) d (by omega);have hs:True:=trivial;by_cases hA:Kf p.holders k x
  ·have hA':=hA;obtain⟨a1,a3,a4,a6,a8,a9⟩:=hA;have e1:([x.id].all λy=>decide (1<=y)&&decide (y<=9999))=true:=by simp;omega
   have e2:([x.frm,x.to].all λy=>decide (1<=y)&&decide (y<=999))=true:=by simp;omega
   rw[e1] at c1;rw[e2] at c2;have a8':¬ x.to<x.frm:=by omega
   have a9':¬ (8:Int)<x.draws.length:=by omega
   have hcs:(¬ 0<k/\True/\∃ _:True,True)\/(0<k/\IntKind.i64.wrap ((k:Int)-1)=((k-1:Nat):Int)/\∃ h:k-1<p.holders.length,¬ x.id<=(p.holders[k-1]'h).id):=by
    rcases Nat.eq_zero_or_pos k with h0|h0
    ·exact .inl ⟨by omega,trivial,trivial,trivial⟩
    ·have h1:k-1<p.holders.length:=by omega
     exact .inr ⟨by omega,by rw[o7 (by omega) (by omega)];omega,h1,by have:=a3 h0 _ (List.getElem?_eq_getElem h1);omega⟩
   rcases hcs with⟨hk0,hwm,hi1,hlt1⟩|⟨hk0,hwm,hi1,hlt1⟩
   all_goals
    have hs:=za hx (za hlt (za a8' (za a9' (za hk0 (za hwm (za hi1 hlt1))))));repeat' first|with_reducible refine zz ?_|simp -dsimp[hs]|refine zq c1 ?_|refine zq c2 ?_|refine zM 6 158 46 Qf ?_|with_reducible refine zE Qf ?_|refine i8 ?_ ?_<;>intro h<;>try exact h.elim
    all_goals try clear hs
   all_goals
    refine i6 (ι:={ j:Nat // j<=x.draws.length/\∀ (i:Nat) (d:Int),i<j->x.draws[i]?=some d->Ew (nums p.n.reg) x.draws i d }) (λq=>⟨158,[(0,.one (.im (l8 p))),(4,.one (.ptr 1 0)),(32,.one (.im (.sl (p.holders.map p7)))),(33,iv (p.holders.length:Int)),(34,iv (k:Int)),(86,.one (.im (.sl (x.draws.map encI)))),(87,iv (x.draws.length:Int)),(88,iv (q.1:Int))],[.vec 0 [] 0 true,.row ((p7 x).map .im)]⟩) (λq=>x.draws.length-q.1) ⟨0,by simp⟩ (zv [0,4,32,33,34,86,87,88] (by simp[l8])) ?_;rintro⟨j,hj,hjok⟩;simp only[iv,l8];by_cases hlj:j<x.draws.length
    ·have hx1:x.draws[j]?=some x.draws[j]:=by simp[hlj]
     have hwj:=zk j;have c4:=c3 x.draws[j];have hcj:(¬ 0<j/\True/\∃ _:True,True)\/(0<j/\IntKind.i64.wrap ((j:Int)-1)=((j-1:Nat):Int)/\∃ h:j-1<x.draws.length,True):=by
      rcases Nat.eq_zero_or_pos j with h0|h0
      ·exact .inl ⟨by omega,trivial,trivial,trivial⟩
      ·exact .inr ⟨by omega,by rw[o7 (by omega) (by omega)];omega,by omega,trivial⟩
     have hbadj:¬ Ew (nums p.n.reg) x.draws j x.draws[j]->G9 p=false:=λh=>hbad λh'=>h (h'.2 j _ hx1);have hstj:Ew (nums p.n.reg) x.draws j x.draws[j]->∀ (i:Nat) (d:Int),i<j+1->x.draws[i]?=some d->Ew (nums p.n.reg) x.draws i d:=λh i d hi hd=>by
      by_cases e:i=j
      ·subst e;rw[hx1] at hd;cases hd;exact h
      ·exact hjok i d (by omega) hd
     clear hstep;rcases hcj with⟨hj0,hwmj,hij,-⟩|⟨hj0,hwmj,hij,-⟩
     all_goals
      have hs:=za hx1 (za hlj (za hj0 (za hwmj (za hij hwj))));repeat' first|(with_reducible first|refine zz ?_|refine zr ?_|refine zE Qf ?_)|simp -dsimp[hs]|refine zp c4 ?_|refine i8 ?_ ?_<;>intro h<;>try exact h.elim|with_reducible refine j0 ?_ ?_<;>intro h<;>have h0:=h<;>(try simp only[i7] at h)<;>have h2:=h<;>(try simp at h2)<;>replace hs:=za h0 (za h (za h2 hs))
      all_goals try clear hs
     all_goals first
      | exact zn ⟨j+1,by omega,hstj ⟨of_decide_eq_true (by assumption),λh1 e he=>by first|omega|(obtain⟨_,rfl⟩:=List.getElem?_eq_some_iff.1 he;omega)⟩⟩ (zv [0,4,32,33,34,86,87,88])
      | (refine hbadj λhh=>?_;have:=hh.1;simp_all;done)
      | (refine hbadj λhh=>?_;have:=hh.2 (by omega) _ (List.getElem?_eq_getElem hij);omega)
    ·have hs:=za hlj hw;repeat' first|(with_reducible first|refine zz ?_|refine zE Qf ?_)|simp -dsimp[hs]|refine i8 ?_ ?_<;>intro h<;>try exact h.elim
     all_goals try clear hs
     exact zn ⟨k+1,by omega,hstep ⟨hA',λi d hd=>hjok i d (by have:=e7 hd;omega) hd⟩⟩ (zw [0,32,33,34] 0)
  ·have hno:=hbad λh=>hA h.1;generalize hb1:([x.id].all λy=>decide (1<=y)&&decide (y<=9999))=b1 at c1;generalize hb2:([x.frm,x.to].all λy=>decide (1<=y)&&decide (y<=999))=b2 at c2;have hcs:(¬ 0<k/\True/\∃ _:True,True)\/(0<k/\IntKind.i64.wrap ((k:Int)-1)=((k-1:Nat):Int)/\∃ h:k-1<p.holders.length,True):=by
    rcases Nat.eq_zero_or_pos k with h0|h0
    ·exact .inl ⟨by omega,trivial,trivial,trivial⟩
    ·exact .inr ⟨by omega,by rw[o7 (by omega) (by omega)];omega,by omega,trivial⟩
   rcases hcs with⟨hk0,hwm,hi1,-⟩|⟨hk0,hwm,hi1,-⟩<;>cases b1<;>cases b2
   all_goals
    have hs:=za hx (za hlt (za hk0 (za hwm hi1)));repeat' first|(with_reducible first|refine zz ?_|refine zr ?_)|simp -dsimp[hs]|refine zq c1 ?_|refine zq c2 ?_|refine zM 6 158 46 Qf ?_|with_reducible refine zE Qf ?_|refine i8 ?_ ?_<;>intro h<;>try exact h.elim|with_reducible refine j0 ?_ ?_<;>intro h<;>have h0:=h<;>(try simp only[i7] at h)<;>have h2:=h<;>(try simp at h2)<;>replace hs:=za h0 (za h (za h2 hs))
    all_goals try clear hs
   all_goals try (first|exact hno|exact hno.symm)
   ·refine absurd ?_ hA;simp at hb1 hb2;exact⟨by omega,λh1=>by omega,by omega,by omega,by omega,by omega⟩
   ·refine absurd ?_ hA;simp at hb1 hb2;exact⟨by omega,λh1 y hy=>by
     obtain⟨_,rfl⟩:=List.getElem?_eq_some_iff.1 hy
     simp_all<;>omega,by omega,by omega,by omega,by omega⟩
 ·have hkl:k=p.holders.length:=by omega
  have hall:∀ i x,p.holders[i]?=some x->sX (nums p.n.reg) p.holders i x:=λi x hx=>hok i x (by have:=e7 hx;omega) hx;have hs:=hlt;repeat' first|(with_reducible first|refine zz ?_|refine zE Qf ?_)|simp -dsimp[hs]|refine i8 ?_ ?_<;>intro h<;>try exact h.elim
  all_goals try clear hs
  refine i6 (ι:={ k:Nat // k<=p.prints.length/\∀ (j:Nat) (x:Print),j<k->p.prints[j]?=some x->wR p j x }) (λq=>⟨158,[(0,.one (.im (l8 p))),(7,bv true),(120,.one (.im (.sl (p.prints.map A6)))),(121,iv (p.prints.length:Int)),(122,iv (q.1:Int))],[]⟩) (λq=>p.prints.length-q.1) ⟨0,by simp⟩ (zv [0,7,120,121,122] (by simp[l8])) ?_;clear hlt hok hk hkl k;rintro⟨k,hk,hok⟩;simp only[iv,bv,l8];by_cases hlt:k<p.prints.length
  ·have hx0:p.prints[k]?=some p.prints[k]:=by simp[hlt]
   have hw:=zk k;have hll:=hslo p.prints[k] (List.getElem_mem hlt);generalize hx:p.prints[k]=x at *;have hbad:¬ wR p k x->G9 p=false:=λh=>L8 λh'=>h (h'.q k x hx0);have hstep:wR p k x->∀ (j:Nat) (z:Print),j<k+1->p.prints[j]?=some z->wR p j z:=λh j z hj hz=>by
    by_cases e:j=k
    ·subst e;rw[hx0] at hz;cases hz;exact h
    ·exact hok j z (by omega) hz
   have hs:True:=trivial;have hcs:(¬ 0<k/\True/\∃ _:True,True)\/(0<k/\IntKind.i64.wrap ((k:Int)-1)=((k-1:Nat):Int)/\∃ h:k-1<p.prints.length,True):=by
    rcases Nat.eq_zero_or_pos k with h0|h0
    ·exact .inl ⟨by omega,trivial,trivial,trivial⟩
    ·exact .inr ⟨by omega,by rw[o7 (by omega) (by omega)];omega,by omega,trivial⟩
   rcases hcs with⟨hk0,hwm,hi1,-⟩|⟨hk0,hwm,hi1,-⟩
   all_goals
    have hs:=za hx (za hlt (za hk0 (za hwm (za hi1 hR'))));repeat' first|(with_reducible first|refine zz ?_|refine zr ?_)|simp -dsimp[hs]|refine zM 19 158 17 Qf ?_|with_reducible refine zE Qf ?_|refine i8 ?_ ?_<;>intro h<;>try exact h.elim
    all_goals try clear hs
   all_goals try (exact hbad λhh=>by have:=hh.1 hk0 _ (List.getElem?_eq_getElem hi1);omega)
   all_goals
    have hord:0<k->∀ y,p.prints[k-1]?=some y->y.number<x.number:=λh1 y hy=>by
     first|omega|(obtain⟨_,rfl⟩:=List.getElem?_eq_some_iff.1 hy;omega)
    have k1:=λd=>ID (G:=G) d x;have k2:=IA (G:=G) p x (by omega);have k3:=Iz (G:=G) p x (by omega);have k4:=λd=>Iy (G:=G) d x;have k5:=λd=>Ix (G:=G) d x;replace k1:=k1 (l8 p);replace k4:=k4 (l8 p);replace k5:=k5 (l8 p);rw[show HT x=As p x 0 from rfl] at k1;rw[show IB p.holders x=As p x 1 from rfl] at k2;rw[show Gr p.n.reg x=As p x 2 from rfl] at k3;rw[show HS x=As p x 3 from rfl] at k4;rw[show HR x=As p x 4 from rfl] at k5;simp only[l8] at k1 k2 k3 k4 k5;refine i6 (ι:={ c:Nat // c<=5/\∀ e<c,As p x e=true }) (λq=>⟨158,[(0,.one (.im (l8 p))),(7,bv true),(9,.one (.ptr 0 0)),(120,.one (.im (.sl (p.prints.map A6)))),(121,iv (p.prints.length:Int)),(122,iv (k:Int)),(144,.agg [.im (.fn (.func 337) []),.im (.fn (.func 338) []),.im (.fn (.func 339) []),.im (.fn (.func 342) []),.im (.fn (.func 343) [])]),(145,iv (q.1:Int))],[.row ((A6 x).map .im)]⟩) (λq=>5-q.1) ⟨0,by simp⟩ (zv [0,7,9,120,121,122,144,145] (by simp[l8])) ?_;rintro⟨c,hc,hcc⟩;simp only[iv,bv,l8];by_cases hc5:c<5
    ·have hm:As p x c=true->∀ e<c+1,As p x e=true:=λh e he=>by
      rcases Nat.lt_succ_iff_lt_or_eq.1 he with h1|rfl
      ·exact hcc e h1
      ·exact h
     have hbc:As p x c=false->G9 p=false:=λh=>hbad λhh=>by rw[hh.2 c hc5] at h;cases h
     clear hstep;have hi5:c=0\/c=1\/c=2\/c=3\/c=4:=by omega
     rcases hi5 with rfl|rfl|rfl|rfl|rfl
     all_goals
      have hs:=hlt;repeat' first|(with_reducible first|refine zz ?_|refine La (by decide) ?_|refine zr ?_|refine zE Qf ?_)|simp -dsimp[hs]|refine zp k1 ?_|refine zp k2 ?_|refine zp k3 ?_|refine zp k4 ?_|refine zp k5 ?_|refine i8 ?_ ?_<;>intro h<;>try exact h.elim
      all_goals try clear hs
     all_goals first
      | exact At.round ⟨_,by omega,hm (by assumption)⟩ (by simp) (zw [0,7,9,120,121,122,144,145] 1 (by simp[‹As p x _=true›];exact o7 (by omega) (by omega)))
      | exact hbc (by assumption)
      | (rw[hbc (by assumption)];assumption)
    ·obtain rfl:c=5:=by omega
     clear k1 k2 k3 k4 k5;have hs:=za hlt hw;repeat' first|(with_reducible first|refine zz ?_|refine zE Qf ?_)|simp -dsimp[hs]|refine i8 ?_ ?_<;>intro h<;>try exact h.elim
     all_goals try clear hs
     exact zn ⟨k+1,by omega,hstep ⟨hord,hcc⟩⟩ (zw [0,7,120,121,122] 0)
  ·have hyes:G9 p=true:=dP ⟨h6,h30,hall,λi x hx=>hok i x (by have:=e7 hx;omega) hx⟩;have hs:=hlt;repeat' first|(with_reducible first|refine zz ?_|refine zr ?_|refine zE Qf ?_)|simp -dsimp[hs]|refine i8 ?_ ?_<;>intro h<;>try exact h.elim
   all_goals try clear hs
   all_goals simp[hyes]
noncomputable def u3 (p:Prints):Int:=if v7 p.n≠0 then v7 p.n else if G9 p=true then 0 else 70
noncomputable def T1 (p:Prints):DV:=if u3 p=0 then .one (.im (l8 p)) else .one (.im (.raw (.pointer none)))
theorem tB (p:Prints):ImV (T1 p):=by unfold T1;split<;>simp[l8]
attribute [simp] tB
structure KP (p:Prints):Prop where
 n:CW p.n
 p:SmallP p
@[simp] abbrev Wb:List Nat:=[0,1,2,3,4,5,10,27]
theorem vD (p:Prints) (hG:p8 G) (hN:E5 G) (hS:v8 G) (hR:A0 G) (hk:KP p):zP prog G 175 [C9 p] (.tup [T1 p,iv (u3 p)]):=by
 refine zf func175 ntmps175 ?_;try simp only[iv]
 have c1:=AE p.n hG hN hS hk.n;have c2:=cT p.n.reg hG hk.n.1;have c3:=Dt p hR hk.p;by_cases h0:v7 p.n=0
 ·have hr0:j8 p.n.reg=0:=by
   refine Classical.byContradiction λh=>?_;unfold v7 at h0;rw[if_pos h] at h0;exact h h0
  rw[hr0,show eo p.n.reg=nums p.n.reg by simp[eo,hr0]] at c2;simp only[h0] at c1;by_cases hp:G9 p=true
  ·have hE:u3 p=0:=by unfold u3;rw[if_neg (by simp[h0]),if_pos hp]
   have hO:T1 p=.one (.im (l8 p)):=by unfold T1;rw[if_pos hE]
   rw[hp] at c3;rw[hE,hO];simp only[l8] at c3 ⊢;have hs:=trivial;repeat' first|(with_reducible first|refine zz ?_|refine zr ?_)|simp -dsimp[hs]|refine zp c1 ?_|refine zp c2 ?_|refine zt c3 ?_ ?_ ?_;(focus simp;done);focus (simp;done)|with_reducible refine Q7 (id:=4) (nt:=29) Wb rfl ?_;simp -dsimp[hs]|with_reducible refine zE Wb ?_|refine i8 ?_ ?_<;>intro h<;>try exact h.elim
  ·have hE:u3 p=70:=by unfold u3;rw[if_neg (by simp[h0]),if_neg hp]
   have hO:T1 p=.one (.im (.raw (.pointer none))):=by unfold T1;rw[if_neg (by simp[hE])]
   rw[Bool.not_eq_true] at hp;rw[hp] at c3;rw[hE,hO];simp only[l8] at c3 ⊢;have hs:=trivial;repeat' first|(with_reducible first|refine zz ?_|refine zr ?_)|simp -dsimp[hs]|refine zp c1 ?_|refine zp c2 ?_|refine zt c3 ?_ ?_ ?_;(focus simp;done);focus (simp;done)|with_reducible refine Q7 (id:=4) (nt:=29) Wb rfl ?_;simp -dsimp[hs]|with_reducible refine zE Wb ?_|refine i8 ?_ ?_<;>intro h<;>try exact h.elim
 ·have hE:u3 p=v7 p.n:=by unfold u3;rw[if_pos h0]
  have hO:T1 p=.one (.im (.raw (.pointer none))):=by unfold T1;rw[if_neg (by rw[hE];exact h0)]
  rw[hE,hO];have hs:=h0;repeat' first|(with_reducible first|refine zz ?_|refine zr ?_|refine zE Wb ?_)|simp -dsimp[hs]|refine zp c1 ?_|refine i8 ?_ ?_<;>intro h<;>try exact h.elim
theorem An (p:Prints) (hG:p8 G) (hN:E5 G) (hS:v8 G) (hR:A0 G) (hk:KP p):zP prog G 118 [C9 p] (iv (u3 p)):=by
 refine zf func118 ntmps118 ?_;try simp only[iv]
 have c1:=vD p hG hN hS hR hk;repeat' first|(with_reducible first|refine zz ?_|refine zx ?_|refine zE [0,1,2,4] ?_)|simp -dsimp|refine zp c1 ?_
def ye (d m:Int):Bool:=(decide (0<=d)&&decide (d<=14610))&&(decide (1<=m)&&decide (m<=999))
noncomputable def K9 (p:Prints) (d m:Int):Int:=if u3 p≠0 then u3 p else if ye d m=true then 0 else 2
noncomputable def U1 (p:Prints) (d m:Int):DV:=if K9 p d m=0 then .one (.im (l8 p)) else .one (.im (.raw (.pointer none)))
theorem uN (p:Prints) (d m:Int):ImV (U1 p d m):=by unfold U1;split<;>simp[l8]
attribute [simp] uN
@[simp] abbrev Wu:List Nat:=[0,1,2,3,6,7,8,9,16,27]
theorem Ao (p:Prints) (d m:Int) (hG:p8 G) (hN:E5 G) (hS:v8 G) (hR:A0 G) (hk:KP p):zP prog G 143 [C9 p,iv d,iv m] (.tup [U1 p d m,iv (K9 p d m)]):=by
 refine zf func143 ntmps143 ?_;try simp only[iv,iv]
 have c1:=vD p hG hN hS hR hk;have c2:=V9 (G:=G) 0 14610 [d] (by simp);have c3:=V9 (G:=G) 1 999 [m] (by simp);by_cases h0:u3 p=0
 ·simp only[T1,h0,if_true] at c1;by_cases hd:ye d m=true
  ·have hE:K9 p d m=0:=by unfold K9;rw[if_neg (by simp[h0]),if_pos hd]
   have hO:U1 p d m=.one (.im (l8 p)):=by unfold U1;rw[if_pos hE]
   simp only[ye,Bool.and_eq_true,decide_eq_true_eq] at hd;rw[show ([d].all λy=>decide (0<=y)&&decide (y<=14610))=true by simp;omega] at c2;rw[show ([m].all λy=>decide (1<=y)&&decide (y<=999))=true by simp;omega] at c3;rw[hE,hO];simp only[l8] at c1 ⊢;have hs:=trivial;repeat' first|(with_reducible first|refine zz ?_|refine zr ?_|refine zE Wu ?_)|simp -dsimp[hs]|refine zp c1 ?_|refine zt c2 ?_ ?_ ?_;(focus simp;done);focus (simp;done)|refine zt c3 ?_ ?_ ?_;(focus simp;done);focus (simp;done)|refine i8 ?_ ?_<;>intro h<;>try exact h.elim
  ·have hE:K9 p d m=2:=by unfold K9;rw[if_neg (by simp[h0]),if_neg hd]
   have hO:U1 p d m=.one (.im (.raw (.pointer none))):=by unfold U1;rw[if_neg (by simp[hE])]
   simp only[ye,Bool.and_eq_true,decide_eq_true_eq] at hd;rw[hE,hO];simp only[l8] at c1 ⊢;by_cases hd1:0<=d/\d<=14610
   ·rw[show ([d].all λy=>decide (0<=y)&&decide (y<=14610))=true by simp;omega] at c2;rw[show ([m].all λy=>decide (1<=y)&&decide (y<=999))=false by simp;omega] at c3;have hs:=trivial;repeat' first|(with_reducible first|refine zz ?_|refine zr ?_|refine zE Wu ?_)|simp -dsimp[hs]|refine zp c1 ?_|refine zt c2 ?_ ?_ ?_;(focus simp;done);focus (simp;done)|refine zt c3 ?_ ?_ ?_;(focus simp;done);focus (simp;done)|refine i8 ?_ ?_<;>intro h<;>try exact h.elim
   ·rw[show ([d].all λy=>decide (0<=y)&&decide (y<=14610))=false by simp;omega] at c2;have hs:=trivial;repeat' first|(with_reducible first|refine zz ?_|refine zr ?_|refine zE Wu ?_)|simp -dsimp[hs]|refine zp c1 ?_|refine zt c2 ?_ ?_ ?_;(focus simp;done);focus (simp;done)|refine i8 ?_ ?_<;>intro h<;>try exact h.elim
 ·have hE:K9 p d m=u3 p:=by unfold K9;rw[if_pos h0]
  have hO:U1 p d m=.one (.im (.raw (.pointer none))):=by unfold U1;rw[if_neg (by rw[hE];exact h0)]
  simp only[T1,h0,if_false] at c1;rw[hE,hO];have hs:=h0;repeat' first|(with_reducible first|refine zz ?_|refine zr ?_|refine zE Wu ?_)|simp -dsimp[hs]|refine zp c1 ?_|refine i8 ?_ ?_<;>intro h<;>try exact h.elim
noncomputable def U2 (p:Prints) (d m i w:Int):Int:=if K9 p d m≠0 then K9 p d m else if (p.holders.any λy=>decide (y.id=i))=true/\w∈nums p.n.reg then 0 else 6
noncomputable def eE (p:Prints) (d m i w:Int):DV:=if U2 p d m i w=0 then .one (.im (l8 p)) else .one (.im (.raw (.pointer none)))
theorem yv (p:Prints) (d m i w:Int):ImV (eE p d m i w):=by unfold eE;split<;>simp[l8]
attribute [simp] yv
theorem Cy (p:Prints) (v:Int) (hl:(nums p.n.reg).length<1000):DCall prog G 145 (iv v :: [DC.ptr 1 0].map .one) [.row ((o8 p).map .im),.row [.im (l8 p)]] (λd o=>d=bv (!decide (v∈nums p.n.reg))/\o=[.row ((o8 p).map .im),.row [.im (l8 p)]]):=by
 refine DCall.drop ?_;have c1:=cV (G:=G) (nums p.n.reg) v (by omega);simp only[l8,o8];refine g9 func145 rfl ntmps145 (by simp) rfl ?_;repeat' first|(with_reducible first|refine zz ?_|refine zx ?_|refine zE [0,1,3] ?_)|simp -dsimp|refine zp c1 ?_|with_reducible refine And.intro ?_ ?_
theorem vS {α:Type} (q:α->Bool) (l:List α):decide (J1 q l<0)=!l.any q:=by
 rw[<- B6];by_cases h:0<=J1 q l
 ·have h1:¬ J1 q l<0:=by omega
  simp[h,h1]
 ·have h1:J1 q l<0:=by omega
  simp[h,h1]
@[simp] abbrev Wc:List Nat:=[0,1,2,3,4,5,10,11,12,13,22,32]
theorem Ap (p:Prints) (d m i w:Int) (hG:p8 G) (hN:E5 G) (hS:v8 G) (hR:A0 G) (hk:KP p):zP prog G 89 [C9 p,iv d,iv m,iv i,v6 [w]] (.tup [eE p d m i w,iv (U2 p d m i w)]):=by
 refine zf func89 ntmps89 ?_;try simp only[iv,iv,iv,v6]
 have c1:=Ao p d m hG hN hS hR hk;have hr:=hk.p.r;have hh:=hk.p.h;by_cases h0:K9 p d m=0
 ·have c2:=rK (G:=G) p i (by omega);have c3:=D6 (G:=G) [w] (λv=>!decide (v∈nums p.n.reg)) 145 [.ptr 1 0] [.row ((o8 p).map .im),.row [.im (l8 p)]] (by simp) (λv _=>Cy p v hr) (by simp);have hf:=vS (λy:Holder=>decide (y.id=i)) p.holders;have hE:U2 p d m i w=if (p.holders.any λy=>decide (y.id=i))=true/\w∈nums p.n.reg then 0 else 6:=by unfold U2;rw[if_neg (by simp[h0])]
  simp only[U1,h0,if_true] at c1;unfold eE;rw[hE];generalize J1 (λy:Holder=>decide (y.id=i)) p.holders=f at *;generalize hb:(p.holders.any λy=>decide (y.id=i))=b at *;by_cases hw:w∈nums p.n.reg
  ·simp only[hw,List.any_cons,List.any_nil,decide_true,Bool.not_true,Bool.or_false] at c3;cases b
   ·have hf':f<0:=by simpa using hf
    simp only[l8,o8,List.map_cons,List.map_nil] at c1 c2 c3 ⊢;have hs:=hf';repeat' first|(with_reducible first|refine zz ?_|refine zr ?_|refine zE Wc ?_)|simp -dsimp[hs]|refine zp c1 ?_|refine zp c2 ?_|refine i8 ?_ ?_<;>intro h<;>try exact h.elim
   ·have hf':¬ f<0:=by simpa using hf
    simp only[l8,o8,List.map_cons,List.map_nil] at c1 c2 c3 ⊢;have hs:=za hf' hw;repeat' first|(with_reducible first|refine zz ?_|refine zr ?_|refine zE Wc ?_)|simp -dsimp[hs]|refine zp c1 ?_|refine zp c2 ?_|refine zh c3 ?_|refine i8 ?_ ?_<;>intro h<;>try exact h.elim
  ·simp only[hw,List.any_cons,List.any_nil,decide_false,Bool.not_false,Bool.or_false] at c3;cases b
   ·have hf':f<0:=by simpa using hf
    simp only[l8,o8,List.map_cons,List.map_nil] at c1 c2 c3 ⊢;have hs:=hf';repeat' first|(with_reducible first|refine zz ?_|refine zr ?_|refine zE Wc ?_)|simp -dsimp[hs]|refine zp c1 ?_|refine zp c2 ?_|refine i8 ?_ ?_<;>intro h<;>try exact h.elim
   ·have hf':¬ f<0:=by simpa using hf
    simp only[l8,o8,List.map_cons,List.map_nil] at c1 c2 c3 ⊢;have hs:=za hf' hw;repeat' first|(with_reducible first|refine zz ?_|refine zr ?_|refine zE Wc ?_)|simp -dsimp[hs]|refine zp c1 ?_|refine zp c2 ?_|refine zh c3 ?_|refine i8 ?_ ?_<;>intro h<;>try exact h.elim
 ·have hE:U2 p d m i w=K9 p d m:=by unfold U2;rw[if_pos h0]
  have hO:eE p d m i w=.one (.im (.raw (.pointer none))):=by unfold eE;rw[if_neg (by rw[hE];exact h0)]
  simp only[U1,h0,if_false] at c1;rw[hE,hO];have hs:=h0;repeat' first|(with_reducible first|refine zz ?_|refine zr ?_|refine zE Wc ?_)|simp -dsimp[hs]|refine zp c1 ?_|refine i8 ?_ ?_<;>intro h<;>try exact h.elim
def frcCaps:List DC:=[.ptr 5 0,.ptr 0 0,.ptr 1 0,.ptr 2 0,.ptr 3 0,.ptr 6 0]
def P6 (n:Notes) (s w:List Int) (m:Int) (M:List (Int×Bool)):List DObj:=[.row [.im (I1 n)],.row [.im (.sl (s.map encI))],.row [.im (.sl (w.map encI))],.row [.im (rI m)],.map [.int .i64] (H1 M),.row [.map 4],.row [.fn (.func 214) frcCaps]]
theorem vQ (n:Notes) (s w:List Int) (m:Int):DCall prog G 164 [.one (.im (I1 n)),v6 s,v6 w,iv m] [] (λd o=>d=.one (.fn (.func 214) frcCaps)/\o=P6 n s w m []):=by
 refine g9 func164 rfl ntmps164 (by simp) rfl ?_;simp only[v6,iv];repeat' first|(with_reducible first|refine zz ?_|refine zx ?_|refine zE [0,1,2,3,4,5,6,7,8,9,10] ?_)|simp -dsimp|with_reducible refine And.intro ?_ ?_
 ·rfl
 ·simp[P6,frcCaps,H1]
def F1 (n:Notes) (s w:List Int) (m:Int) (i:Nat):Bool:=((Y1 s w m n.notes)[i]?).getD false
def ConsM (n:Notes) (s w:List Int) (m:Int) (M:List (Int×Bool)):Prop:=∀ (k:Nat) (b:Bool),dl (k:Int) M=some b->F1 n s w m k=b
theorem ConsM.nil (n:Notes) (s w:List Int) (m:Int):ConsM n s w m []:=λk b h=>by cases h
theorem ConsM.put {n:Notes} {s w:List Int} {m:Int} {M:List (Int×Bool)} (h:ConsM n s w m M) (i:Nat) {b:Bool} (hb:F1 n s w m i=b):ConsM n s w m (uG (i:Int) b M):=λk c hk=>by
 rw[mH] at hk;split at hk
 ·rename_i e;obtain rfl:i=k:=by omega
  cases hk;exact hb
 ·exact h k c hk
theorem Bx {n:Notes} {s w:List Int} {m:Int} {i:Nat} (hi:i<n.notes.length):F1 n s w m i=(Bw s w m n.notes[i]&&ky n.notes[i].number (n.notes.drop (i+1)) ((Y1 s w m n.notes).drop (i+1))):=by
 have hl:i<(Y1 s w m n.notes).length:=by rw[dY];exact hi
 rw[<- EI hi hl,F1,List.getElem?_eq_getElem hl];rfl
theorem ue {n:Notes} {s w:List Int} {m a:Int} {k:Nat} (hk:k<n.notes.length):ky a (n.notes.drop k) ((Y1 s w m n.notes).drop k)=(!(F1 n s w m k&&decide (n.notes[k].cancels=a))&&ky a (n.notes.drop (k+1)) ((Y1 s w m n.notes).drop (k+1))):=by
 have hl:k<(Y1 s w m n.notes).length:=by rw[dY];exact hk
 rw[xK hk hl,F1,List.getElem?_eq_getElem hl];rfl
@[simp] abbrev QA:List Nat:=[0,1,2,3,4,5,6,8,9,10,11,12,13,20,67]
@[simp] abbrev WK:List Nat:=[0,1,2,3,4,5,6,11,12,13]
theorem GU (n:Notes) (s w:List Int) (m:Int) (hl:n.notes.length<1000) (hsl:s.length<1000) (hwl:w.length<1000):∀ (d i:Nat),n.notes.length-i<=d->i<n.notes.length->∀ M,ConsM n s w m M ->
 DCall prog G 214 (iv (i:Int) :: frcCaps.map .one) (P6 n s w m M) (λr o=>∃ M',ConsM n s w m M'/\r=bv (F1 n s w m i)/\o=P6 n s w m M'):=by
 intro d;induction d with
 | zero=>intro i h1 h2;omega
 | succ d ih =>
   intro i hid hi M hM;simp only[P6,frcCaps,I1,iv,bv,rI,List.map_cons,List.map_nil] at ih ⊢;refine DCall.drop ?_;refine g9 func214 rfl ntmps214 (by simp) rfl ?_;cases hb:dl (i:Int) M with
   | some b =>
     have hf:=hM i b hb;have hs:=hb;repeat' first|(with_reducible first|refine zz ?_|refine zr ?_|refine zE QA ?_)|simp -dsimp[hs]|refine i8 ?_ ?_<;>intro h<;>try exact h.elim
     all_goals try clear hs
     exact⟨M,hM,by rw[hf],rfl⟩
   | none =>
     generalize hx:n.notes[i]=x at *;have hF:=Bx (s:=s) (w:=w) (m:=m) hi;rw[hx] at hF;have hwi:=zk i;have c1:=cV (G:=G) s x.number (by omega);have c2:=cV (G:=G) w x.number (by omega);have c3:=iw (G:=G) x.frm x.to [m] (by simp);rw[show ([m].all λz=>decide (x.frm<=z)&&decide (z<=x.to))=(decide (x.frm<=m)&&decide (m<=x.to)) by simp] at c3;have hs:=za hb (za hx (za hi hwi));repeat' first|(with_reducible first|refine zz ?_|refine zE QA ?_)|simp -dsimp[hs]|refine zp c1 ?_|refine zp c2 ?_|refine zt c3 ?_ ?_ ?_;(focus simp;done);focus (simp;done)|refine i8 ?_ ?_<;>intro h<;>try exact h.elim|with_reducible refine j0 ?_ ?_<;>intro h<;>have h0:=h<;>(try simp only[i7] at h)<;>have h2:=h<;>(try simp at h2)<;>replace hs:=za h0 (za h (za h2 hs))
     all_goals try clear hs
     all_goals
      refine i6 (ι:={ p:Nat×Bool×List (Int×Bool) // i+1<=p.1/\p.1<=n.notes.length/\ConsM n s w m p.2.2/\F1 n s w m i=(p.2.1&&ky x.number (n.notes.drop p.1) ((Y1 s w m n.notes).drop p.1)) }) (λp=>⟨92,[(0,iv (i:Int)),(1,.one (.ptr 5 0)),(2,.one (.ptr 0 0)),(3,.one (.ptr 1 0)),(4,.one (.ptr 2 0)),(5,.one (.ptr 3 0)),(6,.one (.ptr 6 0)),(11,.one (.ptr 7 0)),(12,bv p.1.2.1),(13,iv (p.1.1:Int))],[.row [.im (.ip [.sl (n.reg.map e9),.sl (n.notes.map j9),.sl ((nums n.reg).map encI),.sl ((l6 (l7 n.notes)).map encI)])],.row [.im (.sl (s.map encI))],.row [.im (.sl (w.map encI))],.row [.im (rI m)],.map [.int .i64] (H1 p.1.2.2),.row [.map 4],.row [.fn (.func 214) [.ptr 5 0,.ptr 0 0,.ptr 1 0,.ptr 2 0,.ptr 3 0,.ptr 6 0]],.row ((j9 x).map .im)]⟩) (λp=>n.notes.length-p.1.1) ⟨(i+1,Bw s w m x,M),by simp,by simp;omega,hM,hF⟩ (zw WK 8 (by clear c1 c2 c3 ih;simp[Bw, *])) ?_
     all_goals
      clear c1 c2 c3 hF hM hb;rintro⟨⟨k,v,M2⟩,hk1,hk2,hM2,hv⟩;simp only at hk1 hk2 hM2 hv;simp only[iv,bv];cases v
      ·have hM3:=hM2.put i hv;have hs:=trivial;repeat' first|(with_reducible first|refine zz ?_|refine zr ?_|refine zE QA ?_)|simp -dsimp[hs]|refine i8 ?_ ?_<;>intro h<;>try exact h.elim
       all_goals try clear hs
       all_goals exact⟨_,hM3,by rw[hv];rfl,rfl⟩
      ·by_cases hlk:k<n.notes.length
       ·have hwk:=zk k;have hih:=ih k (by omega) hlk M2 hM2;rw[Bool.true_and,ue hlk] at hv;generalize hy:n.notes[k]=y at *;by_cases hc:y.cancels=x.number
        ·have hvb:∀ b,F1 n s w m k=b->F1 n s w m i=(!b&&ky x.number (n.notes.drop (k+1)) ((Y1 s w m n.notes).drop (k+1))):=λb hb=>by
          rw[hv,hb,decide_eq_true hc,Bool.and_true]
         have hs:=za hx (za hy (za hlk (za hwk hc)));repeat' first|with_reducible refine zz ?_|simp -dsimp[hs]|refine CallE.embed_ex [0,1,2,3,4,5,6] (hih) ?_ ?_ ?_ ?_ ?_ ?_;(focus simp[u7];done);(focus simp;done);(focus simp;done);(focus simp;done);(focus refine o9 ?_;simp[u7,r9];done);intro mm hmm;try simp -dsimp[o6,u7,hs]|refine zM 9 92 15 QA ?_|with_reducible refine zE QA ?_|refine i8 ?_ ?_<;>intro h<;>try exact h.elim
         all_goals try clear hs
         all_goals exact zn ⟨(k+1,!F1 n s w m k,mm),by simp only;omega,by simp only;omega,hmm,hvb _ rfl⟩ (zw WK 8)
        ·rw[decide_eq_false hc,Bool.and_false,Bool.not_false,Bool.true_and] at hv;have hs:=za hx (za hy (za hlk (za hwk hc)));repeat' first|with_reducible refine zz ?_|simp -dsimp[hs]|refine zM 9 92 15 QA ?_|with_reducible refine zE QA ?_|refine i8 ?_ ?_<;>intro h<;>try exact h.elim
         all_goals try clear hs
         all_goals exact zn ⟨(k+1,true,M2),by simp only;omega,by simp only;omega,hM2,by rw[hv,Bool.true_and]⟩ (zw WK 8)
       ·rw[Bv (by omega),Bool.and_true] at hv;have hM3:=hM2.put i hv;have hs:=hlk;repeat' first|(with_reducible first|refine zz ?_|refine zr ?_|refine zE QA ?_)|simp -dsimp[hs]|refine i8 ?_ ?_<;>intro h<;>try exact h.elim
        all_goals try clear hs
        all_goals exact⟨_,hM3,by rw[hv],rfl⟩
def yj (n:Notes) (s w:List Int) (m d:Int) (k:Nat):Note:=HD n.notes (Y1 s w m n.notes) d k
theorem BY {n:Notes} {s w:List Int} {m d:Int} {k:Nat} (hk:k<n.notes.length):yj n s w m d (k+1)=if n.notes[k].drawing=d/\F1 n s w m k=true then n.notes[k] else yj n s w m d k:=by
 have hl:k<(Y1 s w m n.notes).length:=by rw[dY];exact hk
 unfold yj F1;simp only[HD,List.getElem?_eq_getElem hk,List.getElem?_eq_getElem hl,Option.some.injEq,Option.getD_some];by_cases h:(Y1 s w m n.notes)[k]=true<;>by_cases h2:n.notes[k].drawing=d<;>simp[h,h2]
@[simp] abbrev Wv:List Nat:=[0,1,2,6,7,8,17,36]
theorem KM (n:Notes) (s w:List Int) (m d:Int) (hl:n.notes.length<1000) (hsl:s.length<1000) (hwl:w.length<1000) (M:List (Int×Bool)) (hM:ConsM n s w m M) :
 DCall prog G 184 [.one (.im (I1 n)),.one (.fn (.func 214) frcCaps),iv d] (P6 n s w m M) (λr o=>∃ M',ConsM n s w m M'/\r=fA (yj n s w m d n.notes.length)/\o=P6 n s w m M'):=by
 have ih:=λi hi M hM=>GU (G:=G) n s w m hl hsl hwl n.notes.length i (by omega) hi M hM;simp only[P6,frcCaps,I1,iv,bv,rI,fA,j9,rB,List.map_cons,List.map_nil] at ih ⊢;refine DCall.drop ?_;refine g9 func184 rfl ntmps184 (by simp) rfl ?_;have hw0:IntKind.i64.wrap ((n.notes.length:Int)-1)=(n.notes.length:Int)-1:=o7 (by omega) (by omega);have hs:=hw0;repeat' first|with_reducible refine zz ?_|with_reducible refine zE Wv ?_;try simp -dsimp[hs]
 all_goals try simp -dsimp[hs]
 all_goals try clear hs
 refine i6 (ι:={ p:Nat×List (Int×Bool) // p.1<=n.notes.length/\ConsM n s w m p.2/\yj n s w m d n.notes.length=yj n s w m d p.1 }) (λp=>⟨39,[(0,.one (.im (.ip [.sl (n.reg.map e9),.sl (n.notes.map j9),.sl ((nums n.reg).map encI),.sl ((l6 (l7 n.notes)).map encI)]))),(1,.one (.fn (.func 214) [.ptr 5 0,.ptr 0 0,.ptr 1 0,.ptr 2 0,.ptr 3 0,.ptr 6 0])),(2,iv d),(6,.one (.ptr 7 0)),(7,iv ((p.1.1:Int)-1))],[.row [.im (.ip [.sl (n.reg.map e9),.sl (n.notes.map j9),.sl ((nums n.reg).map encI),.sl ((l6 (l7 n.notes)).map encI)])],.row [.im (.sl (s.map encI))],.row [.im (.sl (w.map encI))],.row [.im (rI m)],.map [.int .i64] (H1 p.1.2),.row [.map 4],.row [.fn (.func 214) [.ptr 5 0,.ptr 0 0,.ptr 1 0,.ptr 2 0,.ptr 3 0,.ptr 6 0]],.row ((j9 ⟨0,0,0,0,0,0,0,0,false,0⟩).map .im)]⟩) (λp=>p.1.1) ⟨(n.notes.length,M),by simp,hM,rfl⟩ (zv [0,1,2,6,7]) ?_;clear hM;rintro⟨⟨k,M2⟩,hk,hM2,hv⟩;simp only at hk hM2 hv;simp only[iv];cases k with
 | zero =>
   have hs:=trivial;repeat' first|(with_reducible first|refine zz ?_|refine zr ?_)|with_reducible refine zE Wv ?_;try simp -dsimp[hs]|refine i8 ?_ ?_<;>intro h<;>try exact h.elim
   all_goals try simp -dsimp[hs]
   all_goals try clear hs
   exact⟨M2,hM2,by rw[hv];simp[yj,HD,lQ],rfl⟩
 | succ k =>
   have hkl:k<n.notes.length:=hk;have hwk:IntKind.i64.wrap ((k:Int)-1)=(k:Int)-1:=o7 (by omega) (by omega);have hc:=ih k hkl M2 hM2;rw[BY hkl] at hv;generalize hx:n.notes[k]=x at *;by_cases hd:x.drawing=d
   ·have hs:=za hx (za hkl (za hwk hd));repeat' first|(with_reducible first|refine zz ?_|refine zr ?_)|refine CallE.embed_ex [0,1,2,3,4,5,6] (hc) ?_ ?_ ?_ ?_ ?_ ?_;(focus simp[u7];done);(focus simp;done);(focus simp;done);(focus simp;done);(focus refine o9 ?_;simp[u7,r9];done);intro mm hmm;try simp -dsimp[o6,u7,hs]|with_reducible refine zE Wv ?_;try simp -dsimp[hs]|refine i8 ?_ ?_<;>intro h<;>try exact h.elim
    all_goals try simp -dsimp[hs]
    all_goals try clear hs
    ·have e:=hv.trans (if_pos ⟨hd,by assumption⟩);exact⟨mm,hmm,by rw[e];simp[hd],rfl⟩
    ·have hf:F1 n s w m k=false:=by assumption
     have e:=hv.trans (if_neg λh=>by rw[hf] at h;exact Bool.false_ne_true h.2);exact At.round ⟨(k,mm),by simp only;omega,hmm,e⟩ (by simp) (zw [0,1,2,6,7] 8)
   ·rw[if_neg λh=>hd h.1] at hv;have hs:=za hx (za hkl (za hwk hd));repeat' first|with_reducible refine zz ?_|with_reducible refine zE Wv ?_;try simp -dsimp[hs]|refine i8 ?_ ?_<;>intro h<;>try exact h.elim
    all_goals try simp -dsimp[hs]
    all_goals try clear hs
    exact At.round ⟨(k,M2),by simp only;omega,hM2,hv⟩ (by simp) (zw [0,1,2,6,7] 8)
def ii (n:Notes) (s:List Int) (m:Int):List Int:=(nums n.reg).map λd=>(yj n s [] m d n.notes.length).letter
@[simp] abbrev WL:List Nat:=[0,1,2,6,7,8,10,18,19,20,21]
theorem tP (n:Notes) (s:List Int) (m:Int) (hl:n.notes.length<1000) (hr:n.reg.length<1000) (hsl:s.length<1000):zP prog G 139 [.one (.im (I1 n)),v6 s,iv m] (v6 (ii n s m)):=by
 refine zf func139 ntmps139 ?_;try simp only[v6,iv]
 have c1:=vQ (G:=G) n s [] m;simp only[P6,frcCaps,I1,iv,v6,bv,rI,List.map_cons,List.map_nil,H1] at c1 ⊢;have hs:=trivial;repeat' first|with_reducible refine zz ?_|refine CallE.embed [] (c1) ?_ ?_ ?_ ?_ ?_ ?_;(focus simp[u7];done);(focus simp;done);(focus simp;done);(focus simp;done);(focus refine o9 ?_;simp[u7,r9];done);try simp -dsimp[o6,u7,hs]|with_reducible refine zE WL ?_;try simp -dsimp[hs]
 all_goals try simp -dsimp[hs]
 have hrl:=A7 n.reg n.reg.length;rw[show G4 n.reg n.reg.length=nums n.reg from rfl] at hrl;have hE:ii n s m=(nums n.reg).map λd=>(yj n s [] m d n.notes.length).letter:=rfl;generalize hP:(λd=>(yj n s [] m d n.notes.length).letter)=P at *;generalize hns:nums n.reg=ns at *;refine i6 (ι:={ p:Nat×Nat×Bool×List (Int×Bool) // p.1<=ns.length/\ConsM n s [] m p.2.2.2 }) (λp=>⟨34,[(0,.one (.im (.ip [.sl (n.reg.map e9),.sl (n.notes.map j9),.sl (ns.map encI),.sl ((l6 (l7 n.notes)).map encI)]))),(7,.one (.fn (.func 214) [.ptr 6 0,.ptr 1 0,.ptr 2 0,.ptr 3 0,.ptr 4 0,.ptr 7 0])),(8,.one (.vec 8 p.1.2.1 0 p.1.1)),(18,v6 ns),(19,iv (ns.length:Int)),(20,iv (p.1.1:Int))],[.vec 1 [] 0 true]++[.row [.im (.ip [.sl (n.reg.map e9),.sl (n.notes.map j9),.sl (ns.map encI),.sl ((l6 (l7 n.notes)).map encI)])],.row [.im (.sl (s.map encI))],.row [.im (.sl [])],.row [.im (rI m)],.map [.int .i64] (H1 p.1.2.2.2),.row [.map 5],.row [.fn (.func 214) [.ptr 6 0,.ptr 1 0,.ptr 2 0,.ptr 3 0,.ptr 4 0,.ptr 7 0]]]++[.vec 1 (n3 (((ns.take p.1.1).map P).map encI)) p.1.2.1 p.1.2.2.1]⟩) (λp=>ns.length-p.1.1) ⟨(0,0,true,[]),by simp,ConsM.nil _ _ _ _⟩ (zv [0,7,8,18,19,20] (by simp[H1])) ?_;rintro⟨⟨k,g,nl,M⟩,hk,hM⟩;simp only at hk hM;simp only[iv,v6];have hlk:((ns.take k).map P).length=k:=by simp;omega
 by_cases hlt:k<ns.length
 ·have hw:=zk k;have hst:(ns.take (k+1)).map P=(ns.take k).map P++[P ns[k]]:=by rw[List.take_succ_eq_append_getElem hlt,List.map_append,List.map_singleton]
  generalize hx:ns[k]=x at *;have c2:=KM (G:=G) n s [] m x hl hsl (by simp) M hM;have hPx:(yj n s [] m x n.notes.length).letter=P x:=by rw[<- hP]
  simp only[P6,frcCaps,I1,iv,bv,rI,List.map_cons,List.map_nil,hns] at c2;generalize (ns.take k).map P=L at *;subst hlk;have hs:=za hx (za hlt (za hw hPx));repeat' first|(with_reducible first|refine zz ?_|refine And.intro (by omega) ?_)|refine CallE.embed_ex [1,2,3,4,5,6,7] (c2) ?_ ?_ ?_ ?_ ?_ ?_;(focus simp[u7];done);(focus simp;done);(focus simp;done);(focus simp;done);(focus refine o9 ?_;simp[u7,r9];done);intro mm hmm;try simp -dsimp[o6,u7,hs]|with_reducible refine zE WL ?_;try simp -dsimp[hs]|refine i8 ?_ ?_<;>intro h<;>try exact h.elim
  all_goals try simp -dsimp[hs]
  all_goals exact zn ⟨(L.length+1,g+1,false,mm),by simp only;omega,hmm⟩ (zw [0,7,8,18,19,20] 9 (by simp[hst,hPx]))
 ·obtain rfl:k=ns.length:=by omega
  rw[List.take_length] at hlk ⊢;have hs:=hlt;repeat' first|(with_reducible first|refine zz ?_|refine zr ?_)|with_reducible refine zE WL ?_;try simp -dsimp[hs]|refine i8 ?_ ?_<;>intro h<;>try exact h.elim
  all_goals try simp -dsimp[hs]
  simp[hE]
theorem tG (n:Notes) (s:List Int) (m:Int) (hG:p8 G) (hN:E5 G) (hS:v8 G) (hs:CW n) (hsl:s.length<1000):zP prog G 86 [r5 n,v6 s,iv m] (.tup [v6 (if F6 n s m=0 then ii n s m else []),iv (F6 n s m)]):=by
 refine zf func86 ntmps86 ?_;try simp only[r5,v6,iv]
 have c1:=we n s m hG hN hS hs hsl;by_cases h0:F6 n s m=0
 ·rw[h0,show Q6 n s m=.one (.im (I1 n)) by unfold Q6;rw[if_pos h0]] at c1;have hl12:=hs.2.1;have hr80:=hs.1.1;have c2:=tP (G:=G) n s m (by omega) (by omega) hsl;simp only[I1] at c1 c2;rw[if_pos h0];have hs:=trivial;repeat' first|(with_reducible first|refine zz ?_|refine zr ?_)|(first|refine zp c1 ?_|refine zp c2 ?_|with_reducible refine zE [0,1,2,3,6,7,8,9,18] ?_);try simp -dsimp[hs]|refine i8 ?_ ?_<;>intro h<;>try exact h.elim
  all_goals try simp -dsimp[hs]
  all_goals try clear hs
  all_goals simp[h0]
 ·rw[show Q6 n s m=.one (.im (.raw (.pointer none))) by unfold Q6;rw[if_neg h0]] at c1;have hs:=h0;repeat' first|(with_reducible first|refine zz ?_|refine zr ?_)|(first|refine zp c1 ?_|with_reducible refine zE [0,1,2,3,6,7,8,9,18] ?_);try simp -dsimp[hs]|refine i8 ?_ ?_<;>intro h<;>try exact h.elim
  all_goals try simp -dsimp[hs]
  all_goals try clear hs
  all_goals simp[h0]
end Go.Proofs
namespace Go.Proofs
open Go Go.Ab
end Go.Proofs
namespace Go.Ab
open Go
@[simp] theorem Jr (X:List (List IC)) (k:Nat) (c:IC):(n3 X).set k [DC.im c]=n3 (X.set k [c]):=by
 simp only[n3,List.map_set,List.map_cons,List.map_nil]
@[simp] theorem Jw (X:List (List IC)) (k:Nat) (h:k<(n3 X).length):(n3 X)[k]=(X[k]'(by simpa[r8] using h)).map .im:=by simp[n3]
end Go.Ab
namespace Go.Proofs
open Go Go.Ab
variable {G:LY}
end Go.Proofs
namespace Go.Proofs
open Go Go.Ab
variable {G:LY}
def N1 (n:Notes) (s:List Int) (m:Int):List Int:=(nums n.reg).map λd=>pD n.notes (Y1 s [] m n.notes) d
end Go.Proofs
namespace Go.Proofs
open Go Go.Ab
theorem HE (n:Notes) (s w:List Int) (m d:Int):yj n s w m d n.notes.length=if uF n.notes (Y1 s w m n.notes) d n.notes.length<0 then lQ else (n.notes[(uF n.notes (Y1 s w m n.notes) d n.notes.length).toNat]?).getD lQ:=by
 unfold yj;rw[FM _ _ _ _ (Nat.le_refl _)];split
 ·rfl
 ·split<;>simp[*]
theorem EW {l:List Note} {b:List Bool} {d:Int} {k:Nat} (hk:k<=l.length) (h:¬ uF l b d k<0):(uF l b d k).toNat<l.length:=by
 have:=(BX l b d k).2;omega
theorem tO (n:Notes) (s:List Int) (m:Int):ii n s m=N1 n s m:=by
 refine List.map_congr_left λd _=>?_;rw[HE];unfold pD;rw[dY];split
 ·rfl
 ·rename_i h;have hl:=EW (Nat.le_refl _) h;rw[List.getElem?_eq_getElem hl];rfl
end Go.Proofs
namespace Go.Ab
open Go
def s7:List Int->List Int
 | []=>[]
 | [a]=>[a]
 | a :: b :: r=>if a=b then s7 (b :: r) else a :: s7 (b :: r)
theorem kj:∀ (l:List Int) (u v:Int),s7 (l++[u,v])=if u=v then s7 (l++[u]) else s7 (l++[u])++[v]
 | [],u,v=>by simp only[List.nil_append,s7];split<;>simp[*]
 | [a],u,v=>by
   simp only[List.cons_append,List.nil_append,s7];split<;>split<;>simp[*]
 | a :: b :: r,u,v=>by
   have ih:=kj (b :: r) u v;simp only[List.cons_append,s7] at ih ⊢;rw[ih];split<;>split<;>simp
theorem aR:∀ l:List Int,(s7 l).length<=l.length
 | []=>by simp[s7]
 | [a]=>by simp[s7]
 | a :: b :: r=>by
   have:=aR (b :: r);simp only[s7];split<;>simp at *<;>omega
theorem gk:∀ (l:List Int) (x:Int),x∈s7 l↔x∈l
 | [],x=>by simp[s7]
 | [a],x=>by simp[s7]
 | a :: b :: r,x=>by
   have ih:=gk (b :: r) x;simp only[s7];split
   ·rename_i h;subst h;rw[ih];simp
   ·rw[List.mem_cons,ih,List.mem_cons (a:=x) (b:=a)]
theorem zA {l:List Int} {k:Nat} (h:k+1<l.length):l.take (k+2)=l.take k++[l[k],l[k+1]]:=by
 rw[show k+2=k+1+1 from rfl,List.take_succ_eq_append_getElem h,List.take_succ_eq_append_getElem (by omega),List.append_assoc];rfl
theorem my {l:List Int} {k:Nat} (h:k+1<l.length):s7 (l.take (k+2))=if l[k]=l[k+1] then s7 (l.take (k+1)) else s7 (l.take (k+1))++[l[k+1]]:=by
 rw[zA h,kj,List.take_succ_eq_append_getElem (by omega)]
theorem qM {l:List Int} {k:Nat} {v:Int} (h:k<l.length):(l.set k v).take (k+1)=l.take k++[v]:=by
 rw[List.take_succ_eq_append_getElem (by simpa using h)];simp[List.take_set_of_le]
end Go.Ab
namespace Go.Proofs
open Go Go.Ab Tryz
variable {G:LY}
@[simp] abbrev Qj:List Nat:=[0,2,3,4,5,8,13,25,32,44]
theorem oD (l:List Int) (g:Nat) (hl:l.length<1000):DCall prog G 149 [.one (.vec 0 g 0 l.length)] [.vec 1 (n3 (l.map encI)) g false] (λd o=>∃ S:List Int,(S.length=l.length/\S.take (s7 l).length=s7 l)/\d=.one (.vec 0 g 0 (s7 l).length)/\o=[.vec 1 (n3 (S.map encI)) g false]):=by
 refine DCall.drop ?_;refine g9 func149 rfl ntmps149 (by simp) rfl ?_;by_cases h2:l.length<2
 ·have hli:(l.length:Int)<2:=by omega
  have hs:=hli;repeat' first|(with_reducible first|refine zz ?_|refine zr ?_|refine zE Qj ?_)|simp -dsimp[hs]|refine i8 ?_ ?_<;>intro h<;>try exact h.elim
  have hd:s7 l=l:=by
   match l,h2 with
   | [],_=>rfl
   | [a],_=>rfl
  exact⟨l,⟨rfl,by rw[hd,List.take_length]⟩,by rw[hd],rfl⟩
 ·have hli:¬ (l.length:Int)<2:=by omega
  have hs:=hli;repeat' first|(with_reducible first|refine zz ?_|refine zE Qj ?_)|simp -dsimp[hs]|refine i8 ?_ ?_<;>intro h<;>try exact h.elim
  refine i6 (ι:={ k:Nat // 1<=k/\k<=l.length/\s7 (l.take k)=l.take k }) (λp=>⟨61,[(0,.one (.vec 0 g 0 l.length)),(3,iv (p.1:Int))],[.vec 1 (n3 (l.map encI)) g false]⟩) (λp=>l.length-p.1) ⟨1,by omega,by omega,by cases l with|nil=>rfl|cons a r=>simp[s7]⟩ (zw [0,3] 1) ?_;rintro⟨k,hk1,hk,hdk⟩;simp only[iv];by_cases hlt:k<l.length
  ·have hw:=zk k;obtain⟨j,rfl⟩:∃ j,k=j+1:=⟨k-1,by omega⟩
   have hj:j<l.length:=by omega
   have hst:=my hlt;rw[hdk] at hst;have hwj:IntKind.i64.wrap (((j+1:Nat):Int)-1)=(j:Int):=by rw[o7 (by omega) (by omega)];omega
   have hwj2:IntKind.i64.wrap (j:Int)=(j:Int):=o7 (by omega) (by omega);have hp0:(0:Int)<=(j:Int)+1:=by omega
   have hp1:(j:Int)+1<=l.length:=by omega
   have hp2:(j:Int)+1<l.length:=by omega
   by_cases he:l[j]=l[j+1]
   ·have he':l[j+1]=l[j]:=he.symm;rw[if_pos he] at hst;have hs:=za hlt (za hj (za hw (za hwj (za hwj2 (za hp0 (za hp1 (za hp2 he')))))));repeat' first|with_reducible refine zz ?_|simp -dsimp[hs]|refine zM 6 61 10 Qj ?_|with_reducible refine zE Qj ?_|refine i8 ?_ ?_<;>intro h<;>try exact h.elim
    refine i6 (ι:={ p:Nat×Nat×List Int // 1<=p.1/\j+1+p.1<=l.length/\p.2.1<=j+p.1/\p.2.2.length=l.length/\p.2.2.take p.2.1=s7 (l.take (j+1+p.1))/\p.2.2.drop (j+p.1)=l.drop (j+p.1) }) (λp=>⟨61,[(0,.one (.vec 0 g 0 l.length)),(3,iv (p.1.2.1:Int)),(4,.one (.vec 0 g (j+1) (l.length-(j+1)))),(5,iv (p.1.1:Int))],[.vec 1 (n3 (p.1.2.2.map encI)) g false]⟩) (λp=>l.length-p.1.1) ⟨(1,j+1,l),by simp only;omega,by simp only;omega,by simp only;omega,rfl,hst.symm,rfl⟩ (zv [0,3,4,5]) ?_;rintro⟨⟨q,w,S⟩,hq1,hqN,hwq,hSl,hSt,hSd⟩;simp only at hq1 hqN hwq hSl hSt hSd;simp only[iv];by_cases hlq:j+1+q<l.length
    ·have hq':q<l.length-(j+1):=by omega
     have hq1':q-1<l.length-(j+1):=by omega
     have hqw:=zk q;have hww:=zk w;have hqm:IntKind.i64.wrap ((q:Int)-1)=((q-1:Nat):Int):=by rw[o7 (by omega) (by omega)];omega
     have hs1:j+1+q<S.length:=by omega
     have hs0:j+1+(q-1)<S.length:=by omega
     have hwl:w<l.length:=by omega
     have hds:s7 (l.take (j+1+(q+1)))=if l[j+q]=l[j+1+q] then s7 (l.take (j+1+q)) else s7 (l.take (j+1+q))++[l[j+1+q]]:=by
      have:=my (l:=l) (k:=j+q) (by omega);simp only[show j+q+1=j+1+q by omega,show j+q+2=j+1+(q+1) by omega] at this;exact this
     rw[<- hSt] at hds;have e1:S[j+1+q]=l[j+1+q]:=by
      have:=congrArg (λL:List Int=>L[1]?) hSd;simp only[List.getElem?_drop] at this;rw[show j+q+1=j+1+q by omega,List.getElem?_eq_getElem hs1,List.getElem?_eq_getElem hlq] at this;exact Option.some.inj this
     have e0:S[j+1+(q-1)]=l[j+q]:=by
      have:=congrArg (λL:List Int=>L[0]?) hSd;simp only[List.getElem?_drop,Nat.add_zero] at this;rw[List.getElem?_eq_getElem (show j+q<S.length by omega),List.getElem?_eq_getElem (show j+q<l.length by omega)] at this;have e:=Option.some.inj this;rw[<- e];congr 1;omega
     have hdr:S.drop (j+(q+1))=l.drop (j+(q+1)):=by
      have:=congrArg (List.drop 1) hSd;rw[List.drop_drop,List.drop_drop] at this;exact this
     have hset:=λv:Int=>qM (v:=v) (show w<S.length by omega);have hdset:∀ v:Int,(S.set w v).drop (j+(q+1))=l.drop (j+(q+1)):=λv=>by
      rw[List.drop_set_of_lt (by omega)];exact hdr
     generalize l[j+q]=u at *;generalize l[j+1+q]=v at *;have e0':S[j+1+(q-1)]?=some u:=by rw[List.getElem?_eq_getElem hs0,e0]
     have e1':S[j+1+q]?=some v:=by rw[List.getElem?_eq_getElem hs1,e1]
     by_cases huv:u=v
     ·have hvu:v=u:=huv.symm;rw[if_pos huv] at hds;have hs:=za hq' (za hq1' (za hSl (za hlq (za hqw (za hww (za hqm (za hs1 (za hs0 (za hwl (za e1 (za e0 (za e0' (za e1' hvu)))))))))))));repeat' first|with_reducible refine zz ?_|simp -dsimp[hs]|refine zM 11 61 10 Qj ?_|with_reducible refine zE Qj ?_|refine i8 ?_ ?_<;>intro h<;>try exact h.elim
      all_goals exact zn ⟨(q+1,w,S),by simp only;omega,by simp only;omega,by simp only;omega,hSl,hds.symm,hdr⟩ (zv [0,3,4,5])
     ·have hvu:¬ v=u:=λh=>huv h.symm;rw[if_neg huv,<- hset v] at hds;have hs:=za hq' (za hq1' (za hSl (za hlq (za hqw (za hww (za hqm (za hs1 (za hs0 (za hwl (za e1 (za e0 (za e0' (za e1' hvu)))))))))))));repeat' first|with_reducible refine zz ?_|simp -dsimp[hs]|refine zM 11 61 10 Qj ?_|with_reducible refine zE Qj ?_|refine i8 ?_ ?_<;>intro h<;>try exact h.elim
      all_goals exact zn ⟨(q+1,w+1,S.set w v),by simp only;omega,by simp only;omega,by simp only;omega,by simpa using hSl,hds.symm,hdset v⟩ (zv [0,3,4,5])
    ·have hq':¬ q<l.length-(j+1):=by omega
     have hw0:w<=l.length:=by omega
     have hs:=za hq' (za hw0 hSl);repeat' first|(with_reducible first|refine zz ?_|refine zr ?_|refine zE Qj ?_)|simp -dsimp[hs]|refine i8 ?_ ?_<;>intro h<;>try exact h.elim
     have hN:j+1+q=l.length:=by omega
     rw[hN,List.take_length] at hSt;have hwd:w=(s7 l).length:=by rw[<- hSt];simp;omega
     exact⟨yg S w (l.length-w),⟨by rw[sg (by omega)];exact hSl,by rw[<- hwd,<- hSt];exact List.take_left' (by simp;omega)⟩,by rw[hwd],rfl⟩
   ·have he':¬ l[j+1]=l[j]:=λh=>he h.symm;rw[if_neg he] at hst;have hs:=za hlt (za hj (za hw (za hwj (za hwj2 (za hp0 (za hp1 (za hp2 he')))))));repeat' first|with_reducible refine zz ?_|simp -dsimp[hs]|refine zM 6 61 10 Qj ?_|with_reducible refine zE Qj ?_|refine i8 ?_ ?_<;>intro h<;>try exact h.elim
    exact zn ⟨j+2,by omega,by omega,by rw[hst,show j+2=j+1+1 from rfl,List.take_succ_eq_append_getElem hlt]⟩ (zv [0,3] (by simp;exact hw))
  ·obtain rfl:k=l.length:=by omega
   rw[List.take_length] at hdk;have hs:=hlt;repeat' first|(with_reducible first|refine zz ?_|refine zr ?_|refine zE Qj ?_)|simp -dsimp[hs]|refine i8 ?_ ?_<;>intro h<;>try exact h.elim
   exact⟨l,⟨rfl,by rw[hdk,List.take_length]⟩,by rw[hdk],rfl⟩
end Go.Proofs
