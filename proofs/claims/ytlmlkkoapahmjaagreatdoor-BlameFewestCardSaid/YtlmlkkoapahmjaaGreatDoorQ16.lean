/- Part 16 of the proofs. -/
import Derived.Test.YtlmlkkoapahmjaaGreatDoorQ14
import Derived.Test.YtlmlkkoapahmjaaGreatDoorQ15
set_option linter.all false
set_option maxHeartbeats 100000000
namespace Go.Proofs
open Go Go.Ab Tryz
variable {G:LI}
theorem Av (n:Notes) (hG:o3 G) (hN:E0 G) (hS:u4 G) (hs:zb n):zP prog G 227 [o5 n] (iv (v7 n)):=by
 refine zf func227 ntmps227 ?_;try simp only[o5]
 have c1:=qI n hG hN hS hs;have hs:=trivial;repeat' first|(with_reducible first|refine zz ?_|refine zr ?_|refine zE [0,1,2,4] ?_)|simp -dsimp[hs]|refine zp c1 ?_
 all_goals try clear hs
theorem wu {O:List Int} {j:Nat} (hd:O.Nodup) (hj:j<O.length):pj O[j] (O.take j)=O.take (j+1):=by
 unfold pj;rw[if_neg,List.take_succ_eq_append_getElem hj];intro hm;obtain⟨i,hi,e⟩:=List.mem_take_iff_getElem.1 hm;have:=(List.getElem_inj hd).1 e;omega
@[simp] abbrev Ql:List Nat:=[0,1,4,5,7,8,9,14,15,16,17,23,24,25,26,46]
theorem CS (a b c:IC) (O s:List Int) (hd:O.Nodup) (hO:O.length<1000) (hsl:s.length<1000):zP prog G 161 [.one (.im (.ip [a,b,c,.sl (O.map encI)])),q9 s] (iv (if G1 O s then 0 else 31)):=by
 refine zf func161 ntmps161 ?_;try simp only[q9]
 have hs:=trivial;repeat' first|(with_reducible first|refine zz ?_|refine zE Ql ?_)|simp -dsimp[hs]
 refine i6 (ι:={ j:Nat // j<=O.length }) (λp=>⟨50,[(1,q9 s),(4,iv 0),(5,.one (.map 0)),(14,.one (.im (.sl (O.map encI)))),(15,iv (O.length:Int)),(16,iv (p.1:Int))],[.map [.int .i64] (J6 (O.take p.1))]⟩) (λp=>O.length-p.1) ⟨0,by omega⟩ (zv [1,4,5,14,15,16] (by simp[J6])) ?_;rintro⟨j,hj⟩;simp only[iv,q9];by_cases hlt:j<O.length
 ·have hw:=zk j;have hst:=wu hd hlt;generalize hx:O[j]=x at *;have hs:=za hx (za hlt (za hw hst));repeat' first|(with_reducible first|refine zz ?_|refine zE Ql ?_)|simp -dsimp[hs]|refine i8 ?_ ?_<;>intro h<;>try exact h.elim
  exact zn ⟨j+1,by omega⟩ (zv [1,4,5,14,15,16] (by simp[hst]))
 ·obtain rfl:j=O.length:=by omega
  rw[List.take_length];have hs:=hlt;repeat' first|(with_reducible first|refine zz ?_|refine zE Ql ?_)|simp -dsimp[hs]|refine i8 ?_ ?_<;>intro h<;>try exact h.elim
  refine i6 (ι:={ p:Nat×List Int // p.1<=s.length/\p.2.Nodup/\(∀ m,m∈p.2↔m∈O/\m∉s.take p.1)/\ew O s p.1 }) (λp=>⟨50,[(1,q9 s),(5,.one (.map 0)),(23,q9 s),(24,iv (s.length:Int)),(25,iv (p.1.1:Int))],[.map [.int .i64] (J6 p.1.2)]⟩) (λp=>s.length-p.1.1) ⟨(0,O),by simp,hd,by simp,λi v h=>by omega⟩ (zv [1,5,23,24,25]) ?_;rintro⟨⟨i,L⟩,hi,hLd,hLm,hto⟩;simp only at hi hLd hLm hto;simp only[iv,q9];by_cases hlt2:i<s.length
  ·have hx0:s[i]?=some s[i]:=by simp[hlt2]
   have hw:=zk i;have hLv:=hLm s[i];have hLn:∀ m,m∈L.erase s[i]↔m∈O/\m∉s.take (i+1):=λm=>by
    rw[hLd.mem_erase_iff,hLm,List.take_succ_eq_append_getElem hlt2];simp only[List.mem_append,List.mem_singleton,not_or];exact⟨λh=>⟨h.2.1,h.2.2,h.1⟩,λh=>⟨h.2.2,h.1,h.2.1⟩⟩
   have hLe:=hLd.erase s[i];generalize hv:s[i]=v at *;by_cases hmem:v∈L
   ·have hmd:decide (v∈L)=true:=by simp[hmem]
    by_cases h00:i=0
    ·have hnext:=gv hto hx0 (hLv.1 hmem).1 (λj u e=>by omega);subst h00;have hs:=za hv (za hlt2 (za hmd hmem));repeat' first|(with_reducible first|refine zz ?_|refine zE Ql ?_)|simp -dsimp[hs]|refine i8 ?_ ?_<;>intro h<;>try exact h.elim
     exact zn ⟨(0+1,L.erase v),by omega,hLe,hLn,hnext⟩ (zv [1,5,23,24,25] (by simp;exact n4 (by omega) (by omega)))
    ·have hq:i-1<s.length:=by omega
     have hwq:IntKind.i64.wrap ((i:Int)-1)=((i-1:Nat):Int):=by rw[n4 (by omega) (by omega)];omega
     have hi0:(0:Int)<(i:Int):=by omega
     have hin0:0<i:=by omega
     have hu0:s[i-1]?=some s[i-1]:=by simp[hq]
     have hnin:s[i-1]≠v:=λe=>(hLv.1 hmem).2 (e ▸ List.mem_take_iff_getElem.2 ⟨i-1,by omega,rfl⟩);generalize hu:s[i-1]=u at *;by_cases hlu:v<u
     ·have hb:=nJ (o:=O) hx0 (.inr ⟨i-1,u,by omega,hu0,by omega⟩);have hs:=za hv (za hu (za hq (za hlt2 (za hw (za hwq (za hmd (za hmem (za hi0 (za hin0 hlu)))))))));repeat' first|(with_reducible first|refine zz ?_|refine zr ?_|refine zE Ql ?_)|simp -dsimp[hs]|refine i8 ?_ ?_<;>intro h<;>try exact h.elim
      all_goals simp[hb]
     ·have hnext:=gv hto hx0 (hLv.1 hmem).1 (λj u' e hu'=>by
       obtain rfl:i-1=j:=by omega
       rw[hu0] at hu';cases hu';omega)
      have hs:=za hv (za hu (za hq (za hlt2 (za hw (za hwq (za hmd (za hmem (za hi0 (za hin0 hlu)))))))));repeat' first|(with_reducible first|refine zz ?_|refine zE Ql ?_)|simp -dsimp[hs]|refine i8 ?_ ?_<;>intro h<;>try exact h.elim
      exact zn ⟨(i+1,L.erase v),by omega,hLe,hLn,hnext⟩ (zv [1,5,23,24,25])
   ·have hmd:decide (v∈L)=false:=by simp[hmem]
    have hb:G1 O s=false:=by
     refine nJ hx0 ?_;by_cases ho:v∈O
     ·refine .inr ?_;cases i with
      | zero=>exact absurd (hLv.2 ⟨ho,by simp⟩) hmem
      | succ q =>
        have hq:q<s.length:=by omega
        refine⟨q,s[q],rfl,by simp[hq],Int.not_lt.1 λhlt3=>hmem (hLv.2 ⟨ho,qp hto hq hlt3⟩)⟩
     ·exact .inl ho
    have hs:=za hv (za hlt2 (za hmd hmem));repeat' first|(with_reducible first|refine zz ?_|refine zr ?_|refine zE Ql ?_)|simp -dsimp[hs]|refine i8 ?_ ?_<;>intro h<;>try exact h.elim
    all_goals simp[hb]
  ·have hb:G1 O s=true:=lq (qq (by rwa [show i=s.length by omega] at hto));have hs:=hlt2;repeat' first|(with_reducible first|refine zz ?_|refine zr ?_|refine zE Ql ?_)|simp -dsimp[hs]|refine i8 ?_ ?_<;>intro h<;>try exact h.elim
   all_goals simp[hb]
def D5 (n:Notes) (s:List Int) (m:Int):Int:=if v7 n≠0 then v7 n else if G1 (j8 (j7 n.notes)) s=false then 31 else if 1<=m/\m<=999 then 0 else 2
def Q3 (n:Notes) (s:List Int) (m:Int):DV:=if D5 n s m=0 then .one (.im (H8 n)) else .one (.im (.raw (.pointer none)))
theorem ym (n:Notes) (s:List Int) (m:Int):ImV (Q3 n s m):=by unfold Q3;split<;>simp[H8]
attribute [simp] ym
theorem Cj {n:Notes} {s:List Int} {m:Int} (h:D5 n s m=0):v7 n=0/\G1 (j8 (j7 n.notes)) s=true/\1<=m/\m<=999:=by
 unfold D5 at h;split at h
 ·contradiction
 ·split at h
  ·cases h
  ·split at h
   ·rename_i h1 h2 h3;exact⟨by simpa using h1,by simpa using h2,h3⟩
   ·cases h
theorem au {n:Notes} (h:v7 n=0):l4 n.reg=0/\n.notes.length<=12/\di n/\(j7 n.notes).length<=5:=by
 unfold v7 at h;split at h
 ·contradiction
 ·split at h
  ·rename_i h1 h2;exact⟨by simpa using h1,notesB_iff.1 h2⟩
  ·cases h
@[simp] abbrev Wf:List Nat:=[0,1,2,3,6,7,8,9,10,17,23,28]
theorem vY (n:Notes) (s:List Int) (m:Int) (hG:o3 G) (hN:E0 G) (hS:u4 G) (hs:zb n) (hsl:s.length<1000):zP prog G 102 [o5 n,q9 s,iv m] (.tup [Q3 n s m,iv (D5 n s m)]):=by
 refine zf func102 ntmps102 ?_;try simp only[o5,q9,iv]
 have c1:=qI n hG hN hS hs;by_cases h0:v7 n=0
 ·rw[h0,show da n=.one (.im (H8 n)) by unfold da;rw[if_pos h0]] at c1;have hok:=au h0;have hnl:=hs.2.1;have hol:=ai n.notes;have c2:=CS (G:=G) (.sl (n.reg.map e9)) (.sl (n.notes.map l6)) (.sl ((nums n.reg).map encI)) (j8 (j7 n.notes)) s (rc (dI hok.2.2.1)) (by rw[N6];omega) hsl;have c3:=ig (G:=G) 1 999 [m] (by simp);have hE:D5 n s m=if G1 (j8 (j7 n.notes)) s=false then 31 else if 1<=m/\m<=999 then 0 else 2:=by unfold D5;rw[if_neg (by simp[h0])]
  simp only[H8] at c1;cases ht:G1 (j8 (j7 n.notes)) s
  ·rw[ht] at c2 hE;have hE:D5 n s m=31:=by rw[hE];rfl
   have hs:=trivial;repeat' first|(with_reducible first|refine zz ?_|refine zr ?_|refine zE Wf ?_)|simp -dsimp[hs]|refine zp c1 ?_|refine zp c2 ?_|refine i8 ?_ ?_<;>intro h<;>try exact h.elim
   all_goals try clear hs
   all_goals simp[Q3,hE]
  ·rw[ht] at c2 hE;by_cases hm:1<=m/\m<=999
   ·have hE:D5 n s m=0:=by rw[hE,if_neg (by simp),if_pos hm]
    have hin:([m].all λx=>decide (1<=x)&&decide (x<=999))=true:=by simp[hm]
    rw[hin] at c3;have hs:=trivial;repeat' first|(with_reducible first|refine zz ?_|refine zr ?_|refine zE Wf ?_)|simp -dsimp[hs]|refine zp c1 ?_|refine zp c2 ?_|refine zt c3 ?_ ?_ ?_;(focus simp;done);focus (simp;done)|refine i8 ?_ ?_<;>intro h<;>try exact h.elim
    all_goals try clear hs
    all_goals simp[Q3,hE,H8]
   ·have hE:D5 n s m=2:=by rw[hE,if_neg (by simp),if_neg hm]
    have hin:([m].all λx=>decide (1<=x)&&decide (x<=999))=false:=by simp;omega
    rw[hin] at c3;have hs:=trivial;repeat' first|(with_reducible first|refine zz ?_|refine zr ?_|refine zE Wf ?_)|simp -dsimp[hs]|refine zp c1 ?_|refine zp c2 ?_|refine zt c3 ?_ ?_ ?_;(focus simp;done);focus (simp;done)|refine i8 ?_ ?_<;>intro h<;>try exact h.elim
    all_goals try clear hs
    all_goals simp[Q3,hE]
 ·rw[show da n=.one (.im (.raw (.pointer none))) by unfold da;rw[if_neg h0]] at c1;have hE:D5 n s m=v7 n:=by unfold D5;rw[if_pos h0]
  have hs:=h0;repeat' first|(with_reducible first|refine zz ?_|refine zr ?_|refine zE Wf ?_)|simp -dsimp[hs]|refine zp c1 ?_|refine i8 ?_ ?_<;>intro h<;>try exact h.elim
  all_goals try clear hs
  all_goals simp[Q3,hE,h0]
def Hd (n:Notes) (s:List Int) (m d:Int):Int:=if D5 n s m≠0 then D5 n s m else if d∈nums n.reg then 0 else 6
def Bw (n:Notes) (s:List Int) (m d:Int):DV:=if Hd n s m d=0 then .one (.im (H8 n)) else .one (.im (.raw (.pointer none)))
theorem xR (n:Notes) (s:List Int) (m d:Int):ImV (Bw n s m d):=by unfold Bw;split<;>simp[H8]
attribute [simp] xR
end Go.Proofs
namespace Go.Ab
open Go
structure Holder where
 id:Int
 frm:Int
 to:Int
 draws:List Int
 deriving DecidableEq
structure Print where
 number:Int
 day:Int
 holder:Int
 drawing:Int
 letter:Int
 back:Int
 lost:Int
 deriving DecidableEq
structure Prints where
 n:Notes
 holders:List Holder
 prints:List Print
 deriving DecidableEq
def o6 (x:Holder):List IC:=[rI x.id,rI x.frm,rI x.to,.sl (x.draws.map encI)]
def A4 (x:Print):List IC:=[rI x.number,rI x.day,rI x.holder,rI x.drawing,rI x.letter,rI x.back,.raw (.int .u8 x.lost)]
def p6 (p:Prints):List IC:=[.sl (p.n.reg.map e9),.sl (p.n.notes.map l6),.sl (p.holders.map o6),.sl (p.prints.map A4)]
def jU (x:Holder):DV:=.agg ((o6 x).map .im)
def dF (x:Print):DV:=.agg ((A4 x).map .im)
def D7 (p:Prints):DV:=.agg ((p6 p).map .im)
attribute [simp] o6 A4 p6 jU dF D7
end Go.Ab
namespace Go.Proofs
open Go Go.Ab
variable {G:LI}
theorem tU (x lo hi:Int):DCall Tryz.prog G 238 (iv x :: [DC.ptr 0 0,DC.ptr 1 0].map .one) [.row [.im (rI lo)],.row [.im (rI hi)]] (λd o=>d=bv (decide (x<lo)||decide (hi<x))/\o=[.row [.im (rI lo)],.row [.im (rI hi)]]):=by
 refine h9 Tryz.func238 rfl Tryz.ntmps238 (by simp) rfl ?_;simp only[rI];have hs:=trivial;repeat' first|(with_reducible first|refine zz ?_|refine zr ?_|refine zE [0,1,2,4] ?_)|simp -dsimp[hs]|with_reducible refine j0 ?_ ?_<;>intro h<;>have h0:=h<;>(try simp only[i7] at h)<;>have h2:=h<;>(try simp at h2)<;>replace hs:=za h0 (za h (za h2 hs))|with_reducible refine And.intro ?_ ?_
 all_goals try clear hs
 all_goals simp[*]
theorem V7 (lo hi:Int) (l:List Int) (hl:l.length<1000000):zP Tryz.prog G 190 [iv lo,iv hi,q9 l] (bv (l.all λx=>decide (lo<=x)&&decide (x<=hi))):=by
 refine zf Tryz.func190 Tryz.ntmps190 ?_;try simp only[iv,iv,q9]
 have hc:=D3 (G:=G) l (λx=>decide (x<lo)||decide (hi<x)) 238 [.ptr 0 0,.ptr 1 0] [.row [.im (rI lo)],.row [.im (rI hi)]] (by simp) (λx _=>tU x lo hi) hl;simp only[rI] at hc;repeat' first|(with_reducible first|refine zz ?_|refine zx ?_|refine zE [0,1,2,3,4,6] ?_)|simp -dsimp|refine CallE.here hc ?_
 rw[Bool.eq_iff_iff];simp;exact exists_congr λx=>and_congr_right λ_=>by omega
@[simp] abbrev LM:List Nat:=[0,1,4,5,7,8,9,16]
theorem dO (l:List Holder) (p:Holder->Bool) (k:Nat) (caps:List DC) (objs:List DObj) (hok:E6 Tryz.prog k) (hf:∀ x∈l,DCall Tryz.prog G k (jU x :: caps.map .one) objs (λd o=>d=bv (p x)/\o=objs)) (hl:l.length<1000000):DCall Tryz.prog G 178 [.one (.im (.sl (l.map o6))),.one (.fn (.func k) caps)] objs (λd o=>d=iv (I9 p l)/\o=objs):=by
 refine h9 Tryz.func178 rfl Tryz.ntmps178 (by simp) rfl ?_;have hs:=trivial;repeat' first|(with_reducible first|refine zz ?_|refine zE LM ?_)|simp -dsimp[hs]
 refine i6 (ι:={ k:Nat // k<=l.length/\∀ j x,j<k->l[j]?=some x->p x=false }) (λi=>⟨19,[(0,.one (.im (.sl (l.map o6)))),(1,.one (.fn (.func k) caps)),(7,iv (l.length:Int)),(8,iv (i.1:Int))],objs⟩) (λi=>l.length-i.1) ⟨0,by simp⟩ (zv [0,1,7,8]) ?_;rintro⟨i,hi,hno⟩;simp only[iv];by_cases hlt:i<l.length
 ·have hx:l[i]?=some l[i]:=by simp[hlt]
  have hw:=zk i;have hc:=hf l[i] (by simp);simp only[jU,o6,List.map_cons,List.map_nil,bv,rI] at hc;have hs:=za hx (za hw hok);repeat' first|(with_reducible first|refine zz ?_|refine And.intro (by omega) ?_|refine zr ?_|refine zE LM ?_)|simp -dsimp[hs]|refine CallE.here hc ?_|refine i8 ?_ ?_<;>intro h<;>try exact h.elim|with_reducible refine And.intro ?_ ?_
  all_goals try omega
  ·exact(M8 hx (by assumption) hno).symm
  ·exact At.round ⟨i+1,by omega,λj x hj hjx=>by
    by_cases e:j=i
    ·subst e;rw[hx] at hjx;cases hjx;assumption
    ·exact hno j x (by omega) hjx⟩ (by simp;omega) (zv [0,1,7,8])
 ·have hs:=trivial;repeat' first|(with_reducible first|refine zz ?_|refine zr ?_|refine zE LM ?_)|simp -dsimp[hs]|refine i8 ?_ ?_<;>intro h<;>try exact h.elim|with_reducible refine And.intro ?_ ?_
  all_goals try omega
  exact(T5 λj x hjx=>hno j x (by have:=e7 hjx;omega) hjx).symm
theorem iI (l:List Holder) (p:Holder->Bool) (k:Nat) (caps:List DC) (objs:List DObj) (hok:E6 Tryz.prog k) (hf:∀ x∈l,DCall Tryz.prog G k (jU x :: caps.map .one) objs (λd o=>d=bv (p x)/\o=objs)) (hl:l.length<1000000):DCall Tryz.prog G 120 [.one (.im (.sl (l.map o6))),.one (.fn (.func k) caps)] objs (λd o=>d=bv (l.any p)/\o=objs):=by
 refine h9 Tryz.func120 rfl Tryz.ntmps120 (by simp) rfl ?_;have hc:=dO l p k caps objs hok hf hl;repeat' first|(with_reducible first|refine zz ?_|refine zx ?_|refine zE [0,1,4] ?_)|simp -dsimp|refine CallE.here hc ?_|with_reducible refine And.intro ?_ ?_
 simp[B0]
theorem nw (l:List Issue) (p:Issue->Bool) (k:Nat) (caps:List DC) (objs:List DObj) (hok:E6 Tryz.prog k) (hf:∀ x∈l,DCall Tryz.prog G k (P9 x :: caps.map .one) objs (λd o=>d=bv (p x)/\o=objs)) (hl:l.length<1000000):DCall Tryz.prog G 344 [.one (.im (.sl (l.map e9))),.one (.fn (.func k) caps)] objs (λd o=>d=iv (I9 p l)/\o=objs):=by
 refine h9 Tryz.func344 rfl Tryz.ntmps344 (by simp) rfl ?_;have hs:=trivial;repeat' first|(with_reducible first|refine zz ?_|refine zE LM ?_)|simp -dsimp[hs]
 refine i6 (ι:={ k:Nat // k<=l.length/\∀ j x,j<k->l[j]?=some x->p x=false }) (λi=>⟨19,[(0,.one (.im (.sl (l.map e9)))),(1,.one (.fn (.func k) caps)),(7,iv (l.length:Int)),(8,iv (i.1:Int))],objs⟩) (λi=>l.length-i.1) ⟨0,by simp⟩ (zv [0,1,7,8]) ?_;rintro⟨i,hi,hno⟩;simp only[iv];by_cases hlt:i<l.length
 ·have hx:l[i]?=some l[i]:=by simp[hlt]
  have hw:=zk i;have hc:=hf l[i] (by simp);simp only[P9,e9,List.map_cons,List.map_nil,bv,rI] at hc;have hs:=za hx (za hw hok);repeat' first|(with_reducible first|refine zz ?_|refine And.intro (by omega) ?_|refine zr ?_|refine zE LM ?_)|simp -dsimp[hs]|refine CallE.here hc ?_|refine i8 ?_ ?_<;>intro h<;>try exact h.elim|with_reducible refine And.intro ?_ ?_
  all_goals try omega
  ·exact(M8 hx (by assumption) hno).symm
  ·exact At.round ⟨i+1,by omega,λj x hj hjx=>by
    by_cases e:j=i
    ·subst e;rw[hx] at hjx;cases hjx;assumption
    ·exact hno j x (by omega) hjx⟩ (by simp;omega) (zv [0,1,7,8])
 ·have hs:=trivial;repeat' first|(with_reducible first|refine zz ?_|refine zr ?_|refine zE LM ?_)|simp -dsimp[hs]|refine i8 ?_ ?_<;>intro h<;>try exact h.elim|with_reducible refine And.intro ?_ ?_
  all_goals try omega
  exact(T5 λj x hjx=>hno j x (by have:=e7 hjx;omega) hjx).symm
theorem jy (l:List Issue) (p:Issue->Bool) (k:Nat) (caps:List DC) (objs:List DObj) (hok:E6 Tryz.prog k) (hf:∀ x∈l,DCall Tryz.prog G k (P9 x :: caps.map .one) objs (λd o=>d=bv (p x)/\o=objs)) (hl:l.length<1000000):DCall Tryz.prog G 340 [.one (.im (.sl (l.map e9))),.one (.fn (.func k) caps)] objs (λd o=>d=bv (l.any p)/\o=objs):=by
 refine h9 Tryz.func340 rfl Tryz.ntmps340 (by simp) rfl ?_;have hc:=nw l p k caps objs hok hf hl;repeat' first|(with_reducible first|refine zz ?_|refine zx ?_|refine zE [0,1,4] ?_)|simp -dsimp|refine CallE.here hc ?_|with_reducible refine And.intro ?_ ?_
 simp[B0]
def l8 (p:Prints):IC:=.ip [.sl (p.n.reg.map e9),.sl (p.n.notes.map l6),.sl (p.holders.map o6),.sl (p.prints.map A4),.sl ((nums p.n.reg).map encI)]
theorem xx (n:Int) (y:Holder):DCall Tryz.prog G 191 (jU y :: [DC.ptr 0 0].map .one) [.row [.im (rI n)]] (λd o=>d=bv (decide (y.id=n))/\o=[.row [.im (rI n)]]):=by
 refine DCall.drop ?_;refine h9 Tryz.func191 rfl Tryz.ntmps191 (by simp) rfl ?_;simp only[jU,o6,rI];repeat' first|(with_reducible first|refine zz ?_|refine zx ?_|refine zE [0,1,2,3] ?_)|simp -dsimp|with_reducible refine And.intro ?_ ?_
theorem ri (p:Prints) (n:Int) (hl:p.holders.length<1000000):zP Tryz.prog G 144 [.one (.im (l8 p)),iv n] (iv (I9 (λy=>decide (y.id=n)) p.holders)):=by
 refine zf Tryz.func144 Tryz.ntmps144 ?_;try simp only[iv]
 simp only[l8];have c1:=dO (G:=G) p.holders (λy=>decide (y.id=n)) 191 [.ptr 0 0] [.row [.im (rI n)]] (by simp) (λy _=>xx n y) hl;simp only[rI] at c1;repeat' first|(with_reducible first|refine zz ?_|refine zx ?_|refine zE [0,1,3,4] ?_)|simp -dsimp|refine zh c1 ?_
def HD (x:Print):Bool:=(decide (1<=x.number)&&decide (x.number<=9999))&&(decide (0<=x.day)&&decide (x.day<=14610))
theorem Il (d:IC) (x:Print):zP Tryz.prog G 337 [.one (.im d),dF x] (bv (HD x)):=by
 refine zf Tryz.func337 Tryz.ntmps337 ?_;try simp only[iv]
 have c1:=V7 (G:=G) 1 9999 [x.number] (by simp);have c2:=V7 (G:=G) 0 14610 [x.day] (by simp);have hs:=trivial;repeat' first|(with_reducible first|refine zz ?_|refine zr ?_|refine zE [1,3,4] ?_)|simp -dsimp[hs]|refine zt c1 ?_ ?_ ?_;(focus simp;done);focus (simp;done)|refine zt c2 ?_ ?_ ?_;(focus simp;done);focus (simp;done)|with_reducible refine j0 ?_ ?_<;>intro h<;>have h0:=h<;>(try simp only[i7] at h)<;>have h2:=h<;>(try simp at h2)<;>replace hs:=za h0 (za h (za h2 hs))
 all_goals try clear hs
 all_goals simp_all [HD]
 all_goals omega
def Ik (l:List Holder) (x:Print):Bool:=l.any λy=>decide (y.id=x.holder)
theorem Ij (p:Prints) (x:Print) (hl:p.holders.length<1000000):zP Tryz.prog G 338 [.one (.im (l8 p)),dF x] (bv (Ik p.holders x)):=by
 refine zf Tryz.func338 Tryz.ntmps338 ?_;try simp only[iv]
 have c1:=ri (G:=G) p x.holder hl;simp only[l8] at c1 ⊢;repeat' first|(with_reducible first|refine zz ?_|refine zx ?_|refine zE [0,1,3,4] ?_)|simp -dsimp|refine zp c1 ?_
 rw[B0];rfl
def FX (l:List Issue) (x:Print):Bool:=l.any λy=>decide (x.drawing=y.drawing/\x.letter=y.letter)
theorem FW (x:Print) (y:Issue):DCall Tryz.prog G 341 (P9 y :: [DC.ptr 0 0].map .one) [.row ((A4 x).map .im)] (λd o=>d=bv (decide (x.drawing=y.drawing/\x.letter=y.letter))/\o=[.row ((A4 x).map .im)]):=by
 refine DCall.drop ?_;refine h9 Tryz.func341 rfl Tryz.ntmps341 (by simp) rfl ?_;simp only[P9,e9,A4,rI];repeat' first|(with_reducible first|refine zz ?_|refine zx ?_|refine zE [0,1,2,3] ?_)|simp -dsimp|with_reducible refine And.intro ?_ ?_
theorem Ii (p:Prints) (x:Print) (hl:p.n.reg.length<1000000):zP Tryz.prog G 339 [.one (.im (l8 p)),dF x] (bv (FX p.n.reg x)):=by
 refine zf Tryz.func339 Tryz.ntmps339 ?_;try simp only[iv]
 simp only[l8];have c1:=jy (G:=G) p.n.reg (λy=>decide (x.drawing=y.drawing/\x.letter=y.letter)) 341 [.ptr 0 0] [.row ((A4 x).map .im)] (by simp) (λy _=>FW x y) hl;simp only[A4,rI,List.map_cons,List.map_nil] at c1;repeat' first|(with_reducible first|refine zz ?_|refine zx ?_|refine zE [0,1,3,4] ?_)|simp -dsimp|refine zh c1 ?_
 simp[FX]
def HC (x:Print):Bool:=decide (x.lost<=2)
theorem Ih (d:IC) (x:Print):zP Tryz.prog G 342 [.one (.im d),dF x] (bv (HC x)):=by
 refine zf Tryz.func342 Tryz.ntmps342 ?_;try simp only[iv]
 repeat' first|(with_reducible first|refine zz ?_|refine zx ?_|refine zE [1,3,4] ?_)|simp -dsimp
 all_goals simp[HC]
def HB (x:Print):Bool:=decide (x.back=-1)||(decide (x.day<=x.back)&&decide (x.back<=14610))&&decide (x.lost=0)
theorem Ig (d:IC) (x:Print):zP Tryz.prog G 343 [.one (.im d),dF x] (bv (HB x)):=by
 refine zf Tryz.func343 Tryz.ntmps343 ?_;try simp only[iv]
 have c1:=V7 (G:=G) x.day 14610 [x.back] (by simp);have hs:=trivial;repeat' first|(with_reducible first|refine zz ?_|refine zr ?_|refine zE [1,3,4] ?_)|simp -dsimp[hs]|refine zt c1 ?_ ?_ ?_;(focus simp;done);focus (simp;done)|with_reducible refine j0 ?_ ?_<;>intro h<;>have h0:=h<;>(try simp only[i7] at h)<;>have h2:=h<;>(try simp at h2)<;>replace hs:=za h0 (za h (za h2 hs))
 all_goals try clear hs
 all_goals simp_all [HB]
 all_goals omega
end Go.Proofs
namespace Go.Proofs
open Go Go.Ab Tryz
variable {G:LI}
def Eg (D l:List Int) (k:Nat) (d:Int):Prop:=d∈D/\(0<k->∀ e,l[k-1]?=some e->e<d)
def JM (l:List Holder) (i:Nat) (x:Holder):Prop:=(1<=x.id/\x.id<=9999)/\(0<i->∀ y,l[i-1]?=some y->y.id<x.id)/\(1<=x.frm/\x.frm<=999)/\(1<=x.to/\x.to<=999)/\x.frm<=x.to/\x.draws.length<=8
def sH (D:List Int) (l:List Holder) (i:Nat) (x:Holder):Prop:=JM l i x/\∀ k d,x.draws[k]?=some d->Eg D x.draws k d
def Ag (p:Prints) (x:Print):Nat->Bool
 | 0=>HD x
 | 1=>Ik p.holders x
 | 2=>FX p.n.reg x
 | 3=>HC x
 | _=>HB x
def wN (p:Prints) (i:Nat) (x:Print):Prop:=(0<i->∀ y,p.prints[i-1]?=some y->y.number<x.number)/\∀ c,c<5->Ag p x c=true
structure PrintsOk (p:Prints):Prop where
 hl:p.holders.length<=6
 pl:p.prints.length<=30
 h:∀ i x,p.holders[i]?=some x->sH (nums p.n.reg) p.holders i x
 q:∀ i x,p.prints[i]?=some x->wN p i x
noncomputable def G4 (p:Prints):Bool:=open Classical in decide (PrintsOk p)
theorem L5 {p:Prints} (h:¬ PrintsOk p):G4 p=false:=by simp[G4,h]
theorem dG {p:Prints} (h:PrintsOk p):G4 p=true:=by simp[G4,h]
structure SmallP (p:Prints):Prop where
 r:(nums p.n.reg).length<1000
 l:p.n.reg.length<1000
 h:p.holders.length<=8
 q:p.prints.length<=40
 d:∀ x∈p.holders,x.draws.length<=20
 lo:∀ x∈p.prints,0<=x.lost/\x.lost<=255
def w0 (G:LI):Prop:=G 6=some [.fn (.func 337) [],.fn (.func 338) [],.fn (.func 339) [],.fn (.func 342) [],.fn (.func 343) []]
@[simp] abbrev LR:List Nat:=[0,2,3,4,5,6,7,8,9,11,27,32,33,34,35,84,86,87,88,89,113,120,121,122,123,143,144,145,146,154]
theorem De (p:Prints) (hR:w0 G) (hs:SmallP p):zP prog G 228 [.one (.im (l8 p))] (bv (G4 p)):=by
 refine zf func228 ntmps228 ?_;try simp only[iv]
 have hR':G 6=some [.fn (.func 337) [],.fn (.func 338) [],.fn (.func 339) [],.fn (.func 342) [],.fn (.func 343) []]:=hR;obtain⟨hsr,hsl,hsh,hsq,hsd,hslo⟩:=hs;by_cases h6:¬ p.holders.length<=6
 ·have h6':(6:Int)<p.holders.length:=by omega
  have hno:=L5 (p:=p) λh=>h6 h.hl;simp only[l8];have hs:=h6';repeat' first|(with_reducible first|refine zz ?_|refine zr ?_|refine zE LR ?_)|simp -dsimp[hs]|refine i8 ?_ ?_<;>intro h<;>try exact h.elim
  all_goals try clear hs
  all_goals simp[hno]
 by_cases h30:¬ p.prints.length<=30
 ·replace h6:=Classical.not_not.1 h6;have h6':¬ (6:Int)<p.holders.length:=by omega
  have h30':(30:Int)<p.prints.length:=by omega
  have hno:=L5 (p:=p) λh=>h30 h.pl;simp only[l8];have hs:=za h6' h30';repeat' first|(with_reducible first|refine zz ?_|refine zr ?_|refine zE LR ?_)|simp -dsimp[hs]|refine i8 ?_ ?_<;>intro h<;>try exact h.elim
  all_goals try clear hs
  all_goals simp[hno]
 replace h6:=Classical.not_not.1 h6;replace h30:=Classical.not_not.1 h30;have h6':¬ (6:Int)<p.holders.length:=by omega
 have h30':¬ (30:Int)<p.prints.length:=by omega
 simp only[l8];have hs:=za h6' h30';repeat' first|(with_reducible first|refine zz ?_|refine zE LR ?_)|simp -dsimp[hs]|refine i8 ?_ ?_<;>intro h<;>try exact h.elim
 all_goals try clear hs
 refine i6 (ι:={ k:Nat // k<=p.holders.length/\∀ (j:Nat) (x:Holder),j<k->p.holders[j]?=some x->sH (nums p.n.reg) p.holders j x }) (λq=>⟨158,[(0,.one (.im (l8 p))),(32,.one (.im (.sl (p.holders.map o6)))),(33,iv (p.holders.length:Int)),(34,iv (q.1:Int))],[]⟩) (λq=>p.holders.length-q.1) ⟨0,by simp⟩ (zv [0,32,33,34] (by simp[l8])) ?_;rintro⟨k,hk,hok⟩;simp only[iv,l8];by_cases hlt:k<p.holders.length
 ·have hx0:p.holders[k]?=some p.holders[k]:=by simp[hlt]
  have hw:=zk k;have hdl:=hsd p.holders[k] (List.getElem_mem hlt);generalize hx:p.holders[k]=x at *;have hbad:¬ sH (nums p.n.reg) p.holders k x->G4 p=false:=λh=>L5 λh'=>h (h'.h k x hx0);have hstep:sH (nums p.n.reg) p.holders k x->∀ (j:Nat) (z:Holder),j<k+1->p.holders[j]?=some z->sH (nums p.n.reg) p.holders j z:=λh j z hj hz=>by
   by_cases e:j=k
   ·subst e;rw[hx0] at hz;cases hz;exact h
   ·exact hok j z (by omega) hz
  have c1:=V7 (G:=G) 1 9999 [x.id] (by simp);have c2:=V7 (G:=G) 1 999 [x.frm,x.to] (by simp);have c3:=λd=>cM (G:=G) (nums p.n.reg) d (by omega);have hs:True:=trivial;by_cases hA:JM p.holders k x
  ·have hA':=hA;obtain⟨a1,a3,a4,a6,a8,a9⟩:=hA;have e1:([x.id].all λy=>decide (1<=y)&&decide (y<=9999))=true:=by simp;omega
   have e2:([x.frm,x.to].all λy=>decide (1<=y)&&decide (y<=999))=true:=by simp;omega
   rw[e1] at c1;rw[e2] at c2;have a8':¬ x.to<x.frm:=by omega
   have a9':¬ (8:Int)<x.draws.length:=by omega
   have hcs:(¬ 0<k/\True/\∃ _:True,True)\/(0<k/\IntKind.i64.wrap ((k:Int)-1)=((k-1:Nat):Int)/\∃ h:k-1<p.holders.length,¬ x.id<=(p.holders[k-1]'h).id):=by
    rcases Nat.eq_zero_or_pos k with h0|h0
    ·exact .inl ⟨by omega,trivial,trivial,trivial⟩
    ·have h1:k-1<p.holders.length:=by omega
     exact .inr ⟨by omega,by rw[n4 (by omega) (by omega)];omega,h1,by have:=a3 h0 _ (List.getElem?_eq_getElem h1);omega⟩
   rcases hcs with⟨hk0,hwm,hi1,hlt1⟩|⟨hk0,hwm,hi1,hlt1⟩
   all_goals
    have hs:=za hx (za hlt (za a8' (za a9' (za hk0 (za hwm (za hi1 hlt1))))));repeat' first|with_reducible refine zz ?_|simp -dsimp[hs]|refine zq c1 ?_|refine zq c2 ?_|refine zM 6 158 46 LR ?_|with_reducible refine zE LR ?_|refine i8 ?_ ?_<;>intro h<;>try exact h.elim
    all_goals try clear hs
   all_goals
    refine i6 (ι:={ j:Nat // j<=x.draws.length/\∀ (i:Nat) (d:Int),i<j->x.draws[i]?=some d->Eg (nums p.n.reg) x.draws i d }) (λq=>⟨158,[(0,.one (.im (l8 p))),(4,.one (.ptr 1 0)),(32,.one (.im (.sl (p.holders.map o6)))),(33,iv (p.holders.length:Int)),(34,iv (k:Int)),(86,.one (.im (.sl (x.draws.map encI)))),(87,iv (x.draws.length:Int)),(88,iv (q.1:Int))],[.vec 0 [] 0 true,.row ((o6 x).map .im)]⟩) (λq=>x.draws.length-q.1) ⟨0,by simp⟩ (zv [0,4,32,33,34,86,87,88] (by simp[l8])) ?_;rintro⟨j,hj,hjok⟩;simp only[iv,l8];by_cases hlj:j<x.draws.length
    ·have hx1:x.draws[j]?=some x.draws[j]:=by simp[hlj]
     have hwj:=zk j;have c4:=c3 x.draws[j];have hcj:(¬ 0<j/\True/\∃ _:True,True)\/(0<j/\IntKind.i64.wrap ((j:Int)-1)=((j-1:Nat):Int)/\∃ h:j-1<x.draws.length,True):=by
      rcases Nat.eq_zero_or_pos j with h0|h0
      ·exact .inl ⟨by omega,trivial,trivial,trivial⟩
      ·exact .inr ⟨by omega,by rw[n4 (by omega) (by omega)];omega,by omega,trivial⟩
     have hbadj:¬ Eg (nums p.n.reg) x.draws j x.draws[j]->G4 p=false:=λh=>hbad λh'=>h (h'.2 j _ hx1);have hstj:Eg (nums p.n.reg) x.draws j x.draws[j]->∀ (i:Nat) (d:Int),i<j+1->x.draws[i]?=some d->Eg (nums p.n.reg) x.draws i d:=λh i d hi hd=>by
      by_cases e:i=j
      ·subst e;rw[hx1] at hd;cases hd;exact h
      ·exact hjok i d (by omega) hd
     clear hstep;rcases hcj with⟨hj0,hwmj,hij,-⟩|⟨hj0,hwmj,hij,-⟩
     all_goals
      have hs:=za hx1 (za hlj (za hj0 (za hwmj (za hij hwj))));repeat' first|(with_reducible first|refine zz ?_|refine zr ?_|refine zE LR ?_)|simp -dsimp[hs]|refine zp c4 ?_|refine i8 ?_ ?_<;>intro h<;>try exact h.elim|with_reducible refine j0 ?_ ?_<;>intro h<;>have h0:=h<;>(try simp only[i7] at h)<;>have h2:=h<;>(try simp at h2)<;>replace hs:=za h0 (za h (za h2 hs))
      all_goals try clear hs
     all_goals first
      | exact zn ⟨j+1,by omega,hstj ⟨of_decide_eq_true (by assumption),λh1 e he=>by first|omega|(obtain⟨_,rfl⟩:=List.getElem?_eq_some_iff.1 he;omega)⟩⟩ (zv [0,4,32,33,34,86,87,88])
      | (refine hbadj λhh=>?_;have:=hh.1;simp_all;done)
      | (refine hbadj λhh=>?_;have:=hh.2 (by omega) _ (List.getElem?_eq_getElem hij);omega)
    ·have hs:=za hlj hw;repeat' first|(with_reducible first|refine zz ?_|refine zE LR ?_)|simp -dsimp[hs]|refine i8 ?_ ?_<;>intro h<;>try exact h.elim
     all_goals try clear hs
     exact zn ⟨k+1,by omega,hstep ⟨hA',λi d hd=>hjok i d (by have:=e7 hd;omega) hd⟩⟩ (zw [0,32,33,34] 0)
  ·have hno:=hbad λh=>hA h.1;generalize hb1:([x.id].all λy=>decide (1<=y)&&decide (y<=9999))=b1 at c1;generalize hb2:([x.frm,x.to].all λy=>decide (1<=y)&&decide (y<=999))=b2 at c2;have hcs:(¬ 0<k/\True/\∃ _:True,True)\/(0<k/\IntKind.i64.wrap ((k:Int)-1)=((k-1:Nat):Int)/\∃ h:k-1<p.holders.length,True):=by
    rcases Nat.eq_zero_or_pos k with h0|h0
    ·exact .inl ⟨by omega,trivial,trivial,trivial⟩
    ·exact .inr ⟨by omega,by rw[n4 (by omega) (by omega)];omega,by omega,trivial⟩
   rcases hcs with⟨hk0,hwm,hi1,-⟩|⟨hk0,hwm,hi1,-⟩<;>cases b1<;>cases b2
   all_goals
    have hs:=za hx (za hlt (za hk0 (za hwm hi1)));repeat' first|(with_reducible first|refine zz ?_|refine zr ?_)|simp -dsimp[hs]|refine zq c1 ?_|refine zq c2 ?_|refine zM 6 158 46 LR ?_|with_reducible refine zE LR ?_|refine i8 ?_ ?_<;>intro h<;>try exact h.elim|with_reducible refine j0 ?_ ?_<;>intro h<;>have h0:=h<;>(try simp only[i7] at h)<;>have h2:=h<;>(try simp at h2)<;>replace hs:=za h0 (za h (za h2 hs))
    all_goals try clear hs
   all_goals try (first|exact hno|exact hno.symm)
   ·refine absurd ?_ hA;simp at hb1 hb2;exact⟨by omega,λh1=>by omega,by omega,by omega,by omega,by omega⟩
   ·refine absurd ?_ hA;simp at hb1 hb2;exact⟨by omega,λh1 y hy=>by
     obtain⟨_,rfl⟩:=List.getElem?_eq_some_iff.1 hy
     simp_all<;>omega,by omega,by omega,by omega,by omega⟩
 ·have hkl:k=p.holders.length:=by omega
  have hall:∀ i x,p.holders[i]?=some x->sH (nums p.n.reg) p.holders i x:=λi x hx=>hok i x (by have:=e7 hx;omega) hx;have hs:=hlt;repeat' first|(with_reducible first|refine zz ?_|refine zE LR ?_)|simp -dsimp[hs]|refine i8 ?_ ?_<;>intro h<;>try exact h.elim
  all_goals try clear hs
  refine i6 (ι:={ k:Nat // k<=p.prints.length/\∀ (j:Nat) (x:Print),j<k->p.prints[j]?=some x->wN p j x }) (λq=>⟨158,[(0,.one (.im (l8 p))),(7,bv true),(120,.one (.im (.sl (p.prints.map A4)))),(121,iv (p.prints.length:Int)),(122,iv (q.1:Int))],[]⟩) (λq=>p.prints.length-q.1) ⟨0,by simp⟩ (zv [0,7,120,121,122] (by simp[l8])) ?_;clear hlt hok hk hkl k;rintro⟨k,hk,hok⟩;simp only[iv,bv,l8];by_cases hlt:k<p.prints.length
  ·have hx0:p.prints[k]?=some p.prints[k]:=by simp[hlt]
   have hw:=zk k;have hll:=hslo p.prints[k] (List.getElem_mem hlt);generalize hx:p.prints[k]=x at *;have hbad:¬ wN p k x->G4 p=false:=λh=>L5 λh'=>h (h'.q k x hx0);have hstep:wN p k x->∀ (j:Nat) (z:Print),j<k+1->p.prints[j]?=some z->wN p j z:=λh j z hj hz=>by
    by_cases e:j=k
    ·subst e;rw[hx0] at hz;cases hz;exact h
    ·exact hok j z (by omega) hz
   have hs:True:=trivial;have hcs:(¬ 0<k/\True/\∃ _:True,True)\/(0<k/\IntKind.i64.wrap ((k:Int)-1)=((k-1:Nat):Int)/\∃ h:k-1<p.prints.length,True):=by
    rcases Nat.eq_zero_or_pos k with h0|h0
    ·exact .inl ⟨by omega,trivial,trivial,trivial⟩
    ·exact .inr ⟨by omega,by rw[n4 (by omega) (by omega)];omega,by omega,trivial⟩
   rcases hcs with⟨hk0,hwm,hi1,-⟩|⟨hk0,hwm,hi1,-⟩
   all_goals
    have hs:=za hx (za hlt (za hk0 (za hwm (za hi1 hR'))));repeat' first|(with_reducible first|refine zz ?_|refine zr ?_)|simp -dsimp[hs]|refine zM 19 158 17 LR ?_|with_reducible refine zE LR ?_|refine i8 ?_ ?_<;>intro h<;>try exact h.elim
    all_goals try clear hs
   all_goals try (exact hbad λhh=>by have:=hh.1 hk0 _ (List.getElem?_eq_getElem hi1);omega)
   all_goals
    have hord:0<k->∀ y,p.prints[k-1]?=some y->y.number<x.number:=λh1 y hy=>by
     first|omega|(obtain⟨_,rfl⟩:=List.getElem?_eq_some_iff.1 hy;omega)
    have k1:=λd=>Il (G:=G) d x;have k2:=Ij (G:=G) p x (by omega);have k3:=Ii (G:=G) p x (by omega);have k4:=λd=>Ih (G:=G) d x;have k5:=λd=>Ig (G:=G) d x;replace k1:=k1 (l8 p);replace k4:=k4 (l8 p);replace k5:=k5 (l8 p);rw[show HD x=Ag p x 0 from rfl] at k1;rw[show Ik p.holders x=Ag p x 1 from rfl] at k2;rw[show FX p.n.reg x=Ag p x 2 from rfl] at k3;rw[show HC x=Ag p x 3 from rfl] at k4;rw[show HB x=Ag p x 4 from rfl] at k5;simp only[l8] at k1 k2 k3 k4 k5;refine i6 (ι:={ c:Nat // c<=5/\∀ e<c,Ag p x e=true }) (λq=>⟨158,[(0,.one (.im (l8 p))),(7,bv true),(9,.one (.ptr 0 0)),(120,.one (.im (.sl (p.prints.map A4)))),(121,iv (p.prints.length:Int)),(122,iv (k:Int)),(144,.agg [.im (.fn (.func 337) []),.im (.fn (.func 338) []),.im (.fn (.func 339) []),.im (.fn (.func 342) []),.im (.fn (.func 343) [])]),(145,iv (q.1:Int))],[.row ((A4 x).map .im)]⟩) (λq=>5-q.1) ⟨0,by simp⟩ (zv [0,7,9,120,121,122,144,145] (by simp[l8])) ?_;rintro⟨c,hc,hcc⟩;simp only[iv,bv,l8];by_cases hc5:c<5
    ·have hm:Ag p x c=true->∀ e<c+1,Ag p x e=true:=λh e he=>by
      rcases Nat.lt_succ_iff_lt_or_eq.1 he with h1|rfl
      ·exact hcc e h1
      ·exact h
     have hbc:Ag p x c=false->G4 p=false:=λh=>hbad λhh=>by rw[hh.2 c hc5] at h;cases h
     clear hstep;have hi5:c=0\/c=1\/c=2\/c=3\/c=4:=by omega
     rcases hi5 with rfl|rfl|rfl|rfl|rfl
     all_goals
      have hs:=hlt;repeat' first|(with_reducible first|refine zz ?_|refine KI (by decide) ?_|refine zr ?_|refine zE LR ?_)|simp -dsimp[hs]|refine zp k1 ?_|refine zp k2 ?_|refine zp k3 ?_|refine zp k4 ?_|refine zp k5 ?_|refine i8 ?_ ?_<;>intro h<;>try exact h.elim
      all_goals try clear hs
     all_goals first
      | exact At.round ⟨_,by omega,hm (by assumption)⟩ (by simp) (zw [0,7,9,120,121,122,144,145] 1 (by simp[‹Ag p x _=true›];exact n4 (by omega) (by omega)))
      | exact hbc (by assumption)
      | (rw[hbc (by assumption)];assumption)
    ·obtain rfl:c=5:=by omega
     clear k1 k2 k3 k4 k5;have hs:=za hlt hw;repeat' first|(with_reducible first|refine zz ?_|refine zE LR ?_)|simp -dsimp[hs]|refine i8 ?_ ?_<;>intro h<;>try exact h.elim
     all_goals try clear hs
     exact zn ⟨k+1,by omega,hstep ⟨hord,hcc⟩⟩ (zw [0,7,120,121,122] 0)
  ·have hyes:G4 p=true:=dG ⟨h6,h30,hall,λi x hx=>hok i x (by have:=e7 hx;omega) hx⟩;have hs:=hlt;repeat' first|(with_reducible first|refine zz ?_|refine zr ?_|refine zE LR ?_)|simp -dsimp[hs]|refine i8 ?_ ?_<;>intro h<;>try exact h.elim
   all_goals try clear hs
   all_goals simp[hyes]
noncomputable def u3 (p:Prints):Int:=if v7 p.n≠0 then v7 p.n else if G4 p=true then 0 else 70
noncomputable def S8 (p:Prints):DV:=if u3 p=0 then .one (.im (l8 p)) else .one (.im (.raw (.pointer none)))
theorem tr (p:Prints):ImV (S8 p):=by unfold S8;split<;>simp[l8]
attribute [simp] tr
structure KP (p:Prints):Prop where
 n:zb p.n
 p:SmallP p
@[simp] abbrev QQ:List Nat:=[0,1,2,3,4,5,10,27]
theorem vw (p:Prints) (hG:o3 G) (hN:E0 G) (hS:u4 G) (hR:w0 G) (hk:KP p):zP prog G 175 [D7 p] (.tup [S8 p,iv (u3 p)]):=by
 refine zf func175 ntmps175 ?_;try simp only[iv]
 have c1:=Av p.n hG hN hS hk.n;have c2:=cK p.n.reg hG hk.n.1;have c3:=De p hR hk.p;by_cases h0:v7 p.n=0
 ·have hr0:l4 p.n.reg=0:=by
   refine Classical.byContradiction λh=>?_;unfold v7 at h0;rw[if_pos h] at h0;exact h h0
  rw[hr0,show ec p.n.reg=nums p.n.reg by simp[ec,hr0]] at c2;simp only[h0] at c1;by_cases hp:G4 p=true
  ·have hE:u3 p=0:=by unfold u3;rw[if_neg (by simp[h0]),if_pos hp]
   have hO:S8 p=.one (.im (l8 p)):=by unfold S8;rw[if_pos hE]
   rw[hp] at c3;rw[hE,hO];simp only[l8] at c3 ⊢;have hs:=trivial;repeat' first|(with_reducible first|refine zz ?_|refine zr ?_)|simp -dsimp[hs]|refine zp c1 ?_|refine zp c2 ?_|refine zt c3 ?_ ?_ ?_;(focus simp;done);focus (simp;done)|with_reducible refine Q5 (id:=4) (nt:=29) QQ rfl ?_;simp -dsimp[hs]|with_reducible refine zE QQ ?_|refine i8 ?_ ?_<;>intro h<;>try exact h.elim
  ·have hE:u3 p=70:=by unfold u3;rw[if_neg (by simp[h0]),if_neg hp]
   have hO:S8 p=.one (.im (.raw (.pointer none))):=by unfold S8;rw[if_neg (by simp[hE])]
   rw[Bool.not_eq_true] at hp;rw[hp] at c3;rw[hE,hO];simp only[l8] at c3 ⊢;have hs:=trivial;repeat' first|(with_reducible first|refine zz ?_|refine zr ?_)|simp -dsimp[hs]|refine zp c1 ?_|refine zp c2 ?_|refine zt c3 ?_ ?_ ?_;(focus simp;done);focus (simp;done)|with_reducible refine Q5 (id:=4) (nt:=29) QQ rfl ?_;simp -dsimp[hs]|with_reducible refine zE QQ ?_|refine i8 ?_ ?_<;>intro h<;>try exact h.elim
 ·have hE:u3 p=v7 p.n:=by unfold u3;rw[if_pos h0]
  have hO:S8 p=.one (.im (.raw (.pointer none))):=by unfold S8;rw[if_neg (by rw[hE];exact h0)]
  rw[hE,hO];have hs:=h0;repeat' first|(with_reducible first|refine zz ?_|refine zr ?_|refine zE QQ ?_)|simp -dsimp[hs]|refine zp c1 ?_|refine i8 ?_ ?_<;>intro h<;>try exact h.elim
theorem Aa (p:Prints) (hG:o3 G) (hN:E0 G) (hS:u4 G) (hR:w0 G) (hk:KP p):zP prog G 118 [D7 p] (iv (u3 p)):=by
 refine zf func118 ntmps118 ?_;try simp only[iv]
 have c1:=vw p hG hN hS hR hk;repeat' first|(with_reducible first|refine zz ?_|refine zx ?_|refine zE [0,1,2,4] ?_)|simp -dsimp|refine zp c1 ?_
def ut (d m:Int):Bool:=(decide (0<=d)&&decide (d<=14610))&&(decide (1<=m)&&decide (m<=999))
noncomputable def J1 (p:Prints) (d m:Int):Int:=if u3 p≠0 then u3 p else if ut d m=true then 0 else 2
noncomputable def T9 (p:Prints) (d m:Int):DV:=if J1 p d m=0 then .one (.im (l8 p)) else .one (.im (.raw (.pointer none)))
theorem uJ (p:Prints) (d m:Int):ImV (T9 p d m):=by unfold T9;split<;>simp[l8]
attribute [simp] uJ
@[simp] abbrev Wg:List Nat:=[0,1,2,3,6,7,8,9,16,27]
theorem Ac (p:Prints) (d m:Int) (hG:o3 G) (hN:E0 G) (hS:u4 G) (hR:w0 G) (hk:KP p):zP prog G 143 [D7 p,iv d,iv m] (.tup [T9 p d m,iv (J1 p d m)]):=by
 refine zf func143 ntmps143 ?_;try simp only[iv,iv]
 have c1:=vw p hG hN hS hR hk;have c2:=V7 (G:=G) 0 14610 [d] (by simp);have c3:=V7 (G:=G) 1 999 [m] (by simp);by_cases h0:u3 p=0
 ·simp only[S8,h0,if_true] at c1;by_cases hd:ut d m=true
  ·have hE:J1 p d m=0:=by unfold J1;rw[if_neg (by simp[h0]),if_pos hd]
   have hO:T9 p d m=.one (.im (l8 p)):=by unfold T9;rw[if_pos hE]
   simp only[ut,Bool.and_eq_true,decide_eq_true_eq] at hd;rw[show ([d].all λy=>decide (0<=y)&&decide (y<=14610))=true by simp;omega] at c2;rw[show ([m].all λy=>decide (1<=y)&&decide (y<=999))=true by simp;omega] at c3;rw[hE,hO];simp only[l8] at c1 ⊢;have hs:=trivial;repeat' first|(with_reducible first|refine zz ?_|refine zr ?_|refine zE Wg ?_)|simp -dsimp[hs]|refine zp c1 ?_|refine zt c2 ?_ ?_ ?_;(focus simp;done);focus (simp;done)|refine zt c3 ?_ ?_ ?_;(focus simp;done);focus (simp;done)|refine i8 ?_ ?_<;>intro h<;>try exact h.elim
  ·have hE:J1 p d m=2:=by unfold J1;rw[if_neg (by simp[h0]),if_neg hd]
   have hO:T9 p d m=.one (.im (.raw (.pointer none))):=by unfold T9;rw[if_neg (by simp[hE])]
   simp only[ut,Bool.and_eq_true,decide_eq_true_eq] at hd;rw[hE,hO];simp only[l8] at c1 ⊢;by_cases hd1:0<=d/\d<=14610
   ·rw[show ([d].all λy=>decide (0<=y)&&decide (y<=14610))=true by simp;omega] at c2;rw[show ([m].all λy=>decide (1<=y)&&decide (y<=999))=false by simp;omega] at c3;have hs:=trivial;repeat' first|(with_reducible first|refine zz ?_|refine zr ?_|refine zE Wg ?_)|simp -dsimp[hs]|refine zp c1 ?_|refine zt c2 ?_ ?_ ?_;(focus simp;done);focus (simp;done)|refine zt c3 ?_ ?_ ?_;(focus simp;done);focus (simp;done)|refine i8 ?_ ?_<;>intro h<;>try exact h.elim
   ·rw[show ([d].all λy=>decide (0<=y)&&decide (y<=14610))=false by simp;omega] at c2;have hs:=trivial;repeat' first|(with_reducible first|refine zz ?_|refine zr ?_|refine zE Wg ?_)|simp -dsimp[hs]|refine zp c1 ?_|refine zt c2 ?_ ?_ ?_;(focus simp;done);focus (simp;done)|refine i8 ?_ ?_<;>intro h<;>try exact h.elim
 ·have hE:J1 p d m=u3 p:=by unfold J1;rw[if_pos h0]
  have hO:T9 p d m=.one (.im (.raw (.pointer none))):=by unfold T9;rw[if_neg (by rw[hE];exact h0)]
  simp only[S8,h0,if_false] at c1;rw[hE,hO];have hs:=h0;repeat' first|(with_reducible first|refine zz ?_|refine zr ?_|refine zE Wg ?_)|simp -dsimp[hs]|refine zp c1 ?_|refine i8 ?_ ?_<;>intro h<;>try exact h.elim
noncomputable def O3 (p:Prints) (d m i w:Int):Int:=if J1 p d m≠0 then J1 p d m else if (p.holders.any λy=>decide (y.id=i))=true/\w∈nums p.n.reg then 0 else 6
noncomputable def eq (p:Prints) (d m i w:Int):DV:=if O3 p d m i w=0 then .one (.im (l8 p)) else .one (.im (.raw (.pointer none)))
theorem yq (p:Prints) (d m i w:Int):ImV (eq p d m i w):=by unfold eq;split<;>simp[l8]
attribute [simp] yq
theorem Co (p:Prints) (v:Int) (hl:(nums p.n.reg).length<1000):DCall prog G 145 (iv v :: [DC.ptr 1 0].map .one) [.row ((p6 p).map .im),.row [.im (l8 p)]] (λd o=>d=bv (!decide (v∈nums p.n.reg))/\o=[.row ((p6 p).map .im),.row [.im (l8 p)]]):=by
 refine DCall.drop ?_;have c1:=cM (G:=G) (nums p.n.reg) v (by omega);simp only[l8,p6];refine h9 func145 rfl ntmps145 (by simp) rfl ?_;repeat' first|(with_reducible first|refine zz ?_|refine zx ?_|refine zE [0,1,3] ?_)|simp -dsimp|refine zp c1 ?_|with_reducible refine And.intro ?_ ?_
theorem vM {α:Type} (q:α->Bool) (l:List α):decide (I9 q l<0)=!l.any q:=by
 rw[<- B0];by_cases h:0<=I9 q l
 ·have h1:¬ I9 q l<0:=by omega
  simp[h,h1]
 ·have h1:I9 q l<0:=by omega
  simp[h,h1]
@[simp] abbrev QR:List Nat:=[0,1,2,3,4,5,10,11,12,13,22,32]
theorem Ad (p:Prints) (d m i w:Int) (hG:o3 G) (hN:E0 G) (hS:u4 G) (hR:w0 G) (hk:KP p):zP prog G 89 [D7 p,iv d,iv m,iv i,q9 [w]] (.tup [eq p d m i w,iv (O3 p d m i w)]):=by
 refine zf func89 ntmps89 ?_;try simp only[iv,iv,iv,q9]
 have c1:=Ac p d m hG hN hS hR hk;have hr:=hk.p.r;have hh:=hk.p.h;by_cases h0:J1 p d m=0
 ·have c2:=ri (G:=G) p i (by omega);have c3:=D3 (G:=G) [w] (λv=>!decide (v∈nums p.n.reg)) 145 [.ptr 1 0] [.row ((p6 p).map .im),.row [.im (l8 p)]] (by simp) (λv _=>Co p v hr) (by simp);have hf:=vM (λy:Holder=>decide (y.id=i)) p.holders;have hE:O3 p d m i w=if (p.holders.any λy=>decide (y.id=i))=true/\w∈nums p.n.reg then 0 else 6:=by unfold O3;rw[if_neg (by simp[h0])]
  simp only[T9,h0,if_true] at c1;unfold eq;rw[hE];generalize I9 (λy:Holder=>decide (y.id=i)) p.holders=f at *;generalize hb:(p.holders.any λy=>decide (y.id=i))=b at *;by_cases hw:w∈nums p.n.reg
  ·simp only[hw,List.any_cons,List.any_nil,decide_true,Bool.not_true,Bool.or_false] at c3;cases b
   ·have hf':f<0:=by simpa using hf
    simp only[l8,p6,List.map_cons,List.map_nil] at c1 c2 c3 ⊢;have hs:=hf';repeat' first|(with_reducible first|refine zz ?_|refine zr ?_|refine zE QR ?_)|simp -dsimp[hs]|refine zp c1 ?_|refine zp c2 ?_|refine i8 ?_ ?_<;>intro h<;>try exact h.elim
   ·have hf':¬ f<0:=by simpa using hf
    simp only[l8,p6,List.map_cons,List.map_nil] at c1 c2 c3 ⊢;have hs:=za hf' hw;repeat' first|(with_reducible first|refine zz ?_|refine zr ?_|refine zE QR ?_)|simp -dsimp[hs]|refine zp c1 ?_|refine zp c2 ?_|refine zh c3 ?_|refine i8 ?_ ?_<;>intro h<;>try exact h.elim
  ·simp only[hw,List.any_cons,List.any_nil,decide_false,Bool.not_false,Bool.or_false] at c3;cases b
   ·have hf':f<0:=by simpa using hf
    simp only[l8,p6,List.map_cons,List.map_nil] at c1 c2 c3 ⊢;have hs:=hf';repeat' first|(with_reducible first|refine zz ?_|refine zr ?_|refine zE QR ?_)|simp -dsimp[hs]|refine zp c1 ?_|refine zp c2 ?_|refine i8 ?_ ?_<;>intro h<;>try exact h.elim
   ·have hf':¬ f<0:=by simpa using hf
    simp only[l8,p6,List.map_cons,List.map_nil] at c1 c2 c3 ⊢;have hs:=za hf' hw;repeat' first|(with_reducible first|refine zz ?_|refine zr ?_|refine zE QR ?_)|simp -dsimp[hs]|refine zp c1 ?_|refine zp c2 ?_|refine zh c3 ?_|refine i8 ?_ ?_<;>intro h<;>try exact h.elim
 ·have hE:O3 p d m i w=J1 p d m:=by unfold O3;rw[if_pos h0]
  have hO:eq p d m i w=.one (.im (.raw (.pointer none))):=by unfold eq;rw[if_neg (by rw[hE];exact h0)]
  simp only[T9,h0,if_false] at c1;rw[hE,hO];have hs:=h0;repeat' first|(with_reducible first|refine zz ?_|refine zr ?_|refine zE QR ?_)|simp -dsimp[hs]|refine zp c1 ?_|refine i8 ?_ ?_<;>intro h<;>try exact h.elim
def frcCaps:List DC:=[.ptr 5 0,.ptr 0 0,.ptr 1 0,.ptr 2 0,.ptr 3 0,.ptr 6 0]
def P1 (n:Notes) (s w:List Int) (m:Int) (M:List (Int×Bool)):List DObj:=[.row [.im (H8 n)],.row [.im (.sl (s.map encI))],.row [.im (.sl (w.map encI))],.row [.im (rI m)],.map [.int .i64] (G7 M),.row [.map 4],.row [.fn (.func 214) frcCaps]]
theorem vL (n:Notes) (s w:List Int) (m:Int):DCall prog G 164 [.one (.im (H8 n)),q9 s,q9 w,iv m] [] (λd o=>d=.one (.fn (.func 214) frcCaps)/\o=P1 n s w m []):=by
 refine h9 func164 rfl ntmps164 (by simp) rfl ?_;simp only[q9,iv];repeat' first|(with_reducible first|refine zz ?_|refine zx ?_|refine zE [0,1,2,3,4,5,6,7,8,9,10] ?_)|simp -dsimp|with_reducible refine And.intro ?_ ?_
 ·rfl
 ·simp[P1,frcCaps,G7]
def F3 (n:Notes) (s w:List Int) (m:Int) (i:Nat):Bool:=((T4 s w m n.notes)[i]?).getD false
def ConsM (n:Notes) (s w:List Int) (m:Int) (M:List (Int×Bool)):Prop:=∀ (k:Nat) (b:Bool),dg (k:Int) M=some b->F3 n s w m k=b
theorem ConsM.nil (n:Notes) (s w:List Int) (m:Int):ConsM n s w m []:=λk b h=>by cases h
theorem ConsM.put {n:Notes} {s w:List Int} {m:Int} {M:List (Int×Bool)} (h:ConsM n s w m M) (i:Nat) {b:Bool} (hb:F3 n s w m i=b):ConsM n s w m (uC (i:Int) b M):=λk c hk=>by
 rw[mN] at hk;split at hk
 ·rename_i e;obtain rfl:i=k:=by omega
  cases hk;exact hb
 ·exact h k c hk
theorem Bh {n:Notes} {s w:List Int} {m:Int} {i:Nat} (hi:i<n.notes.length):F3 n s w m i=(Bg s w m n.notes[i]&&ky n.notes[i].number (n.notes.drop (i+1)) ((T4 s w m n.notes).drop (i+1))):=by
 have hl:i<(T4 s w m n.notes).length:=by rw[dQ];exact hi
 rw[<- Es hi hl,F3,List.getElem?_eq_getElem hl];rfl
theorem ua {n:Notes} {s w:List Int} {m a:Int} {k:Nat} (hk:k<n.notes.length):ky a (n.notes.drop k) ((T4 s w m n.notes).drop k)=(!(F3 n s w m k&&decide (n.notes[k].cancels=a))&&ky a (n.notes.drop (k+1)) ((T4 s w m n.notes).drop (k+1))):=by
 have hl:k<(T4 s w m n.notes).length:=by rw[dQ];exact hk
 rw[xF hk hl,F3,List.getElem?_eq_getElem hl];rfl
@[simp] abbrev Qm:List Nat:=[0,1,2,3,4,5,6,8,9,10,11,12,13,20,67]
@[simp] abbrev Ww:List Nat:=[0,1,2,3,4,5,6,11,12,13]
theorem GE (n:Notes) (s w:List Int) (m:Int) (hl:n.notes.length<1000) (hsl:s.length<1000) (hwl:w.length<1000):∀ (d i:Nat),n.notes.length-i<=d->i<n.notes.length->∀ M,ConsM n s w m M ->
 DCall prog G 214 (iv (i:Int) :: frcCaps.map .one) (P1 n s w m M) (λr o=>∃ M',ConsM n s w m M'/\r=bv (F3 n s w m i)/\o=P1 n s w m M'):=by
 intro d;induction d with
 | zero=>intro i h1 h2;omega
 | succ d ih =>
   intro i hid hi M hM;simp only[P1,frcCaps,H8,iv,bv,rI,List.map_cons,List.map_nil] at ih ⊢;refine DCall.drop ?_;refine h9 func214 rfl ntmps214 (by simp) rfl ?_;cases hb:dg (i:Int) M with
   | some b =>
     have hf:=hM i b hb;have hs:=hb;repeat' first|(with_reducible first|refine zz ?_|refine zr ?_|refine zE Qm ?_)|simp -dsimp[hs]|refine i8 ?_ ?_<;>intro h<;>try exact h.elim
     all_goals try clear hs
     exact⟨M,hM,by rw[hf],rfl⟩
   | none =>
     generalize hx:n.notes[i]=x at *;have hF:=Bh (s:=s) (w:=w) (m:=m) hi;rw[hx] at hF;have hwi:=zk i;have c1:=cM (G:=G) s x.number (by omega);have c2:=cM (G:=G) w x.number (by omega);have c3:=ig (G:=G) x.frm x.to [m] (by simp);rw[show ([m].all λz=>decide (x.frm<=z)&&decide (z<=x.to))=(decide (x.frm<=m)&&decide (m<=x.to)) by simp] at c3;have hs:=za hb (za hx (za hi hwi));repeat' first|(with_reducible first|refine zz ?_|refine zE Qm ?_)|simp -dsimp[hs]|refine zp c1 ?_|refine zp c2 ?_|refine zt c3 ?_ ?_ ?_;(focus simp;done);focus (simp;done)|refine i8 ?_ ?_<;>intro h<;>try exact h.elim|with_reducible refine j0 ?_ ?_<;>intro h<;>have h0:=h<;>(try simp only[i7] at h)<;>have h2:=h<;>(try simp at h2)<;>replace hs:=za h0 (za h (za h2 hs))
     all_goals try clear hs
     all_goals
      refine i6 (ι:={ p:Nat×Bool×List (Int×Bool) // i+1<=p.1/\p.1<=n.notes.length/\ConsM n s w m p.2.2/\F3 n s w m i=(p.2.1&&ky x.number (n.notes.drop p.1) ((T4 s w m n.notes).drop p.1)) }) (λp=>⟨92,[(0,iv (i:Int)),(1,.one (.ptr 5 0)),(2,.one (.ptr 0 0)),(3,.one (.ptr 1 0)),(4,.one (.ptr 2 0)),(5,.one (.ptr 3 0)),(6,.one (.ptr 6 0)),(11,.one (.ptr 7 0)),(12,bv p.1.2.1),(13,iv (p.1.1:Int))],[.row [.im (.ip [.sl (n.reg.map e9),.sl (n.notes.map l6),.sl ((nums n.reg).map encI),.sl ((j8 (j7 n.notes)).map encI)])],.row [.im (.sl (s.map encI))],.row [.im (.sl (w.map encI))],.row [.im (rI m)],.map [.int .i64] (G7 p.1.2.2),.row [.map 4],.row [.fn (.func 214) [.ptr 5 0,.ptr 0 0,.ptr 1 0,.ptr 2 0,.ptr 3 0,.ptr 6 0]],.row ((l6 x).map .im)]⟩) (λp=>n.notes.length-p.1.1) ⟨(i+1,Bg s w m x,M),by simp,by simp;omega,hM,hF⟩ (zw Ww 8 (by clear c1 c2 c3 ih;simp[Bg, *])) ?_
     all_goals
      clear c1 c2 c3 hF hM hb;rintro⟨⟨k,v,M2⟩,hk1,hk2,hM2,hv⟩;simp only at hk1 hk2 hM2 hv;simp only[iv,bv];cases v
      ·have hM3:=hM2.put i hv;have hs:=trivial;repeat' first|(with_reducible first|refine zz ?_|refine zr ?_|refine zE Qm ?_)|simp -dsimp[hs]|refine i8 ?_ ?_<;>intro h<;>try exact h.elim
       all_goals try clear hs
       all_goals exact⟨_,hM3,by rw[hv];rfl,rfl⟩
      ·by_cases hlk:k<n.notes.length
       ·have hwk:=zk k;have hih:=ih k (by omega) hlk M2 hM2;rw[Bool.true_and,ua hlk] at hv;generalize hy:n.notes[k]=y at *;by_cases hc:y.cancels=x.number
        ·have hvb:∀ b,F3 n s w m k=b->F3 n s w m i=(!b&&ky x.number (n.notes.drop (k+1)) ((T4 s w m n.notes).drop (k+1))):=λb hb=>by
          rw[hv,hb,decide_eq_true hc,Bool.and_true]
         have hs:=za hx (za hy (za hlk (za hwk hc)));repeat' first|with_reducible refine zz ?_|simp -dsimp[hs]|refine CallE.embed_ex [0,1,2,3,4,5,6] (hih) ?_ ?_ ?_ ?_ ?_ ?_;(focus simp[u9];done);(focus simp;done);(focus simp;done);(focus simp;done);(focus refine o4 ?_;simp[u9,r5];done);intro mm hmm;try simp -dsimp[n8,u9,hs]|refine zM 9 92 15 Qm ?_|with_reducible refine zE Qm ?_|refine i8 ?_ ?_<;>intro h<;>try exact h.elim
         all_goals try clear hs
         all_goals exact zn ⟨(k+1,!F3 n s w m k,mm),by simp only;omega,by simp only;omega,hmm,hvb _ rfl⟩ (zw Ww 8)
        ·rw[decide_eq_false hc,Bool.and_false,Bool.not_false,Bool.true_and] at hv;have hs:=za hx (za hy (za hlk (za hwk hc)));repeat' first|with_reducible refine zz ?_|simp -dsimp[hs]|refine zM 9 92 15 Qm ?_|with_reducible refine zE Qm ?_|refine i8 ?_ ?_<;>intro h<;>try exact h.elim
         all_goals try clear hs
         all_goals exact zn ⟨(k+1,true,M2),by simp only;omega,by simp only;omega,hM2,by rw[hv,Bool.true_and]⟩ (zw Ww 8)
       ·rw[Bf (by omega),Bool.and_true] at hv;have hM3:=hM2.put i hv;have hs:=hlk;repeat' first|(with_reducible first|refine zz ?_|refine zr ?_|refine zE Qm ?_)|simp -dsimp[hs]|refine i8 ?_ ?_<;>intro h<;>try exact h.elim
        all_goals try clear hs
        all_goals exact⟨_,hM3,by rw[hv],rfl⟩
def ye (n:Notes) (s w:List Int) (m d:Int) (k:Nat):Note:=Ho n.notes (T4 s w m n.notes) d k
theorem BN {n:Notes} {s w:List Int} {m d:Int} {k:Nat} (hk:k<n.notes.length):ye n s w m d (k+1)=if n.notes[k].drawing=d/\F3 n s w m k=true then n.notes[k] else ye n s w m d k:=by
 have hl:k<(T4 s w m n.notes).length:=by rw[dQ];exact hk
 unfold ye F3;simp only[Ho,List.getElem?_eq_getElem hk,List.getElem?_eq_getElem hl,Option.some.injEq,Option.getD_some];by_cases h:(T4 s w m n.notes)[k]=true<;>by_cases h2:n.notes[k].drawing=d<;>simp[h,h2]
@[simp] abbrev Wh:List Nat:=[0,1,2,6,7,8,17,36]
theorem Kv (n:Notes) (s w:List Int) (m d:Int) (hl:n.notes.length<1000) (hsl:s.length<1000) (hwl:w.length<1000) (M:List (Int×Bool)) (hM:ConsM n s w m M) :
 DCall prog G 184 [.one (.im (H8 n)),.one (.fn (.func 214) frcCaps),iv d] (P1 n s w m M) (λr o=>∃ M',ConsM n s w m M'/\r=fm (ye n s w m d n.notes.length)/\o=P1 n s w m M'):=by
 have ih:=λi hi M hM=>GE (G:=G) n s w m hl hsl hwl n.notes.length i (by omega) hi M hM;simp only[P1,frcCaps,H8,iv,bv,rI,fm,l6,rB,List.map_cons,List.map_nil] at ih ⊢;refine DCall.drop ?_;refine h9 func184 rfl ntmps184 (by simp) rfl ?_;have hw0:IntKind.i64.wrap ((n.notes.length:Int)-1)=(n.notes.length:Int)-1:=n4 (by omega) (by omega);have hs:=hw0;repeat' first|with_reducible refine zz ?_|with_reducible refine zE Wh ?_;try simp -dsimp[hs]
 all_goals try simp -dsimp[hs]
 all_goals try clear hs
 refine i6 (ι:={ p:Nat×List (Int×Bool) // p.1<=n.notes.length/\ConsM n s w m p.2/\ye n s w m d n.notes.length=ye n s w m d p.1 }) (λp=>⟨39,[(0,.one (.im (.ip [.sl (n.reg.map e9),.sl (n.notes.map l6),.sl ((nums n.reg).map encI),.sl ((j8 (j7 n.notes)).map encI)]))),(1,.one (.fn (.func 214) [.ptr 5 0,.ptr 0 0,.ptr 1 0,.ptr 2 0,.ptr 3 0,.ptr 6 0])),(2,iv d),(6,.one (.ptr 7 0)),(7,iv ((p.1.1:Int)-1))],[.row [.im (.ip [.sl (n.reg.map e9),.sl (n.notes.map l6),.sl ((nums n.reg).map encI),.sl ((j8 (j7 n.notes)).map encI)])],.row [.im (.sl (s.map encI))],.row [.im (.sl (w.map encI))],.row [.im (rI m)],.map [.int .i64] (G7 p.1.2),.row [.map 4],.row [.fn (.func 214) [.ptr 5 0,.ptr 0 0,.ptr 1 0,.ptr 2 0,.ptr 3 0,.ptr 6 0]],.row ((l6 ⟨0,0,0,0,0,0,0,0,false,0⟩).map .im)]⟩) (λp=>p.1.1) ⟨(n.notes.length,M),by simp,hM,rfl⟩ (zv [0,1,2,6,7]) ?_;clear hM;rintro⟨⟨k,M2⟩,hk,hM2,hv⟩;simp only at hk hM2 hv;simp only[iv];cases k with
 | zero =>
   have hs:=trivial;repeat' first|(with_reducible first|refine zz ?_|refine zr ?_)|with_reducible refine zE Wh ?_;try simp -dsimp[hs]|refine i8 ?_ ?_<;>intro h<;>try exact h.elim
   all_goals try simp -dsimp[hs]
   all_goals try clear hs
   exact⟨M2,hM2,by rw[hv];simp[ye,Ho,ma],rfl⟩
 | succ k =>
   have hkl:k<n.notes.length:=hk;have hwk:IntKind.i64.wrap ((k:Int)-1)=(k:Int)-1:=n4 (by omega) (by omega);have hc:=ih k hkl M2 hM2;rw[BN hkl] at hv;generalize hx:n.notes[k]=x at *;by_cases hd:x.drawing=d
   ·have hs:=za hx (za hkl (za hwk hd));repeat' first|(with_reducible first|refine zz ?_|refine zr ?_)|refine CallE.embed_ex [0,1,2,3,4,5,6] (hc) ?_ ?_ ?_ ?_ ?_ ?_;(focus simp[u9];done);(focus simp;done);(focus simp;done);(focus simp;done);(focus refine o4 ?_;simp[u9,r5];done);intro mm hmm;try simp -dsimp[n8,u9,hs]|with_reducible refine zE Wh ?_;try simp -dsimp[hs]|refine i8 ?_ ?_<;>intro h<;>try exact h.elim
    all_goals try simp -dsimp[hs]
    all_goals try clear hs
    ·have e:=hv.trans (if_pos ⟨hd,by assumption⟩);exact⟨mm,hmm,by rw[e];simp[hd],rfl⟩
    ·have hf:F3 n s w m k=false:=by assumption
     have e:=hv.trans (if_neg λh=>by rw[hf] at h;exact Bool.false_ne_true h.2);exact At.round ⟨(k,mm),by simp only;omega,hmm,e⟩ (by simp) (zw [0,1,2,6,7] 8)
   ·rw[if_neg λh=>hd h.1] at hv;have hs:=za hx (za hkl (za hwk hd));repeat' first|with_reducible refine zz ?_|with_reducible refine zE Wh ?_;try simp -dsimp[hs]|refine i8 ?_ ?_<;>intro h<;>try exact h.elim
    all_goals try simp -dsimp[hs]
    all_goals try clear hs
    exact At.round ⟨(k,M2),by simp only;omega,hM2,hv⟩ (by simp) (zw [0,1,2,6,7] 8)
def gX (n:Notes) (s:List Int) (m:Int):List Int:=(nums n.reg).map λd=>(ye n s [] m d n.notes.length).letter
@[simp] abbrev Wx:List Nat:=[0,1,2,6,7,8,10,18,19,20,21]
theorem tL (n:Notes) (s:List Int) (m:Int) (hl:n.notes.length<1000) (hr:n.reg.length<1000) (hsl:s.length<1000):zP prog G 139 [.one (.im (H8 n)),q9 s,iv m] (q9 (gX n s m)):=by
 refine zf func139 ntmps139 ?_;try simp only[q9,iv]
 have c1:=vL (G:=G) n s [] m;simp only[P1,frcCaps,H8,iv,q9,bv,rI,List.map_cons,List.map_nil,G7] at c1 ⊢;have hs:=trivial;repeat' first|with_reducible refine zz ?_|refine CallE.embed [] (c1) ?_ ?_ ?_ ?_ ?_ ?_;(focus simp[u9];done);(focus simp;done);(focus simp;done);(focus simp;done);(focus refine o4 ?_;simp[u9,r5];done);try simp -dsimp[n8,u9,hs]|with_reducible refine zE Wx ?_;try simp -dsimp[hs]
 all_goals try simp -dsimp[hs]
 have hrl:=s7 n.reg n.reg.length;rw[show E3 n.reg n.reg.length=nums n.reg from rfl] at hrl;have hE:gX n s m=(nums n.reg).map λd=>(ye n s [] m d n.notes.length).letter:=rfl;generalize hP:(λd=>(ye n s [] m d n.notes.length).letter)=P at *;generalize hns:nums n.reg=ns at *;refine i6 (ι:={ p:Nat×Nat×Bool×List (Int×Bool) // p.1<=ns.length/\ConsM n s [] m p.2.2.2 }) (λp=>⟨34,[(0,.one (.im (.ip [.sl (n.reg.map e9),.sl (n.notes.map l6),.sl (ns.map encI),.sl ((j8 (j7 n.notes)).map encI)]))),(7,.one (.fn (.func 214) [.ptr 6 0,.ptr 1 0,.ptr 2 0,.ptr 3 0,.ptr 4 0,.ptr 7 0])),(8,.one (.vec 8 p.1.2.1 0 p.1.1)),(18,q9 ns),(19,iv (ns.length:Int)),(20,iv (p.1.1:Int))],[.vec 1 [] 0 true]++[.row [.im (.ip [.sl (n.reg.map e9),.sl (n.notes.map l6),.sl (ns.map encI),.sl ((j8 (j7 n.notes)).map encI)])],.row [.im (.sl (s.map encI))],.row [.im (.sl [])],.row [.im (rI m)],.map [.int .i64] (G7 p.1.2.2.2),.row [.map 5],.row [.fn (.func 214) [.ptr 6 0,.ptr 1 0,.ptr 2 0,.ptr 3 0,.ptr 4 0,.ptr 7 0]]]++[.vec 1 (l5 (((ns.take p.1.1).map P).map encI)) p.1.2.1 p.1.2.2.1]⟩) (λp=>ns.length-p.1.1) ⟨(0,0,true,[]),by simp,ConsM.nil _ _ _ _⟩ (zv [0,7,8,18,19,20] (by simp[G7])) ?_;rintro⟨⟨k,g,nl,M⟩,hk,hM⟩;simp only at hk hM;simp only[iv,q9];have hlk:((ns.take k).map P).length=k:=by simp;omega
 by_cases hlt:k<ns.length
 ·have hw:=zk k;have hst:(ns.take (k+1)).map P=(ns.take k).map P++[P ns[k]]:=by rw[List.take_succ_eq_append_getElem hlt,List.map_append,List.map_singleton]
  generalize hx:ns[k]=x at *;have c2:=Kv (G:=G) n s [] m x hl hsl (by simp) M hM;have hPx:(ye n s [] m x n.notes.length).letter=P x:=by rw[<- hP]
  simp only[P1,frcCaps,H8,iv,bv,rI,List.map_cons,List.map_nil,hns] at c2;generalize (ns.take k).map P=L at *;subst hlk;have hs:=za hx (za hlt (za hw hPx));repeat' first|(with_reducible first|refine zz ?_|refine And.intro (by omega) ?_)|refine CallE.embed_ex [1,2,3,4,5,6,7] (c2) ?_ ?_ ?_ ?_ ?_ ?_;(focus simp[u9];done);(focus simp;done);(focus simp;done);(focus simp;done);(focus refine o4 ?_;simp[u9,r5];done);intro mm hmm;try simp -dsimp[n8,u9,hs]|with_reducible refine zE Wx ?_;try simp -dsimp[hs]|refine i8 ?_ ?_<;>intro h<;>try exact h.elim
  all_goals try simp -dsimp[hs]
  all_goals exact zn ⟨(L.length+1,g+1,false,mm),by simp only;omega,hmm⟩ (zw [0,7,8,18,19,20] 9 (by simp[hst,hPx]))
 ·obtain rfl:k=ns.length:=by omega
  rw[List.take_length] at hlk ⊢;have hs:=hlt;repeat' first|(with_reducible first|refine zz ?_|refine zr ?_)|with_reducible refine zE Wx ?_;try simp -dsimp[hs]|refine i8 ?_ ?_<;>intro h<;>try exact h.elim
  all_goals try simp -dsimp[hs]
  simp[hE]
theorem fL (n:Notes) (s:List Int) (m:Int) (hG:o3 G) (hN:E0 G) (hS:u4 G) (hs:zb n) (hsl:s.length<1000):zP prog G 86 [o5 n,q9 s,iv m] (.tup [q9 (if D5 n s m=0 then gX n s m else []),iv (D5 n s m)]):=by
 refine zf func86 ntmps86 ?_;try simp only[o5,q9,iv]
 have c1:=vY n s m hG hN hS hs hsl;by_cases h0:D5 n s m=0
 ·rw[h0,show Q3 n s m=.one (.im (H8 n)) by unfold Q3;rw[if_pos h0]] at c1;have hl12:=hs.2.1;have hr80:=hs.1.1;have c2:=tL (G:=G) n s m (by omega) (by omega) hsl;simp only[H8] at c1 c2;rw[if_pos h0];have hs:=trivial;repeat' first|(with_reducible first|refine zz ?_|refine zr ?_)|(first|refine zp c1 ?_|refine zp c2 ?_|with_reducible refine zE [0,1,2,3,6,7,8,9,18] ?_);try simp -dsimp[hs]|refine i8 ?_ ?_<;>intro h<;>try exact h.elim
  all_goals try simp -dsimp[hs]
  all_goals try clear hs
  all_goals simp[h0]
 ·rw[show Q3 n s m=.one (.im (.raw (.pointer none))) by unfold Q3;rw[if_neg h0]] at c1;have hs:=h0;repeat' first|(with_reducible first|refine zz ?_|refine zr ?_)|(first|refine zp c1 ?_|with_reducible refine zE [0,1,2,3,6,7,8,9,18] ?_);try simp -dsimp[hs]|refine i8 ?_ ?_<;>intro h<;>try exact h.elim
  all_goals try simp -dsimp[hs]
  all_goals try clear hs
  all_goals simp[h0]
end Go.Proofs
namespace Go.Proofs
open Go Go.Ab
def bP (l:List Note):List Nat:=((List.range l.length).filter (kr l)).mergeSort λa b=>decide (C5 l a<=C5 l b)
theorem lY (l:List Note):OpenTo l l.length (bP l):=by
 refine⟨List.mergeSort_perm _ _,?_⟩;have:=List.pairwise_mergeSort (le:=λa b:Nat=>decide (C5 l a<=C5 l b)) (λa b c h1 h2=>by simp at *;omega) (λa b=>by simp;omega) ((List.range l.length).filter (kr l));exact this.imp λh=>by simpa using h
theorem Ap {n:Notes} (hok:di n) {S:List Nat} (h:OpenTo n.notes n.notes.length S):S=bP n.notes:=by
 have h2:=lY n.notes;refine(h.perm.trans h2.perm.symm).eq_of_pairwise (le:=λa b=>C5 n.notes a<=C5 n.notes b) (λa b ha hb h3 h4=>?_) h.srt h2.srt;have la:=(h.lt a ha).1;have lb:=(h2.lt b hb).1;have e:C5 n.notes a=C5 n.notes b:=by omega
 simp only[C5,List.getElem?_eq_getElem la,List.getElem?_eq_getElem lb,Option.map_some,Option.getD_some] at e;have hnd:=lZ hok;have la':a<(n.notes.map (·.number)).length:=by simpa using la
 have lb':b<(n.notes.map (·.number)).length:=by simpa using lb
 have e':(n.notes.map (·.number))[a]=(n.notes.map (·.number))[b]:=by simpa using e
 exact(List.getElem_inj hnd).1 e'
theorem tp {n:Notes}:(bP n.notes).map (C5 n.notes)=j8 (j7 n.notes):=(lY n.notes).nums
theorem Ao {l:List Note} {i:Nat} (h:i∈bP l):i<l.length:=((lY l).lt i h).1
end Go.Proofs
namespace Go.Ab
open Go
@[simp] theorem IZ (X:List (List IC)) (k:Nat) (c:IC):(l5 X).set k [DC.im c]=l5 (X.set k [c]):=by
 simp only[l5,List.map_set,List.map_cons,List.map_nil]
@[simp] theorem Je (X:List (List IC)) (k:Nat) (h:k<(l5 X).length):(l5 X)[k]=(X[k]'(by simpa[q8] using h)).map .im:=by simp[l5]
theorem jR (S:List Nat) (i v:Nat):(S.map λj=>((j:Nat):Int)).set i (v:Int)=(S.set i v).map λj=>((j:Nat):Int):=by
 rw[List.map_set]
theorem AR {S:List Nat} {q k:Nat} (hq:q<S.length):((S.take (q+1)++k :: S.drop (q+1)).set (q+1) S[q]).set q k=S.take q++k :: S.drop q:=by
 have h1:S.take (q+1)=S.take q++[S[q]]:=List.take_succ_eq_append_getElem hq;have hl:(S.take q).length=q:=by simp;omega
 rw[List.drop_eq_getElem_cons hq,h1,List.append_assoc,List.set_append_right _ _ (by omega),List.set_append_right _ _ (by omega)]
 congr 1
 rw[hl,show q+1-q=1 by omega,show q-q=0 by omega];rfl
theorem GF {S:List Nat} {q k:Nat} (hq:q<=S.length):(S.take q++k :: S.drop q)[q]?=some k:=by
 have hl:(S.take q).length=q:=by simp;omega
 rw[List.getElem?_append_right (by omega),hl,Nat.sub_self];rfl
theorem tT {S:List Nat} {q k:Nat} (hq:q<S.length):(S.take (q+1)++k :: S.drop (q+1))[q]?=some S[q]:=by
 rw[List.getElem?_append_left (by simp;omega),List.getElem?_take_of_lt (by omega),List.getElem?_eq_getElem hq]
end Go.Ab
namespace Go.Proofs
open Go Go.Ab
variable {G:LI}
def V9 (S:List Nat):List Int:=S.map λj=>((j:Nat):Int)
@[simp] abbrev Qn:List Nat:=[0,1,2,3,4,5,6,11,20,51]
theorem Du (n:Notes) (hs:zb n) (hok:di n):zP Tryz.prog G 85 [o5 n] (q9 (V9 (bP n.notes))):=by
 refine zf Tryz.func85 Tryz.ntmps85 ?_;try simp only[o5]
 have hn16:=hs.2.1;have hs:=trivial;repeat' first|(with_reducible first|refine zz ?_|refine zE Qn ?_)|simp -dsimp[hs]
 all_goals try clear hs
 refine i6 (ι:={ p:Nat×Nat×Bool×List Nat // p.1<=n.notes.length/\OpenTo n.notes p.1 p.2.2.2 }) (λp=>⟨72,[(1,.one (.ptr 0 0)),(3,.one (.vec 2 p.1.2.1 0 (V9 p.1.2.2.2).length)),(4,iv (p.1.1:Int))],[.row ((p7 n).map .im),.vec 1 [] 0 true,.vec 1 (l5 ((V9 p.1.2.2.2).map encI)) p.1.2.1 p.1.2.2.1]⟩) (λp=>n.notes.length-p.1.1) ⟨(0,0,true,[]),by simp,OpenTo.nil _⟩ (zv [1,3,4] (by simp[V9])) ?_;rintro⟨⟨i,g,nl,S⟩,hi,hS⟩;simp only at hi hS;simp only[iv];have hSl:=hS.len;by_cases hlt:i<n.notes.length
 ·have hw:=zk i;have hop:kr n.notes i=decide (n.notes[i].signed=1):=by simp[kr,hlt]
  have hnu:C5 n.notes i=n.notes[i].number:=by simp[C5,hlt]
  generalize hx:n.notes[i]=x at *;by_cases h1:x.signed=1
  ·have hLl:(V9 S).length=S.length:=by simp[V9]
   have hw2:IntKind.i64.wrap ((V9 S).length:Int)=((V9 S).length:Int):=n4 (by omega) (by omega);rw[decide_eq_true h1] at hop;have hs:=za hx (za hlt (za h1 (za hw hw2)));repeat' first|(with_reducible first|refine zz ?_|refine And.intro (by omega) ?_|refine zE Qn ?_)|simp -dsimp[hs]|refine i8 ?_ ?_<;>intro h<;>try exact h.elim
   all_goals try clear hs
   refine i6 (ι:={ q:Nat // q<=S.length/\∀ j∈S.drop q,C5 n.notes i<=C5 n.notes j }) (λp=>⟨72,[(1,.one (.ptr 0 0)),(3,.one (.vec 2 (g+1) 0 (S.length+1))),(4,iv (i:Int)),(5,iv (p.1:Int))],[.row ((p7 n).map .im),.vec 1 [] 0 true,.vec 1 (l5 ((V9 (S.take p.1++i :: S.drop p.1)).map encI)) (g+1) false]⟩) (λp=>p.1) ⟨S.length,by simp⟩ (zw [1,3,4,5] 3 (by simp[hLl];simp[V9])) ?_;rintro⟨q,hq,hge⟩;simp only[iv];have hLq:=GF (k:=i) hq;have hTl:(V9 (S.take q++i :: S.drop q)).length=S.length+1:=by simp[V9];omega
   have hLi:(V9 (S.take q++i :: S.drop q))[q]?=some (i:Int):=by rw[V9,List.getElem?_map,hLq];rfl
   by_cases h0:q=0
   ·subst h0;have hput:=hS.put hop 0 (by simp) hge;have hs:=za hw (za hx hlt);repeat' first|with_reducible refine zz ?_|simp -dsimp[hs]|refine zM 8 72 24 Qn ?_|with_reducible refine zE Qn ?_|refine i8 ?_ ?_<;>intro h<;>try exact h.elim
    all_goals try clear hs
    exact zn ⟨(i+1,g+1,false,S.take 0++i :: S.drop 0),by omega,hput⟩ (zv [1,3,4] (by simp[V9]))
   ·obtain⟨r,rfl⟩:∃ r,q=r+1:=⟨q-1,by omega⟩
    have hr:r<S.length:=by omega
    have hb:=tT (k:=i) hr;have hLr:(V9 (S.take (r+1)++i :: S.drop (r+1)))[r]?=some (S[r]:Int):=by rw[V9,List.getElem?_map,hb];rfl
    have hsw:=AR (k:=i) hr;have hLs:((V9 (S.take (r+1)++i :: S.drop (r+1))).set (r+1) (S[r]:Int)).set r (i:Int)=V9 (S.take r++i :: S.drop r):=by
     rw[V9,jR,jR,hsw];rfl
    have hj:=(hS.lt S[r] (List.getElem_mem hr)).1;have hjl:S[r]<n.notes.length:=by omega
    have hju:C5 n.notes S[r]=n.notes[S[r]].number:=by simp[C5,hjl]
    have hdr:=List.drop_eq_getElem_cons hr;have hfirst:=λ(v:Int) h=>hS.first hr (v:=v) h;have hput:=λh=>hS.put hop (r+1) h hge;have hq1:((r+1:Nat):Int)-1=(r:Int):=by omega
    have hwr:IntKind.i64.wrap (r:Int)=(r:Int):=n4 (by omega) (by omega);have hr1:r<S.length+1:=by omega
    have hp0:(0:Int)<=(r:Int)+1:=by omega
    have hp1:(0:Int)<(r:Int)+1:=by omega
    have hwr1:IntKind.i64.wrap ((r:Int)+1-1)=(r:Int):=n4 (by omega) (by omega) |>.trans (by omega);generalize S[r]=j at *;generalize hy:n.notes[j]=y at *;generalize hL:V9 (S.take (r+1)++i :: S.drop (r+1))=L at *;obtain⟨_,hLre⟩:=List.getElem?_eq_some_iff.1 hLr;obtain⟨_,hLie⟩:=List.getElem?_eq_some_iff.1 hLi;have hs:=za hw (za hx (za hlt (za hy (za hjl (za hLie (za hLre (za hwr (za hTl (za hr (za hr1 (za hp0 (za hp1 hwr1))))))))))));repeat' first|with_reducible refine zz ?_|simp -dsimp[hs]|refine zM 8 72 24 Qn ?_|with_reducible refine zE Qn ?_|refine i8 ?_ ?_<;>intro h<;>try exact h.elim
    all_goals try clear hs
    ·exact At.round ⟨r,by omega,λz hz=>by
      rw[hdr] at hz;rcases List.mem_cons.1 hz with rfl|hz
      ·omega
      ·exact hge z hz⟩ (by simp) (zv [1,3,4,5] (by simp[<- hLs]))
    ·exact zn ⟨(i+1,g+1,false,S.take (r+1)++i :: S.drop (r+1)),by omega,hput (hfirst _ (by omega))⟩ (zv [1,3,4] (by simp[hL,hTl]))
  ·rw[decide_eq_false h1] at hop;have hs:=za hx (za hlt (za h1 hw));repeat' first|(with_reducible first|refine zz ?_|refine zE Qn ?_)|simp -dsimp[hs]|refine i8 ?_ ?_<;>intro h<;>try exact h.elim
   all_goals try clear hs
   exact zn ⟨(i+1,g,nl,S),by omega,hS.skip hop⟩ (zv [1,3,4])
 ·obtain rfl:i=n.notes.length:=by omega
  obtain rfl:=Ap hok hS;have hs:=hlt;repeat' first|(with_reducible first|refine zz ?_|refine zr ?_|refine zE Qn ?_)|simp -dsimp[hs]|refine i8 ?_ ?_<;>intro h<;>try exact h.elim
  all_goals try clear hs
  all_goals simp[V9]
end Go.Proofs
namespace Go.Proofs
open Go Go.Ab
variable {G:LI}
def u6 (n:Notes) (s:List Int) (m:Int):List Int:=(nums n.reg).map λd=>gY n.notes (T4 s [] m n.notes) d
end Go.Proofs
namespace Go.Proofs
open Go Go.Ab
theorem Hp (n:Notes) (s w:List Int) (m d:Int):ye n s w m d n.notes.length=if qb n.notes (T4 s w m n.notes) d n.notes.length<0 then ma else (n.notes[(qb n.notes (T4 s w m n.notes) d n.notes.length).toNat]?).getD ma:=by
 unfold ye;rw[Fz _ _ _ _ (Nat.le_refl _)];split
 ·rfl
 ·split<;>simp[*]
theorem EH {l:List Note} {b:List Bool} {d:Int} {k:Nat} (hk:k<=l.length) (h:¬ qb l b d k<0):(qb l b d k).toNat<l.length:=by
 have:=(BM l b d k).2;omega
theorem fO (n:Notes) (s:List Int) (m:Int):gX n s m=u6 n s m:=by
 refine List.map_congr_left λd _=>?_;rw[Hp];unfold gY;rw[dQ];split
 ·rfl
 ·rename_i h;have hl:=EH (Nat.le_refl _) h;rw[List.getElem?_eq_getElem hl];rfl
end Go.Proofs
namespace Go.Ab
open Go
def r7:List Int->List Int
 | []=>[]
 | [a]=>[a]
 | a :: b :: r=>if a=b then r7 (b :: r) else a :: r7 (b :: r)
theorem kb:∀ (l:List Int) (u v:Int),r7 (l++[u,v])=if u=v then r7 (l++[u]) else r7 (l++[u])++[v]
 | [],u,v=>by simp only[List.nil_append,r7];split<;>simp[*]
 | [a],u,v=>by
   simp only[List.cons_append,List.nil_append,r7];split<;>split<;>simp[*]
 | a :: b :: r,u,v=>by
   have ih:=kb (b :: r) u v;simp only[List.cons_append,r7] at ih ⊢;rw[ih];split<;>split<;>simp
theorem aL:∀ l:List Int,(r7 l).length<=l.length
 | []=>by simp[r7]
 | [a]=>by simp[r7]
 | a :: b :: r=>by
   have:=aL (b :: r);simp only[r7];split<;>simp at *<;>omega
theorem gc:∀ (l:List Int) (x:Int),x∈r7 l↔x∈l
 | [],x=>by simp[r7]
 | [a],x=>by simp[r7]
 | a :: b :: r,x=>by
   have ih:=gc (b :: r) x;simp only[r7];split
   ·rename_i h;subst h;rw[ih];simp
   ·rw[List.mem_cons,ih,List.mem_cons (a:=x) (b:=a)]
theorem zi {l:List Int} {k:Nat} (h:k+1<l.length):l.take (k+2)=l.take k++[l[k],l[k+1]]:=by
 rw[show k+2=k+1+1 from rfl,List.take_succ_eq_append_getElem h,List.take_succ_eq_append_getElem (by omega),List.append_assoc];rfl
theorem mE {l:List Int} {k:Nat} (h:k+1<l.length):r7 (l.take (k+2))=if l[k]=l[k+1] then r7 (l.take (k+1)) else r7 (l.take (k+1))++[l[k+1]]:=by
 rw[zi h,kb,List.take_succ_eq_append_getElem (by omega)]
theorem qz {l:List Int} {k:Nat} {v:Int} (h:k<l.length):(l.set k v).take (k+1)=l.take k++[v]:=by
 rw[List.take_succ_eq_append_getElem (by simpa using h)];simp[List.take_set_of_le]
end Go.Ab
