/- Part 16 of the proofs. -/
import Derived.Test.YtjodaihiogfkbaaGreatDoorU14
import Derived.Test.YtjodaihiogfkbaaGreatDoorU15
set_option linter.all false
set_option maxHeartbeats 100000000
namespace Go.Proofs
open Go Go.Ab Tryz
variable {G:MF}
theorem Bm (n:Notes) (hG:p5 G) (hN:D5 G) (hS:u6 G) (hs:wG n):zP prog G 259 [o8 n] (iv (p7 n)):=by
 refine zf func259 ntmps259 ?_;try simp only[o8]
 have c1:=iB n hG hN hS hs;have hs:=trivial;repeat' first|(with_reducible first|refine zz ?_|refine zr ?_|refine zE [0,1,2,4] ?_)|simp -dsimp[hs]|refine zp c1 ?_
 all_goals try clear hs
theorem wY {O:List Int} {j:Nat} (hd:O.Nodup) (hj:j<O.length):pG O[j] (O.take j)=O.take (j+1):=by
 unfold pG;rw[if_neg,List.take_succ_eq_append_getElem hj];intro hm;obtain⟨i,hi,e⟩:=List.mem_take_iff_getElem.1 hm;have:=(List.getElem_inj hd).1 e;omega
@[simp] abbrev QB:List Nat:=[0,1,4,5,7,8,9,14,15,16,17,23,24,25,26,46]
theorem DN (a b c:IC) (O s:List Int) (hd:O.Nodup) (hO:O.length<1000) (hsl:s.length<1000):zP prog G 193 [.one (.im (.ip [a,b,c,.sl (O.map encI)])),v8 s] (iv (if J0 O s then 0 else 31)):=by
 refine zf func193 ntmps193 ?_;try simp only[v8]
 have hs:=trivial;repeat' first|(with_reducible first|refine zz ?_|refine zE QB ?_)|simp -dsimp[hs]
 refine i6 (ι:={ j:Nat // j<=O.length }) (λp=>⟨50,[(1,v8 s),(4,iv 0),(5,.one (.map 0)),(14,.one (.im (.sl (O.map encI)))),(15,iv (O.length:Int)),(16,iv (p.1:Int))],[.map [.int .i64] (J8 (O.take p.1))]⟩) (λp=>O.length-p.1) ⟨0,by omega⟩ (zv [1,4,5,14,15,16] (by simp[J8])) ?_;rintro⟨j,hj⟩;simp only[iv,v8];by_cases hlt:j<O.length
 ·have hw:=zk j;have hst:=wY hd hlt;generalize hx:O[j]=x at *;have hs:=za hx (za hlt (za hw hst));repeat' first|(with_reducible first|refine zz ?_|refine zE QB ?_)|simp -dsimp[hs]|refine i9 ?_ ?_<;>intro h<;>try exact h.elim
  exact zn ⟨j+1,by omega⟩ (zv [1,4,5,14,15,16] (by simp[hst]))
 ·obtain rfl:j=O.length:=by omega
  rw[List.take_length];have hs:=hlt;repeat' first|(with_reducible first|refine zz ?_|refine zE QB ?_)|simp -dsimp[hs]|refine i9 ?_ ?_<;>intro h<;>try exact h.elim
  refine i6 (ι:={ p:Nat×List Int // p.1<=s.length/\p.2.Nodup/\(∀ m,m∈p.2↔m∈O/\m∉s.take p.1)/\eW O s p.1 }) (λp=>⟨50,[(1,v8 s),(5,.one (.map 0)),(23,v8 s),(24,iv (s.length:Int)),(25,iv (p.1.1:Int))],[.map [.int .i64] (J8 p.1.2)]⟩) (λp=>s.length-p.1.1) ⟨(0,O),by simp,hd,by simp,λi v h=>by omega⟩ (zv [1,5,23,24,25]) ?_;rintro⟨⟨i,L⟩,hi,hLd,hLm,hto⟩;simp only at hi hLd hLm hto;simp only[iv,v8];by_cases hlt2:i<s.length
  ·have hx0:s[i]?=some s[i]:=by simp[hlt2]
   have hw:=zk i;have hLv:=hLm s[i];have hLn:∀ m,m∈L.erase s[i]↔m∈O/\m∉s.take (i+1):=λm=>by
    rw[hLd.mem_erase_iff,hLm,List.take_succ_eq_append_getElem hlt2];simp only[List.mem_append,List.mem_singleton,not_or];exact⟨λh=>⟨h.2.1,h.2.2,h.1⟩,λh=>⟨h.2.2,h.1,h.2.1⟩⟩
   have hLe:=hLd.erase s[i];generalize hv:s[i]=v at *;by_cases hmem:v∈L
   ·have hmd:decide (v∈L)=true:=by simp[hmem]
    by_cases h00:i=0
    ·have hnext:=gY hto hx0 (hLv.1 hmem).1 (λj u e=>by omega);subst h00;have hs:=za hv (za hlt2 (za hmd hmem));repeat' first|(with_reducible first|refine zz ?_|refine zE QB ?_)|simp -dsimp[hs]|refine i9 ?_ ?_<;>intro h<;>try exact h.elim
     exact zn ⟨(0+1,L.erase v),by omega,hLe,hLn,hnext⟩ (zv [1,5,23,24,25] (by simp;exact p9 (by omega) (by omega)))
    ·have hq:i-1<s.length:=by omega
     have hwq:IntKind.i64.wrap ((i:Int)-1)=((i-1:Nat):Int):=by rw[p9 (by omega) (by omega)];omega
     have hi0:(0:Int)<(i:Int):=by omega
     have hin0:0<i:=by omega
     have hu0:s[i-1]?=some s[i-1]:=by simp[hq]
     have hnin:s[i-1]≠v:=λe=>(hLv.1 hmem).2 (e ▸ List.mem_take_iff_getElem.2 ⟨i-1,by omega,rfl⟩);generalize hu:s[i-1]=u at *;by_cases hlu:v<u
     ·have hb:=nS (o:=O) hx0 (.inr ⟨i-1,u,by omega,hu0,by omega⟩);have hs:=za hv (za hu (za hq (za hlt2 (za hw (za hwq (za hmd (za hmem (za hi0 (za hin0 hlu)))))))));repeat' first|(with_reducible first|refine zz ?_|refine zr ?_|refine zE QB ?_)|simp -dsimp[hs]|refine i9 ?_ ?_<;>intro h<;>try exact h.elim
      all_goals simp[hb]
     ·have hnext:=gY hto hx0 (hLv.1 hmem).1 (λj u' e hu'=>by
       obtain rfl:i-1=j:=by omega
       rw[hu0] at hu';cases hu';omega)
      have hs:=za hv (za hu (za hq (za hlt2 (za hw (za hwq (za hmd (za hmem (za hi0 (za hin0 hlu)))))))));repeat' first|(with_reducible first|refine zz ?_|refine zE QB ?_)|simp -dsimp[hs]|refine i9 ?_ ?_<;>intro h<;>try exact h.elim
      exact zn ⟨(i+1,L.erase v),by omega,hLe,hLn,hnext⟩ (zv [1,5,23,24,25])
   ·have hmd:decide (v∈L)=false:=by simp[hmem]
    have hb:J0 O s=false:=by
     refine nS hx0 ?_;by_cases ho:v∈O
     ·refine .inr ?_;cases i with
      | zero=>exact absurd (hLv.2 ⟨ho,by simp⟩) hmem
      | succ q =>
        have hq:q<s.length:=by omega
        refine⟨q,s[q],rfl,by simp[hq],Int.not_lt.1 λhlt3=>hmem (hLv.2 ⟨ho,qS hto hq hlt3⟩)⟩
     ·exact .inl ho
    have hs:=za hv (za hlt2 (za hmd hmem));repeat' first|(with_reducible first|refine zz ?_|refine zr ?_|refine zE QB ?_)|simp -dsimp[hs]|refine i9 ?_ ?_<;>intro h<;>try exact h.elim
    all_goals simp[hb]
  ·have hb:J0 O s=true:=gh (qT (by rwa [show i=s.length by omega] at hto));have hs:=hlt2;repeat' first|(with_reducible first|refine zz ?_|refine zr ?_|refine zE QB ?_)|simp -dsimp[hs]|refine i9 ?_ ?_<;>intro h<;>try exact h.elim
   all_goals simp[hb]
def E5 (n:Notes) (s:List Int) (m:Int):Int:=if p7 n≠0 then p7 n else if J0 (l5 (j7 n.notes)) s=false then 31 else if 1<=m/\m<=999 then 0 else 2
def R6 (n:Notes) (s:List Int) (m:Int):DV:=if E5 n s m=0 then .one (.im (G7 n)) else .one (.im (.raw (.pointer none)))
theorem yW (n:Notes) (s:List Int) (m:Int):ImV (R6 n s m):=by unfold R6;split<;>simp[G7]
attribute [simp] yW
theorem Dd {n:Notes} {s:List Int} {m:Int} (h:E5 n s m=0):p7 n=0/\J0 (l5 (j7 n.notes)) s=true/\1<=m/\m<=999:=by
 unfold E5 at h;split at h
 ·contradiction
 ·split at h
  ·cases h
  ·split at h
   ·rename_i h1 h2 h3;exact⟨by simpa using h1,by simpa using h2,h3⟩
   ·cases h
theorem aR {n:Notes} (h:p7 n=0):l6 n.reg=0/\n.notes.length<=12/\ak n/\(j7 n.notes).length<=5:=by
 unfold p7 at h;split at h
 ·contradiction
 ·split at h
  ·rename_i h1 h2;exact⟨by simpa using h1,notesB_iff.1 h2⟩
  ·cases h
@[simp] abbrev Wq:List Nat:=[0,1,2,3,6,7,8,9,10,17,23,28]
theorem wE (n:Notes) (s:List Int) (m:Int) (hG:p5 G) (hN:D5 G) (hS:u6 G) (hs:wG n) (hsl:s.length<1000):zP prog G 128 [o8 n,v8 s,iv m] (.tup [R6 n s m,iv (E5 n s m)]):=by
 refine zf func128 ntmps128 ?_;try simp only[o8,v8,iv]
 have c1:=iB n hG hN hS hs;by_cases h0:p7 n=0
 ·rw[h0,show bD n=.one (.im (G7 n)) by unfold bD;rw[if_pos h0]] at c1;have hok:=aR h0;have hnl:=hs.2.1;have hol:=S7 n.notes;have c2:=DN (G:=G) (.sl (n.reg.map e8)) (.sl (n.notes.map j9)) (.sl ((nums n.reg).map encI)) (l5 (j7 n.notes)) s (rR (N4 hok.2.2.1)) (by rw[O9];omega) hsl;have c3:=iN (G:=G) 1 999 [m] (by simp);have hE:E5 n s m=if J0 (l5 (j7 n.notes)) s=false then 31 else if 1<=m/\m<=999 then 0 else 2:=by unfold E5;rw[if_neg (by simp[h0])]
  simp only[G7] at c1;cases ht:J0 (l5 (j7 n.notes)) s
  ·rw[ht] at c2 hE;have hE:E5 n s m=31:=by rw[hE];rfl
   have hs:=trivial;repeat' first|(with_reducible first|refine zz ?_|refine zr ?_|refine zE Wq ?_)|simp -dsimp[hs]|refine zp c1 ?_|refine zp c2 ?_|refine i9 ?_ ?_<;>intro h<;>try exact h.elim
   all_goals try clear hs
   all_goals simp[R6,hE]
  ·rw[ht] at c2 hE;by_cases hm:1<=m/\m<=999
   ·have hE:E5 n s m=0:=by rw[hE,if_neg (by simp),if_pos hm]
    have hin:([m].all λx=>decide (1<=x)&&decide (x<=999))=true:=by simp[hm]
    rw[hin] at c3;have hs:=trivial;repeat' first|(with_reducible first|refine zz ?_|refine zr ?_|refine zE Wq ?_)|simp -dsimp[hs]|refine zp c1 ?_|refine zp c2 ?_|refine zt c3 ?_ ?_ ?_;(focus simp;done);focus (simp;done)|refine i9 ?_ ?_<;>intro h<;>try exact h.elim
    all_goals try clear hs
    all_goals simp[R6,hE,G7]
   ·have hE:E5 n s m=2:=by rw[hE,if_neg (by simp),if_neg hm]
    have hin:([m].all λx=>decide (1<=x)&&decide (x<=999))=false:=by simp;omega
    rw[hin] at c3;have hs:=trivial;repeat' first|(with_reducible first|refine zz ?_|refine zr ?_|refine zE Wq ?_)|simp -dsimp[hs]|refine zp c1 ?_|refine zp c2 ?_|refine zt c3 ?_ ?_ ?_;(focus simp;done);focus (simp;done)|refine i9 ?_ ?_<;>intro h<;>try exact h.elim
    all_goals try clear hs
    all_goals simp[R6,hE]
 ·rw[show bD n=.one (.im (.raw (.pointer none))) by unfold bD;rw[if_neg h0]] at c1;have hE:E5 n s m=p7 n:=by unfold E5;rw[if_pos h0]
  have hs:=h0;repeat' first|(with_reducible first|refine zz ?_|refine zr ?_|refine zE Wq ?_)|simp -dsimp[hs]|refine zp c1 ?_|refine i9 ?_ ?_<;>intro h<;>try exact h.elim
  all_goals try clear hs
  all_goals simp[R6,hE,h0]
def uP (n:Notes) (s:List Int) (m d:Int):Int:=if E5 n s m≠0 then E5 n s m else if d∈nums n.reg then 0 else 6
def Cs (n:Notes) (s:List Int) (m d:Int):DV:=if uP n s m d=0 then .one (.im (G7 n)) else .one (.im (.raw (.pointer none)))
theorem yF (n:Notes) (s:List Int) (m d:Int):ImV (Cs n s m d):=by unfold Cs;split<;>simp[G7]
attribute [simp] yF
end Go.Proofs
namespace Go.Ab
open Go
structure Holder where
 id:Int
 frm:Int
 to:Int
 draws:List Int
 deriving DecidableEq
structure Print where
 number:Int
 day:Int
 holder:Int
 drawing:Int
 letter:Int
 back:Int
 lost:Int
 deriving DecidableEq
structure Prints where
 n:Notes
 holders:List Holder
 prints:List Print
 deriving DecidableEq
def n4 (x:Holder):List IC:=[rI x.id,rI x.frm,rI x.to,.sl (x.draws.map encI)]
def A0 (x:Print):List IC:=[rI x.number,rI x.day,rI x.holder,rI x.drawing,rI x.letter,rI x.back,.raw (.int .u8 x.lost)]
def r7 (p:Prints):List IC:=[.sl (p.n.reg.map e8),.sl (p.n.notes.map j9),.sl (p.holders.map n4),.sl (p.prints.map A0)]
def kw (x:Holder):DV:=.agg ((n4 x).map .im)
def ee (x:Print):DV:=.agg ((A0 x).map .im)
def C7 (p:Prints):DV:=.agg ((r7 p).map .im)
attribute [simp] n4 A0 r7 kw ee C7
end Go.Ab
namespace Go.Proofs
open Go Go.Ab
variable {G:MF}
theorem uw (x lo hi:Int):DCall Tryz.prog G 284 (iv x :: [DC.ptr 0 0,DC.ptr 1 0].map .one) [.row [.im (rI lo)],.row [.im (rI hi)]] (λd o=>d=bv (decide (x<lo)||decide (hi<x))/\o=[.row [.im (rI lo)],.row [.im (rI hi)]]):=by
 refine g9 Tryz.func284 rfl Tryz.ntmps284 (by simp) rfl ?_;simp only[rI];have hs:=trivial;repeat' first|(with_reducible first|refine zz ?_|refine zr ?_|refine zE [0,1,2,4] ?_)|simp -dsimp[hs]|with_reducible refine j0 ?_ ?_<;>intro h<;>have h0:=h<;>(try simp only[i7] at h)<;>have h2:=h<;>(try simp at h2)<;>replace hs:=za h0 (za h (za h2 hs))|with_reducible refine And.intro ?_ ?_
 all_goals try clear hs
 all_goals simp[*]
theorem W8 (lo hi:Int) (l:List Int) (hl:l.length<1000000):zP Tryz.prog G 229 [iv lo,iv hi,v8 l] (bv (l.all λx=>decide (lo<=x)&&decide (x<=hi))):=by
 refine zf Tryz.func229 Tryz.ntmps229 ?_;try simp only[iv,iv,v8]
 have hc:=D4 (G:=G) l (λx=>decide (x<lo)||decide (hi<x)) 284 [.ptr 0 0,.ptr 1 0] [.row [.im (rI lo)],.row [.im (rI hi)]] (by simp) (λx _=>uw x lo hi) hl;simp only[rI] at hc;repeat' first|(with_reducible first|refine zz ?_|refine zx ?_|refine zE [0,1,2,3,4,6] ?_)|simp -dsimp|refine CallE.here hc ?_
 rw[Bool.eq_iff_iff];simp;exact exists_congr λx=>and_congr_right λ_=>by omega
@[simp] abbrev Qc:List Nat:=[0,1,4,5,7,8,9,16]
theorem er (l:List Holder) (p:Holder->Bool) (k:Nat) (caps:List DC) (objs:List DObj) (hok:E6 Tryz.prog k) (hf:∀ x∈l,DCall Tryz.prog G k (kw x :: caps.map .one) objs (λd o=>d=bv (p x)/\o=objs)) (hl:l.length<1000000):DCall Tryz.prog G 211 [.one (.im (.sl (l.map n4))),.one (.fn (.func k) caps)] objs (λd o=>d=iv (H8 p l)/\o=objs):=by
 refine g9 Tryz.func211 rfl Tryz.ntmps211 (by simp) rfl ?_;have hs:=trivial;repeat' first|(with_reducible first|refine zz ?_|refine zE Qc ?_)|simp -dsimp[hs]
 refine i6 (ι:={ k:Nat // k<=l.length/\∀ j x,j<k->l[j]?=some x->p x=false }) (λi=>⟨19,[(0,.one (.im (.sl (l.map n4)))),(1,.one (.fn (.func k) caps)),(7,iv (l.length:Int)),(8,iv (i.1:Int))],objs⟩) (λi=>l.length-i.1) ⟨0,by simp⟩ (zv [0,1,7,8]) ?_;rintro⟨i,hi,hno⟩;simp only[iv];by_cases hlt:i<l.length
 ·have hx:l[i]?=some l[i]:=by simp[hlt]
  have hw:=zk i;have hc:=hf l[i] (by simp);simp only[kw,n4,List.map_cons,List.map_nil,bv,rI] at hc;have hs:=za hx (za hw hok);repeat' first|(with_reducible first|refine zz ?_|refine And.intro (by omega) ?_|refine zr ?_|refine zE Qc ?_)|simp -dsimp[hs]|refine CallE.here hc ?_|refine i9 ?_ ?_<;>intro h<;>try exact h.elim|with_reducible refine And.intro ?_ ?_
  all_goals try omega
  ·exact(J7 hx (by assumption) hno).symm
  ·exact At.round ⟨i+1,by omega,λj x hj hjx=>by
    by_cases e:j=i
    ·subst e;rw[hx] at hjx;cases hjx;assumption
    ·exact hno j x (by omega) hjx⟩ (by simp;omega) (zv [0,1,7,8])
 ·have hs:=trivial;repeat' first|(with_reducible first|refine zz ?_|refine zr ?_|refine zE Qc ?_)|simp -dsimp[hs]|refine i9 ?_ ?_<;>intro h<;>try exact h.elim|with_reducible refine And.intro ?_ ?_
  all_goals try omega
  exact(U6 λj x hjx=>hno j x (by have:=e7 hjx;omega) hjx).symm
theorem je (l:List Holder) (p:Holder->Bool) (k:Nat) (caps:List DC) (objs:List DObj) (hok:E6 Tryz.prog k) (hf:∀ x∈l,DCall Tryz.prog G k (kw x :: caps.map .one) objs (λd o=>d=bv (p x)/\o=objs)) (hl:l.length<1000000):DCall Tryz.prog G 155 [.one (.im (.sl (l.map n4))),.one (.fn (.func k) caps)] objs (λd o=>d=bv (l.any p)/\o=objs):=by
 refine g9 Tryz.func155 rfl Tryz.ntmps155 (by simp) rfl ?_;have hc:=er l p k caps objs hok hf hl;repeat' first|(with_reducible first|refine zz ?_|refine zx ?_|refine zE [0,1,4] ?_)|simp -dsimp|refine CallE.here hc ?_|with_reducible refine And.intro ?_ ?_
 simp[B0]
theorem nF (l:List Issue) (p:Issue->Bool) (k:Nat) (caps:List DC) (objs:List DObj) (hok:E6 Tryz.prog k) (hf:∀ x∈l,DCall Tryz.prog G k (N9 x :: caps.map .one) objs (λd o=>d=bv (p x)/\o=objs)) (hl:l.length<1000000):DCall Tryz.prog G 371 [.one (.im (.sl (l.map e8))),.one (.fn (.func k) caps)] objs (λd o=>d=iv (H8 p l)/\o=objs):=by
 refine g9 Tryz.func371 rfl Tryz.ntmps371 (by simp) rfl ?_;have hs:=trivial;repeat' first|(with_reducible first|refine zz ?_|refine zE Qc ?_)|simp -dsimp[hs]
 refine i6 (ι:={ k:Nat // k<=l.length/\∀ j x,j<k->l[j]?=some x->p x=false }) (λi=>⟨19,[(0,.one (.im (.sl (l.map e8)))),(1,.one (.fn (.func k) caps)),(7,iv (l.length:Int)),(8,iv (i.1:Int))],objs⟩) (λi=>l.length-i.1) ⟨0,by simp⟩ (zv [0,1,7,8]) ?_;rintro⟨i,hi,hno⟩;simp only[iv];by_cases hlt:i<l.length
 ·have hx:l[i]?=some l[i]:=by simp[hlt]
  have hw:=zk i;have hc:=hf l[i] (by simp);simp only[N9,e8,List.map_cons,List.map_nil,bv,rI] at hc;have hs:=za hx (za hw hok);repeat' first|(with_reducible first|refine zz ?_|refine And.intro (by omega) ?_|refine zr ?_|refine zE Qc ?_)|simp -dsimp[hs]|refine CallE.here hc ?_|refine i9 ?_ ?_<;>intro h<;>try exact h.elim|with_reducible refine And.intro ?_ ?_
  all_goals try omega
  ·exact(J7 hx (by assumption) hno).symm
  ·exact At.round ⟨i+1,by omega,λj x hj hjx=>by
    by_cases e:j=i
    ·subst e;rw[hx] at hjx;cases hjx;assumption
    ·exact hno j x (by omega) hjx⟩ (by simp;omega) (zv [0,1,7,8])
 ·have hs:=trivial;repeat' first|(with_reducible first|refine zz ?_|refine zr ?_|refine zE Qc ?_)|simp -dsimp[hs]|refine i9 ?_ ?_<;>intro h<;>try exact h.elim|with_reducible refine And.intro ?_ ?_
  all_goals try omega
  exact(U6 λj x hjx=>hno j x (by have:=e7 hjx;omega) hjx).symm
theorem jT (l:List Issue) (p:Issue->Bool) (k:Nat) (caps:List DC) (objs:List DObj) (hok:E6 Tryz.prog k) (hf:∀ x∈l,DCall Tryz.prog G k (N9 x :: caps.map .one) objs (λd o=>d=bv (p x)/\o=objs)) (hl:l.length<1000000):DCall Tryz.prog G 367 [.one (.im (.sl (l.map e8))),.one (.fn (.func k) caps)] objs (λd o=>d=bv (l.any p)/\o=objs):=by
 refine g9 Tryz.func367 rfl Tryz.ntmps367 (by simp) rfl ?_;have hc:=nF l p k caps objs hok hf hl;repeat' first|(with_reducible first|refine zz ?_|refine zx ?_|refine zE [0,1,4] ?_)|simp -dsimp|refine CallE.here hc ?_|with_reducible refine And.intro ?_ ?_
 simp[B0]
def n3 (p:Prints):IC:=.ip [.sl (p.n.reg.map e8),.sl (p.n.notes.map j9),.sl (p.holders.map n4),.sl (p.prints.map A0),.sl ((nums p.n.reg).map encI)]
theorem yg (n:Int) (y:Holder):DCall Tryz.prog G 230 (kw y :: [DC.ptr 0 0].map .one) [.row [.im (rI n)]] (λd o=>d=bv (decide (y.id=n))/\o=[.row [.im (rI n)]]):=by
 refine DCall.drop ?_;refine g9 Tryz.func230 rfl Tryz.ntmps230 (by simp) rfl ?_;simp only[kw,n4,rI];repeat' first|(with_reducible first|refine zz ?_|refine zx ?_|refine zE [0,1,2,3] ?_)|simp -dsimp|with_reducible refine And.intro ?_ ?_
theorem rW (p:Prints) (n:Int) (hl:p.holders.length<1000000):zP Tryz.prog G 180 [.one (.im (n3 p)),iv n] (iv (H8 (λy=>decide (y.id=n)) p.holders)):=by
 refine zf Tryz.func180 Tryz.ntmps180 ?_;try simp only[iv]
 simp only[n3];have c1:=er (G:=G) p.holders (λy=>decide (y.id=n)) 230 [.ptr 0 0] [.row [.im (rI n)]] (by simp) (λy _=>yg n y) hl;simp only[rI] at c1;repeat' first|(with_reducible first|refine zz ?_|refine zx ?_|refine zE [0,1,3,4] ?_)|simp -dsimp|refine zh c1 ?_
def Iw (x:Print):Bool:=(decide (1<=x.number)&&decide (x.number<=9999))&&(decide (0<=x.day)&&decide (x.day<=14610))
theorem Jj (d:IC) (x:Print):zP Tryz.prog G 364 [.one (.im d),ee x] (bv (Iw x)):=by
 refine zf Tryz.func364 Tryz.ntmps364 ?_;try simp only[iv]
 have c1:=W8 (G:=G) 1 9999 [x.number] (by simp);have c2:=W8 (G:=G) 0 14610 [x.day] (by simp);have hs:=trivial;repeat' first|(with_reducible first|refine zz ?_|refine zr ?_|refine zE [1,3,4] ?_)|simp -dsimp[hs]|refine zt c1 ?_ ?_ ?_;(focus simp;done);focus (simp;done)|refine zt c2 ?_ ?_ ?_;(focus simp;done);focus (simp;done)|with_reducible refine j0 ?_ ?_<;>intro h<;>have h0:=h<;>(try simp only[i7] at h)<;>have h2:=h<;>(try simp at h2)<;>replace hs:=za h0 (za h (za h2 hs))
 all_goals try clear hs
 all_goals simp_all [Iw]
 all_goals omega
def Ji (l:List Holder) (x:Print):Bool:=l.any λy=>decide (y.id=x.holder)
theorem Jh (p:Prints) (x:Print) (hl:p.holders.length<1000000):zP Tryz.prog G 365 [.one (.im (n3 p)),ee x] (bv (Ji p.holders x)):=by
 refine zf Tryz.func365 Tryz.ntmps365 ?_;try simp only[iv]
 have c1:=rW (G:=G) p x.holder hl;simp only[n3] at c1 ⊢;repeat' first|(with_reducible first|refine zz ?_|refine zx ?_|refine zE [0,1,3,4] ?_)|simp -dsimp|refine zp c1 ?_
 rw[B0];rfl
def GX (l:List Issue) (x:Print):Bool:=l.any λy=>decide (x.drawing=y.drawing/\x.letter=y.letter)
theorem GW (x:Print) (y:Issue):DCall Tryz.prog G 368 (N9 y :: [DC.ptr 0 0].map .one) [.row ((A0 x).map .im)] (λd o=>d=bv (decide (x.drawing=y.drawing/\x.letter=y.letter))/\o=[.row ((A0 x).map .im)]):=by
 refine DCall.drop ?_;refine g9 Tryz.func368 rfl Tryz.ntmps368 (by simp) rfl ?_;simp only[N9,e8,A0,rI];repeat' first|(with_reducible first|refine zz ?_|refine zx ?_|refine zE [0,1,2,3] ?_)|simp -dsimp|with_reducible refine And.intro ?_ ?_
theorem Jg (p:Prints) (x:Print) (hl:p.n.reg.length<1000000):zP Tryz.prog G 366 [.one (.im (n3 p)),ee x] (bv (GX p.n.reg x)):=by
 refine zf Tryz.func366 Tryz.ntmps366 ?_;try simp only[iv]
 simp only[n3];have c1:=jT (G:=G) p.n.reg (λy=>decide (x.drawing=y.drawing/\x.letter=y.letter)) 368 [.ptr 0 0] [.row ((A0 x).map .im)] (by simp) (λy _=>GW x y) hl;simp only[A0,rI,List.map_cons,List.map_nil] at c1;repeat' first|(with_reducible first|refine zz ?_|refine zx ?_|refine zE [0,1,3,4] ?_)|simp -dsimp|refine zh c1 ?_
 simp[GX]
def Iv (x:Print):Bool:=decide (x.lost<=2)
theorem Jf (d:IC) (x:Print):zP Tryz.prog G 369 [.one (.im d),ee x] (bv (Iv x)):=by
 refine zf Tryz.func369 Tryz.ntmps369 ?_;try simp only[iv]
 repeat' first|(with_reducible first|refine zz ?_|refine zx ?_|refine zE [1,3,4] ?_)|simp -dsimp
 all_goals simp[Iv]
def Iu (x:Print):Bool:=decide (x.back=-1)||(decide (x.day<=x.back)&&decide (x.back<=14610))&&decide (x.lost=0)
theorem Je (d:IC) (x:Print):zP Tryz.prog G 370 [.one (.im d),ee x] (bv (Iu x)):=by
 refine zf Tryz.func370 Tryz.ntmps370 ?_;try simp only[iv]
 have c1:=W8 (G:=G) x.day 14610 [x.back] (by simp);have hs:=trivial;repeat' first|(with_reducible first|refine zz ?_|refine zr ?_|refine zE [1,3,4] ?_)|simp -dsimp[hs]|refine zt c1 ?_ ?_ ?_;(focus simp;done);focus (simp;done)|with_reducible refine j0 ?_ ?_<;>intro h<;>have h0:=h<;>(try simp only[i7] at h)<;>have h2:=h<;>(try simp at h2)<;>replace hs:=za h0 (za h (za h2 hs))
 all_goals try clear hs
 all_goals simp_all [Iu]
 all_goals omega
end Go.Proofs
namespace Go.Proofs
open Go Go.Ab Tryz
variable {G:MF}
def Fh (D l:List Int) (k:Nat) (d:Int):Prop:=d∈D/\(0<k->∀ e,l[k-1]?=some e->e<d)
def KG (l:List Holder) (i:Nat) (x:Holder):Prop:=(1<=x.id/\x.id<=9999)/\(0<i->∀ y,l[i-1]?=some y->y.id<x.id)/\(1<=x.frm/\x.frm<=999)/\(1<=x.to/\x.to<=999)/\x.frm<=x.to/\x.draws.length<=8
def tp (D:List Int) (l:List Holder) (i:Nat) (x:Holder):Prop:=KG l i x/\∀ k d,x.draws[k]?=some d->Fh D x.draws k d
def AY (p:Prints) (x:Print):Nat->Bool
 | 0=>Iw x
 | 1=>Ji p.holders x
 | 2=>GX p.n.reg x
 | 3=>Iv x
 | _=>Iu x
def xA (p:Prints) (i:Nat) (x:Print):Prop:=(0<i->∀ y,p.prints[i-1]?=some y->y.number<x.number)/\∀ c,c<5->AY p x c=true
structure PrintsOk (p:Prints):Prop where
 hl:p.holders.length<=6
 pl:p.prints.length<=30
 h:∀ i x,p.holders[i]?=some x->tp (nums p.n.reg) p.holders i x
 q:∀ i x,p.prints[i]?=some x->xA p i x
noncomputable def D7 (p:Prints):Bool:=open Classical in decide (PrintsOk p)
theorem rq (p:Prints):D7 p=true↔PrintsOk p:=by simp[D7]
theorem M9 {p:Prints} (h:¬ PrintsOk p):D7 p=false:=by simp[D7,h]
theorem ef {p:Prints} (h:PrintsOk p):D7 p=true:=by simp[D7,h]
structure SmallP (p:Prints):Prop where
 r:(nums p.n.reg).length<1000
 l:p.n.reg.length<1000
 h:p.holders.length<=8
 q:p.prints.length<=40
 d:∀ x∈p.holders,x.draws.length<=20
 lo:∀ x∈p.prints,0<=x.lost/\x.lost<=255
def w8 (G:MF):Prop:=G 6=some [.fn (.func 364) [],.fn (.func 365) [],.fn (.func 366) [],.fn (.func 369) [],.fn (.func 370) []]
@[simp] abbrev Qg:List Nat:=[0,2,3,4,5,6,7,8,9,11,27,32,33,34,35,84,86,87,88,89,113,120,121,122,123,143,144,145,146,154]
theorem Ef (p:Prints) (hR:w8 G) (hs:SmallP p):zP prog G 260 [.one (.im (n3 p))] (bv (D7 p)):=by
 refine zf func260 ntmps260 ?_;try simp only[iv]
 have hR':G 6=some [.fn (.func 364) [],.fn (.func 365) [],.fn (.func 366) [],.fn (.func 369) [],.fn (.func 370) []]:=hR;obtain⟨hsr,hsl,hsh,hsq,hsd,hslo⟩:=hs;by_cases h6:¬ p.holders.length<=6
 ·have h6':(6:Int)<p.holders.length:=by omega
  have hno:=M9 (p:=p) λh=>h6 h.hl;simp only[n3];have hs:=h6';repeat' first|(with_reducible first|refine zz ?_|refine zr ?_|refine zE Qg ?_)|simp -dsimp[hs]|refine i9 ?_ ?_<;>intro h<;>try exact h.elim
  all_goals try clear hs
  all_goals simp[hno]
 by_cases h30:¬ p.prints.length<=30
 ·replace h6:=Classical.not_not.1 h6;have h6':¬ (6:Int)<p.holders.length:=by omega
  have h30':(30:Int)<p.prints.length:=by omega
  have hno:=M9 (p:=p) λh=>h30 h.pl;simp only[n3];have hs:=za h6' h30';repeat' first|(with_reducible first|refine zz ?_|refine zr ?_|refine zE Qg ?_)|simp -dsimp[hs]|refine i9 ?_ ?_<;>intro h<;>try exact h.elim
  all_goals try clear hs
  all_goals simp[hno]
 replace h6:=Classical.not_not.1 h6;replace h30:=Classical.not_not.1 h30;have h6':¬ (6:Int)<p.holders.length:=by omega
 have h30':¬ (30:Int)<p.prints.length:=by omega
 simp only[n3];have hs:=za h6' h30';repeat' first|(with_reducible first|refine zz ?_|refine zE Qg ?_)|simp -dsimp[hs]|refine i9 ?_ ?_<;>intro h<;>try exact h.elim
 all_goals try clear hs
 refine i6 (ι:={ k:Nat // k<=p.holders.length/\∀ (j:Nat) (x:Holder),j<k->p.holders[j]?=some x->tp (nums p.n.reg) p.holders j x }) (λq=>⟨158,[(0,.one (.im (n3 p))),(32,.one (.im (.sl (p.holders.map n4)))),(33,iv (p.holders.length:Int)),(34,iv (q.1:Int))],[]⟩) (λq=>p.holders.length-q.1) ⟨0,by simp⟩ (zv [0,32,33,34] (by simp[n3])) ?_;rintro⟨k,hk,hok⟩;simp only[iv,n3];by_cases hlt:k<p.holders.length
 ·have hx0:p.holders[k]?=some p.holders[k]:=by simp[hlt]
  have hw:=zk k;have hdl:=hsd p.holders[k] (List.getElem_mem hlt);generalize hx:p.holders[k]=x at *;have hbad:¬ tp (nums p.n.reg) p.holders k x->D7 p=false:=λh=>M9 λh'=>h (h'.h k x hx0);have hstep:tp (nums p.n.reg) p.holders k x->∀ (j:Nat) (z:Holder),j<k+1->p.holders[j]?=some z->tp (nums p.n.reg) p.holders j z:=λh j z hj hz=>by
   by_cases e:j=k
   ·subst e;rw[hx0] at hz;cases hz;exact h
   ·exact hok j z (by omega) hz
  have c1:=W8 (G:=G) 1 9999 [x.id] (by simp);have c2:=W8 (G:=G) 1 999 [x.frm,x.to] (by simp);have c3:=λd=>X0 (G:=G) (nums p.n.reg) d (by omega);have hs:True:=trivial;by_cases hA:KG p.holders k x
  ·have hA':=hA;obtain⟨a1,a3,a4,a6,a8,a9⟩:=hA;have e1:([x.id].all λy=>decide (1<=y)&&decide (y<=9999))=true:=by simp;omega
   have e2:([x.frm,x.to].all λy=>decide (1<=y)&&decide (y<=999))=true:=by simp;omega
   rw[e1] at c1;rw[e2] at c2;have a8':¬ x.to<x.frm:=by omega
   have a9':¬ (8:Int)<x.draws.length:=by omega
   have hcs:(¬ 0<k/\True/\∃ _:True,True)\/(0<k/\IntKind.i64.wrap ((k:Int)-1)=((k-1:Nat):Int)/\∃ h:k-1<p.holders.length,¬ x.id<=(p.holders[k-1]'h).id):=by
    rcases Nat.eq_zero_or_pos k with h0|h0
    ·exact .inl ⟨by omega,trivial,trivial,trivial⟩
    ·have h1:k-1<p.holders.length:=by omega
     exact .inr ⟨by omega,by rw[p9 (by omega) (by omega)];omega,h1,by have:=a3 h0 _ (List.getElem?_eq_getElem h1);omega⟩
   rcases hcs with⟨hk0,hwm,hi1,hlt1⟩|⟨hk0,hwm,hi1,hlt1⟩
   all_goals
    have hs:=za hx (za hlt (za a8' (za a9' (za hk0 (za hwm (za hi1 hlt1))))));repeat' first|with_reducible refine zz ?_|simp -dsimp[hs]|refine zq c1 ?_|refine zq c2 ?_|refine zM 6 158 46 Qg ?_|with_reducible refine zE Qg ?_|refine i9 ?_ ?_<;>intro h<;>try exact h.elim
    all_goals try clear hs
   all_goals
    refine i6 (ι:={ j:Nat // j<=x.draws.length/\∀ (i:Nat) (d:Int),i<j->x.draws[i]?=some d->Fh (nums p.n.reg) x.draws i d }) (λq=>⟨158,[(0,.one (.im (n3 p))),(4,.one (.ptr 1 0)),(32,.one (.im (.sl (p.holders.map n4)))),(33,iv (p.holders.length:Int)),(34,iv (k:Int)),(86,.one (.im (.sl (x.draws.map encI)))),(87,iv (x.draws.length:Int)),(88,iv (q.1:Int))],[.vec 0 [] 0 true,.row ((n4 x).map .im)]⟩) (λq=>x.draws.length-q.1) ⟨0,by simp⟩ (zv [0,4,32,33,34,86,87,88] (by simp[n3])) ?_;rintro⟨j,hj,hjok⟩;simp only[iv,n3];by_cases hlj:j<x.draws.length
    ·have hx1:x.draws[j]?=some x.draws[j]:=by simp[hlj]
     have hwj:=zk j;have c4:=c3 x.draws[j];have hcj:(¬ 0<j/\True/\∃ _:True,True)\/(0<j/\IntKind.i64.wrap ((j:Int)-1)=((j-1:Nat):Int)/\∃ h:j-1<x.draws.length,True):=by
      rcases Nat.eq_zero_or_pos j with h0|h0
      ·exact .inl ⟨by omega,trivial,trivial,trivial⟩
      ·exact .inr ⟨by omega,by rw[p9 (by omega) (by omega)];omega,by omega,trivial⟩
     have hbadj:¬ Fh (nums p.n.reg) x.draws j x.draws[j]->D7 p=false:=λh=>hbad λh'=>h (h'.2 j _ hx1);have hstj:Fh (nums p.n.reg) x.draws j x.draws[j]->∀ (i:Nat) (d:Int),i<j+1->x.draws[i]?=some d->Fh (nums p.n.reg) x.draws i d:=λh i d hi hd=>by
      by_cases e:i=j
      ·subst e;rw[hx1] at hd;cases hd;exact h
      ·exact hjok i d (by omega) hd
     clear hstep;rcases hcj with⟨hj0,hwmj,hij,-⟩|⟨hj0,hwmj,hij,-⟩
     all_goals
      have hs:=za hx1 (za hlj (za hj0 (za hwmj (za hij hwj))));repeat' first|(with_reducible first|refine zz ?_|refine zr ?_|refine zE Qg ?_)|simp -dsimp[hs]|refine zp c4 ?_|refine i9 ?_ ?_<;>intro h<;>try exact h.elim|with_reducible refine j0 ?_ ?_<;>intro h<;>have h0:=h<;>(try simp only[i7] at h)<;>have h2:=h<;>(try simp at h2)<;>replace hs:=za h0 (za h (za h2 hs))
      all_goals try clear hs
     all_goals first
      | exact zn ⟨j+1,by omega,hstj ⟨of_decide_eq_true (by assumption),λh1 e he=>by first|omega|(obtain⟨_,rfl⟩:=List.getElem?_eq_some_iff.1 he;omega)⟩⟩ (zv [0,4,32,33,34,86,87,88])
      | (refine hbadj λhh=>?_;have:=hh.1;simp_all;done)
      | (refine hbadj λhh=>?_;have:=hh.2 (by omega) _ (List.getElem?_eq_getElem hij);omega)
    ·have hs:=za hlj hw;repeat' first|(with_reducible first|refine zz ?_|refine zE Qg ?_)|simp -dsimp[hs]|refine i9 ?_ ?_<;>intro h<;>try exact h.elim
     all_goals try clear hs
     exact zn ⟨k+1,by omega,hstep ⟨hA',λi d hd=>hjok i d (by have:=e7 hd;omega) hd⟩⟩ (zw [0,32,33,34] 0)
  ·have hno:=hbad λh=>hA h.1;generalize hb1:([x.id].all λy=>decide (1<=y)&&decide (y<=9999))=b1 at c1;generalize hb2:([x.frm,x.to].all λy=>decide (1<=y)&&decide (y<=999))=b2 at c2;have hcs:(¬ 0<k/\True/\∃ _:True,True)\/(0<k/\IntKind.i64.wrap ((k:Int)-1)=((k-1:Nat):Int)/\∃ h:k-1<p.holders.length,True):=by
    rcases Nat.eq_zero_or_pos k with h0|h0
    ·exact .inl ⟨by omega,trivial,trivial,trivial⟩
    ·exact .inr ⟨by omega,by rw[p9 (by omega) (by omega)];omega,by omega,trivial⟩
   rcases hcs with⟨hk0,hwm,hi1,-⟩|⟨hk0,hwm,hi1,-⟩<;>cases b1<;>cases b2
   all_goals
    have hs:=za hx (za hlt (za hk0 (za hwm hi1)));repeat' first|(with_reducible first|refine zz ?_|refine zr ?_)|simp -dsimp[hs]|refine zq c1 ?_|refine zq c2 ?_|refine zM 6 158 46 Qg ?_|with_reducible refine zE Qg ?_|refine i9 ?_ ?_<;>intro h<;>try exact h.elim|with_reducible refine j0 ?_ ?_<;>intro h<;>have h0:=h<;>(try simp only[i7] at h)<;>have h2:=h<;>(try simp at h2)<;>replace hs:=za h0 (za h (za h2 hs))
    all_goals try clear hs
   all_goals try (first|exact hno|exact hno.symm)
   ·refine absurd ?_ hA;simp at hb1 hb2;exact⟨by omega,λh1=>by omega,by omega,by omega,by omega,by omega⟩
   ·refine absurd ?_ hA;simp at hb1 hb2;exact⟨by omega,λh1 y hy=>by
     obtain⟨_,rfl⟩:=List.getElem?_eq_some_iff.1 hy
     simp_all<;>omega,by omega,by omega,by omega,by omega⟩
 ·have hkl:k=p.holders.length:=by omega
  have hall:∀ i x,p.holders[i]?=some x->tp (nums p.n.reg) p.holders i x:=λi x hx=>hok i x (by have:=e7 hx;omega) hx;have hs:=hlt;repeat' first|(with_reducible first|refine zz ?_|refine zE Qg ?_)|simp -dsimp[hs]|refine i9 ?_ ?_<;>intro h<;>try exact h.elim
  all_goals try clear hs
  refine i6 (ι:={ k:Nat // k<=p.prints.length/\∀ (j:Nat) (x:Print),j<k->p.prints[j]?=some x->xA p j x }) (λq=>⟨158,[(0,.one (.im (n3 p))),(7,bv true),(120,.one (.im (.sl (p.prints.map A0)))),(121,iv (p.prints.length:Int)),(122,iv (q.1:Int))],[]⟩) (λq=>p.prints.length-q.1) ⟨0,by simp⟩ (zv [0,7,120,121,122] (by simp[n3])) ?_;clear hlt hok hk hkl k;rintro⟨k,hk,hok⟩;simp only[iv,bv,n3];by_cases hlt:k<p.prints.length
  ·have hx0:p.prints[k]?=some p.prints[k]:=by simp[hlt]
   have hw:=zk k;have hll:=hslo p.prints[k] (List.getElem_mem hlt);generalize hx:p.prints[k]=x at *;have hbad:¬ xA p k x->D7 p=false:=λh=>M9 λh'=>h (h'.q k x hx0);have hstep:xA p k x->∀ (j:Nat) (z:Print),j<k+1->p.prints[j]?=some z->xA p j z:=λh j z hj hz=>by
    by_cases e:j=k
    ·subst e;rw[hx0] at hz;cases hz;exact h
    ·exact hok j z (by omega) hz
   have hs:True:=trivial;have hcs:(¬ 0<k/\True/\∃ _:True,True)\/(0<k/\IntKind.i64.wrap ((k:Int)-1)=((k-1:Nat):Int)/\∃ h:k-1<p.prints.length,True):=by
    rcases Nat.eq_zero_or_pos k with h0|h0
    ·exact .inl ⟨by omega,trivial,trivial,trivial⟩
    ·exact .inr ⟨by omega,by rw[p9 (by omega) (by omega)];omega,by omega,trivial⟩
   rcases hcs with⟨hk0,hwm,hi1,-⟩|⟨hk0,hwm,hi1,-⟩
   all_goals
    have hs:=za hx (za hlt (za hk0 (za hwm (za hi1 hR'))));repeat' first|(with_reducible first|refine zz ?_|refine zr ?_)|simp -dsimp[hs]|refine zM 19 158 17 Qg ?_|with_reducible refine zE Qg ?_|refine i9 ?_ ?_<;>intro h<;>try exact h.elim
    all_goals try clear hs
   all_goals try (exact hbad λhh=>by have:=hh.1 hk0 _ (List.getElem?_eq_getElem hi1);omega)
   all_goals
    have hord:0<k->∀ y,p.prints[k-1]?=some y->y.number<x.number:=λh1 y hy=>by
     first|omega|(obtain⟨_,rfl⟩:=List.getElem?_eq_some_iff.1 hy;omega)
    have k1:=λd=>Jj (G:=G) d x;have k2:=Jh (G:=G) p x (by omega);have k3:=Jg (G:=G) p x (by omega);have k4:=λd=>Jf (G:=G) d x;have k5:=λd=>Je (G:=G) d x;replace k1:=k1 (n3 p);replace k4:=k4 (n3 p);replace k5:=k5 (n3 p);rw[show Iw x=AY p x 0 from rfl] at k1;rw[show Ji p.holders x=AY p x 1 from rfl] at k2;rw[show GX p.n.reg x=AY p x 2 from rfl] at k3;rw[show Iv x=AY p x 3 from rfl] at k4;rw[show Iu x=AY p x 4 from rfl] at k5;simp only[n3] at k1 k2 k3 k4 k5;refine i6 (ι:={ c:Nat // c<=5/\∀ e<c,AY p x e=true }) (λq=>⟨158,[(0,.one (.im (n3 p))),(7,bv true),(9,.one (.ptr 0 0)),(120,.one (.im (.sl (p.prints.map A0)))),(121,iv (p.prints.length:Int)),(122,iv (k:Int)),(144,.agg [.im (.fn (.func 364) []),.im (.fn (.func 365) []),.im (.fn (.func 366) []),.im (.fn (.func 369) []),.im (.fn (.func 370) [])]),(145,iv (q.1:Int))],[.row ((A0 x).map .im)]⟩) (λq=>5-q.1) ⟨0,by simp⟩ (zv [0,7,9,120,121,122,144,145] (by simp[n3])) ?_;rintro⟨c,hc,hcc⟩;simp only[iv,bv,n3];by_cases hc5:c<5
    ·have hm:AY p x c=true->∀ e<c+1,AY p x e=true:=λh e he=>by
      rcases Nat.lt_succ_iff_lt_or_eq.1 he with h1|rfl
      ·exact hcc e h1
      ·exact h
     have hbc:AY p x c=false->D7 p=false:=λh=>hbad λhh=>by rw[hh.2 c hc5] at h;cases h
     clear hstep;have hi5:c=0\/c=1\/c=2\/c=3\/c=4:=by omega
     rcases hi5 with rfl|rfl|rfl|rfl|rfl
     all_goals
      have hs:=hlt;repeat' first|(with_reducible first|refine zz ?_|refine LD (by decide) ?_|refine zr ?_|refine zE Qg ?_)|simp -dsimp[hs]|refine zp k1 ?_|refine zp k2 ?_|refine zp k3 ?_|refine zp k4 ?_|refine zp k5 ?_|refine i9 ?_ ?_<;>intro h<;>try exact h.elim
      all_goals try clear hs
     all_goals first
      | exact At.round ⟨_,by omega,hm (by assumption)⟩ (by simp) (zw [0,7,9,120,121,122,144,145] 1 (by simp[‹AY p x _=true›];exact p9 (by omega) (by omega)))
      | exact hbc (by assumption)
      | (rw[hbc (by assumption)];assumption)
    ·obtain rfl:c=5:=by omega
     clear k1 k2 k3 k4 k5;have hs:=za hlt hw;repeat' first|(with_reducible first|refine zz ?_|refine zE Qg ?_)|simp -dsimp[hs]|refine i9 ?_ ?_<;>intro h<;>try exact h.elim
     all_goals try clear hs
     exact zn ⟨k+1,by omega,hstep ⟨hord,hcc⟩⟩ (zw [0,7,120,121,122] 0)
  ·have hyes:D7 p=true:=ef ⟨h6,h30,hall,λi x hx=>hok i x (by have:=e7 hx;omega) hx⟩;have hs:=hlt;repeat' first|(with_reducible first|refine zz ?_|refine zr ?_|refine zE Qg ?_)|simp -dsimp[hs]|refine i9 ?_ ?_<;>intro h<;>try exact h.elim
   all_goals try clear hs
   all_goals simp[hyes]
noncomputable def u4 (p:Prints):Int:=if p7 p.n≠0 then p7 p.n else if D7 p=true then 0 else 70
noncomputable def U1 (p:Prints):DV:=if u4 p=0 then .one (.im (n3 p)) else .one (.im (.raw (.pointer none)))
theorem tT (p:Prints):ImV (U1 p):=by unfold U1;split<;>simp[n3]
attribute [simp] tT
structure KP (p:Prints):Prop where
 n:wG p.n
 p:SmallP p
@[simp] abbrev Wc:List Nat:=[0,1,2,3,4,5,10,27]
theorem we (p:Prints) (hG:p5 G) (hN:D5 G) (hS:u6 G) (hR:w8 G) (hk:KP p):zP prog G 208 [C7 p] (.tup [U1 p,iv (u4 p)]):=by
 refine zf func208 ntmps208 ?_;try simp only[iv]
 have c1:=Bm p.n hG hN hS hk.n;have c2:=dm p.n.reg hG hk.n.1;have c3:=Ef p hR hk.p;by_cases h0:p7 p.n=0
 ·have hr0:l6 p.n.reg=0:=by
   refine Classical.byContradiction λh=>?_;unfold p7 at h0;rw[if_pos h] at h0;exact h h0
  rw[hr0,show eJ p.n.reg=nums p.n.reg by simp[eJ,hr0]] at c2;simp only[h0] at c1;by_cases hp:D7 p=true
  ·have hE:u4 p=0:=by unfold u4;rw[if_neg (by simp[h0]),if_pos hp]
   have hO:U1 p=.one (.im (n3 p)):=by unfold U1;rw[if_pos hE]
   rw[hp] at c3;rw[hE,hO];simp only[n3] at c3 ⊢;have hs:=trivial;repeat' first|(with_reducible first|refine zz ?_|refine zr ?_)|simp -dsimp[hs]|refine zp c1 ?_|refine zp c2 ?_|refine zt c3 ?_ ?_ ?_;(focus simp;done);focus (simp;done)|with_reducible refine O4 (id:=4) (nt:=29) Wc rfl ?_;simp -dsimp[hs]|with_reducible refine zE Wc ?_|refine i9 ?_ ?_<;>intro h<;>try exact h.elim
  ·have hE:u4 p=70:=by unfold u4;rw[if_neg (by simp[h0]),if_neg hp]
   have hO:U1 p=.one (.im (.raw (.pointer none))):=by unfold U1;rw[if_neg (by simp[hE])]
   rw[Bool.not_eq_true] at hp;rw[hp] at c3;rw[hE,hO];simp only[n3] at c3 ⊢;have hs:=trivial;repeat' first|(with_reducible first|refine zz ?_|refine zr ?_)|simp -dsimp[hs]|refine zp c1 ?_|refine zp c2 ?_|refine zt c3 ?_ ?_ ?_;(focus simp;done);focus (simp;done)|with_reducible refine O4 (id:=4) (nt:=29) Wc rfl ?_;simp -dsimp[hs]|with_reducible refine zE Wc ?_|refine i9 ?_ ?_<;>intro h<;>try exact h.elim
 ·have hE:u4 p=p7 p.n:=by unfold u4;rw[if_pos h0]
  have hO:U1 p=.one (.im (.raw (.pointer none))):=by unfold U1;rw[if_neg (by rw[hE];exact h0)]
  rw[hE,hO];have hs:=h0;repeat' first|(with_reducible first|refine zz ?_|refine zr ?_|refine zE Wc ?_)|simp -dsimp[hs]|refine zp c1 ?_|refine i9 ?_ ?_<;>intro h<;>try exact h.elim
theorem AT (p:Prints) (hG:p5 G) (hN:D5 G) (hS:u6 G) (hR:w8 G) (hk:KP p):zP prog G 153 [C7 p] (iv (u4 p)):=by
 refine zf func153 ntmps153 ?_;try simp only[iv]
 have c1:=we p hG hN hS hR hk;repeat' first|(with_reducible first|refine zz ?_|refine zx ?_|refine zE [0,1,2,4] ?_)|simp -dsimp|refine zp c1 ?_
def uX (d m:Int):Bool:=(decide (0<=d)&&decide (d<=14610))&&(decide (1<=m)&&decide (m<=999))
noncomputable def J4 (p:Prints) (d m:Int):Int:=if u4 p≠0 then u4 p else if uX d m=true then 0 else 2
noncomputable def V1 (p:Prints) (d m:Int):DV:=if J4 p d m=0 then .one (.im (n3 p)) else .one (.im (.raw (.pointer none)))
theorem vq (p:Prints) (d m:Int):ImV (V1 p d m):=by unfold V1;split<;>simp[n3]
attribute [simp] vq
@[simp] abbrev Wr:List Nat:=[0,1,2,3,6,7,8,9,16,27]
theorem AU (p:Prints) (d m:Int) (hG:p5 G) (hN:D5 G) (hS:u6 G) (hR:w8 G) (hk:KP p):zP prog G 179 [C7 p,iv d,iv m] (.tup [V1 p d m,iv (J4 p d m)]):=by
 refine zf func179 ntmps179 ?_;try simp only[iv,iv]
 have c1:=we p hG hN hS hR hk;have c2:=W8 (G:=G) 0 14610 [d] (by simp);have c3:=W8 (G:=G) 1 999 [m] (by simp);by_cases h0:u4 p=0
 ·simp only[U1,h0,if_true] at c1;by_cases hd:uX d m=true
  ·have hE:J4 p d m=0:=by unfold J4;rw[if_neg (by simp[h0]),if_pos hd]
   have hO:V1 p d m=.one (.im (n3 p)):=by unfold V1;rw[if_pos hE]
   simp only[uX,Bool.and_eq_true,decide_eq_true_eq] at hd;rw[show ([d].all λy=>decide (0<=y)&&decide (y<=14610))=true by simp;omega] at c2;rw[show ([m].all λy=>decide (1<=y)&&decide (y<=999))=true by simp;omega] at c3;rw[hE,hO];simp only[n3] at c1 ⊢;have hs:=trivial;repeat' first|(with_reducible first|refine zz ?_|refine zr ?_|refine zE Wr ?_)|simp -dsimp[hs]|refine zp c1 ?_|refine zt c2 ?_ ?_ ?_;(focus simp;done);focus (simp;done)|refine zt c3 ?_ ?_ ?_;(focus simp;done);focus (simp;done)|refine i9 ?_ ?_<;>intro h<;>try exact h.elim
  ·have hE:J4 p d m=2:=by unfold J4;rw[if_neg (by simp[h0]),if_neg hd]
   have hO:V1 p d m=.one (.im (.raw (.pointer none))):=by unfold V1;rw[if_neg (by simp[hE])]
   simp only[uX,Bool.and_eq_true,decide_eq_true_eq] at hd;rw[hE,hO];simp only[n3] at c1 ⊢;by_cases hd1:0<=d/\d<=14610
   ·rw[show ([d].all λy=>decide (0<=y)&&decide (y<=14610))=true by simp;omega] at c2;rw[show ([m].all λy=>decide (1<=y)&&decide (y<=999))=false by simp;omega] at c3;have hs:=trivial;repeat' first|(with_reducible first|refine zz ?_|refine zr ?_|refine zE Wr ?_)|simp -dsimp[hs]|refine zp c1 ?_|refine zt c2 ?_ ?_ ?_;(focus simp;done);focus (simp;done)|refine zt c3 ?_ ?_ ?_;(focus simp;done);focus (simp;done)|refine i9 ?_ ?_<;>intro h<;>try exact h.elim
   ·rw[show ([d].all λy=>decide (0<=y)&&decide (y<=14610))=false by simp;omega] at c2;have hs:=trivial;repeat' first|(with_reducible first|refine zz ?_|refine zr ?_|refine zE Wr ?_)|simp -dsimp[hs]|refine zp c1 ?_|refine zt c2 ?_ ?_ ?_;(focus simp;done);focus (simp;done)|refine i9 ?_ ?_<;>intro h<;>try exact h.elim
 ·have hE:J4 p d m=u4 p:=by unfold J4;rw[if_pos h0]
  have hO:V1 p d m=.one (.im (.raw (.pointer none))):=by unfold V1;rw[if_neg (by rw[hE];exact h0)]
  simp only[U1,h0,if_false] at c1;rw[hE,hO];have hs:=h0;repeat' first|(with_reducible first|refine zz ?_|refine zr ?_|refine zE Wr ?_)|simp -dsimp[hs]|refine zp c1 ?_|refine i9 ?_ ?_<;>intro h<;>try exact h.elim
noncomputable def P4 (p:Prints) (d m i w:Int):Int:=if J4 p d m≠0 then J4 p d m else if (p.holders.any λy=>decide (y.id=i))=true/\w∈nums p.n.reg then 0 else 6
noncomputable def eT (p:Prints) (d m i w:Int):DV:=if P4 p d m i w=0 then .one (.im (n3 p)) else .one (.im (.raw (.pointer none)))
theorem yZ (p:Prints) (d m i w:Int):ImV (eT p d m i w):=by unfold eT;split<;>simp[n3]
attribute [simp] yZ
theorem Di (p:Prints) (v:Int) (hl:(nums p.n.reg).length<1000):DCall prog G 181 (iv v :: [DC.ptr 1 0].map .one) [.row ((r7 p).map .im),.row [.im (n3 p)]] (λd o=>d=bv (!decide (v∈nums p.n.reg))/\o=[.row ((r7 p).map .im),.row [.im (n3 p)]]):=by
 refine DCall.drop ?_;have c1:=X0 (G:=G) (nums p.n.reg) v (by omega);simp only[n3,r7];refine g9 func181 rfl ntmps181 (by simp) rfl ?_;repeat' first|(with_reducible first|refine zz ?_|refine zx ?_|refine zE [0,1,3] ?_)|simp -dsimp|refine zp c1 ?_|with_reducible refine And.intro ?_ ?_
theorem ws {α:Type} (q:α->Bool) (l:List α):decide (H8 q l<0)=!l.any q:=by
 rw[<- B0];by_cases h:0<=H8 q l
 ·have h1:¬ H8 q l<0:=by omega
  simp[h,h1]
 ·have h1:H8 q l<0:=by omega
  simp[h,h1]
@[simp] abbrev Wd:List Nat:=[0,1,2,3,4,5,10,11,12,13,22,32]
theorem AV (p:Prints) (d m i w:Int) (hG:p5 G) (hN:D5 G) (hS:u6 G) (hR:w8 G) (hk:KP p):zP prog G 118 [C7 p,iv d,iv m,iv i,v8 [w]] (.tup [eT p d m i w,iv (P4 p d m i w)]):=by
 refine zf func118 ntmps118 ?_;try simp only[iv,iv,iv,v8]
 have c1:=AU p d m hG hN hS hR hk;have hr:=hk.p.r;have hh:=hk.p.h;by_cases h0:J4 p d m=0
 ·have c2:=rW (G:=G) p i (by omega);have c3:=D4 (G:=G) [w] (λv=>!decide (v∈nums p.n.reg)) 181 [.ptr 1 0] [.row ((r7 p).map .im),.row [.im (n3 p)]] (by simp) (λv _=>Di p v hr) (by simp);have hf:=ws (λy:Holder=>decide (y.id=i)) p.holders;have hE:P4 p d m i w=if (p.holders.any λy=>decide (y.id=i))=true/\w∈nums p.n.reg then 0 else 6:=by unfold P4;rw[if_neg (by simp[h0])]
  simp only[V1,h0,if_true] at c1;unfold eT;rw[hE];generalize H8 (λy:Holder=>decide (y.id=i)) p.holders=f at *;generalize hb:(p.holders.any λy=>decide (y.id=i))=b at *;by_cases hw:w∈nums p.n.reg
  ·simp only[hw,List.any_cons,List.any_nil,decide_true,Bool.not_true,Bool.or_false] at c3;cases b
   ·have hf':f<0:=by simpa using hf
    simp only[n3,r7,List.map_cons,List.map_nil] at c1 c2 c3 ⊢;have hs:=hf';repeat' first|(with_reducible first|refine zz ?_|refine zr ?_|refine zE Wd ?_)|simp -dsimp[hs]|refine zp c1 ?_|refine zp c2 ?_|refine i9 ?_ ?_<;>intro h<;>try exact h.elim
   ·have hf':¬ f<0:=by simpa using hf
    simp only[n3,r7,List.map_cons,List.map_nil] at c1 c2 c3 ⊢;have hs:=za hf' hw;repeat' first|(with_reducible first|refine zz ?_|refine zr ?_|refine zE Wd ?_)|simp -dsimp[hs]|refine zp c1 ?_|refine zp c2 ?_|refine zh c3 ?_|refine i9 ?_ ?_<;>intro h<;>try exact h.elim
  ·simp only[hw,List.any_cons,List.any_nil,decide_false,Bool.not_false,Bool.or_false] at c3;cases b
   ·have hf':f<0:=by simpa using hf
    simp only[n3,r7,List.map_cons,List.map_nil] at c1 c2 c3 ⊢;have hs:=hf';repeat' first|(with_reducible first|refine zz ?_|refine zr ?_|refine zE Wd ?_)|simp -dsimp[hs]|refine zp c1 ?_|refine zp c2 ?_|refine i9 ?_ ?_<;>intro h<;>try exact h.elim
   ·have hf':¬ f<0:=by simpa using hf
    simp only[n3,r7,List.map_cons,List.map_nil] at c1 c2 c3 ⊢;have hs:=za hf' hw;repeat' first|(with_reducible first|refine zz ?_|refine zr ?_|refine zE Wd ?_)|simp -dsimp[hs]|refine zp c1 ?_|refine zp c2 ?_|refine zh c3 ?_|refine i9 ?_ ?_<;>intro h<;>try exact h.elim
 ·have hE:P4 p d m i w=J4 p d m:=by unfold P4;rw[if_pos h0]
  have hO:eT p d m i w=.one (.im (.raw (.pointer none))):=by unfold eT;rw[if_neg (by rw[hE];exact h0)]
  simp only[V1,h0,if_false] at c1;rw[hE,hO];have hs:=h0;repeat' first|(with_reducible first|refine zz ?_|refine zr ?_|refine zE Wd ?_)|simp -dsimp[hs]|refine zp c1 ?_|refine i9 ?_ ?_<;>intro h<;>try exact h.elim
def frcCaps:List DC:=[.ptr 5 0,.ptr 0 0,.ptr 1 0,.ptr 2 0,.ptr 3 0,.ptr 6 0]
def Q9 (n:Notes) (s w:List Int) (m:Int) (M:List (Int×Bool)):List DObj:=[.row [.im (G7 n)],.row [.im (.sl (s.map encI))],.row [.im (.sl (w.map encI))],.row [.im (rI m)],.map [.int .i64] (H2 M),.row [.map 4],.row [.fn (.func 234) frcCaps]]
theorem wr (n:Notes) (s w:List Int) (m:Int):DCall prog G 187 [.one (.im (G7 n)),v8 s,v8 w,iv m] [] (λd o=>d=.one (.fn (.func 234) frcCaps)/\o=Q9 n s w m []):=by
 refine g9 func187 rfl ntmps187 (by simp) rfl ?_;simp only[v8,iv];repeat' first|(with_reducible first|refine zz ?_|refine zx ?_|refine zE [0,1,2,3,4,5,6,7,8,9,10] ?_)|simp -dsimp|with_reducible refine And.intro ?_ ?_
 ·rfl
 ·simp[Q9,frcCaps,H2]
def F3 (n:Notes) (s w:List Int) (m:Int) (i:Nat):Bool:=((L6 s w m n.notes)[i]?).getD false
def ConsM (n:Notes) (s w:List Int) (m:Int) (M:List (Int×Bool)):Prop:=∀ (k:Nat) (b:Bool),dF (k:Int) M=some b->F3 n s w m k=b
theorem ConsM.nil (n:Notes) (s w:List Int) (m:Int):ConsM n s w m []:=λk b h=>by cases h
theorem ConsM.put {n:Notes} {s w:List Int} {m:Int} {M:List (Int×Bool)} (h:ConsM n s w m M) (i:Nat) {b:Bool} (hb:F3 n s w m i=b):ConsM n s w m (vi (i:Int) b M):=λk c hk=>by
 rw[mX] at hk;split at hk
 ·rename_i e;obtain rfl:i=k:=by omega
  cases hk;exact hb
 ·exact h k c hk
theorem Ce {n:Notes} {s w:List Int} {m:Int} {i:Nat} (hi:i<n.notes.length):F3 n s w m i=(nI s w m n.notes[i]&&gD n.notes[i].number (n.notes.drop (i+1)) ((L6 s w m n.notes).drop (i+1))):=by
 have hl:i<(L6 s w m n.notes).length:=by rw[ev];exact hi
 rw[<- Fu hi hl,F3,List.getElem?_eq_getElem hl];rfl
theorem uD {n:Notes} {s w:List Int} {m a:Int} {k:Nat} (hk:k<n.notes.length):gD a (n.notes.drop k) ((L6 s w m n.notes).drop k)=(!(F3 n s w m k&&decide (n.notes[k].cancels=a))&&gD a (n.notes.drop (k+1)) ((L6 s w m n.notes).drop (k+1))):=by
 have hl:k<(L6 s w m n.notes).length:=by rw[ev];exact hk
 rw[yo hk hl,F3,List.getElem?_eq_getElem hl];rfl
@[simp] abbrev QC:List Nat:=[0,1,2,3,4,5,6,8,9,10,11,12,13,20,67]
@[simp] abbrev WI:List Nat:=[0,1,2,3,4,5,6,11,12,13]
theorem Hy (n:Notes) (s w:List Int) (m:Int) (hl:n.notes.length<1000) (hsl:s.length<1000) (hwl:w.length<1000):∀ (d i:Nat),n.notes.length-i<=d->i<n.notes.length->∀ M,ConsM n s w m M ->
 DCall prog G 234 (iv (i:Int) :: frcCaps.map .one) (Q9 n s w m M) (λr o=>∃ M',ConsM n s w m M'/\r=bv (F3 n s w m i)/\o=Q9 n s w m M'):=by
 intro d;induction d with
 | zero=>intro i h1 h2;omega
 | succ d ih =>
   intro i hid hi M hM;simp only[Q9,frcCaps,G7,iv,bv,rI,List.map_cons,List.map_nil] at ih ⊢;refine DCall.drop ?_;refine g9 func234 rfl ntmps234 (by simp) rfl ?_;cases hb:dF (i:Int) M with
   | some b =>
     have hf:=hM i b hb;have hs:=hb;repeat' first|(with_reducible first|refine zz ?_|refine zr ?_|refine zE QC ?_)|simp -dsimp[hs]|refine i9 ?_ ?_<;>intro h<;>try exact h.elim
     all_goals try clear hs
     exact⟨M,hM,by rw[hf],rfl⟩
   | none =>
     generalize hx:n.notes[i]=x at *;have hF:=Ce (s:=s) (w:=w) (m:=m) hi;rw[hx] at hF;have hwi:=zk i;have c1:=X0 (G:=G) s x.number (by omega);have c2:=X0 (G:=G) w x.number (by omega);have c3:=iN (G:=G) x.frm x.to [m] (by simp);rw[show ([m].all λz=>decide (x.frm<=z)&&decide (z<=x.to))=(decide (x.frm<=m)&&decide (m<=x.to)) by simp] at c3;have hs:=za hb (za hx (za hi hwi));repeat' first|(with_reducible first|refine zz ?_|refine zE QC ?_)|simp -dsimp[hs]|refine zp c1 ?_|refine zp c2 ?_|refine zt c3 ?_ ?_ ?_;(focus simp;done);focus (simp;done)|refine i9 ?_ ?_<;>intro h<;>try exact h.elim|with_reducible refine j0 ?_ ?_<;>intro h<;>have h0:=h<;>(try simp only[i7] at h)<;>have h2:=h<;>(try simp at h2)<;>replace hs:=za h0 (za h (za h2 hs))
     all_goals try clear hs
     all_goals
      refine i6 (ι:={ p:Nat×Bool×List (Int×Bool) // i+1<=p.1/\p.1<=n.notes.length/\ConsM n s w m p.2.2/\F3 n s w m i=(p.2.1&&gD x.number (n.notes.drop p.1) ((L6 s w m n.notes).drop p.1)) }) (λp=>⟨92,[(0,iv (i:Int)),(1,.one (.ptr 5 0)),(2,.one (.ptr 0 0)),(3,.one (.ptr 1 0)),(4,.one (.ptr 2 0)),(5,.one (.ptr 3 0)),(6,.one (.ptr 6 0)),(11,.one (.ptr 7 0)),(12,bv p.1.2.1),(13,iv (p.1.1:Int))],[.row [.im (.ip [.sl (n.reg.map e8),.sl (n.notes.map j9),.sl ((nums n.reg).map encI),.sl ((l5 (j7 n.notes)).map encI)])],.row [.im (.sl (s.map encI))],.row [.im (.sl (w.map encI))],.row [.im (rI m)],.map [.int .i64] (H2 p.1.2.2),.row [.map 4],.row [.fn (.func 234) [.ptr 5 0,.ptr 0 0,.ptr 1 0,.ptr 2 0,.ptr 3 0,.ptr 6 0]],.row ((j9 x).map .im)]⟩) (λp=>n.notes.length-p.1.1) ⟨(i+1,nI s w m x,M),by simp,by simp;omega,hM,hF⟩ (zw WI 8 (by clear c1 c2 c3 ih;simp[nI, *])) ?_
     all_goals
      clear c1 c2 c3 hF hM hb;rintro⟨⟨k,v,M2⟩,hk1,hk2,hM2,hv⟩;simp only at hk1 hk2 hM2 hv;simp only[iv,bv];cases v
      ·have hM3:=hM2.put i hv;have hs:=trivial;repeat' first|(with_reducible first|refine zz ?_|refine zr ?_|refine zE QC ?_)|simp -dsimp[hs]|refine i9 ?_ ?_<;>intro h<;>try exact h.elim
       all_goals try clear hs
       all_goals exact⟨_,hM3,by rw[hv];rfl,rfl⟩
      ·by_cases hlk:k<n.notes.length
       ·have hwk:=zk k;have hih:=ih k (by omega) hlk M2 hM2;rw[Bool.true_and,uD hlk] at hv;generalize hy:n.notes[k]=y at *;by_cases hc:y.cancels=x.number
        ·have hvb:∀ b,F3 n s w m k=b->F3 n s w m i=(!b&&gD x.number (n.notes.drop (k+1)) ((L6 s w m n.notes).drop (k+1))):=λb hb=>by
          rw[hv,hb,decide_eq_true hc,Bool.and_true]
         have hs:=za hx (za hy (za hlk (za hwk hc)));repeat' first|with_reducible refine zz ?_|simp -dsimp[hs]|refine CallE.embed_ex [0,1,2,3,4,5,6] (hih) ?_ ?_ ?_ ?_ ?_ ?_;(focus simp[v6];done);(focus simp;done);(focus simp;done);(focus simp;done);(focus refine o9 ?_;simp[v6,s8];done);intro mm hmm;try simp -dsimp[o6,v6,hs]|refine zM 9 92 15 QC ?_|with_reducible refine zE QC ?_|refine i9 ?_ ?_<;>intro h<;>try exact h.elim
         all_goals try clear hs
         all_goals exact zn ⟨(k+1,!F3 n s w m k,mm),by simp only;omega,by simp only;omega,hmm,hvb _ rfl⟩ (zw WI 8)
        ·rw[decide_eq_false hc,Bool.and_false,Bool.not_false,Bool.true_and] at hv;have hs:=za hx (za hy (za hlk (za hwk hc)));repeat' first|with_reducible refine zz ?_|simp -dsimp[hs]|refine zM 9 92 15 QC ?_|with_reducible refine zE QC ?_|refine i9 ?_ ?_<;>intro h<;>try exact h.elim
         all_goals try clear hs
         all_goals exact zn ⟨(k+1,true,M2),by simp only;omega,by simp only;omega,hM2,by rw[hv,Bool.true_and]⟩ (zw WI 8)
       ·rw[Cd (by omega),Bool.and_true] at hv;have hM3:=hM2.put i hv;have hs:=hlk;repeat' first|(with_reducible first|refine zz ?_|refine zr ?_|refine zE QC ?_)|simp -dsimp[hs]|refine i9 ?_ ?_<;>intro h<;>try exact h.elim
        all_goals try clear hs
        all_goals exact⟨_,hM3,by rw[hv],rfl⟩
def yP (n:Notes) (s w:List Int) (m d:Int) (k:Nat):Note:=Ih n.notes (L6 s w m n.notes) d k
theorem CI {n:Notes} {s w:List Int} {m d:Int} {k:Nat} (hk:k<n.notes.length):yP n s w m d (k+1)=if n.notes[k].drawing=d/\F3 n s w m k=true then n.notes[k] else yP n s w m d k:=by
 have hl:k<(L6 s w m n.notes).length:=by rw[ev];exact hk
 unfold yP F3;simp only[Ih,List.getElem?_eq_getElem hk,List.getElem?_eq_getElem hl,Option.some.injEq,Option.getD_some];by_cases h:(L6 s w m n.notes)[k]=true<;>by_cases h2:n.notes[k].drawing=d<;>simp[h,h2]
@[simp] abbrev Ws:List Nat:=[0,1,2,6,7,8,17,36]
theorem Lo (n:Notes) (s w:List Int) (m d:Int) (hl:n.notes.length<1000) (hsl:s.length<1000) (hwl:w.length<1000) (M:List (Int×Bool)) (hM:ConsM n s w m M) :
 DCall prog G 186 [.one (.im (G7 n)),.one (.fn (.func 234) frcCaps),iv d] (Q9 n s w m M) (λr o=>∃ M',ConsM n s w m M'/\r=eg (yP n s w m d n.notes.length)/\o=Q9 n s w m M'):=by
 have ih:=λi hi M hM=>Hy (G:=G) n s w m hl hsl hwl n.notes.length i (by omega) hi M hM;simp only[Q9,frcCaps,G7,iv,bv,rI,eg,j9,rB,List.map_cons,List.map_nil] at ih ⊢;refine DCall.drop ?_;refine g9 func186 rfl ntmps186 (by simp) rfl ?_;have hw0:IntKind.i64.wrap ((n.notes.length:Int)-1)=(n.notes.length:Int)-1:=p9 (by omega) (by omega);have hs:=hw0;repeat' first|with_reducible refine zz ?_|with_reducible refine zE Ws ?_;try simp -dsimp[hs]
 all_goals try simp -dsimp[hs]
 all_goals try clear hs
 refine i6 (ι:={ p:Nat×List (Int×Bool) // p.1<=n.notes.length/\ConsM n s w m p.2/\yP n s w m d n.notes.length=yP n s w m d p.1 }) (λp=>⟨39,[(0,.one (.im (.ip [.sl (n.reg.map e8),.sl (n.notes.map j9),.sl ((nums n.reg).map encI),.sl ((l5 (j7 n.notes)).map encI)]))),(1,.one (.fn (.func 234) [.ptr 5 0,.ptr 0 0,.ptr 1 0,.ptr 2 0,.ptr 3 0,.ptr 6 0])),(2,iv d),(6,.one (.ptr 7 0)),(7,iv ((p.1.1:Int)-1))],[.row [.im (.ip [.sl (n.reg.map e8),.sl (n.notes.map j9),.sl ((nums n.reg).map encI),.sl ((l5 (j7 n.notes)).map encI)])],.row [.im (.sl (s.map encI))],.row [.im (.sl (w.map encI))],.row [.im (rI m)],.map [.int .i64] (H2 p.1.2),.row [.map 4],.row [.fn (.func 234) [.ptr 5 0,.ptr 0 0,.ptr 1 0,.ptr 2 0,.ptr 3 0,.ptr 6 0]],.row ((j9 ⟨0,0,0,0,0,0,0,0,false,0⟩).map .im)]⟩) (λp=>p.1.1) ⟨(n.notes.length,M),by simp,hM,rfl⟩ (zv [0,1,2,6,7]) ?_;clear hM;rintro⟨⟨k,M2⟩,hk,hM2,hv⟩;simp only at hk hM2 hv;simp only[iv];cases k with
 | zero =>
   have hs:=trivial;repeat' first|(with_reducible first|refine zz ?_|refine zr ?_)|with_reducible refine zE Ws ?_;try simp -dsimp[hs]|refine i9 ?_ ?_<;>intro h<;>try exact h.elim
   all_goals try simp -dsimp[hs]
   all_goals try clear hs
   exact⟨M2,hM2,by rw[hv];simp[yP,Ih,mn],rfl⟩
 | succ k =>
   have hkl:k<n.notes.length:=hk;have hwk:IntKind.i64.wrap ((k:Int)-1)=(k:Int)-1:=p9 (by omega) (by omega);have hc:=ih k hkl M2 hM2;rw[CI hkl] at hv;generalize hx:n.notes[k]=x at *;by_cases hd:x.drawing=d
   ·have hs:=za hx (za hkl (za hwk hd));repeat' first|(with_reducible first|refine zz ?_|refine zr ?_)|refine CallE.embed_ex [0,1,2,3,4,5,6] (hc) ?_ ?_ ?_ ?_ ?_ ?_;(focus simp[v6];done);(focus simp;done);(focus simp;done);(focus simp;done);(focus refine o9 ?_;simp[v6,s8];done);intro mm hmm;try simp -dsimp[o6,v6,hs]|with_reducible refine zE Ws ?_;try simp -dsimp[hs]|refine i9 ?_ ?_<;>intro h<;>try exact h.elim
    all_goals try simp -dsimp[hs]
    all_goals try clear hs
    ·have e:=hv.trans (if_pos ⟨hd,by assumption⟩);exact⟨mm,hmm,by rw[e];simp[hd],rfl⟩
    ·have hf:F3 n s w m k=false:=by assumption
     have e:=hv.trans (if_neg λh=>by rw[hf] at h;exact Bool.false_ne_true h.2);exact At.round ⟨(k,mm),by simp only;omega,hmm,e⟩ (by simp) (zw [0,1,2,6,7] 8)
   ·rw[if_neg λh=>hd h.1] at hv;have hs:=za hx (za hkl (za hwk hd));repeat' first|with_reducible refine zz ?_|with_reducible refine zE Ws ?_;try simp -dsimp[hs]|refine i9 ?_ ?_<;>intro h<;>try exact h.elim
    all_goals try simp -dsimp[hs]
    all_goals try clear hs
    exact At.round ⟨(k,M2),by simp only;omega,hM2,hv⟩ (by simp) (zw [0,1,2,6,7] 8)
def iJ (n:Notes) (s:List Int) (m:Int):List Int:=(nums n.reg).map λd=>(yP n s [] m d n.notes.length).letter
@[simp] abbrev WJ:List Nat:=[0,1,2,6,7,8,10,18,19,20,21]
theorem um (n:Notes) (s:List Int) (m:Int) (hl:n.notes.length<1000) (hr:n.reg.length<1000) (hsl:s.length<1000):zP prog G 164 [.one (.im (G7 n)),v8 s,iv m] (v8 (iJ n s m)):=by
 refine zf func164 ntmps164 ?_;try simp only[v8,iv]
 have c1:=wr (G:=G) n s [] m;simp only[Q9,frcCaps,G7,iv,v8,bv,rI,List.map_cons,List.map_nil,H2] at c1 ⊢;have hs:=trivial;repeat' first|with_reducible refine zz ?_|refine CallE.embed [] (c1) ?_ ?_ ?_ ?_ ?_ ?_;(focus simp[v6];done);(focus simp;done);(focus simp;done);(focus simp;done);(focus refine o9 ?_;simp[v6,s8];done);try simp -dsimp[o6,v6,hs]|with_reducible refine zE WJ ?_;try simp -dsimp[hs]
 all_goals try simp -dsimp[hs]
 have hrl:=w5 n.reg n.reg.length;rw[show E3 n.reg n.reg.length=nums n.reg from rfl] at hrl;have hE:iJ n s m=(nums n.reg).map λd=>(yP n s [] m d n.notes.length).letter:=rfl;generalize hP:(λd=>(yP n s [] m d n.notes.length).letter)=P at *;generalize hns:nums n.reg=ns at *;refine i6 (ι:={ p:Nat×Nat×Bool×List (Int×Bool) // p.1<=ns.length/\ConsM n s [] m p.2.2.2 }) (λp=>⟨34,[(0,.one (.im (.ip [.sl (n.reg.map e8),.sl (n.notes.map j9),.sl (ns.map encI),.sl ((l5 (j7 n.notes)).map encI)]))),(7,.one (.fn (.func 234) [.ptr 6 0,.ptr 1 0,.ptr 2 0,.ptr 3 0,.ptr 4 0,.ptr 7 0])),(8,.one (.vec 8 p.1.2.1 0 p.1.1)),(18,v8 ns),(19,iv (ns.length:Int)),(20,iv (p.1.1:Int))],[.vec 1 [] 0 true]++[.row [.im (.ip [.sl (n.reg.map e8),.sl (n.notes.map j9),.sl (ns.map encI),.sl ((l5 (j7 n.notes)).map encI)])],.row [.im (.sl (s.map encI))],.row [.im (.sl [])],.row [.im (rI m)],.map [.int .i64] (H2 p.1.2.2.2),.row [.map 5],.row [.fn (.func 234) [.ptr 6 0,.ptr 1 0,.ptr 2 0,.ptr 3 0,.ptr 4 0,.ptr 7 0]]]++[.vec 1 (l7 (((ns.take p.1.1).map P).map encI)) p.1.2.1 p.1.2.2.1]⟩) (λp=>ns.length-p.1.1) ⟨(0,0,true,[]),by simp,ConsM.nil _ _ _ _⟩ (zv [0,7,8,18,19,20] (by simp[H2])) ?_;rintro⟨⟨k,g,nl,M⟩,hk,hM⟩;simp only at hk hM;simp only[iv,v8];have hlk:((ns.take k).map P).length=k:=by simp;omega
 by_cases hlt:k<ns.length
 ·have hw:=zk k;have hst:(ns.take (k+1)).map P=(ns.take k).map P++[P ns[k]]:=by rw[List.take_succ_eq_append_getElem hlt,List.map_append,List.map_singleton]
  generalize hx:ns[k]=x at *;have c2:=Lo (G:=G) n s [] m x hl hsl (by simp) M hM;have hPx:(yP n s [] m x n.notes.length).letter=P x:=by rw[<- hP]
  simp only[Q9,frcCaps,G7,iv,bv,rI,List.map_cons,List.map_nil,hns] at c2;generalize (ns.take k).map P=L at *;subst hlk;have hs:=za hx (za hlt (za hw hPx));repeat' first|(with_reducible first|refine zz ?_|refine And.intro (by omega) ?_)|refine CallE.embed_ex [1,2,3,4,5,6,7] (c2) ?_ ?_ ?_ ?_ ?_ ?_;(focus simp[v6];done);(focus simp;done);(focus simp;done);(focus simp;done);(focus refine o9 ?_;simp[v6,s8];done);intro mm hmm;try simp -dsimp[o6,v6,hs]|with_reducible refine zE WJ ?_;try simp -dsimp[hs]|refine i9 ?_ ?_<;>intro h<;>try exact h.elim
  all_goals try simp -dsimp[hs]
  all_goals exact zn ⟨(L.length+1,g+1,false,mm),by simp only;omega,hmm⟩ (zw [0,7,8,18,19,20] 9 (by simp[hst,hPx]))
 ·obtain rfl:k=ns.length:=by omega
  rw[List.take_length] at hlk ⊢;have hs:=hlt;repeat' first|(with_reducible first|refine zz ?_|refine zr ?_)|with_reducible refine zE WJ ?_;try simp -dsimp[hs]|refine i9 ?_ ?_<;>intro h<;>try exact h.elim
  all_goals try simp -dsimp[hs]
  simp[hE]
theorem ua (n:Notes) (s:List Int) (m:Int) (hG:p5 G) (hN:D5 G) (hS:u6 G) (hs:wG n) (hsl:s.length<1000):zP prog G 101 [o8 n,v8 s,iv m] (.tup [v8 (if E5 n s m=0 then iJ n s m else []),iv (E5 n s m)]):=by
 refine zf func101 ntmps101 ?_;try simp only[o8,v8,iv]
 have c1:=wE n s m hG hN hS hs hsl;by_cases h0:E5 n s m=0
 ·rw[h0,show R6 n s m=.one (.im (G7 n)) by unfold R6;rw[if_pos h0]] at c1;have hl12:=hs.2.1;have hr80:=hs.1.1;have c2:=um (G:=G) n s m (by omega) (by omega) hsl;simp only[G7] at c1 c2;rw[if_pos h0];have hs:=trivial;repeat' first|(with_reducible first|refine zz ?_|refine zr ?_)|(first|refine zp c1 ?_|refine zp c2 ?_|with_reducible refine zE [0,1,2,3,6,7,8,9,18] ?_);try simp -dsimp[hs]|refine i9 ?_ ?_<;>intro h<;>try exact h.elim
  all_goals try simp -dsimp[hs]
  all_goals try clear hs
  all_goals simp[h0]
 ·rw[show R6 n s m=.one (.im (.raw (.pointer none))) by unfold R6;rw[if_neg h0]] at c1;have hs:=h0;repeat' first|(with_reducible first|refine zz ?_|refine zr ?_)|(first|refine zp c1 ?_|with_reducible refine zE [0,1,2,3,6,7,8,9,18] ?_);try simp -dsimp[hs]|refine i9 ?_ ?_<;>intro h<;>try exact h.elim
  all_goals try simp -dsimp[hs]
  all_goals try clear hs
  all_goals simp[h0]
end Go.Proofs
namespace Go.Proofs
open Go Go.Ab
end Go.Proofs
namespace Go.Ab
open Go
@[simp] theorem JU (X:List (List IC)) (k:Nat) (c:IC):(l7 X).set k [DC.im c]=l7 (X.set k [c]):=by
 simp only[l7,List.map_set,List.map_cons,List.map_nil]
@[simp] theorem JZ (X:List (List IC)) (k:Nat) (h:k<(l7 X).length):(l7 X)[k]=(X[k]'(by simpa[q8] using h)).map .im:=by simp[l7]
end Go.Ab
namespace Go.Proofs
open Go Go.Ab
variable {G:MF}
end Go.Proofs
namespace Go.Proofs
open Go Go.Ab
variable {G:MF}
def F7 (n:Notes) (s:List Int) (m:Int):List Int:=(nums n.reg).map λd=>de n.notes (L6 s [] m n.notes) d
end Go.Proofs
namespace Go.Proofs
open Go Go.Ab
theorem Ii (n:Notes) (s w:List Int) (m d:Int):yP n s w m d n.notes.length=if qC n.notes (L6 s w m n.notes) d n.notes.length<0 then mn else (n.notes[(qC n.notes (L6 s w m n.notes) d n.notes.length).toNat]?).getD mn:=by
 unfold yP;rw[Gu _ _ _ _ (Nat.le_refl _)];split
 ·rfl
 ·split<;>simp[*]
theorem FH {l:List Note} {b:List Bool} {d:Int} {k:Nat} (hk:k<=l.length) (h:¬ qC l b d k<0):(qC l b d k).toNat<l.length:=by
 have:=(CH l b d k).2;omega
theorem ul (n:Notes) (s:List Int) (m:Int):iJ n s m=F7 n s m:=by
 refine List.map_congr_left λd _=>?_;rw[Ii];unfold de;rw[ev];split
 ·rfl
 ·rename_i h;have hl:=FH (Nat.le_refl _) h;rw[List.getElem?_eq_getElem hl];rfl
end Go.Proofs
namespace Go.Ab
open Go
def s9:List Int->List Int
 | []=>[]
 | [a]=>[a]
 | a :: b :: r=>if a=b then s9 (b :: r) else a :: s9 (b :: r)
theorem kF:∀ (l:List Int) (u v:Int),s9 (l++[u,v])=if u=v then s9 (l++[u]) else s9 (l++[u])++[v]
 | [],u,v=>by simp only[List.nil_append,s9];split<;>simp[*]
 | [a],u,v=>by
   simp only[List.cons_append,List.nil_append,s9];split<;>split<;>simp[*]
 | a :: b :: r,u,v=>by
   have ih:=kF (b :: r) u v;simp only[List.cons_append,s9] at ih ⊢;rw[ih];split<;>split<;>simp
theorem bj:∀ l:List Int,(s9 l).length<=l.length
 | []=>by simp[s9]
 | [a]=>by simp[s9]
 | a :: b :: r=>by
   have:=bj (b :: r);simp only[s9];split<;>simp at *<;>omega
theorem gJ:∀ (l:List Int) (x:Int),x∈s9 l↔x∈l
 | [],x=>by simp[s9]
 | [a],x=>by simp[s9]
 | a :: b :: r,x=>by
   have ih:=gJ (b :: r) x;simp only[s9];split
   ·rename_i h;subst h;rw[ih];simp
   ·rw[List.mem_cons,ih,List.mem_cons (a:=x) (b:=a)]
theorem Ah {l:List Int} {k:Nat} (h:k+1<l.length):l.take (k+2)=l.take k++[l[k],l[k+1]]:=by
 rw[show k+2=k+1+1 from rfl,List.take_succ_eq_append_getElem h,List.take_succ_eq_append_getElem (by omega),List.append_assoc];rfl
theorem mP {l:List Int} {k:Nat} (h:k+1<l.length):s9 (l.take (k+2))=if l[k]=l[k+1] then s9 (l.take (k+1)) else s9 (l.take (k+1))++[l[k+1]]:=by
 rw[Ah h,kF,List.take_succ_eq_append_getElem (by omega)]
theorem rh {l:List Int} {k:Nat} {v:Int} (h:k<l.length):(l.set k v).take (k+1)=l.take k++[v]:=by
 rw[List.take_succ_eq_append_getElem (by simpa using h)];simp[List.take_set_of_le]
end Go.Ab
namespace Go.Proofs
open Go Go.Ab Tryz
variable {G:MF}
@[simp] abbrev Qi:List Nat:=[0,2,3,4,5,8,13,25,32,44]
theorem pa (l:List Int) (g:Nat) (hl:l.length<1000):DCall prog G 183 [.one (.vec 0 g 0 l.length)] [.vec 1 (l7 (l.map encI)) g false] (λd o=>∃ S:List Int,(S.length=l.length/\S.take (s9 l).length=s9 l)/\d=.one (.vec 0 g 0 (s9 l).length)/\o=[.vec 1 (l7 (S.map encI)) g false]):=by
 refine DCall.drop ?_;refine g9 func183 rfl ntmps183 (by simp) rfl ?_;by_cases h2:l.length<2
 ·have hli:(l.length:Int)<2:=by omega
  have hs:=hli;repeat' first|(with_reducible first|refine zz ?_|refine zr ?_|refine zE Qi ?_)|simp -dsimp[hs]|refine i9 ?_ ?_<;>intro h<;>try exact h.elim
  have hd:s9 l=l:=by
   match l,h2 with
   | [],_=>rfl
   | [a],_=>rfl
  exact⟨l,⟨rfl,by rw[hd,List.take_length]⟩,by rw[hd],rfl⟩
 ·have hli:¬ (l.length:Int)<2:=by omega
  have hs:=hli;repeat' first|(with_reducible first|refine zz ?_|refine zE Qi ?_)|simp -dsimp[hs]|refine i9 ?_ ?_<;>intro h<;>try exact h.elim
  refine i6 (ι:={ k:Nat // 1<=k/\k<=l.length/\s9 (l.take k)=l.take k }) (λp=>⟨61,[(0,.one (.vec 0 g 0 l.length)),(3,iv (p.1:Int))],[.vec 1 (l7 (l.map encI)) g false]⟩) (λp=>l.length-p.1) ⟨1,by omega,by omega,by cases l with|nil=>rfl|cons a r=>simp[s9]⟩ (zw [0,3] 1) ?_;rintro⟨k,hk1,hk,hdk⟩;simp only[iv];by_cases hlt:k<l.length
  ·have hw:=zk k;obtain⟨j,rfl⟩:∃ j,k=j+1:=⟨k-1,by omega⟩
   have hj:j<l.length:=by omega
   have hst:=mP hlt;rw[hdk] at hst;have hwj:IntKind.i64.wrap (((j+1:Nat):Int)-1)=(j:Int):=by rw[p9 (by omega) (by omega)];omega
   have hwj2:IntKind.i64.wrap (j:Int)=(j:Int):=p9 (by omega) (by omega);have hp0:(0:Int)<=(j:Int)+1:=by omega
   have hp1:(j:Int)+1<=l.length:=by omega
   have hp2:(j:Int)+1<l.length:=by omega
   by_cases he:l[j]=l[j+1]
   ·have he':l[j+1]=l[j]:=he.symm;rw[if_pos he] at hst;have hs:=za hlt (za hj (za hw (za hwj (za hwj2 (za hp0 (za hp1 (za hp2 he')))))));repeat' first|with_reducible refine zz ?_|simp -dsimp[hs]|refine zM 6 61 10 Qi ?_|with_reducible refine zE Qi ?_|refine i9 ?_ ?_<;>intro h<;>try exact h.elim
    refine i6 (ι:={ p:Nat×Nat×List Int // 1<=p.1/\j+1+p.1<=l.length/\p.2.1<=j+p.1/\p.2.2.length=l.length/\p.2.2.take p.2.1=s9 (l.take (j+1+p.1))/\p.2.2.drop (j+p.1)=l.drop (j+p.1) }) (λp=>⟨61,[(0,.one (.vec 0 g 0 l.length)),(3,iv (p.1.2.1:Int)),(4,.one (.vec 0 g (j+1) (l.length-(j+1)))),(5,iv (p.1.1:Int))],[.vec 1 (l7 (p.1.2.2.map encI)) g false]⟩) (λp=>l.length-p.1.1) ⟨(1,j+1,l),by simp only;omega,by simp only;omega,by simp only;omega,rfl,hst.symm,rfl⟩ (zv [0,3,4,5]) ?_;rintro⟨⟨q,w,S⟩,hq1,hqN,hwq,hSl,hSt,hSd⟩;simp only at hq1 hqN hwq hSl hSt hSd;simp only[iv];by_cases hlq:j+1+q<l.length
    ·have hq':q<l.length-(j+1):=by omega
     have hq1':q-1<l.length-(j+1):=by omega
     have hqw:=zk q;have hww:=zk w;have hqm:IntKind.i64.wrap ((q:Int)-1)=((q-1:Nat):Int):=by rw[p9 (by omega) (by omega)];omega
     have hs1:j+1+q<S.length:=by omega
     have hs0:j+1+(q-1)<S.length:=by omega
     have hwl:w<l.length:=by omega
     have hds:s9 (l.take (j+1+(q+1)))=if l[j+q]=l[j+1+q] then s9 (l.take (j+1+q)) else s9 (l.take (j+1+q))++[l[j+1+q]]:=by
      have:=mP (l:=l) (k:=j+q) (by omega);simp only[show j+q+1=j+1+q by omega,show j+q+2=j+1+(q+1) by omega] at this;exact this
     rw[<- hSt] at hds;have e1:S[j+1+q]=l[j+1+q]:=by
      have:=congrArg (λL:List Int=>L[1]?) hSd;simp only[List.getElem?_drop] at this;rw[show j+q+1=j+1+q by omega,List.getElem?_eq_getElem hs1,List.getElem?_eq_getElem hlq] at this;exact Option.some.inj this
     have e0:S[j+1+(q-1)]=l[j+q]:=by
      have:=congrArg (λL:List Int=>L[0]?) hSd;simp only[List.getElem?_drop,Nat.add_zero] at this;rw[List.getElem?_eq_getElem (show j+q<S.length by omega),List.getElem?_eq_getElem (show j+q<l.length by omega)] at this;have e:=Option.some.inj this;rw[<- e];congr 1;omega
     have hdr:S.drop (j+(q+1))=l.drop (j+(q+1)):=by
      have:=congrArg (List.drop 1) hSd;rw[List.drop_drop,List.drop_drop] at this;exact this
     have hset:=λv:Int=>rh (v:=v) (show w<S.length by omega);have hdset:∀ v:Int,(S.set w v).drop (j+(q+1))=l.drop (j+(q+1)):=λv=>by
      rw[List.drop_set_of_lt (by omega)];exact hdr
     generalize l[j+q]=u at *;generalize l[j+1+q]=v at *;have e0':S[j+1+(q-1)]?=some u:=by rw[List.getElem?_eq_getElem hs0,e0]
     have e1':S[j+1+q]?=some v:=by rw[List.getElem?_eq_getElem hs1,e1]
     by_cases huv:u=v
     ·have hvu:v=u:=huv.symm;rw[if_pos huv] at hds;have hs:=za hq' (za hq1' (za hSl (za hlq (za hqw (za hww (za hqm (za hs1 (za hs0 (za hwl (za e1 (za e0 (za e0' (za e1' hvu)))))))))))));repeat' first|with_reducible refine zz ?_|simp -dsimp[hs]|refine zM 11 61 10 Qi ?_|with_reducible refine zE Qi ?_|refine i9 ?_ ?_<;>intro h<;>try exact h.elim
      all_goals exact zn ⟨(q+1,w,S),by simp only;omega,by simp only;omega,by simp only;omega,hSl,hds.symm,hdr⟩ (zv [0,3,4,5])
     ·have hvu:¬ v=u:=λh=>huv h.symm;rw[if_neg huv,<- hset v] at hds;have hs:=za hq' (za hq1' (za hSl (za hlq (za hqw (za hww (za hqm (za hs1 (za hs0 (za hwl (za e1 (za e0 (za e0' (za e1' hvu)))))))))))));repeat' first|with_reducible refine zz ?_|simp -dsimp[hs]|refine zM 11 61 10 Qi ?_|with_reducible refine zE Qi ?_|refine i9 ?_ ?_<;>intro h<;>try exact h.elim
      all_goals exact zn ⟨(q+1,w+1,S.set w v),by simp only;omega,by simp only;omega,by simp only;omega,by simpa using hSl,hds.symm,hdset v⟩ (zv [0,3,4,5])
    ·have hq':¬ q<l.length-(j+1):=by omega
     have hw0:w<=l.length:=by omega
     have hs:=za hq' (za hw0 hSl);repeat' first|(with_reducible first|refine zz ?_|refine zr ?_|refine zE Qi ?_)|simp -dsimp[hs]|refine i9 ?_ ?_<;>intro h<;>try exact h.elim
     have hN:j+1+q=l.length:=by omega
     rw[hN,List.take_length] at hSt;have hwd:w=(s9 l).length:=by rw[<- hSt];simp;omega
     exact⟨yN S w (l.length-w),⟨by rw[sE (by omega)];exact hSl,by rw[<- hwd,<- hSt];exact List.take_left' (by simp;omega)⟩,by rw[hwd],rfl⟩
   ·have he':¬ l[j+1]=l[j]:=λh=>he h.symm;rw[if_neg he] at hst;have hs:=za hlt (za hj (za hw (za hwj (za hwj2 (za hp0 (za hp1 (za hp2 he')))))));repeat' first|with_reducible refine zz ?_|simp -dsimp[hs]|refine zM 6 61 10 Qi ?_|with_reducible refine zE Qi ?_|refine i9 ?_ ?_<;>intro h<;>try exact h.elim
    exact zn ⟨j+2,by omega,by omega,by rw[hst,show j+2=j+1+1 from rfl,List.take_succ_eq_append_getElem hlt]⟩ (zv [0,3] (by simp;exact hw))
  ·obtain rfl:k=l.length:=by omega
   rw[List.take_length] at hdk;have hs:=hlt;repeat' first|(with_reducible first|refine zz ?_|refine zr ?_|refine zE Qi ?_)|simp -dsimp[hs]|refine i9 ?_ ?_<;>intro h<;>try exact h.elim
   exact⟨l,⟨rfl,by rw[hdk,List.take_length]⟩,by rw[hdk],rfl⟩
end Go.Proofs
