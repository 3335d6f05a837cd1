/- Part 17 of the proofs. -/
import Derived.Test.YtpcoahkgkgmmlaaGreatDoorR09
import Derived.Test.YtpcoahkgkgmmlaaGreatDoorR16
set_option linter.all false
set_option linter.deprecated false
set_option maxHeartbeats 100000000
namespace Go.Proofs
open Go Go.Ab Tryz
variable {G:Cr}
theorem SoF.congr {c:Chains} {fv:IC} {so so':Spot→Bool} (h:SoF G c fv so) (he:∀ x∈A3 c,so x=so' x):SoF G c fv so':=by
 rcases h with⟨f,caps,h1,h2,h3⟩|⟨f,caps,h1,h2,h3⟩
 ·exact .inl ⟨f,caps,h1,h2,fun x hx objs=>(h3 x hx objs).mono fun d o ⟨a,b⟩=>⟨by rw[a,he x hx],b⟩⟩
 ·exact .inr ⟨f,caps,h1,h2,fun x hx objs=>(h3 x hx objs).mono fun d o ⟨a,b⟩=>⟨by rw[a,he x hx],b⟩⟩
theorem wQ (c:Chains) (D:List (Int×Int)) (B:List (Int×Issue)) (d k:Int):zP prog G 77 [.one (.im (i8 c D B)),B8 d k] (bv (S7 B ⟨d,k⟩)):=by
 refine zf func77 ntmps77 ?_
 try simp only[B8]
 simp only[i8]
 repeat' first|(with_reducible first|refine zz ?_|refine zx ?_)|simp -dsimp|refine zM 1 14 10 [0,1,3,4] ?_|with_reducible refine zE [0,1,3,4] ?_
 all_goals simp[S7]
def fQ (c:Chains) (D:List (Int×Int)):IC:=.bf (.func 77) [i8 c D (B0 c.reg c.lets)]
theorem jk {c:Chains} (h:OkC c) (D:List (Int×Int)):SoF G c (fQ c D) (s8 c):=
 SoF.congr (.inr ⟨77,_,rfl,by simp,fun x _ objs=>wQ (G:=G) c D (B0 c.reg c.lets) x.drawing x.dim objs⟩) fun x hx=>bQ h hx
def BM (G:Cr) (fv:IC) (lo hi:Int) (p:Int→Bool):Prop:=
 ∃ (f:FuncId) (caps:List IC),fv=.fn (.func f) caps∧I9 prog f∧∀ n,lo≤n→n≤hi→∀ objs,DCall prog G f (iv n :: caps.map fun c=>.one (.im c)) objs (fun d o=>d=bv (p n)∧o=objs)
theorem pK (fv:IC) (p:Int→Bool) (lo hi:Int) (hlo:0≤lo) (hhi:hi≤2000000000) (hp:BM G fv lo hi p):zP prog G 119 [iv lo,iv hi,.one (.im fv)] (iv (oO p lo hi)):=by
 refine zf func119 ntmps119 ?_
 try simp only[iv,iv]
 obtain⟨f,caps,rfl,hf,hcall⟩:=hp
 have hs:=trivial
 repeat' first|(with_reducible first|refine zz ?_|refine zE [0,1,2,6,7,10,19] ?_)|simp -dsimp[hs]
 refine i7 (ι:={ q:Int×Int // lo≤q.1∧q.2≤hi∧(q.1≤q.2∨q.1=lo)∧oO p lo hi=oO p q.1 q.2 }) (fun q=>⟨24,[(0,iv q.1.1),(1,iv q.1.2),(2,.one (.im (.fn (.func f) caps)))],[]⟩) (fun q=>(q.1.2-q.1.1).toNat) ⟨(lo,hi),by simp⟩ (zv [0,1,2]) ?_
 rintro⟨⟨a,b⟩,ha,hb,hab,hE⟩
 simp only at ha hb hab hE
 simp only[iv]
 by_cases hlt:a<b
 ·have hst:=nR (p:=p) hlt
  have hw1:IntKind.i64.wrap (b-a)=b-a:=o6 (by omega) (by omega)
  have hd:(b-a).tdiv 2=(b-a) / 2:=by rw[Int.tdiv_eq_ediv_of_nonneg (by omega)]
  have hw2:IntKind.i64.wrap ((b-a) / 2)=(b-a) / 2:=o6 (by omega) (by omega)
  have hw3:IntKind.i64.wrap (b-(b-a) / 2)=b-(b-a) / 2:=o6 (by omega) (by omega)
  have hw4:IntKind.i64.wrap (b-(b-a) / 2-1)=b-(b-a) / 2-1:=o6 (by omega) (by omega)
  have c1:=hcall (b-(b-a) / 2) (by omega) (by omega)
  have hm1:a<b-(b-a) / 2:=by omega
  have hm2:b-(b-a) / 2≤b:=by omega
  generalize hm:b-(b-a) / 2=m at *
  cases hq:p m
  ·rw[hq] at c1 hst
   simp only[Bool.false_eq_true,if_false] at hst
   have hs:=za hlt (za hw1 (za hd (za hw2 (za hw3 (za hw4 (za hm hf))))))
   repeat' first|(with_reducible first|refine zz ?_|refine zE [0,1,2,6,7,10,19] ?_)|simp -dsimp[hs]|refine zp c1 ?_|refine j7 ?_ ?_<;>intro h<;>try simp only[j0] at h
   exact zn ⟨(a,m-1),by omega,by omega,by omega,hE.trans hst⟩ (zv [0,1,2])
  ·rw[hq,if_pos rfl] at hst
   rw[hq] at c1
   have hs:=za hlt (za hw1 (za hd (za hw2 (za hw3 (za hw4 (za hm hf))))))
   repeat' first|(with_reducible first|refine zz ?_|refine zE [0,1,2,6,7,10,19] ?_)|simp -dsimp[hs]|refine zp c1 ?_|refine j7 ?_ ?_<;>intro h<;>try simp only[j0] at h
   exact zn ⟨(m,b),by omega,by omega,by omega,hE.trans hst⟩ (zv [0,1,2])
 ·have:oO p a b=a:=qZ (by omega)
  rw[this] at hE
  have hs:=hlt
  repeat' first|(with_reducible first|refine zz ?_|refine zr ?_|refine zE [0,1,2,6,7,10,19] ?_)|simp -dsimp[hs]|refine j7 ?_ ?_<;>intro h<;>try simp only[j0] at h
  all_goals rw[hE]
theorem uk (c:Chains) (D:List (Int×Int)) (n:Int) (h:OkC c) (hl:c.loops.length≤10) (h0:0≤n) (h1:n≤2000000000):zP prog G 118 [iv n,.one (.im (.ip [i8 c D (B0 c.reg c.lets)]))] (bv (aH c (s8 c) n)):=by
 refine zf func118 ntmps118 ?_
 try simp only[iv]
 have c1:=ej (G:=G) c D (fQ c D) (s8 c) n 0 (Nat.zero_le _) hl h (jk h D) h0 h1
 have hE:=gg c (s8 c) n
 generalize aH c (s8 c) n=r at *
 generalize F7 c (s8 c) n 0=m at *
 simp only[i8,fQ,Int.natCast_zero] at c1
 simp only[i8]
 by_cases hm:m=c.loops.length
 ·have hr:r=true:=hE.2 hm
  have hm':(m:Int)=(c.loops.length:Int):=by omega
  have hs:=hm'
  repeat' first|(with_reducible first|refine zz ?_|refine zr ?_)|simp -dsimp[hs]|refine zq c1 ?_|refine zM 1 16 13 [0,1,3] ?_|with_reducible refine zE [0,1,3] ?_
  all_goals simp[hr]
 ·have hr:r=false:=by
   cases hq:r with
   | false=>rfl
   | true=>exact absurd (hE.1 hq) hm
  have hm':¬ (m:Int)=(c.loops.length:Int):=by omega
  have hs:=za hm hm'
  repeat' first|(with_reducible first|refine zz ?_|refine zr ?_)|simp -dsimp[hs]|refine zq c1 ?_|refine zM 1 16 13 [0,1,3] ?_|with_reducible refine zE [0,1,3] ?_
  all_goals simp[hr]
theorem wF {c:Chains} (D:List (Int×Int)) (h:OkC c) (hl:c.loops.length≤10):BM G (.fn (.func 118) [.ip [i8 c D (B0 c.reg c.lets)]]) 0 ew (aH c (s8 c)):=
 ⟨118,_,rfl,by simp,fun n h0 h1 objs=>uk (G:=G) c D n h hl h0 (by unfold ew at h1;omega) objs⟩
def fU (c:Chains):Int:=if aV c then w9 c else 0
theorem rb (c:Chains) (D:List (Int×Int)) (h:OkC c) (hl:c.loops.length≤10):zP prog G 76 [.one (.im (i8 c D (B0 c.reg c.lets)))] (.tup [iv (fU c),bv (aV c)]):=by
 refine zf func76 ntmps76 ?_
 try simp only[iv]
 have c1:=uk (G:=G) c D 0 h hl (by decide) (by decide)
 have c2:=pK (G:=G) _ _ 0 ew (by decide) (by decide) (wF (G:=G) D h hl)
 have hH:aV c=aH c (s8 c) 0:=rfl
 have hN:w9 c=oO (aH c (s8 c)) 0 ew:=rfl
 rw[← hH] at c1
 rw[← hN] at c2
 simp only[i8,ew] at c1 c2
 simp only[i8,fU]
 clear hH hN
 generalize w9 c=N at *
 cases hq:aV c
 ·rw[hq] at c1
  repeat' first|(with_reducible first|refine zz ?_|refine zx ?_|refine zE [0,1,2,3,4,8] ?_)|simp -dsimp|refine zt c1 ?_ ?_ ?_;(focus simp;done);focus (simp;done)|refine j7 ?_ ?_<;>intro h<;>try simp only[j0] at h
 ·rw[hq] at c1
  repeat' first|(with_reducible first|refine zz ?_|refine zx ?_|refine zE [0,1,2,3,4,8] ?_)|simp -dsimp|refine zt c1 ?_ ?_ ?_;(focus simp;done);focus (simp;done)|refine zt c2 ?_ ?_ ?_;(focus simp;done);focus (simp;done)|refine j7 ?_ ?_<;>intro h<;>try simp only[j0] at h
def mw (c:Chains):Int:=if j6 c≠0 then j6 c else if aV c then 0 else 6
def mu (c:Chains):Int:=if j6 c=0 then fU c else 0
theorem uL (c:Chains) (hG:B4 G) (hC:K1 G) (hsm:r7 c):zP prog G 33 [M7 c] (.tup [iv (mu c),iv (mw c)]):=by
 refine zf func33 ntmps33 ?_
 try simp only[M7]
 have c1:=O0 c hG hC hsm
 by_cases h00:j6 c=0
 ·have hOk:=mV h00
  have c2:=rb (G:=G) c (x6 c) hOk hsm.2.2.1
  rw[h00] at c1
  rw[mu,if_pos h00,mw,if_neg (by simp[h00]),fU]
  rw[fU] at c2
  simp only[H5,h00,if_true,i8] at c1
  simp only[i8] at c2
  generalize w9 c=N at *
  cases hq:aV c
  all_goals simp only[hq] at c2
  ·have hs:=trivial
   repeat' first|(with_reducible first|refine zz ?_|refine zr ?_|refine zE [0,1,2,3,4,5,6,7,14,22] ?_)|simp -dsimp[hs]|refine zp c1 ?_|refine zp c2 ?_|refine j7 ?_ ?_<;>intro h<;>try simp only[j0] at h
  ·have hs:=trivial
   repeat' first|(with_reducible first|refine zz ?_|refine zr ?_|refine zE [0,1,2,3,4,5,6,7,14,22] ?_)|simp -dsimp[hs]|refine zp c1 ?_|refine zp c2 ?_|refine j7 ?_ ?_<;>intro h<;>try simp only[j0] at h
 ·obtain⟨X,hX⟩:=F9 c
  rw[hX] at c1
  rw[mu,if_neg h00,mw,if_pos h00]
  have hs:=h00
  repeat' first|(with_reducible first|refine zz ?_|refine zr ?_|refine zE [0,1,2,3,4,5,6,7,14,22] ?_)|simp -dsimp[hs]|refine zp c1 ?_|refine j7 ?_ ?_<;>intro h<;>try simp only[j0] at h
def cz (c:Chains):Bool:=aV c&&decide (w9 c≠ew)
def Z5 (c:Chains):Int:=if j6 c≠0 then j6 c else if cz c then 0 else 6
def F4 (c:Chains):Nat:=F7 c (s8 c) (w9 c+1) 0
def ja (c:Chains):ChLoop:=sn c (F4 c:Int)
def pq (c:Chains):List Int:=eQ (ja c).links (lV c (s8 c) (w9 c+1) (ja c)) (!decide (ws c (s8 c) (w9 c+1) (ja c)≤(ja c).hi))
def An (c:Chains):Int:=if Z5 c=0 then (F4 c:Int) else 0
def Am (c:Chains):List Int:=if Z5 c=0 then pq c else []
theorem uG {c:Chains} (hOk:OkC c) (h:cz c=true):F4 c<c.loops.length∧0≤w9 c+1∧w9 c+1≤1000000000:=by
 simp only[cz,Bool.and_eq_true,decide_eq_true_eq] at h
 obtain⟨h1,h2,h3,h4⟩:=pL hOk h.1
 have h5:=h4 (w9 c+1) (by omega) (by have:=h.2;omega)
 obtain⟨_,k2,_,_⟩:=W0 c (s8 c) (w9 c+1) _ 0 rfl (Nat.zero_le _)
 refine⟨?_,by omega,by have:=h.2;unfold ew at h3 this;omega⟩
 refine Nat.lt_of_le_of_ne k2 fun e=>?_
 rw[(gg c (s8 c) (w9 c+1)).2 e] at h5
 cases h5
theorem uK (c:Chains) (hG:B4 G) (hC:K1 G) (hsm:r7 c):zP prog G 34 [M7 c] (.tup [iv (An c),C1 (Am c),iv (Z5 c)]):=by
 refine zf func34 ntmps34 ?_
 try simp only[M7]
 have c1:=O0 c hG hC hsm
 by_cases h00:j6 c=0
 ·have hOk:=mV h00
  have c2:=rb (G:=G) c (x6 c) hOk hsm.2.2.1
  rw[h00] at c1
  simp only[H5,h00,if_true,i8] at c1
  rw[fU] at c2
  cases hp:cz c
  ·have hE:Z5 c=6:=by rw[Z5,if_neg (by simp[h00]),hp];rfl
   rw[An,Am,hE,if_neg (by decide),if_neg (by decide)]
   simp only[i8] at c2
   have hp':aV c=false∨aV c=true∧w9 c=ew:=by
    simp only[cz] at hp
    cases hq:aV c
    ·exact .inl rfl
    ·rw[hq,Bool.true_and] at hp
     exact .inr ⟨rfl,by simpa using hp⟩
   rcases hp' with hq|⟨hq,hM⟩
   ·simp only[hq] at c2
    have hs:=trivial
    repeat' first|(with_reducible first|refine zz ?_|refine zr ?_|refine zE [0,1,2,3,4,5,6,7,8,9,10,17,29,58] ?_)|simp -dsimp[hs]|refine zp c1 ?_|refine zp c2 ?_|refine j7 ?_ ?_<;>intro h<;>try simp only[j0] at h
    all_goals try clear hs
   ·simp only[hq,hM,ew] at c2
    have hs:=trivial
    repeat' first|(with_reducible first|refine zz ?_|refine zr ?_|refine zE [0,1,2,3,4,5,6,7,8,9,10,17,29,58] ?_)|simp -dsimp[hs]|refine zp c1 ?_|refine zp c2 ?_|refine j7 ?_ ?_<;>intro h<;>try simp only[j0] at h
    all_goals try clear hs
  ·have hE:Z5 c=0:=by rw[Z5,if_neg (by simp[h00]),hp];rfl
   rw[An,Am,hE,if_pos rfl,if_pos rfl]
   obtain⟨hL,hg0,hg1⟩:=uG hOk hp
   have hq:aV c=true∧w9 c≠1000000000:=by
    have:=hp
    simp only[cz,Bool.and_eq_true,decide_eq_true_eq,ew] at this
    exact⟨this.1,of_decide_eq_true this.2⟩
   have c3:=ej (G:=G) c (x6 c) (fQ c (x6 c)) (s8 c) (w9 c+1) 0 (Nat.zero_le _) hsm.2.2.1 hOk (jk hOk _) hg0 (by omega)
   have hLE:F7 c (s8 c) (w9 c+1) 0=F4 c:=rfl
   rw[hLE] at c3
   have c4:=kQ (G:=G) c (x6 c) (fQ c (x6 c)) (s8 c) (w9 c+1) (F4 c) hL hOk (jk hOk _) hg0 (by omega)
   obtain⟨hsl,hsd⟩:=oX hOk (so:=s8 c) hg0 (List.getElem_mem hL)
   have hln:=(hOk.gap c.loops[F4 c] (List.getElem_mem hL)).1
   have c5:=fun high=>mf (G:=G) c (x6 c) (B0 c.reg c.lets) (F4 c) hL (lV c (s8 c) (w9 c+1) c.loops[F4 c]) high (by omega) hsl hsd
   have hX:ja c=c.loops[F4 c]:=ml hL
   have hS:pq c=eQ c.loops[F4 c].links (lV c (s8 c) (w9 c+1) c.loops[F4 c]) (!decide (S9 c.loops[F4 c].links (lV c (s8 c) (w9 c+1) c.loops[F4 c]) true≤c.loops[F4 c].hi)):=by rw[pq,hX];rfl
   have hx:c.loops[F4 c]?=some c.loops[F4 c]:=by simp[hL]
   have hw:IntKind.i64.wrap (w9 c+1)=w9 c+1:=o6 (by omega) (by omega)
   rw[hS]
   clear hS hX hLE
   have c51:=c5 true
   have c50:=c5 false
   clear c5
   generalize lV c (s8 c) (w9 c+1) c.loops[F4 c]=sz at *
   generalize S9 c.loops[F4 c].links sz true=hi at *
   generalize S9 c.loops[F4 c].links sz false=lo at *
   simp only[hq.1,if_true] at c2
   simp only[i8,fQ,Int.natCast_zero] at c2 c3 c4 c50 c51
   simp only[C1] at c50 c51
   have hq2:=hq.2
   generalize F4 c=L at *
   generalize w9 c=N at *
   by_cases hh:hi≤c.loops[L].hi
   ·have hs:=za hw (za hq2 (za hx (za hL hh)))
    repeat' first|(with_reducible first|refine zz ?_|refine zr ?_|refine zE [0,1,2,3,4,5,6,7,8,9,10,17,29,58] ?_)|simp -dsimp[hs]|refine zp c1 ?_|refine zp c2 ?_|refine zp c3 ?_|refine zp c4 ?_|refine zp c51 ?_|refine zp c50 ?_|refine j7 ?_ ?_<;>intro h<;>try simp only[j0] at h
    all_goals try clear hs
    all_goals simp[hh]
   ·have hs:=za hw (za hq2 (za hx (za hL hh)))
    repeat' first|(with_reducible first|refine zz ?_|refine zr ?_|refine zE [0,1,2,3,4,5,6,7,8,9,10,17,29,58] ?_)|simp -dsimp[hs]|refine zp c1 ?_|refine zp c2 ?_|refine zp c3 ?_|refine zp c4 ?_|refine zp c51 ?_|refine j7 ?_ ?_<;>intro h<;>try simp only[j0] at h
    all_goals try clear hs
    all_goals simp[hh]
 ·obtain⟨X,hX⟩:=F9 c
  rw[hX] at c1
  have hE:Z5 c=j6 c:=by rw[Z5,if_pos h00]
  rw[An,Am,hE,if_neg h00,if_neg h00]
  have hs:=h00
  repeat' first|(with_reducible first|refine zz ?_|refine zr ?_|refine zE [0,1,2,3,4,5,6,7,8,9,10,17,29,58] ?_)|simp -dsimp[hs]|refine zp c1 ?_|refine j7 ?_ ?_<;>intro h<;>try simp only[j0] at h
  all_goals try clear hs
attribute [simp] p9 dO A1 C3 nilV N6 ZK
theorem sE (l:List Spot) (v:Spot) (hl:l.length<1000000):zP prog G 89 [x8 l,B8 v.drawing v.dim] (iv (kn (fun x=>decide (v=x)) l)):=by
 refine zf func89 ntmps89 ?_
 try simp only[B8]
 simp only[x8,B8]
 have hs:=trivial
 repeat' first|(with_reducible first|refine zz ?_|refine zE [0,1,3,4,5,7,8,9,16] ?_)|simp -dsimp[hs]
 refine i7 (ι:={ k:Nat // k≤l.length∧∀ j x,j<k→l[j]?=some x→decide (v=x)=false }) (fun i=>⟨19,[(0,x8 l),(3,.one (.ptr 0 0)),(7,iv (l.length:Int)),(8,iv (i.1:Int))],[.row [.im (rI v.drawing),.im (rI v.dim)]]⟩) (fun i=>l.length-i.1) ⟨0,by simp⟩ (zv [0,3,7,8]) ?_
 rintro⟨i,hi,hno⟩
 simp only[iv,x8]
 by_cases hlt:i<l.length
 ·have hx0:l[i]?=some l[i]:=by simp[hlt]
  have hw:=zk i
  generalize hx:l[i]=x at *
  have hiff:v=x↔v.drawing=x.drawing∧v.dim=x.dim:=⟨fun e=>by rw[e];exact⟨rfl,rfl⟩,fun ⟨a,b⟩=>by cases v;cases x;simp_all⟩
  have hs:=za hx (za hw hlt)
  repeat' first|(with_reducible first|refine zz ?_|refine zr ?_)|simp -dsimp[hs]|refine zM 4 19 6 [0,1,3,4,5,7,8,9,16] ?_|with_reducible refine zE [0,1,3,4,5,7,8,9,16] ?_|refine j7 ?_ ?_<;>intro h<;>try simp only[j0] at h
  all_goals first
   | exact(eL hx0 (by rw[decide_eq_true_iff,hiff];omega) hno).symm
   | exact At.round ⟨i+1,by omega,fun j y hj hjx=>by
    by_cases e:j=i
    ·subst e;rw[hx0] at hjx;cases hjx;rw[decide_eq_false_iff_not,hiff];omega
    ·exact hno j y (by omega) hjx⟩ (by simp;omega) (zv [0,3,7,8])
 ·have hs:=hlt
  repeat' first|(with_reducible first|refine zz ?_|refine zr ?_|refine zE [0,1,3,4,5,7,8,9,16] ?_)|simp -dsimp[hs]|refine j7 ?_ ?_<;>intro h<;>try simp only[j0] at h
  exact(ii fun j x hjx=>hno j x (by have:=e7 hjx;omega) hjx).symm
theorem aY (l:List Spot) (v:Spot) (hl:l.length<1000000):zP prog G 41 [x8 l,B8 v.drawing v.dim] (bv (ib l v)):=by
 refine zf func41 ntmps41 ?_
 try simp only[B8]
 have hc:=sE (G:=G) l v hl
 simp only[x8,B8] at hc
 simp only[x8,B8]
 repeat' first|(with_reducible first|refine zz ?_|refine zx ?_|refine zE [0,1,3,4] ?_)|simp -dsimp|refine zp hc ?_
 have h1:=Y3 (fun x=>decide (v=x)) l
 rw[h1,Bool.eq_iff_iff]
 simp[ib]
theorem zj (l:List Spot) (v:Spot) (hl:l.length<1000000):zP prog G 79 [B8 v.drawing v.dim,.one (.im (.ip [.sl (l.map m8)]))] (bv (ib l v)):=by
 refine zf func79 ntmps79 ?_
 try simp only[B8]
 have hc:=aY (G:=G) l v hl
 simp only[x8,B8] at hc
 repeat' first|(with_reducible first|refine zz ?_|refine zx ?_|refine zE [0,1,2,3] ?_)|simp -dsimp|refine zp hc ?_
def zm (l:List Spot):IC:=.fn (.func 79) [.ip [.sl (l.map m8)]]
theorem zi (c:Chains) {l:List Spot} (hl:l.length<1000000):SoF G c (zm l) (ib l):=.inl ⟨79,_,rfl,by simp,fun x _ objs=>zj (G:=G) l x hl objs⟩
def gP:List Spot→List Spot→Int
 | [],[]=>0
 | [],_ :: _=>-1
 | _ :: _,[]=>1
 | a :: l,b :: m=>if bt a b≠0 then bt a b else gP l m
theorem ordS_zero {a b:Spot}:bt a b=0↔a=b:=by
 have h1:a=b↔a.drawing=b.drawing∧a.dim=b.dim:=⟨fun e=>by rw[e];exact⟨rfl,rfl⟩,fun ⟨p,q⟩=>by cases a;cases b;simp_all⟩
 rw[h1]
 unfold bt aZ bu bu bu
 repeat' split
 all_goals omega
theorem rg:∀ {a b:List Spot},a.length=b.length→(gP a b<0↔sr a b=true)
 | [],[],_=>by simp[gP,sr]
 | [],_ :: _,h=>by simp at h
 | _ :: _,[],h=>by simp at h
 | x :: a,y :: b,h=>by
   rw[gP,sr]
   by_cases e:x=y
   ·have h0:bt x y=0:=ordS_zero.2 e
    rw[if_neg (by simp[h0]),if_pos e]
    exact rg (by simpa using h)
   ·have h0:bt x y≠0:=fun h=>e (ordS_zero.1 h)
    rw[if_pos h0,if_neg e,ordS_lt]
theorem zu (a b:List Spot) (ha:a.length<1000000) (hb:b.length<1000000):zP prog G 78 [x8 a,x8 b,.one (.im (.fn (.func 42) []))] (iv (gP a b)):=by
 refine zf func78 ntmps78 ?_
 try simp only[iv]
 simp only[x8]
 have hs:=trivial
 repeat' first|(with_reducible first|refine zz ?_|refine zE [0,1,2,6,7,8,9,10,11,12,13,14,21,31,38] ?_)|simp -dsimp[hs]
 refine i7 (ι:={ k:Nat // k≤a.length∧k≤b.length∧gP a b=gP (a.drop k) (b.drop k) }) (fun i=>⟨39,[(0,x8 a),(1,x8 b),(2,.one (.im (.fn (.func 42) []))),(11,x8 a),(12,iv (a.length:Int)),(13,iv (i.1:Int))],[]⟩) (fun i=>a.length-i.1) ⟨0,by simp⟩ (zv [0,1,2,11,12,13]) ?_
 rintro⟨k,hk,hkb,hE⟩
 simp only[iv,x8]
 by_cases hlt:k<a.length
 ·have hx:a[k]?=some a[k]:=by simp[hlt]
  by_cases hltb:k<b.length
  ·have hy:b[k]?=some b[k]:=by simp[hltb]
   have hw:=zk k
   rw[List.drop_eq_getElem_cons hlt,List.drop_eq_getElem_cons hltb,gP] at hE
   generalize hxe:a[k]=x at *
   generalize hye:b[k]=y at *
   have c1:=mg (G:=G) x y
   have hnb:¬ (b.length:Int)≤(k:Int):=by omega
   simp only[B8] at c1
   generalize bt x y=r at *
   by_cases hr:r=0
   ·rw[if_neg (by simp[hr])] at hE
    have hs:=za hx (za hy (za hxe (za hye (za hlt (za hltb (za hw (za hnb hr)))))))
    repeat' first|(with_reducible first|refine zz ?_|refine zE [0,1,2,6,7,8,9,10,11,12,13,14,21,31,38] ?_)|simp -dsimp[hs]|refine zp c1 ?_|refine j7 ?_ ?_<;>intro h<;>try simp only[j0] at h
    all_goals exact zn ⟨k+1,by omega,by omega,hE⟩ (zw [0,1,2,11,12,13] 0)
   ·rw[if_pos hr] at hE
    have hs:=za hx (za hy (za hxe (za hye (za hlt (za hltb (za hw (za hnb hr)))))))
    repeat' first|(with_reducible first|refine zz ?_|refine zr ?_|refine zE [0,1,2,6,7,8,9,10,11,12,13,14,21,31,38] ?_)|simp -dsimp[hs]|refine zp c1 ?_|refine j7 ?_ ?_<;>intro h<;>try simp only[j0] at h
    all_goals rw[hE]
  ·have hyb:(b.length:Int)≤(k:Int):=by omega
   have hb0:b.drop k=[]:=List.drop_eq_nil_of_le (by omega)
   rw[List.drop_eq_getElem_cons hlt,hb0,gP] at hE
   have hs:=za hx (za hlt (za hltb hyb))
   repeat' first|(with_reducible first|refine zz ?_|refine zr ?_|refine zE [0,1,2,6,7,8,9,10,11,12,13,14,21,31,38] ?_)|simp -dsimp[hs]|refine j7 ?_ ?_<;>intro h<;>try simp only[j0] at h
   all_goals rw[hE]
 ·have ha0:a.drop k=[]:=List.drop_eq_nil_of_le (by omega)
  by_cases hltb:k<b.length
  ·have hlb:(a.length:Int)<(b.length:Int):=by omega
   rw[ha0,List.drop_eq_getElem_cons hltb,gP] at hE
   have hs:=za hlt (za hltb hlb)
   repeat' first|(with_reducible first|refine zz ?_|refine zr ?_|refine zE [0,1,2,6,7,8,9,10,11,12,13,14,21,31,38] ?_)|simp -dsimp[hs]|refine j7 ?_ ?_<;>intro h<;>try simp only[j0] at h
   all_goals rw[hE]
  ·have hlb:¬ (a.length:Int)<(b.length:Int):=by omega
   rw[ha0,List.drop_eq_nil_of_le (by omega),gP] at hE
   have hs:=za hlt (za hltb hlb)
   repeat' first|(with_reducible first|refine zz ?_|refine zr ?_|refine zE [0,1,2,6,7,8,9,10,11,12,13,14,21,31,38] ?_)|simp -dsimp[hs]|refine j7 ?_ ?_<;>intro h<;>try simp only[j0] at h
   all_goals rw[hE]
attribute [simp] p9 dO F1 U3 A1 C3 nilV N6 ZK
@[simp] theorem zT (L:List ChLoop) (k:Nat) (h:k<(p6 (L.map j9)).length):(p6 (L.map j9))[k]=[DC.im (.sl ((L[k]'(by simpa[o3] using h)).links.map C5)),DC.im (.raw (.int .i64 (L[k]'(by simpa[o3] using h)).lo)),DC.im (.raw (.int .i64 (L[k]'(by simpa[o3] using h)).hi))]:=by
 simp[p6,j9,rI]
@[simp] theorem zS (L:List Issue) (k:Nat) (h:k<(p6 (L.map e8)).length):(p6 (L.map e8))[k]=(e8 (L[k]'(by simpa[o3] using h))).map .im:=by
 simp[p6]
theorem iR {α:Type} {l:List α} {k:Nat} {x:α} (h:l[k]?=some x):l.set k x=l:=by
 apply List.ext_getElem?
 intro j
 by_cases e:k=j
 ·subst e
  rw[List.getElem?_set_self (List.getElem?_eq_some_iff.1 h).1,h]
 ·rw[List.getElem?_set_ne e]
theorem sI {L:List ChLoop} {k:Nat} {x:ChLoop} (h:L[k]?=some x):(p6 (L.map j9)).set k [DC.im (.sl (x.links.map C5)),DC.im (.raw (.int .i64 x.lo)),DC.im (.raw (.int .i64 x.hi))]=p6 (L.map j9):=
 iR (by simp[p6,h,j9,rI])
theorem sH {L:List Issue} {k:Nat} {x:Issue} (h:L[k]?=some x):(p6 (L.map e8)).set k ((e8 x).map .im)=p6 (L.map e8):=
 iR (by simp[p6,h])
theorem pX (l:List Link) (hl:l.length<1000000) (objs:List DObj):DCall prog G 132 [.one (.im (.sl (l.map C5)))] objs (fun d objs'=>d=.one (.im (.sl (l.map C5)))∧objs'=objs):=by
 refine DCall.frame ?_ (by simp) (by simp) objs
 refine j5 func132 rfl ntmps132 (by simp) rfl ?_
 repeat' first|(with_reducible first|refine zz ?_|refine And.intro (by omega) ?_|refine zx ?_|refine zE [0,2,4] ?_)|simp -dsimp|refine j7 ?_ ?_<;>intro h<;>try simp only[j0] at h|with_reducible refine Z8 (fun h=>?_);(try simp only[List.map_eq_nil_iff] at h);(try subst h);try simp -dsimp|with_reducible refine And.intro ?_ ?_
 all_goals omega
theorem tj (l:List Int) (hl:l.length<1000):DCall prog G 130 [C1 l] [] (fun d o=>∃ i:Nat×Bool,(i.2=true→l=[])∧d=.one (.vec 1 i.1 0 l.length)∧o=[.vec 1 [] 0 true,.vec 1 (p6 (l.map encI)) i.1 i.2]):=by
 refine j5 func130 rfl ntmps130 (by simp) rfl ?_
 simp only[C1]
 repeat' first|(with_reducible first|refine zz ?_|refine And.intro (by omega) ?_|refine zx ?_|refine zE [0,2,4] ?_)|simp -dsimp|refine j7 ?_ ?_<;>intro h<;>try simp only[j0] at h|with_reducible refine Z8 (fun h=>?_);(try simp only[List.map_eq_nil_iff] at h);(try subst h);try simp -dsimp|with_reducible refine And.intro ?_ ?_
theorem th (l:List ChLoop) (hl:l.length<1000):DCall prog G 131 [.one (.im (.sl (l.map j9)))] [] (fun d o=>∃ i:Nat×Bool,(i.2=true→l=[])∧d=.one (.vec 1 i.1 0 l.length)∧o=[.vec 3 [] 0 true,.vec 3 (p6 (l.map j9)) i.1 i.2]):=by
 refine j5 func131 rfl ntmps131 (by simp) rfl ?_
 repeat' first|(with_reducible first|refine zz ?_|refine And.intro (by omega) ?_|refine zx ?_|refine zE [0,2,4] ?_)|simp -dsimp|refine j7 ?_ ?_<;>intro h<;>try simp only[j0] at h|with_reducible refine Z8 (fun h=>?_);(try simp only[List.map_eq_nil_iff] at h);(try subst h);try simp -dsimp|with_reducible refine And.intro ?_ ?_
theorem tg (l:List Issue) (hl:l.length<1000):DCall prog G 133 [.one (.im (.sl (l.map e8)))] [] (fun d o=>∃ i:Nat×Bool,(i.2=true→l=[])∧d=.one (.vec 1 i.1 0 l.length)∧o=[.vec 5 [] 0 true,.vec 5 (p6 (l.map e8)) i.1 i.2]):=by
 refine j5 func133 rfl ntmps133 (by simp) rfl ?_
 repeat' first|(with_reducible first|refine zz ?_|refine And.intro (by omega) ?_|refine zx ?_|refine zE [0,2,4] ?_)|simp -dsimp|refine j7 ?_ ?_<;>intro h<;>try simp only[j0] at h|with_reducible refine Z8 (fun h=>?_);(try simp only[List.map_eq_nil_iff] at h);(try subst h);try simp -dsimp|with_reducible refine And.intro ?_ ?_
abbrev wm:=(Nat×Bool)×(Nat×Bool)×(Nat×Bool)
def BC (m:wm) (c:Chains):DV:=.agg [.vec 10 m.2.2.1 0 c.reg.length,.vec 6 m.1.1 0 c.lets.length,.im (rI c.of),.vec 8 m.2.1.1 0 c.loops.length]
def BB (m:wm) (c:Chains):List DObj:=[.row [.vec 10 m.2.2.1 0 c.reg.length,.vec 6 m.1.1 0 c.lets.length,.im (rI c.of),.vec 8 m.2.1.1 0 c.loops.length],.vec 0 [] 0 true,.vec 0 [] 0 true,.vec 0 [] 0 true,.row [.vec 10 m.2.2.1 0 c.reg.length,.vec 6 m.1.1 0 c.lets.length,.im (rI c.of),.vec 8 m.2.1.1 0 c.loops.length],.vec 1 [] 0 true,.vec 1 (p6 (c.lets.map encI)) m.1.1 m.1.2,.vec 3 [] 0 true,.vec 3 (p6 (c.loops.map j9)) m.2.1.1 m.2.1.2,.vec 5 [] 0 true,.vec 5 (p6 (c.reg.map e8)) m.2.2.1 m.2.2.2]
def wl (m:wm) (c:Chains):Prop:=(m.1.2=true→c.lets=[])∧(m.2.1.2=true→c.loops=[])∧(m.2.2.2=true→c.reg=[])
def yb (c:Chains) (d:DV) (o:List DObj):Prop:=∃ m:wm,wl m c∧d=BC m c∧o=BB m c
theorem pZ (c:Chains) (hsm:r7 c):DCall prog G 94 [M7 c] [] (yb c):=by
 refine j5 func94 rfl ntmps94 (by simp) rfl ?_
 have c1:=tj (G:=G) c.lets (by have:=hsm.2.1;omega)
 have c2:=th (G:=G) c.loops (by have:=hsm.2.2.1;omega)
 have c3:=tg (G:=G) c.reg (by have:=hsm.1.1;omega)
 simp only[C1] at c1
 have hs:=trivial
 repeat' first|with_reducible refine zz ?_|simp -dsimp[hs]|refine CallE.embed_ex [] (c1) ?_ ?_ ?_ ?_ ?_ ?_;(focus simp[E0];done);(focus simp;done);(focus simp;done);(focus simp;done);(focus refine D4 ?_;simp[E0,F0];done);intro mmA hmmA;try simp -dsimp[x9,E0,hs]|refine CallE.embed_ex [] (c2) ?_ ?_ ?_ ?_ ?_ ?_;(focus simp[E0];done);(focus simp;done);(focus simp;done);(focus simp;done);(focus refine D4 ?_;simp[E0,F0];done);intro mmB hmmB;try simp -dsimp[x9,E0,hs]|refine Y9 (id:=1) (nt:=69) [none,none,none,none,none,none,some [],none,some [],none] [0,1,3,4,6,8,2,5,7,9] 6 [([2,3,4,5],[0,1,2,3,4,5,7,16,17,18,42,43,44]),([4,5],[0,1,2,3,4,5,8,10,16,17,18,42,43,44]),([5],[0,1,2,3,4,5,8,11,12,16,17,18,42,43,44])] [0,1,2,3,4,5,16,17,18,42,43,44] mixed rfl (by kernel_rfl) (by kernel_rfl) (by kernel_rfl) ?_|with_reducible refine zE [0,1,2,3,4,5,16,17,18,42,43,44] ?_
 refine i7 (ι:={ i:Nat // i≤c.loops.length }) (fun i=>⟨69,[(0,M7 c),(1,.one (.ptr 0 0)),(2,.one (.ptr 4 0)),(16,iv (c.loops.length:Int)),(17,iv (i.1:Int))],[.row [.im (.sl (c.reg.map e8)),.vec 6 mmA.1 0 c.lets.length,.im (rI c.of),.vec 8 mmB.1 0 c.loops.length],.vec 0 [] 0 true,.vec 0 [] 0 true,.vec 0 [] 0 true,.row [.vec 1 0 0 0,.vec 2 0 0 0,.im (rI 0),.vec 3 0 0 0],.vec 1 [] 0 true,.vec 1 (p6 (c.lets.map encI)) mmA.1 mmA.2,.vec 3 [] 0 true,.vec 3 (p6 (c.loops.map j9)) mmB.1 mmB.2]⟩) (fun i=>c.loops.length-i.1) ⟨0,by omega⟩ (zv [0,1,2,16,17] (by simp[M7])) ?_
 rintro⟨i,hi⟩
 simp only[iv,rI,M7]
 by_cases hlt:i<c.loops.length
 ·obtain⟨x,hx⟩:∃ x,c.loops[i]?=some x:=⟨c.loops[i],by simp[hlt]⟩
  have hxm:x∈c.loops:=List.mem_of_getElem? hx
  have hxe:∀ h,c.loops[i]'h=x:=fun h=>by rw[List.getElem?_eq_getElem h] at hx;exact Option.some.inj hx
  have c4:=pX (G:=G) x.links (by have:=hsm.2.2.2 x hxm;omega)
  have hw:IntKind.i64.wrap ((i:Int)+1)=((i+1:Nat):Int):=o6 (by omega) (by have:=hsm.2.2.1;omega)
  have hset:=sI hx
  have hs:=za hlt (za hx (za hxe (za hw hset)))
  repeat' first|with_reducible refine zz ?_|simp -dsimp[hs]|refine zp c4 ?_|refine Y9 (id:=5) (nt:=69) [none,none,none,none,none,none,none,none,none,none,some [1,2],some [10],none] [0,1,2,3,4,5,6,7,8,10,11,9,12] 11 [([0,1,2,9,10],[0,1,2,3,4,5,16,17,18,28,42,43,44])] [0,1,2,3,4,5,16,17,18,42,43,44] mixed rfl (by kernel_rfl) (by kernel_rfl) (by kernel_rfl) ?_|with_reducible refine zE [0,1,2,3,4,5,16,17,18,42,43,44] ?_|refine j7 ?_ ?_<;>intro h<;>try simp only[j0] at h
  all_goals exact zn ⟨i+1,by omega⟩ (zv [0,1,2,16,17])
 ·have hs:=hlt
  repeat' first|(with_reducible first|refine zz ?_|refine zE [0,1,2,3,4,5,16,17,18,42,43,44] ?_)|simp -dsimp[hs]|refine CallE.embed_ex [] (c3) ?_ ?_ ?_ ?_ ?_ ?_;(focus simp[E0];done);(focus simp;done);(focus simp;done);(focus simp;done);(focus refine D4 ?_;simp[E0,F0];done);intro mmC hmmC;try simp -dsimp[x9,E0,hs]|refine j7 ?_ ?_<;>intro h<;>try simp only[j0] at h
  refine i7 (ι:={ i:Nat // i≤c.reg.length }) (fun i=>⟨69,[(0,M7 c),(1,.one (.ptr 0 0)),(2,.one (.ptr 4 0)),(42,iv (c.reg.length:Int)),(43,iv (i.1:Int))],[.row [.vec 10 mmC.1 0 c.reg.length,.vec 6 mmA.1 0 c.lets.length,.im (rI c.of),.vec 8 mmB.1 0 c.loops.length],.vec 0 [] 0 true,.vec 0 [] 0 true,.vec 0 [] 0 true,.row [.vec 1 0 0 0,.vec 2 0 0 0,.im (rI 0),.vec 3 0 0 0],.vec 1 [] 0 true,.vec 1 (p6 (c.lets.map encI)) mmA.1 mmA.2,.vec 3 [] 0 true,.vec 3 (p6 (c.loops.map j9)) mmB.1 mmB.2,.vec 5 [] 0 true,.vec 5 (p6 (c.reg.map e8)) mmC.1 mmC.2]⟩) (fun i=>c.reg.length-i.1) ⟨0,by omega⟩ (zv [0,1,2,42,43] (by simp[M7])) ?_
  rintro⟨i,hi⟩
  simp only[iv,rI,M7]
  by_cases hlt:i<c.reg.length
  ·obtain⟨x,hx⟩:∃ x,c.reg[i]?=some x:=⟨c.reg[i],by simp[hlt]⟩
   have hxm:x∈c.reg:=List.mem_of_getElem? hx
   have hxe:∀ h,c.reg[i]'h=x:=fun h=>by rw[List.getElem?_eq_getElem h] at hx;exact Option.some.inj hx
   have c4:=lB (G:=G) x.items (by have:=hsm.1.2 x hxm;omega)
   have c5:=lC (G:=G) x.dims (by have:=hsm.1.2 x hxm;omega)
   have hw:IntKind.i64.wrap ((i:Int)+1)=((i+1:Nat):Int):=o6 (by omega) (by have:=hsm.1.1;omega)
   have hset:=sH hx
   simp only[e8,List.map_cons,List.map_nil,rI] at hset
   have hs:=za hlt (za hx (za hxe (za hw hset)))
   repeat' first|with_reducible refine zz ?_|simp -dsimp[e8,rI,hs]|refine zp c4 ?_|refine zp c5 ?_|refine Y9 (id:=12) (nt:=69) [none,none,none,none,none,none,none,none,none,none,none,none,some [0],some [12],none,some [1],some [15],none] [0,1,2,3,4,5,7,8,9,10,12,13,15,16,6,11,14,17] 14 [([0,1,6,7,8,9,10,11,12,13],[0,1,2,3,4,5,16,17,18,42,43,44,56]),([0,1,10,11,12,13],[0,1,2,3,4,5,16,17,18,42,43,44,57,61]),([1,12,13],[0,1,2,3,4,5,16,17,18,42,43,44,57,62,64])] [0,1,2,3,4,5,16,17,18,42,43,44] mixed rfl (by kernel_rfl) (by kernel_rfl) (by kernel_rfl) ?_|with_reducible refine zE [0,1,2,3,4,5,16,17,18,42,43,44] ?_|refine j7 ?_ ?_<;>intro h<;>try simp only[j0] at h
   all_goals exact zn ⟨i+1,by omega⟩ (zv [0,1,2,42,43])
  ·have hs:=hlt
   repeat' first|(with_reducible first|refine zz ?_|refine zr ?_|refine zE [0,1,2,3,4,5,16,17,18,42,43,44] ?_)|simp -dsimp[hs]|refine j7 ?_ ?_<;>intro h<;>try simp only[j0] at h
   all_goals exact⟨(mmA,mmB,mmC),⟨hmmA,hmmB,hmmC⟩,rfl,rfl⟩
theorem qa (c:Chains) (hsm:r7 c):DCall prog G 94 [M7 c] [] (fun d o=>∃ m:wm,wl m c∧d=BC m c∧o=BB m c):=pZ c hsm
def aR (l:List Issue) (d:Int):DV:=if l8 l=0∧d∈nums l then .one (.im (q9 l (nums l))) else .one (.im (.raw (.pointer none)))
theorem sA (l:List Issue) (d:Int):ImV (aR l d):=by unfold aR;split<;>simp[q9]
attribute [simp] sA
def V7 (l:List Issue) (d:Int):Int:=if l8 l≠0 then l8 l else if d∈nums l then 0 else 6
theorem wX (l:List Issue) (d:Int) (hG:B4 G) (hs:T3 l):zP prog G 134 [B1 l,iv d] (.tup [aR l d,iv (V7 l d)]):=by
 refine zf func134 ntmps134 ?_
 try simp only[B1,iv]
 have c1:=eq l hG hs
 by_cases h0:l8 l=0
 ·simp only[aG,h0,if_true] at c1
  have c2:=vj (G:=G) l (nums l) d ((A5 h0).1.imp fun h=>Int.le_of_lt h) (by have:=hs.1;have:=o5 l l.length;unfold nums;omega)
  by_cases hm:d∈nums l
  ·simp only[hm,decide_true,q9] at c1 c2
   have hs:=trivial
   repeat' first|(with_reducible first|refine zz ?_|refine zr ?_|refine zE [0,1,2,4,5,6,7,14,19] ?_)|simp -dsimp[hs]|refine zp c1 ?_|refine zp c2 ?_|refine j7 ?_ ?_<;>intro h<;>try simp only[j0] at h
   all_goals try clear hs
   all_goals simp[aR,V7,h0,hm,q9]
  ·simp only[hm,decide_false,q9] at c1 c2
   have hs:=trivial
   repeat' first|(with_reducible first|refine zz ?_|refine zr ?_|refine zE [0,1,2,4,5,6,7,14,19] ?_)|simp -dsimp[hs]|refine zp c1 ?_|refine zp c2 ?_|refine j7 ?_ ?_<;>intro h<;>try simp only[j0] at h
   all_goals try clear hs
   all_goals simp[aR,V7,h0,hm,q9]
 ·simp only[aG,h0,if_false] at c1
  have hs:=h0
  repeat' first|(with_reducible first|refine zz ?_|refine zr ?_|refine zE [0,1,2,4,5,6,7,14,19] ?_)|simp -dsimp[hs]|refine zp c1 ?_|refine j7 ?_ ?_<;>intro h<;>try simp only[j0] at h
  all_goals try clear hs
  all_goals simp[aR,V7,h0]
def C0 (l:List Issue) (d:Int):Nat:=(l.filter fun x=>decide (x.drawing=d)).length
theorem wG {l:List Issue} {d:Int} (hs:(l.map (·.drawing)).Pairwise (·≤·)):C0 l d=C0 (l.drop (lb (l.map (·.drawing)) d)) d:=by
 conv=>lhs;rw[← List.take_append_drop (lb (l.map (·.drawing)) d) l]
 simp only[C0,List.filter_append]
 rw[List.filter_eq_nil_iff.2 fun x hx=>?_]
 ·rfl
 ·have:=pc hs x hx
  simp;omega
theorem wW (l:List Issue) (ds:List Int) (d:Int) (hs:(l.map (·.drawing)).Pairwise (·≤·)) (hl:l.length<1000000):zP prog G 135 [.one (.im (q9 l ds)),iv d] (iv (C0 l d:Int)):=by
 refine zf func135 ntmps135 ?_
 try simp only[iv]
 simp only[q9]
 have c1:=jr (G:=G) (q9 l ds) d
 simp only[q9] at c1
 have hs:=trivial
 repeat' first|(with_reducible first|refine zz ?_|refine zE [0,1,4,5,8] ?_)|simp -dsimp[hs]|refine zp c1 ?_
 all_goals try clear hs
 refine O1 (f:=140) (by simp;exact rfl) (by rfl) call140 ?_
 generalize hR:LoopD.mk _ _ _ _ _ _ _=R
 have hR1:R.st=.ready:=by rw[← hR]
 have hR2:R.pend=none:=by rw[← hR]
 have hR3:R.at .ready none=R:=by rw[← hR];rfl
 have hR4:=(congrArg LoopD.nt hR).symm
 have hR5:=(congrArg LoopD.tm hR).symm
 have hR6:=(congrArg LoopD.ps hR).symm
 have hR7:=(congrArg LoopD.asg hR).symm
 have hR8:=(congrArg LoopD.body hR).symm
 dsimp only at hR4 hR5 hR6 hR7 hR8
 clear hR
 refine j5 func140 rfl ntmps140 (by simp) rfl ?_
 have hR9:∀ objs:List DObj,(R.tm.map fun x=>(x.1,dw 2 objs x.2))=R.tm:=by intro objs;rw[hR5];simp
 have hlb:=nL (l.map (·.drawing)) d
 rw[List.length_map] at hlb
 have c2:=dE (G:=G) l d hs hl
 have hs:=za hR1 (za hR2 (za hR3 hlb))
 repeat' first|with_reducible refine zz ?_|simp -dsimp[hs]|refine zq c2 ?_|refine zM 0 41 12 [0,1,2,4,7,24,25,26,27,39] ?_|with_reducible refine zE [0,1,2,4,5,7,8,24,25,26,27,39] ?_
 all_goals try clear hs
 rw[← List.map_drop]
 have hge:=pf (d:=d) hs
 have hss:((l.drop (lb (l.map (·.drawing)) d)).map (·.drawing)).Pairwise (·≤·):=by rw[List.map_drop];exact hs.drop
 have hsl:l.length-lb (l.map (·.drawing)) d=(l.drop (lb (l.map (·.drawing)) d)).length:=by simp
 rw[hsl]
 have hsl2:(l.drop (lb (l.map (·.drawing)) d)).length<1000000:=by simp;omega
 rw[wG hs]
 generalize l.drop (lb (l.map (·.drawing)) d)=s at hge hss hsl2 ⊢
 refine i7 (ι:={ k:Nat // k≤s.length∧k+C0 (s.drop k) d=C0 s d }) (fun p=>⟨41,[(0,.one (.yld 1)),(2,.one (.im (.ip [rI d]))),(24,.one (.im (.sl (s.map e8)))),(25,iv (s.length:Int)),(26,iv (p.1:Int))],[.row [.im (rI (p.1:Int))],.loop R]⟩) (fun p=>s.length-p.1) ⟨0,by simp⟩ (zv [0,2,24,25,26]) ?_
 rintro⟨k,hk,hno⟩
 simp only[iv]
 by_cases hlt:k<s.length
 ·have hx:s[k]?=some s[k]:=by simp[hlt]
  have hw:=zk k
  have hcons:s.drop k=s[k] :: s.drop (k+1):=List.drop_eq_getElem_cons hlt
  by_cases hd:s[k].drawing=d
  ·have hno':k+1+C0 (s.drop (k+1)) d=C0 s d:=by
    rw[← hno,C0,C0,hcons,List.filter_cons_of_pos (by simp[hd]),List.length_cons];omega
   have hs:=za hR1 (za hR2 (za hR3 (za hx (za hw (za hd hlt)))))
   repeat' first|(with_reducible first|refine zz ?_|refine zE [0,1,2,4,5,7,8,24,25,26,27,39] ?_)|simp -dsimp[hs]|with_reducible refine At.yield_end ?_;simp -dsimp[hs]|refine cN ?_ ?_<;>simp -dsimp[hs]|refine U7 ?_;simp -dsimp[T2,hR4,hR5,hR6,hR7,hR8,hs]|refine j7 ?_ ?_<;>intro h<;>try simp only[j0] at h
   all_goals try clear hs
   all_goals exact zn ⟨k+1,by omega,hno'⟩ (zw [0,2,24,25,26] 2 (by simp[hR9]))
  ·have hnone:C0 (s.drop k) d=0:=by
    simp only[C0,List.length_eq_zero_iff,List.filter_eq_nil_iff]
    intro x hxm
    obtain⟨i,hi⟩:=List.mem_iff_getElem?.1 hxm
    rw[List.getElem?_drop] at hi
    have h1:s[k].drawing≤x.drawing:=by
     rcases Nat.eq_zero_or_pos i with rfl|hp
     ·rw[Nat.add_zero,hx] at hi;cases hi;exact Int.le_refl _
     ·have hlt2:=(List.getElem?_eq_some_iff.1 hi).1
      have:=(List.pairwise_iff_getElem.1 hss) k (k+i) (by simpa using hlt) (by simpa using hlt2) (by omega)
      have h6:=(List.getElem?_eq_some_iff.1 hi).2
      simp at this;rw[h6] at this;exact this
    have h2:=hge s[k] (List.getElem_mem hlt)
    simp;omega
   have hN:C0 s d=k:=by omega
   have hs:=za hR1 (za hR2 (za hR3 (za hx (za hw (za hd hlt)))))
   repeat' first|(with_reducible first|refine zz ?_|refine zr ?_ (by simp -dsimp[r8,hs];exact rfl)|refine zE [0,1,2,4,5,7,8,24,25,26,27,39] ?_)|simp -dsimp[r8,hs]|with_reducible show r8 _ _ _ _ _ _ _ _;simp -dsimp[r8,hs]|refine j7 ?_ ?_<;>intro h<;>try simp only[j0] at h
   all_goals try clear hs
   all_goals simp[hN]
 ·have hN:C0 s d=k:=by rw[← hno,List.drop_eq_nil_of_le (by omega)];simp[C0]
  have hs:=za hR1 (za hR2 (za hR3 hlt))
  repeat' first|(with_reducible first|refine zz ?_|refine zr ?_ (by simp -dsimp[r8,hs];exact rfl)|refine ze ?_ (by simp -dsimp[r8,hs];exact rfl)|refine zE [0,1,2,4,5,7,8,24,25,26,27,39] ?_)|simp -dsimp[r8,hs]|with_reducible show r8 _ _ _ _ _ _ _ _;simp -dsimp[r8,hs]|refine j7 ?_ ?_<;>intro h<;>try simp only[j0] at h
  all_goals try clear hs
  all_goals simp[hN]
def qS (l:List Issue) (d:Int):Int:=if V7 l d=0 then (C0 l d:Int) else 0
theorem wM (l:List Issue) (d:Int) (hG:B4 G) (hs:T3 l):zP prog G 96 [B1 l,iv d] (.tup [iv (qS l d),iv (V7 l d)]):=by
 refine zf func96 ntmps96 ?_
 try simp only[B1,iv]
 have c1:=wX (G:=G) l d hG hs
 by_cases h0:V7 l d=0
 ·have hk:l8 l=0∧d∈nums l:=by
   unfold V7 at h0
   by_cases h1:l8 l=0
   ·refine⟨h1,?_⟩
    rw[if_neg (by simp[h1])] at h0
    by_cases h2:d∈nums l
    ·exact h2
    ·rw[if_neg h2] at h0;cases h0
   ·rw[if_pos h1] at h0;exact absurd h0 h1
  have c2:=wW (G:=G) l (nums l) d (bc hk.1) (by have:=hs.1;omega)
  rw[aR,if_pos hk,h0] at c1
  rw[qS,if_pos h0,h0]
  simp only[q9] at c1 c2
  have hs:=trivial
  repeat' first|(with_reducible first|refine zz ?_|refine zr ?_|refine zE [0,1,2,4,5,6,7,15] ?_)|simp -dsimp[hs]|refine zp c1 ?_|refine zp c2 ?_|refine j7 ?_ ?_<;>intro h<;>try simp only[j0] at h
  all_goals try clear hs
 ·rw[qS,if_neg h0]
  generalize hX:aR l d=X at c1
  have hXo:∃ x,X=.one (.im x):=by subst hX;unfold aR;split<;>exact⟨_,rfl⟩
  obtain⟨x,rfl⟩:=hXo
  generalize V7 l d=e at *
  have hs:=h0
  repeat' first|(with_reducible first|refine zz ?_|refine zr ?_|refine zE [0,1,2,4,5,6,7,15] ?_)|simp -dsimp[hs]|refine zp c1 ?_|refine j7 ?_ ?_<;>intro h<;>try simp only[j0] at h
  all_goals try clear hs
end Go.Proofs
