/- Part 18 of the proofs. -/
import Derived.Test.YtlmlkkoapahmjaaGreatDoorS09
import Derived.Test.YtlmlkkoapahmjaaGreatDoorS14
import Derived.Test.YtlmlkkoapahmjaaGreatDoorS15
import Derived.Test.YtlmlkkoapahmjaaGreatDoorS17
set_option linter.all false
set_option maxHeartbeats 100000000
namespace Go.Proofs
open Go Go.Ab Tryz
variable {G:Hn}
theorem mN (c:Chains):∃ X,aD c=.one (.im X):=by unfold aD;split<;>exact⟨_,rfl⟩
def u5 (c:Chains) (n:Int):Int:=if p9 c≠0 then p9 c else if 0<=n/\n<c.loops.length then 0 else 2
@[simp] abbrev Ji:List Nat:=[0,1,2,4,5,6,7,24]
theorem An (c:Chains) (n:Int) (hG:s9 G) (hC:W6 G) (hs:T7 c):zP prog G 185 [iL c,iv n] (.tup [aD c,iv (u5 c n)]):=by
 refine zf func185 ntmps185 ?_;try simp only[iL,iv]
 have c1:=yj c hG hC hs;have hl:=hs.2.2.1;have hw:IntKind.i64.wrap ((c.loops.length:Int)-1)=(c.loops.length:Int)-1:=m9 (by omega) (by omega);have c2:=bk (G:=G) 0 ((c.loops.length:Int)-1) [n] (by simp);have hE:u5 c n=if p9 c≠0 then p9 c else if 0<=n/\n<c.loops.length then 0 else 2:=rfl;obtain⟨X,hX⟩:=mN c;rw[hX];rw[hX] at c1;by_cases h0:p9 c=0
 ·rw[h0] at c1 hE;by_cases hr:0<=n/\n<c.loops.length
  ·have hq:([n].all λx=>decide (0<=x)&&decide (x<=(c.loops.length:Int)-1))=true:=by simp;omega
   rw[hq] at c2;have hs:=hw;repeat' first|(with_reducible first|refine zz ?_|refine zr ?_|refine zE Ji ?_)|simp -dsimp[hs]|refine zp c1 ?_|refine zt c2 ?_ ?_ ?_;(focus simp;done);focus (simp;done)|refine i7 ?_ ?_<;>intro h<;>try exact h.elim
   all_goals try clear hs
   simp[hE,hr]
  ·have hq:([n].all λx=>decide (0<=x)&&decide (x<=(c.loops.length:Int)-1))=false:=by simp;omega
   rw[hq] at c2;have hs:=hw;repeat' first|(with_reducible first|refine zz ?_|refine zr ?_|refine zE Ji ?_)|simp -dsimp[hs]|refine zp c1 ?_|refine zt c2 ?_ ?_ ?_;(focus simp;done);focus (simp;done)|refine i7 ?_ ?_<;>intro h<;>try exact h.elim
   all_goals try clear hs
   simp[hE,hr]
 ·have hs:=h0;repeat' first|(with_reducible first|refine zz ?_|refine zr ?_|refine zE Ji ?_)|simp -dsimp[hs]|refine zp c1 ?_|refine i7 ?_ ?_<;>intro h<;>try exact h.elim
  all_goals try clear hs
  simp[hE,h0]
theorem Aj (d k:Int):zP prog G 188 [B1 d k] (bv false):=by
 refine zf func188 ntmps188 ?_;try simp only[B1]
 repeat' first|(with_reducible first|refine zz ?_|refine zx ?_|refine zE [0,2] ?_)|simp -dsimp
theorem BV (x:Link):zP prog G 236 [kE x] (B1 x.drawing x.dim):=by
 refine zf func236 ntmps236 ?_;try simp only[kE]
 repeat' first|(with_reducible first|refine zz ?_|refine zx ?_|refine zE [0,1,2] ?_)|simp -dsimp
def eV:IC:=.fn (.func 188) []
@[simp] abbrev KN:List Nat:=[0,1,2,3,8,9,11,12,21,22,23,24,42]
theorem wP (c:Chains) (D:List (Int×Int)) (n:Nat) (hn:n<c.loops.length) (h:OkC c):zP prog G 187 [.one (.im (K0 c D (aK c.reg c.lets))),iv (n:Int),iv 0,.one (.im eV)] (.one (.im (.sl ((J2 c c.loops[n]).map B3)))):=by
 refine zf func187 ntmps187 ?_;try simp only[iv,iv]
 have hx:c.loops[n]?=some c.loops[n]:=by simp[hn]
 have hln:=h.gap c.loops[n] (List.getElem_mem hn);have hok:=λy hy=>kX h (List.getElem_mem hn) (y:=y) hy;have hlk:=h.link c.loops[n] (List.getElem_mem hn);have hE:J2 c c.loops[n]=c.loops[n].links.map (S0 c):=rfl;simp only[K0,eV];have hs:=za hx hn;repeat' first|(with_reducible first|refine zz ?_|refine zE KN ?_)|simp -dsimp[hs]
 generalize hls:c.loops[n].links=ls at *;refine g9 (ι:={ p:Nat×Nat×Bool×List Dim // p.1<=ls.length/\p.2.2.2=(ls.take p.1).map (S0 c) }) (λp=>⟨52,[(0,.one (.im (K0 c D (aK c.reg c.lets)))),(2,iv 0),(3,.one (.im eV)),(9,.one (.vec 1 p.1.2.1 0 p.1.2.2.2.length)),(21,.one (.im (.sl (ls.map G7)))),(22,iv (ls.length:Int)),(23,iv (p.1.1:Int))],[.vec 3 [] 0 true,.vec 3 (l8 (p.1.2.2.2.map B3)) p.1.2.1 p.1.2.2.1]⟩) (λp=>ls.length-p.1.1) ⟨(0,0,true,[]),by simp⟩ (zv [0,2,3,9,21,22,23] (by simp[K0,eV])) ?_;rintro⟨⟨k,g,nl,out⟩,hk,ho⟩;simp only at hk ho;simp only[iv,K0,eV];have hol:out.length=k:=by rw[ho];simp;omega
 by_cases hlt:k<ls.length
 ·have hy:ls[k]?=some ls[k]:=by simp[hlt]
  have hw:=zk k;obtain⟨l1,l2,l3⟩:=hlk ls[k] (List.getElem_mem hlt);obtain⟨_,he⟩:=hok ls[k] (List.getElem_mem hlt);have hlook:J3 (aK c.reg c.lets) ls[k].drawing=o4 c.reg c.lets ls[k].drawing:=by rw[aK,T1,if_pos l1]
  obtain⟨j,hj⟩:∃ j:Nat,ls[k].dim=j:=⟨ls[k].dim.toNat,by omega⟩
  rw[hj,Int.toNat_natCast] at he;have hjl:=e7 he;have hje:=(List.getElem?_eq_some_iff.1 he).2;have c2:=BV (G:=G) ⟨ls[k].drawing,j,ls[k].back⟩;have c3:=Aj (G:=G) ls[k].drawing j;simp only[B1] at c2 c3;have hon:out++[S0 c ls[k]]=(ls.take (k+1)).map (S0 c):=by rw[List.take_succ_eq_append_getElem hlt,List.map_append,ho];rfl
  have hs:=za hy (za hw (za hlt (za hlook (za hj (za hjl (za he hje))))));repeat' first|(with_reducible first|refine zz ?_|refine And.intro (by omega) ?_)|simp -dsimp[hs]|refine zp c2 ?_|refine zp c3 ?_|refine q8 (id:=5) (nt:=52) 13 [] [0,1,2,3,8,9,11,12,21,22,23,24,27,28,29,30,31,32,33,34,35,36,37,38,42] KN mixed rfl (by kernel_rfl) ?_|with_reducible refine zE KN ?_|refine i7 ?_ ?_<;>intro h<;>try exact h.elim
  all_goals try omega
  exact zn ⟨(k+1,g+1,false,out++[S0 c ls[k]]),by omega,hon⟩ (zw [0,2,3,9,21,22,23] 2 (by simp[K0,eV]))
 ·have hs:=hlt;repeat' first|(with_reducible first|refine zz ?_|refine zr ?_|refine zE KN ?_)|simp -dsimp[hs]|refine i7 ?_ ?_<;>intro h<;>try exact h.elim
  all_goals try omega
  rw[hE,ho,List.take_of_length_le (by omega)]
@[simp] abbrev Kb:List Nat:=[0,1,2,3,8,9,10,11,12,13,14,15,24,25,26,27,37,41]
@[simp] abbrev KO:List Nat:=[2,3,10,11,24,25,26]
theorem wV (c:Chains) (D:List (Int×Int)) (B:List (Int×Issue)) (n:Nat) (hn:n<c.loops.length) (l:List Dim) (high:Bool) (hl:c.loops[n].links.length<=12) (he:l.length=c.loops[n].links.length) (hd:∀ d∈l,H6 d=true):zP prog G 235 [.one (.im (K0 c D B)),iv (n:Int),.one (.im (.sl (l.map B3))),bv high] (.tup [n9 (eE c.loops[n].links l high),iv (aq c.loops[n].links l high)]):=by
 refine zf func235 ntmps235 ?_;try simp only[iv,bv]
 have hxn:c.loops[n]?=some c.loops[n]:=by simp[hn]
 simp only[K0];have hs:=za hxn hn;repeat' first|(with_reducible first|refine zz ?_|refine zE Kb ?_)|simp -dsimp[hs]
 all_goals try clear hs
 generalize c.loops[n].links=ls at *;refine g9 (ι:={ p:Nat×Nat×Bool×List Int×Int // p.1<=ls.length/\p.2.2.2.1.length=p.1/\eE ls l high=p.2.2.2.1++((ls.zip l).drop p.1).map (λq=>H4 high q.1 q.2)/\aq ls l high=((ls.zip l).drop p.1).foldl (λs q=>s+jn q.1 (H4 high q.1 q.2)) p.2.2.2.2/\-1000000000*(p.1:Int)<=p.2.2.2.2/\p.2.2.2.2<=1000000000*(p.1:Int) }) (λp=>⟨59,[(2,.one (.im (.sl (l.map B3)))),(3,bv high),(10,iv p.1.2.2.2.2),(11,.one (.vec 1 p.1.2.1 0 p.1.2.2.2.1.length)),(24,.one (.im (.sl (ls.map G7)))),(25,iv (ls.length:Int)),(26,iv (p.1.1:Int))],[.vec 1 [] 0 true,.vec 1 (l8 (p.1.2.2.2.1.map encI)) p.1.2.1 p.1.2.2.1]⟩) (λp=>ls.length-p.1.1) ⟨(0,0,true,[],0),by simp[eE,aq]⟩ (zv [2,3,10,11,24,25,26]) ?_;rintro⟨⟨k,g,nl,out,s⟩,hk,hol,ho,hs,hb1,hb2⟩;simp only at hk hol ho hs hb1 hb2;simp only[iv,bv];by_cases hlt:k<ls.length
 ·have hkl:k<l.length:=by omega
  have hx:ls[k]?=some ls[k]:=by simp[hlt]
  have hy:l[k]?=some l[k]:=by simp[hkl]
  have hw:=zk k;have hz:k<(ls.zip l).length:=by simp;omega
  rw[List.drop_eq_getElem_cons hz,List.getElem_zip,List.map_cons] at ho;rw[List.drop_eq_getElem_cons hz,List.getElem_zip,List.foldl_cons] at hs;have hdk:=hd l[k] (List.getElem_mem hkl);have hdl:=(T5 _).1 hdk;have hsb:=wo (high:=high) (x:=ls[k]) hdk;have hws:IntKind.i64.wrap (s+jn ls[k] (H4 high ls[k] l[k]))=s+jn ls[k] (H4 high ls[k] l[k]):=m9 (by omega) (by omega);have hon:eE ls l high=(out++[H4 high ls[k] l[k]])++((ls.zip l).drop (k+1)).map (λq=>H4 high q.1 q.2):=by rw[ho];simp
  have hwl:IntKind.i64.wrap (-l[k].lower)=-l[k].lower:=m9 (by omega) (by omega);have hwu:IntKind.i64.wrap (-l[k].upper)=-l[k].upper:=m9 (by omega) (by omega);have hwl1:IntKind.i64.wrap l[k].lower=l[k].lower:=m9 (by omega) (by omega);have hwu1:IntKind.i64.wrap l[k].upper=l[k].upper:=m9 (by omega) (by omega);have hfin:k+1<=ls.length/\(out++[H4 high ls[k] l[k]]).length=k+1/\eE ls l high=(out++[H4 high ls[k] l[k]])++((ls.zip l).drop (k+1)).map (λq=>H4 high q.1 q.2)/\aq ls l high=((ls.zip l).drop (k+1)).foldl (λs q=>s+jn q.1 (H4 high q.1 q.2)) (s+jn ls[k] (H4 high ls[k] l[k]))/\-1000000000*((k+1:Nat):Int)<=s+jn ls[k] (H4 high ls[k] l[k])/\s+jn ls[k] (H4 high ls[k] l[k])<=1000000000*((k+1:Nat):Int):=⟨by omega,by simp;omega,hon,hs,by omega,by omega⟩
  cases hbk:ls[k].back<;>cases high;all_goals have hN:∀ h,H4 h ls[k] l[k]=if h != ls[k].back then l[k].upper else l[k].lower:=λ_=>rfl
  all_goals have hS:∀ n,jn ls[k] n=if ls[k].back then -n else n:=λ_=>rfl
  all_goals simp only[hN,hS,hbk,bne_self_eq_false,Bool.false_eq_true,if_false,if_true,Bool.true_bne,Bool.false_bne,Bool.not_false] at hws hfin
  all_goals clear hN hS
  ·have hs:=za hx (za hy (za hw (za hlt (za hkl (za hbk (za hws (za hwl1 hwu1)))))));repeat' first|(with_reducible first|refine zz ?_|refine And.intro (by omega) ?_|refine zE Kb ?_)|simp -dsimp[hs]|refine i7 ?_ ?_<;>intro h<;>try exact h.elim
   all_goals try clear hs
   all_goals try omega
   exact zn ⟨(k+1,g+1,false,out++[l[k].lower],s+l[k].lower),hfin⟩ (zw KO 2)
  ·have hs:=za hx (za hy (za hw (za hlt (za hkl (za hbk (za hws (za hwl1 hwu1)))))));repeat' first|(with_reducible first|refine zz ?_|refine And.intro (by omega) ?_|refine zE Kb ?_)|simp -dsimp[hs]|refine i7 ?_ ?_<;>intro h<;>try exact h.elim
   all_goals try clear hs
   all_goals try omega
   exact zn ⟨(k+1,g+1,false,out++[l[k].upper],s+l[k].upper),hfin⟩ (zw KO 2)
  ·have hs:=za hx (za hy (za hw (za hlt (za hkl (za hbk (za hws (za hwl hwu)))))));repeat' first|(with_reducible first|refine zz ?_|refine And.intro (by omega) ?_|refine zE Kb ?_)|simp -dsimp[hs]|refine i7 ?_ ?_<;>intro h<;>try exact h.elim
   all_goals try clear hs
   all_goals try omega
   exact zn ⟨(k+1,g+1,false,out++[l[k].upper],s + -l[k].upper),hfin⟩ (zw KO 2)
  ·have hs:=za hx (za hy (za hw (za hlt (za hkl (za hbk (za hws (za hwl hwu)))))));repeat' first|(with_reducible first|refine zz ?_|refine And.intro (by omega) ?_|refine zE Kb ?_)|simp -dsimp[hs]|refine i7 ?_ ?_<;>intro h<;>try exact h.elim
   all_goals try clear hs
   all_goals try omega
   exact zn ⟨(k+1,g+1,false,out++[l[k].lower],s + -l[k].lower),hfin⟩ (zw KO 2)
 ·rw[List.drop_eq_nil_of_le (by simp;omega)] at ho hs;have hs:=hlt;repeat' first|(with_reducible first|refine zz ?_|refine zr ?_|refine zE Kb ?_)|simp -dsimp[hs]|refine i7 ?_ ?_<;>intro h<;>try exact h.elim
  all_goals try clear hs
  all_goals try omega
  rw[ho,hs];simp
theorem wQ (c:Chains) (D:List (Int×Int)) (B:List (Int×Issue)) (n:Nat) (hn:n<c.loops.length) (l:List Dim) (hl:c.loops[n].links.length<=12) (he:l.length=c.loops[n].links.length) (hd:∀ d∈l,H6 d=true):zP prog G 186 [.one (.im (K0 c D B)),iv (n:Int),.one (.im (.sl (l.map B3)))] (B1 (aq c.loops[n].links l false) (aq c.loops[n].links l true)):=by
 refine zf func186 ntmps186 ?_;try simp only[iv]
 have c2:=wV (G:=G) c D B n hn l false hl he hd;have c3:=wV (G:=G) c D B n hn l true hl he hd;repeat' first|(with_reducible first|refine zz ?_|refine zx ?_|refine zE [0,1,2,6,8,10] ?_)|simp -dsimp|refine zp c2 ?_|refine zp c3 ?_
def EN (c:Chains) (n:Int):Int:=match c.loops[n.toNat]? with|some x=>aq x.links (J2 c x) false|none=>0
def Fa (c:Chains) (n:Int):Int:=match c.loops[n.toNat]? with|some x=>aq x.links (J2 c x) true|none=>0
def oB (c:Chains) (n:Int):Int:=if u5 c n=0 then EN c n else 0
def oD (c:Chains) (n:Int):Int:=if u5 c n=0 then Fa c n else 0
@[simp] abbrev KQ:List Nat:=[0,1,2,4,5,6,7,15]
theorem wX (c:Chains) (n:Int) (hG:s9 G) (hC:W6 G) (hs:T7 c) (hok:p9 c=0->OkC c):zP prog G 141 [iL c,iv n] (.tup [B1 (oB c n) (oD c n),iv (u5 c n)]):=by
 refine zf func141 ntmps141 ?_;try simp only[iL,iv]
 have c1:=An c n hG hC hs;by_cases hE:u5 c n=0
 ·have h0:p9 c=0:=by
   by_cases h:p9 c=0
   ·exact h
   ·simp[u5,h] at hE
  have hr:0<=n/\n<c.loops.length:=Classical.byContradiction λh=>by simp[u5,h0,h] at hE
  obtain⟨k,rfl⟩:∃ k:Nat,n=k:=⟨n.toNat,by omega⟩
  have hk:k<c.loops.length:=by omega
  have h:=hok h0;have hx:c.loops[k]?=some c.loops[k]:=by simp[hk]
  have c2:=wP (G:=G) c (Q6 c) k hk h;obtain⟨hsl,hsd⟩:=jZ h hk;have hln:=(h.gap c.loops[k] (List.getElem_mem hk)).1;have c3:=wQ (G:=G) c (Q6 c) (aK c.reg c.lets) k hk (J2 c c.loops[k]) (by omega) hsl hsd;have h1:EN c (k:Int)=aq c.loops[k].links (J2 c c.loops[k]) false:=by simp only[EN,Int.toNat_natCast,hx]
  have h2:Fa c (k:Int)=aq c.loops[k].links (J2 c c.loops[k]) true:=by simp only[Fa,Int.toNat_natCast,hx]
  rw[<- h1,<- h2] at c3;rw[hE] at c1;simp only[aD,h0,if_true,K0] at c1;rw[oB,oD,if_pos hE,if_pos hE];simp only[K0,eV,B1] at c2 c3;have hs:=trivial;repeat' first|(with_reducible first|refine zz ?_|refine zr ?_|refine zE KQ ?_)|simp -dsimp[hs]|refine zp c1 ?_|refine zp c2 ?_|refine zp c3 ?_|refine i7 ?_ ?_<;>intro h<;>try exact h.elim
  all_goals try clear hs
  all_goals simp[hE]
 ·obtain⟨X,hX⟩:=mN c;rw[hX] at c1;rw[oB,oD,if_neg hE,if_neg hE];have hs:=hE;repeat' first|(with_reducible first|refine zz ?_|refine zr ?_|refine zE KQ ?_)|simp -dsimp[hs]|refine zp c1 ?_|refine i7 ?_ ?_<;>intro h<;>try exact h.elim
  all_goals try clear hs
theorem mL (h1:Bool):∀ (q:List (Link×Dim)) (a b:Int),(∀ p∈q,H6 p.2=true)->a<=b->q.foldl (λs p=>s+jn p.1 (H4 false p.1 p.2)) a<=q.foldl (λs p=>s+jn p.1 (H4 true p.1 p.2)) b
 | [],a,b,_,h=>h
 | p :: q,a,b,hd,h=>by
   rw[List.foldl_cons,List.foldl_cons];refine mL h1 q _ _ (λp hp=>hd p (by simp[hp])) ?_;have hp:=(T5 _).1 (hd p (by simp));have:jn p.1 (H4 false p.1 p.2)<=jn p.1 (H4 true p.1 p.2):=by
    unfold jn H4;cases p.1.back<;>simp<;>omega
   omega
theorem EM {ls:List Link} {l:List Dim} (hd:∀ d∈l,H6 d=true):aq ls l false<=aq ls l true:=
 mL true _ 0 0 (λ_ hp=>hd _ (List.of_mem_zip hp).2) (Int.le_refl _)
def Gg (c:Chains) (n:Int):Int:=match c.loops[n.toNat]? with
 | some x=>if x.lo<=oB c n/\oD c n<=x.hi then 2 else if oD c n<x.lo\/x.hi<oB c n then 0 else 1
 | none=>0
def C6 (c:Chains) (n:Int):Int:=if u5 c n=0 then Gg c n else 0
def DL (n:Int):DV:=.one (.im (.raw (.int .u8 n)))
attribute [simp] DL
theorem ay {c:Chains} {n:Int} (h:u5 c n=0):p9 c=0/\∃ k:Nat,n=k/\k<c.loops.length:=by
 have h0:p9 c=0:=by
  by_cases h':p9 c=0
  ·exact h'
  ·simp[u5,h'] at h
 have hr:0<=n/\n<c.loops.length:=Classical.byContradiction λh'=>by simp[u5,h0,h'] at h
 exact⟨h0,n.toNat,by omega,by omega⟩
theorem wF {c:Chains} {n:Int} (h:u5 c n=0) (hok:p9 c=0->OkC c):oB c n<=oD c n:=by
 obtain⟨h0,k,rfl,hk⟩:=ay h;have hx:c.loops[k]?=some c.loops[k]:=by simp[hk]
 obtain⟨hsl,hsd⟩:=jZ (hok h0) hk;rw[oB,oD,if_pos h,if_pos h];simp only[EN,Fa,Int.toNat_natCast,hx];exact EM hsd
@[simp] abbrev Jj:List Nat:=[0,1,2,4,5,6,7,8,16,24,35]
theorem tX (c:Chains) (n:Int) (hG:s9 G) (hC:W6 G) (hs:T7 c) (hok:p9 c=0->OkC c):zP prog G 88 [iL c,iv n] (.tup [DL (C6 c n),iv (u5 c n)]):=by
 refine zf func88 ntmps88 ?_;try simp only[iL,iv]
 have c1:=wX c n hG hC hs hok;by_cases hE:u5 c n=0
 ·have hle:=wF hE hok;obtain⟨h0,k,rfl,hk⟩:=ay hE;have hx:c.loops[k]?=some c.loops[k]:=by simp[hk]
  have hK:C6 c (k:Int)=if c.loops[k].lo<=oB c (k:Int)/\oD c (k:Int)<=c.loops[k].hi then 2 else if oD c (k:Int)<c.loops[k].lo\/c.loops[k].hi<oB c (k:Int) then 0 else 1:=by simp only[C6,Gg,Int.toNat_natCast,hx,if_pos hE]
  generalize oB c (k:Int)=a at *;generalize oD c (k:Int)=b at *;have c2:=bk (G:=G) c.loops[k].lo c.loops[k].hi [a,b] (by simp);simp only[B1,hE] at c1;by_cases hin:c.loops[k].lo<=a/\b<=c.loops[k].hi
  ·have hq:([a,b].all λx=>decide (c.loops[k].lo<=x)&&decide (x<=c.loops[k].hi))=true:=by simp;omega
   rw[if_pos hin] at hK;rw[hq] at c2;have hs:=za hx hk;repeat' first|(with_reducible first|refine zz ?_|refine zr ?_|refine zE Jj ?_)|simp -dsimp[hs]|refine zp c1 ?_|refine zt c2 ?_ ?_ ?_;(focus simp;done);focus (simp;done)|refine i7 ?_ ?_<;>intro h<;>try exact h.elim
   all_goals try clear hs
   all_goals simp[hK,hE]
  ·have hq:([a,b].all λx=>decide (c.loops[k].lo<=x)&&decide (x<=c.loops[k].hi))=false:=by simp;omega
   rw[if_neg hin] at hK;rw[hq] at c2;have hs:=za hx hk;repeat' first|(with_reducible first|refine zz ?_|refine zr ?_|refine zE Jj ?_)|simp -dsimp[hs]|refine zp c1 ?_|refine zt c2 ?_ ?_ ?_;(focus simp;done);focus (simp;done)|refine i7 ?_ ?_<;>intro h<;>try exact h.elim
   all_goals try clear hs
   all_goals first
    | (exfalso;omega)
    | (rw[if_pos (by omega)] at hK;simp[hK,hE];done)
    | (rw[if_neg (by omega)] at hK;simp[hK,hE])
 ·have hK:C6 c n=0:=by simp[C6,hE]
  have hs:=hE;repeat' first|(with_reducible first|refine zz ?_|refine zr ?_|refine zE Jj ?_)|simp -dsimp[hs]|refine zp c1 ?_|refine i7 ?_ ?_<;>intro h<;>try exact h.elim
  all_goals try clear hs
  all_goals simp[hK]
end Go.Proofs
namespace Go.Proofs
open Go Go.Ab
theorem kJ {l:List Issue} {lets:List Int} (h0:j8 l=0) (hlet:n5 l lets=true) {dep:Int->Int} (hdep:∀ n∈nums l,1<=dep n/\dep n<=6/\∀ c∈cp l n,c∈nums l/\dep c<dep n) :
 ∀ (k:Nat) (d m:Int),d∈nums l->∀ p∈F0 (o4 l lets) k d m,p.1∈nums l
 | 0,_,_,_,p,hp=>by cases hp
 | k+1,d,m,hd,p,hp=>by
   rw[F0] at hp;split at hp
   ·rw[List.mem_singleton] at hp;rw[hp];exact hd
   ·obtain⟨y,hy,hp⟩:=List.mem_flatMap.1 hp;have hc:=(hdep d hd).2.2 _ (eL h0 hlet hd y hy);exact kJ h0 hlet hdep k _ _ hc.1 p hp
theorem mV {ns:List Int} (hnd:ns.Nodup):∀ (lv:List (Int×Int)) (m:List (Int×Int)),(∀ p∈lv,p.1∈ns)->iQ ns (ns.map (m5 m)) lv=ns.map (m5 (jt m lv))
 | [],_,_=>rfl
 | p :: lv,m,h=>by
   have h1:=mV hnd lv (M9 p.1 (IntKind.i64.wrap (m5 m p.1+p.2)) m) λq hq=>h q (by simp[hq]);obtain⟨j,hj⟩:=List.mem_iff_getElem?.1 (h p (by simp));have he:vi ns (ns.map (m5 m)) p=ns.map (m5 (M9 p.1 (IntKind.i64.wrap (m5 m p.1+p.2)) m)):=by
    simp only[vi,ff hnd hj,Int.toNat_natCast,List.getElem?_map,hj,Option.map_some,Option.getD_some];rw[kA hnd hj];refine List.map_congr_left λn _=>?_;rw[Y8];by_cases e:n=p.1<;>simp[e]
   simp only[iQ,jt,List.foldl_cons] at h1 ⊢;rw[he];exact h1
theorem eJ (f:Int->Int):∀ ns:List Int,((ns.zip (ns.map f)).filter λp=>decide (0<p.2)).map (λp=>(⟨p.1,p.2⟩:Itm))=(ns.filter λn=>decide (0<f n)).map λn=>⟨n,f n⟩
 | []=>rfl
 | n :: ns=>by
   simp only[List.map_cons,List.zip_cons_cons,List.filter_cons];by_cases h:0<f n
   ·simp only[h,decide_true,if_true,List.map_cons,eJ f ns]
   ·simp only[h,decide_false,Bool.false_eq_true,if_false,eJ f ns]
theorem oN {l:List Issue} {lets:List Int} {d:Int} (h0:j8 l=0) (hlet:n5 l lets=true) (hd:d∈nums l):S8 l lets d=K6 (nums l) (lP l lets d):=by
 obtain⟨dep,hdep⟩:=kY h0;have hnd:(nums l).Nodup:=(C0 h0).1.imp λh=>Int.ne_of_lt h;have h1:=mV hnd (F0 (o4 l lets) 6 d 1) [] (kJ h0 hlet hdep 6 d 1 hd);have h2:(nums l).map (m5 [])=List.replicate (nums l).length 0:=jC (λ_=>rfl) _;rw[h2] at h1;have h3:pD l lets d=(nums l).map (m5 (lP l lets d)):=h1;rw[S8,h3,eJ];rfl
theorem kD:∀ (ps:List Itm) (m:List (Int×Int)) (d:Int),(ps.map (·.drawing)).Nodup->m5 (ps.foldl (λm x=>M9 x.drawing x.count m) m) d=if d∈ps.map (·.drawing) then O1 ps d else m5 m d
 | [],m,d,_=>by simp
 | y :: ps,m,d,h=>by
   rw[List.map_cons,List.nodup_cons] at h;rw[List.foldl_cons,kD ps _ d h.2,Y8,O1];by_cases e:d=y.drawing
   ·subst e;rw[if_neg h.1,if_pos rfl,if_pos (by simp),if_pos rfl]
   ·rw[if_neg e,if_neg (Ne.symm e)];by_cases hm:d∈ps.map (·.drawing)
    ·rw[if_pos hm,if_pos (by simp only[List.map_cons,List.mem_cons];exact .inr hm)]
    ·rw[if_neg hm,if_neg (by simp only[List.map_cons,List.mem_cons];exact λh=>h.elim e hm)]
theorem dt:∀ (ps:List Itm) (d:Int),d∉ps.map (·.drawing)->O1 ps d=0
 | [],_,_=>rfl
 | y :: ps,d,h=>by
   rw[List.map_cons,List.mem_cons,not_or] at h;rw[O1,if_neg (Ne.symm h.1)];exact dt ps d h.2
def Y1 (ls:List Link) (d:Int):Nat:=(ls.filter λy=>decide (y.drawing=d)).length
theorem dY (y:Link) (r:List Link) (d:Int):Y1 (y :: r) d=(if y.drawing=d then 1 else 0)+Y1 r d:=by
 unfold Y1;by_cases h:y.drawing=d
 ·rw[List.filter_cons_of_pos (by simpa using h),if_pos h,List.length_cons];omega
 ·rw[List.filter_cons_of_neg (by simpa using h),if_neg h];omega
theorem lf {ls:List Link} {y:Link} (h:y∈ls):1<=Y1 ls y.drawing:=
 List.length_pos_of_mem (List.mem_filter.2 ⟨h,by simp⟩)
theorem uS {ls:List Link} {d:Int} (h:∀ y∈ls,y.drawing≠d):Y1 ls d=0:=by
 unfold Y1;rw[List.filter_eq_nil_iff.2 λy hy=>by simpa using h y hy];rfl
def tc (B:List (Int×Issue)) (y:Link):Bool:=decide (0<=y.dim)&&decide (y.dim<=((J3 B y.drawing).dims.length:Int)-1)
theorem jR (D:List (Int×Int)) (B:List (Int×Issue)):∀ (r:List Link) (U:List (Int×Int)),W2 D B U r=true↔∀ y∈r,tc B y=true/\m5 U y.drawing+Y1 r y.drawing<=m5 D y.drawing
 | [],U=>by simp[W2]
 | y :: r,U=>by
   have ih:=jR D B r (M9 y.drawing (m5 U y.drawing+1) U);have hu:W2 D B U (y :: r)=(decide (m5 U y.drawing+1<=m5 D y.drawing)&&tc B y&&W2 D B (M9 y.drawing (m5 U y.drawing+1) U) r):=rfl;rw[hu,Bool.and_eq_true,Bool.and_eq_true,decide_eq_true_eq,ih];constructor
   ·rintro⟨⟨h1,h2⟩,h3⟩ z hz;have key:∀ z∈r,tc B z=true/\m5 U z.drawing+Y1 (y :: r) z.drawing<=m5 D z.drawing:=λz hz=>by
     obtain⟨a,b⟩:=h3 z hz;rw[Y8] at b;rw[dY];refine⟨a,?_⟩;by_cases e:z.drawing=y.drawing
     ·rw[if_pos e] at b;rw[if_pos e.symm];rw[e] at b ⊢;omega
     ·rw[if_neg e] at b;rw[if_neg (Ne.symm e)];omega
    rcases List.mem_cons.1 hz with rfl|hz
    ·refine⟨h2,?_⟩;by_cases hex:∃ w∈r,w.drawing=z.drawing
     ·obtain⟨w,hw,e⟩:=hex;have:=(key w hw).2;rw[e] at this;exact this
     ·rw[dY,if_pos rfl,uS λw hw e=>hex ⟨w,hw,e⟩];omega
    ·exact key z hz
   ·intro h;obtain⟨a,b⟩:=h y (by simp);rw[dY,if_pos rfl] at b;refine⟨⟨by omega,a⟩,λz hz=>?_⟩;obtain⟨a',b'⟩:=h z (by simp[hz]);refine⟨a',?_⟩;rw[dY] at b';rw[Y8];by_cases e:z.drawing=y.drawing
    ·rw[if_pos e.symm,e] at b';rw[if_pos e,e];omega
    ·rw[if_neg (Ne.symm e)] at b';rw[if_neg e];omega
def U3 (c:Chains) (ls:List Link) (y:Link):Bool:=decide ((Y1 ls y.drawing:Int)<=O1 (S8 c.reg c.lets c.of) y.drawing)&&(decide (0<=y.dim)&&decide (y.dim<=((o4 c.reg c.lets y.drawing).dims.length:Int)-1))
def J9 (c:Chains) (x:ChLoop):Bool:=li x&&lh x&&x.links.all (U3 c x.links)
theorem fV {c:Chains} {d:Int} (h0:j8 c.reg=0) (hlet:n5 c.reg c.lets=true) (hof:c.of∈nums c.reg) (hc:1<=O1 (S8 c.reg c.lets c.of) d):d∈nums c.reg:=by
 refine Classical.byContradiction λhn=>?_;rw[oN h0 hlet hof,dt] at hc
 ·omega
 ·intro hm;simp only[K6,List.map_map] at hm;obtain⟨n,h1,h2⟩:=List.mem_map.1 hm;simp only[Function.comp] at h2;exact hn (h2 ▸ (List.mem_filter.1 h1).1)
theorem ul {c:Chains} (h0:j8 c.reg=0) (hlet:n5 c.reg c.lets=true) (hof:c.of∈nums c.reg) (x:ChLoop):N6 (Q6 c) (aK c.reg c.lets) x=J9 c x:=by
 have hnd:(nums c.reg).Nodup:=(C0 h0).1.imp λh=>Int.ne_of_lt h;have hT:A8 c.reg c.lets c.of=0:=by simp[A8,h0,hlet,hof]
 have hD:∀ d,m5 (Q6 c) d=O1 (S8 c.reg c.lets c.of) d:=λd=>by
  rw[oN h0 hlet hof];have hE:bp c.reg c.lets c.of=K6 (nums c.reg) (lP c.reg c.lets c.of):=by rw[bp,if_pos hT]
  have hn:((K6 (nums c.reg) (lP c.reg c.lets c.of)).map (·.drawing)).Nodup:=by
   simp only[K6,List.map_map];have:(λx:Itm=>x.drawing) ∘ (λn=>(⟨n,m5 (lP c.reg c.lets c.of) n⟩:Itm))=id:=rfl;rw[this,List.map_id];exact hnd.filter _
  rw[Q6,hE,kD _ _ _ hn];split
  ·rfl
  ·rw[dt _ _ ‹_›];rfl
 unfold N6 J9
 congr 1
 rw[Bool.eq_iff_iff,jR,List.all_eq_true];refine forall_congr' λy=>forall_congr' λhy=>?_;simp only[U3,tc,Bool.and_eq_true,decide_eq_true_eq,hD];have hp:=lf hy;have hz:m5 [] y.drawing=0:=rfl;constructor
 ·rintro⟨h1,h2⟩;have hm:=fV (d:=y.drawing) h0 hlet hof (by omega);rw[aK,T1,if_pos hm] at h1;exact⟨by omega,h1⟩
 ·rintro⟨h1,h2⟩;have hm:=fV (d:=y.drawing) h0 hlet hof (by omega);rw[aK,T1,if_pos hm];exact⟨h2,by omega⟩
theorem gL {c:Chains} (h0:j8 c.reg=0):p9 c=(if n5 c.reg c.lets=true/\c.of∈nums c.reg/\(1<=c.loops.length/\c.loops.length<=6)/\c.loops.all (J9 c)=true then 0 else 60):=by
 unfold p9;rw[if_neg (by simp[h0])];by_cases hlet:n5 c.reg c.lets=true
 ·by_cases hof:c.of∈nums c.reg
  ·have hT:A8 c.reg c.lets c.of=0:=by simp[A8,h0,hlet,hof]
   have hL:c.loops.all (N6 (Q6 c) (aK c.reg c.lets))=c.loops.all (J9 c):=by
    congr 1;exact funext λx=>ul h0 hlet hof x
   rw[hL];by_cases hn:1<=c.loops.length/\c.loops.length<=6
   ·rw[if_neg (by simp[hT];omega)];by_cases ha:c.loops.all (J9 c)=true
    ·rw[if_pos ha,if_pos ⟨hlet,hof,hn,ha⟩]
    ·rw[if_neg ha,if_neg λh=>ha h.2.2.2]
   ·rw[if_pos (.inr hn),if_neg λh=>hn h.2.2.1]
  ·have hT:A8 c.reg c.lets c.of≠0:=by simp[A8,h0,hlet,hof]
   rw[if_pos (.inl hT),if_neg λh=>hof h.2.1]
 ·have hT:A8 c.reg c.lets c.of≠0:=by
   have:n5 c.reg c.lets=false:=by simpa using hlet
   simp[A8,h0,this]
  rw[if_pos (.inl hT),if_neg λh=>hlet h.1]
theorem Gv {c:Chains} (h:p9 c=0):OkC c:=by
 have h0:j8 c.reg=0:=Classical.byContradiction λh'=>by simp[p9,h'] at h
 rw[gL h0] at h;split at h
 ·rename_i hc;obtain⟨a,b,d,e⟩:=hc;rw[List.all_eq_true] at e;refine⟨h0,a,b,d,λx hx=>?_,λx hx y hy=>?_⟩
  ·have:=e x hx;simp only[J9,li,Bool.and_eq_true,decide_eq_true_eq] at this;exact⟨this.1.1.2,this.1.2⟩
  ·have:=e x hx;simp only[J9,Bool.and_eq_true,List.all_eq_true] at this;have:=this.2 y hy;simp only[U3,Bool.and_eq_true,decide_eq_true_eq] at this;have hp:=lf hy;exact⟨fV h0 a b (by omega),this.2.1,by omega⟩
 ·cases h
open Go Go.Ab Tryz
variable {G:Hn}
def F9 (c:Chains):Bool:=n5 c.reg c.lets&&decide (c.of∈nums c.reg)&&decide (1<=c.loops.length/\c.loops.length<=6)&&c.loops.all (J9 c)
@[simp] abbrev Lg:List Nat:=[0,1,2,3,4,5,6,7,8,9,31,43,72,77,89,100,124]
@[simp] abbrev Jk:List Nat:=[1,2,3,4,5,6,7,8,9]
theorem tP (c:Chains) (hs:T7 c) (h0:j8 c.reg=0):zP prog G 275 [iL c] (bv (F9 c)):=by
 refine zf func275 ntmps275 ?_;try simp only[iL]
 have hck:=h0;obtain⟨hsr,hsl,hso,hsk⟩:=hs;have hreg:=hsr.1;have hnl:(nums c.reg).length<=c.reg.length:=n3 c.reg c.reg.length;have c1:=uo (G:=G) c.reg c.lets (by omega) (by omega);have c2:=H0 (G:=G) c.reg (by omega);have c3:=bS (G:=G) (nums c.reg) c.of (by omega);have c4:=dD (G:=G) (c.loops.length:Int) 1 6;have him:=sV (nums c.reg) c.of;by_cases hlet:n5 c.reg c.lets=true
 ·by_cases hof:c.of∈nums c.reg
  ·by_cases hn:1<=c.loops.length/\c.loops.length<=6
   ·have hE:F9 c=c.loops.all (J9 c):=by simp[F9,hlet,hof,hn]
    have hd:(decide ((1:Int)<=(c.loops.length:Int))&&decide ((c.loops.length:Int)<=6))=true:=by simp;omega
    have hll:c.lets.length=(nums c.reg).length:=by
     simp only[n5,Bool.and_eq_true,decide_eq_true_eq] at hlet;exact hlet.1
    have hz:¬ idx (nums c.reg) c.of<0:=λh=>him.1 h hof;rw[hlet] at c1;rw[hd] at c4;have c5:=wW (G:=G) c.reg c.lets c.of (by omega) h0 hlet hof;have hs:=hz;repeat' first|with_reducible refine zz ?_|simp -dsimp[hs]|refine zq c1 ?_|refine zq c2 ?_|refine zq c3 ?_|refine zq c4 ?_|refine zp c5 ?_|refine zM 1 125 22 Lg ?_|with_reducible refine zE Lg ?_|refine i7 ?_ ?_<;>intro h<;>try exact h.elim
    all_goals try clear hs
    have hpl:(S8 c.reg c.lets c.of).length<=80:=by
     have:=List.length_filter_le (λp:Int×Int=>decide (0<p.2)) ((nums c.reg).zip (pD c.reg c.lets c.of));simp only[S8,List.length_map,List.length_zip] at *;omega
    have hpm:=λd (hd:1<=O1 (S8 c.reg c.lets c.of) d)=>fV h0 hlet hof hd;have hlkE:∀ ls y,U3 c ls y=(decide ((Y1 ls y.drawing:Int)<=O1 (S8 c.reg c.lets c.of) y.drawing)&&(decide (0<=y.dim)&&decide (y.dim<=((o4 c.reg c.lets y.drawing).dims.length:Int)-1))):=λ_ _=>rfl;generalize S8 c.reg c.lets c.of=ps at *;refine g9 (ι:={ j:Nat // j<=c.loops.length/\c.loops.all (J9 c)=(c.loops.drop j).all (J9 c) }) (λp=>⟨125,[(1,.one (.ptr 0 0)),(2,bv false),(3,.one (.im (.sl (ps.map p7)))),(4,iv (p.1:Int))],[.row ((E4 c).map .im)]⟩) (λp=>c.loops.length-p.1) ⟨0,by simp⟩ (zv [1,2,3,4]) ?_;rintro⟨j,hj,hall⟩;simp only[iv,bv];by_cases hlj:j<c.loops.length
    ·have hx:c.loops[j]?=some c.loops[j]:=by simp[hlj]
     have hw:=zk j;have hst:=R0 hlj hall;have hlx:J9 c c.loops[j]=(li c.loops[j]&&lh c.loops[j]&&c.loops[j].links.all (U3 c c.loops[j].links)):=rfl;have h12:(li c.loops[j]&&lh c.loops[j])=true↔1<=c.loops[j].links.length/\c.loops[j].links.length<=8/\-8000000000<=c.loops[j].lo/\c.loops[j].lo<=8000000000/\c.loops[j].lo<=c.loops[j].hi/\c.loops[j].hi<=8000000000:=by
      rw[Bool.and_eq_true,pE];simp only[li,Bool.and_eq_true,decide_eq_true_eq];omega
     generalize hA:(li c.loops[j]&&lh c.loops[j])=A at h12 hlx;generalize hxe:c.loops[j]=x at *;have hs:=za hx (za hlj hxe);repeat' first|(with_reducible first|refine zz ?_|refine zr ?_|refine zE Lg ?_)|simp -dsimp[hs]|refine zp (dD (G:=G) _ _ _) ?_|refine i7 ?_ ?_<;>intro h<;>try exact h.elim|with_reducible refine j0 ?_ ?_<;>intro h<;>have h0:=h<;>(try simp only[i6] at h)<;>have h2:=h<;>(try simp at h2)<;>replace hs:=za h0 (za h (za h2 hs))
     all_goals try clear hs
     all_goals first
      | (have hA2 : A = false := bo h12 (by clear h12 hw; omega)
         rw[hE,u3 hst (by rw[hlx,hA2];exact Bool.false_ne_true)];done)
      | skip
     have hA2:A=true:=sC h12 (by clear h12 hw;omega);rw[hA2,Bool.true_and] at hlx;have hx8:x.links.length<=8:=(h12.1 hA2).2.1;clear h12;refine g9 (ι:={ u:Nat // u<=x.links.length/\x.links.all (U3 c x.links)=(x.links.drop u).all (U3 c x.links) }) (λp=>⟨125,[(1,.one (.ptr 0 0)),(2,bv false),(3,.one (.im (.sl (ps.map p7)))),(4,iv (j:Int)),(5,.one (.ptr 2 0)),(6,iv (p.1:Int))],[.row ((E4 c).map .im),.vec 0 [] 0 true,.row ((D4 x).map .im)]⟩) (λp=>x.links.length-p.1) ⟨0,by simp⟩ (zv [1,2,3,4,5,6]) ?_;rintro⟨u,hu,hal2⟩;simp only[iv,bv];by_cases hlu:u<x.links.length
     ·have hy:x.links[u]?=some x.links[u]:=by simp[hlu]
      have hw2:=zk u;have hst2:=R0 hlu hal2;have hcp:=lf (List.getElem_mem hlu);have hle:=hlkE x.links x.links[u];generalize hye:x.links[u]=y at *;have hs:=za hy (za hlu hye);repeat' first|(with_reducible first|refine zz ?_|refine zE Lg ?_)|simp -dsimp[hs]|refine i7 ?_ ?_<;>intro h<;>try exact h.elim
      all_goals try clear hs
      refine g9 (ι:={ i:Nat // i<=x.links.length }) (λp=>⟨125,[(1,.one (.ptr 0 0)),(2,bv false),(3,.one (.im (.sl (ps.map p7)))),(4,iv (j:Int)),(5,.one (.ptr 2 0)),(6,iv (u:Int)),(7,.one (.ptr 3 0)),(8,iv (Y1 (x.links.take p.1) y.drawing:Int)),(9,iv (p.1:Int))],[.row ((E4 c).map .im),.vec 0 [] 0 true,.row ((D4 x).map .im),.row ((G7 y).map .im)]⟩) (λp=>x.links.length-p.1) ⟨0,by omega⟩ (zv Jk (by simp[Y1])) ?_;rintro⟨i,hi⟩;simp only[iv,bv];by_cases hli:i<x.links.length
      ·have hz:x.links[i]?=some x.links[i]:=by simp[hli]
       have hw3:=zk i;have hcl:Y1 (x.links.take i) y.drawing<=i:=by
        unfold Y1;have:=List.length_filter_le (λz:Link=>decide (z.drawing=y.drawing)) (x.links.take i);rw[List.length_take] at this;omega
       have hw4:IntKind.i64.wrap ((Y1 (x.links.take i) y.drawing:Int)+1)=(Y1 (x.links.take i) y.drawing:Int)+1:=m9 (by omega) (by omega);have hcn:Y1 (x.links.take (i+1)) y.drawing=Y1 (x.links.take i) y.drawing+if x.links[i].drawing=y.drawing then 1 else 0:=by
        rw[List.take_succ_eq_append_getElem hli];unfold Y1;rw[List.filter_append,List.length_append]
        congr 1
        by_cases h:x.links[i].drawing=y.drawing<;>simp[h]
       have hs:=za hz (za hli (za hw3 hw4));repeat' first|with_reducible refine zz ?_|simp -dsimp[hs]|refine zM 18 125 9 Lg ?_|with_reducible refine zE Lg ?_|refine i7 ?_ ?_<;>intro h<;>try exact h.elim
       all_goals try clear hs
       ·have hcn':(Y1 (x.links.take (i+1)) y.drawing:Int)=(Y1 (x.links.take i) y.drawing:Int)+1:=by rw[hcn,if_pos ‹_›];rfl
        exact zn ⟨i+1,by omega⟩ (zv Jk (by simp[hcn']))
       ·have hcn':Y1 (x.links.take (i+1)) y.drawing=Y1 (x.links.take i) y.drawing:=by rw[hcn,if_neg ‹_›];rfl
        exact zn ⟨i+1,by omega⟩ (zv Jk (by simp[hcn']))
      ·have hti:x.links.take i=x.links:=List.take_of_length_le (by omega);rw[hti];have k1:=AW (G:=G) ps y.drawing (by omega);by_cases hgt:O1 ps y.drawing<(Y1 x.links y.drawing:Int)
       ·have hf:U3 c x.links y=false:=by rw[hle,decide_eq_false (by omega)];rfl
        have hs:=za hli hgt;repeat' first|(with_reducible first|refine zz ?_|refine zr ?_)|simp -dsimp[hs]|refine zq k1 ?_|refine zM 20 125 22 Lg ?_|with_reducible refine zE Lg ?_|refine i7 ?_ ?_<;>intro h<;>try exact h.elim
        all_goals try clear hs
        rw[hE,u3 hst (by rw[hlx,u3 hst2 (by rw[hf];exact Bool.false_ne_true)];exact Bool.false_ne_true)]
       ·have hym:=hpm y.drawing (by omega);have k2:=ni (G:=G) c.reg c.lets y.drawing (by omega) hym hll;rw[decide_eq_true (by omega),Bool.true_and] at hle;have htb:(o4 c.reg c.lets y.drawing).dims.length<1000000:=by
         obtain⟨hm,_⟩:=Y6 hck hlet hym;have:=(hsr.2 _ hm).2.2.2;omega
        generalize o4 c.reg c.lets y.drawing=t at *;have hwd:IntKind.i64.wrap ((t.dims.length:Int)-1)=(t.dims.length:Int)-1:=m9 (by omega) (by omega);have k3:=dD (G:=G) y.dim 0 ((t.dims.length:Int)-1);rw[<- hle] at k3;cases hq:U3 c x.links y
        ·rw[hq] at k3;have hs:=za hli (za hgt hwd);repeat' first|(with_reducible first|refine zz ?_|refine zr ?_)|simp -dsimp[hs]|refine zq k1 ?_|refine zq k2 ?_|refine zq k3 ?_|refine zM 20 125 22 Lg ?_|with_reducible refine zE Lg ?_|refine i7 ?_ ?_<;>intro h<;>try exact h.elim
         all_goals try clear hs
         rw[hE,u3 hst (by rw[hlx,u3 hst2 (by rw[hq];exact Bool.false_ne_true)];exact Bool.false_ne_true)]
        ·rw[hq] at k3;have hs:=za hli (za hgt (za hwd hw2));repeat' first|with_reducible refine zz ?_|simp -dsimp[hs]|refine zq k1 ?_|refine zq k2 ?_|refine zq k3 ?_|refine zM 20 125 22 Lg ?_|with_reducible refine zE Lg ?_|refine i7 ?_ ?_<;>intro h<;>try exact h.elim
         all_goals try clear hs
         exact zn ⟨u+1,by omega,C8 hst2 hq⟩ (zw [1,2,3,4,5,6] 3)
     ·have hok:x.links.all (U3 c x.links)=true:=by rw[hal2,List.drop_eq_nil_of_le (by omega)];rfl
      have hs:=za hlu hw;repeat' first|(with_reducible first|refine zz ?_|refine zE Lg ?_)|simp -dsimp[hs]|refine i7 ?_ ?_<;>intro h<;>try exact h.elim
      all_goals try clear hs
      exact zn ⟨j+1,by omega,C8 hst (by rw[hlx,hok])⟩ (zw [1,2,3,4] 1)
    ·have hok:c.loops.all (J9 c)=true:=by rw[hall,List.drop_eq_nil_of_le (by omega)];rfl
     have hs:=hlj;repeat' first|(with_reducible first|refine zz ?_|refine zr ?_|refine zE Lg ?_)|simp -dsimp[hs]|refine i7 ?_ ?_<;>intro h<;>try exact h.elim
     all_goals try clear hs
     rw[hE,hok]
   ·have hd:(decide ((1:Int)<=(c.loops.length:Int))&&decide ((c.loops.length:Int)<=6))=false:=by simp;omega
    have hE:F9 c=false:=by simp[F9,hn]
    have hz:¬ idx (nums c.reg) c.of<0:=λh=>him.1 h hof;rw[hlet] at c1;rw[hd] at c4;have hs:=hz;repeat' first|(with_reducible first|refine zz ?_|refine zr ?_)|simp -dsimp[hs]|refine zq c1 ?_|refine zq c2 ?_|refine zq c3 ?_|refine zq c4 ?_|refine zM 1 125 22 Lg ?_|with_reducible refine zE Lg ?_|refine i7 ?_ ?_<;>intro h<;>try exact h.elim
    all_goals try clear hs
    rw[hE]
  ·have hE:F9 c=false:=by simp[F9,hof]
   have hz:idx (nums c.reg) c.of<0:=him.2 hof;rw[hlet] at c1;have hs:=hz;repeat' first|(with_reducible first|refine zz ?_|refine zr ?_)|simp -dsimp[hs]|refine zq c1 ?_|refine zq c2 ?_|refine zq c3 ?_|refine zM 1 125 22 Lg ?_|with_reducible refine zE Lg ?_|refine i7 ?_ ?_<;>intro h<;>try exact h.elim
   all_goals try clear hs
   rw[hE]
 ·have hlet':n5 c.reg c.lets=false:=by simpa using hlet
  have hE:F9 c=false:=by simp[F9,hlet']
  rw[hlet'] at c1;have hs:=trivial;repeat' first|(with_reducible first|refine zz ?_|refine zr ?_)|simp -dsimp[hs]|refine zq c1 ?_|refine zM 1 125 22 Lg ?_|with_reducible refine zE Lg ?_|refine i7 ?_ ?_<;>intro h<;>try exact h.elim
  all_goals try clear hs
  rw[hE]
theorem nS {c:Chains} (h0:j8 c.reg=0):p9 c=if F9 c then 0 else 60:=by
 rw[gL h0];have:(F9 c=true)=(n5 c.reg c.lets=true/\c.of∈nums c.reg/\(1<=c.loops.length/\c.loops.length<=6)/\c.loops.all (J9 c)=true):=by
  simp only[F9,Bool.and_eq_true,decide_eq_true_eq,and_assoc]
 by_cases h:F9 c=true
 ·rw[if_pos h,if_pos (this ▸ h)]
 ·rw[if_neg h,if_neg (this ▸ h)]
theorem qD (c:Chains) (hs:T7 c):zP prog G 260 [iL c] (iv (p9 c)):=by
 refine zf func260 ntmps260 ?_;try simp only[iL]
 have c1:=oA (G:=G) c.reg hs.1;by_cases hck:j8 c.reg=0
 ·have c2:=tP (G:=G) c hs hck;have hE:=nS hck;rw[hck] at c1;cases hq:F9 c
  ·rw[hq] at c2 hE;have hs:=trivial;repeat' first|(with_reducible first|refine zz ?_|refine zr ?_|refine zE [0,1,2,3,8,12] ?_)|simp -dsimp[hs]|refine zp c1 ?_|refine zp c2 ?_|refine i7 ?_ ?_<;>intro h<;>try exact h.elim
   all_goals try clear hs
   simp[hE]
  ·rw[hq] at c2 hE;have hs:=trivial;repeat' first|(with_reducible first|refine zz ?_|refine zr ?_|refine zE [0,1,2,3,8,12] ?_)|simp -dsimp[hs]|refine zp c1 ?_|refine zp c2 ?_|refine i7 ?_ ?_<;>intro h<;>try exact h.elim
   all_goals try clear hs
   simp[hE]
 ·have hE:p9 c=j8 c.reg:=by simp[p9,hck]
  have hs:=hck;repeat' first|(with_reducible first|refine zz ?_|refine zr ?_|refine zE [0,1,2,3,8,12] ?_)|simp -dsimp[hs]|refine zp c1 ?_|refine i7 ?_ ?_<;>intro h<;>try exact h.elim
  all_goals try clear hs
  simp[hE]
theorem yE (c:Chains) (n:Int) (hs:T7 c):zP prog G 222 [iL c,iv n] (iv (u5 c n)):=by
 refine zf func222 ntmps222 ?_;try simp only[iL,iv]
 have c1:=qD (G:=G) c hs;have hl:=hs.2.2.1;have hw:IntKind.i64.wrap ((c.loops.length:Int)-1)=(c.loops.length:Int)-1:=m9 (by omega) (by omega);have c2:=dD (G:=G) n 0 ((c.loops.length:Int)-1);have hE:u5 c n=if p9 c≠0 then p9 c else if 0<=n/\n<c.loops.length then 0 else 2:=rfl;by_cases hck:p9 c=0
 ·rw[hck] at c1 hE;by_cases hr:0<=n/\n<c.loops.length
  ·have hq:(decide (0<=n)&&decide (n<=(c.loops.length:Int)-1))=true:=by simp;omega
   rw[hq] at c2;have hs:=hw;repeat' first|(with_reducible first|refine zz ?_|refine zr ?_|refine zE [0,1,2,4,5,9,17] ?_)|simp -dsimp[hs]|refine zp c1 ?_|refine zp c2 ?_|refine i7 ?_ ?_<;>intro h<;>try exact h.elim
   all_goals try clear hs
   simp[hE,hr]
  ·have hq:(decide (0<=n)&&decide (n<=(c.loops.length:Int)-1))=false:=by
    rw[<- Bool.not_eq_true];simp;omega
   rw[hq] at c2;have hs:=hw;repeat' first|(with_reducible first|refine zz ?_|refine zr ?_|refine zE [0,1,2,4,5,9,17] ?_)|simp -dsimp[hs]|refine zp c1 ?_|refine zp c2 ?_|refine i7 ?_ ?_<;>intro h<;>try exact h.elim
   all_goals try clear hs
   simp[hE,hr]
 ·have hs:=hck;repeat' first|(with_reducible first|refine zz ?_|refine zr ?_|refine zE [0,1,2,4,5,9,17] ?_)|simp -dsimp[hs]|refine zp c1 ?_|refine i7 ?_ ?_<;>intro h<;>try exact h.elim
  all_goals try clear hs
  simp[hE,hck]
theorem wL (c:Chains) (n:Int) (hs:T7 c):zP prog G 172 [iL c,iv n] (.tup [B1 (oB c n) (oD c n),iv (u5 c n)]):=by
 refine zf func172 ntmps172 ?_;try simp only[iL,iv]
 have c1:=yE (G:=G) c n hs;by_cases hE:u5 c n=0
 ·obtain⟨hck,k,rfl,hk⟩:=ay hE;have hx:c.loops[k]?=some c.loops[k]:=by simp[hk]
  have c2:=wC (G:=G) c k hk hs (Gv hck);have h1:oB c (k:Int)=aq c.loops[k].links (J2 c c.loops[k]) false:=by rw[oB,if_pos hE];simp only[EN,Int.toNat_natCast,hx]
  have h2:oD c (k:Int)=aq c.loops[k].links (J2 c c.loops[k]) true:=by rw[oD,if_pos hE];simp only[Fa,Int.toNat_natCast,hx]
  rw[<- h1,<- h2] at c2;rw[hE] at c1;simp only[B1] at c2;have hs:=trivial;repeat' first|(with_reducible first|refine zz ?_|refine zr ?_|refine zE [0,1,2,4,5,6,11] ?_)|simp -dsimp[hs]|refine zp c1 ?_|refine zp c2 ?_|refine i7 ?_ ?_<;>intro h<;>try exact h.elim
  all_goals try clear hs
  all_goals simp[hE]
 ·rw[oB,oD,if_neg hE,if_neg hE];have hs:=hE;repeat' first|(with_reducible first|refine zz ?_|refine zr ?_|refine zE [0,1,2,4,5,6,11] ?_)|simp -dsimp[hs]|refine zp c1 ?_|refine i7 ?_ ?_<;>intro h<;>try exact h.elim
  all_goals try clear hs
theorem tO (c:Chains) (n:Int) (hs:T7 c):zP prog G 114 [iL c,iv n] (.tup [DL (C6 c n),iv (u5 c n)]):=by
 refine zf func114 ntmps114 ?_;try simp only[iL,iv]
 have c1:=wL (G:=G) c n hs;by_cases hE:u5 c n=0
 ·obtain⟨hck,k,rfl,hk⟩:=ay hE;have hx:c.loops[k]?=some c.loops[k]:=by simp[hk]
  have hK:C6 c (k:Int)=if c.loops[k].lo<=oB c (k:Int)/\oD c (k:Int)<=c.loops[k].hi then 2 else if oD c (k:Int)<c.loops[k].lo\/c.loops[k].hi<oB c (k:Int) then 0 else 1:=by simp only[C6,Gg,Int.toNat_natCast,hx,if_pos hE]
  generalize oB c (k:Int)=a at *;generalize oD c (k:Int)=b at *;simp only[B1,hE] at c1;have hs:=za hx hk;repeat' first|(with_reducible first|refine zz ?_|refine zr ?_|refine zE [0,1,2,4,5,6,7,8,16,24,37] ?_)|simp -dsimp[hs]|refine zp c1 ?_|refine i7 ?_ ?_<;>intro h<;>try exact h.elim|with_reducible refine j0 ?_ ?_<;>intro h<;>have h0:=h<;>(try simp only[i6] at h)<;>have h2:=h<;>(try simp at h2)<;>replace hs:=za h0 (za h (za h2 hs))
  all_goals try clear hs
  all_goals first
   | (exfalso;omega)
   | (rw[if_pos (by omega)] at hK;simp[hK,hE];done)
   | (rw[if_neg (by omega),if_pos (by omega)] at hK;simp[hK,hE];done)
   | (rw[if_neg (by omega),if_neg (by omega)] at hK;simp[hK,hE])
 ·have hK:C6 c n=0:=by simp[C6,hE]
  have hs:=hE;repeat' first|(with_reducible first|refine zz ?_|refine zr ?_|refine zE [0,1,2,4,5,6,7,8,16,24,37] ?_)|simp -dsimp[hs]|refine zp c1 ?_|refine i7 ?_ ?_<;>intro h<;>try exact h.elim
  all_goals try clear hs
  all_goals simp[hK]
end Go.Proofs
namespace Go.Ab
open Go
structure Spot where
 drawing:Int
 dim:Int
 deriving DecidableEq
def jG (x:Spot):List IC:=[rI x.drawing,rI x.dim]
def BU (l:List Spot):DV:=.one (.im (.sl (l.map jG)))
attribute [simp] jG BU
def rO (a b:Spot):Bool:=decide (a.drawing<b.drawing)||(decide (a.drawing=b.drawing)&&decide (a.dim<b.dim))
def xz (x:Spot):List Spot->Nat
 | []=>0
 | y :: r=>if rO y x then xz x r+1 else 0
def FY (x:Spot) (l:List Spot):List Spot:=l.take (xz x l)++x :: l.drop (xz x l)
def Gn (f:Spot->Bool) (out:List Spot) (x:Spot):List Spot:=if f x=false\/x∈out then out else FY x out
def Gm (f:Spot->Bool) (l:List Spot):List Spot:=l.foldl (Gn f) []
def kS (x:Spot):List Value:=[.int .i64 x.drawing,.int .i64 x.dim]
def uH (l:List Spot):List (List Value×List DC):=l.map λx=>(kS x,[.im (rB true)])
def BI (l:List Spot):List (List Value×List IC):=l.map λx=>(kS x,[rB true])
@[simp] theorem FU (k n:Nat) (objs:List DObj) (l:List Spot):J4 (λx:List Value×List DC=>(J4 (frz (k+1) n objs) x.2).map λl=>(x.1,l)) (uH l)=some (BI l):=by
 induction l with
 | nil=>rfl
 | cons p r ih =>
   have e:uH (p :: r)=(kS p,[.im (rB true)]) :: uH r:=rfl;rw[e];simp[J4,ih,BI]
@[simp] theorem EI (n:Nat) (objs:List DObj) (l:List Spot):((uH l).map λx=>(x.1,x.2.map (fz n objs)))=uH l:=by
 simp[uH,fz,DC.lt]
@[simp] theorem EW (L:List Spot) (k:Nat) (h:k<(l8 (L.map jG)).length):(l8 (L.map jG))[k]=[DC.im (.raw (.int .i64 (L[k]'(by simpa[o3] using h)).drawing)),DC.im (.raw (.int .i64 (L[k]'(by simpa[o3] using h)).dim))]:=by
 simp[l8]
end Go.Ab
namespace Go.Proofs
open Go Go.Ab
def wj (y:Link):Spot:=⟨y.drawing,y.dim⟩
def EC (d:Dim):Int:=min (max d.nominal d.lower) d.upper
def BS (d:Dim) (g:Int):Dim:=⟨d.nominal,max d.lower (EC d-g),min d.upper (EC d+g)⟩
def Gf (c:Chains) (so:Spot->Bool) (g:Int) (y:Link):Dim:=if so (wj y) then BS (S0 c y) g else S0 c y
def Gr (c:Chains) (so:Spot->Bool) (g:Int) (x:ChLoop):List Dim:=x.links.map (Gf c so g)
def GW (c:Chains) (so:Spot->Bool) (g:Int) (x:ChLoop):Int:=aq x.links (Gr c so g x) false
def GZ (c:Chains) (so:Spot->Bool) (g:Int) (x:ChLoop):Int:=aq x.links (Gr c so g x) true
def AY (c:Chains) (so:Spot->Bool) (g:Int) (x:ChLoop):Bool:=decide (x.lo<=GW c so g x)&&decide (GZ c so g x<=x.hi)
def Gl (c:Chains) (so:Spot->Bool) (g:Int):Bool:=c.loops.all (AY c so g)
def jw (c:Chains):List Spot:=c.loops.flatMap λx=>x.links.map wj
def CL (c:Chains) (x:Spot):Bool:=decide ((o4 c.reg c.lets x.drawing).kind≠3)
def pK (c:Chains):List Spot:=Gm (CL c) (jw c)
def gs (p:Int->Bool):Nat->Int->Int->Int
 | 0,lo,_=>lo
 | k+1,lo,hi=>if lo<hi then (if p (hi-(hi-lo) / 2) then gs p k (hi-(hi-lo) / 2) hi else gs p k lo (hi-(hi-lo) / 2-1)) else lo
def ED (l:List Spot) (set:Nat):Nat->List Spot
 | 0=>[]
 | k+1=>ED l set k++(match l[k]? with
   | some x=>if set.testBit k then [x] else []
   | none=>[])
def lexB:List Spot->List Spot->Bool
 | a :: l,b :: m=>if a=b then lexB l m else rO a b
 | _,_=>false
def wm (a b:List Spot):Bool:=decide (a.length<b.length)||(decide (a.length=b.length)&&lexB a b)
def Bd (best:Option (List Spot)) (x:List Spot):Bool:=match best with
 | none=>true
 | some b=>wm x b
def DQ (good:List Spot->Bool) (best:Option (List Spot)) (x:List Spot):Option (List Spot):=if Bd best x&&good x then some x else best
def BX (all:List Spot) (k:Nat):List (List Spot):=(List.range k).map λs=>ED all s all.length
def GY (l:List Spot):Spot->Bool:=λx=>decide (x∈l)
def Fb (c:Chains) (x:List Spot):Bool:=Gl c (GY x) 0
def xU (c:Chains) (b0:Option (List Spot)) (k:Nat):Option (List Spot):=(BX (pK c) k).foldl (DQ (Fb c)) b0
def Ge (c:Chains):Option (List Spot):=xU c none (2 ^ (pK c).length)
open Go Go.Ab Tryz
variable {G:Hn}
def SoF (G:Hn) (c:Chains) (fv:IC) (so:Spot->Bool):Prop:=
 (∃ (f:FuncId) (caps:List IC),fv=.fn (.func f) caps/\D9 prog f/\∀ x∈jw c,∀ objs,DCall prog G f (B1 x.drawing x.dim :: caps.map λc=>.one (.im c)) objs (λd o=>d=bv (so x)/\o=objs)) \/
 (∃ (f:FuncId) (l:List IC),fv=.bf (.func f) l/\D9 prog f/\∀ x∈jw c,∀ objs,DCall prog G f ((l.map λc=>DV.one (.im c))++[B1 x.drawing x.dim]) objs (λd o=>d=bv (so x)/\o=objs))
def be:List Int->Int
 | []=>0
 | x :: r=>if x=0 then be r else x
@[simp] abbrev LX:List Nat:=[0,2,3,5,6,7,8,9,14]
theorem BC (l:List Int) (hl:l.length<1000000):zP prog G 59 [n9 l] (iv (be l)):=by
 refine zf func59 ntmps59 ?_;try simp only[n9]
 have hs:=trivial;repeat' first|(with_reducible first|refine zz ?_|refine zE LX ?_)|simp -dsimp[hs]
 refine g9 (ι:={ p:Nat // p<=l.length/\be l=be (l.drop p) }) (λp=>⟨18,[(3,iv 0),(6,.one (.im (.sl (l.map encI)))),(7,iv (l.length:Int)),(8,iv (p.1:Int))],[]⟩) (λp=>l.length-p.1) ⟨0,by simp⟩ (zv [3,6,7,8]) ?_;rintro⟨k,hk,hu⟩;simp only[iv];by_cases hlt:k<l.length
 ·have hw:=zk k;rw[List.drop_eq_getElem_cons hlt,be] at hu;generalize hx:l[k]=x at *;have hs:=za hx (za hw hlt);repeat' first|(with_reducible first|refine zz ?_|refine zr ?_|refine zE LX ?_)|simp -dsimp[hs]|refine i7 ?_ ?_<;>intro h<;>try exact h.elim
  ·rw[hu,if_neg (by assumption)]
  ·rw[if_pos (by assumption)] at hu;exact zn ⟨k+1,by omega,hu⟩ (zv [3,6,7,8])
 ·rw[List.drop_eq_nil_of_le (by omega)] at hu;have hs:=hlt;repeat' first|(with_reducible first|refine zz ?_|refine zr ?_|refine zE LX ?_)|simp -dsimp[hs]|refine i7 ?_ ?_<;>intro h<;>try exact h.elim
  rw[hu];rfl
attribute [simp] w0 fA w5 C7 nilV Q2 ZK
theorem SoF.congr {c:Chains} {fv:IC} {so so':Spot->Bool} (h:SoF G c fv so) (he:∀ x∈jw c,so x=so' x):SoF G c fv so':=by
 rcases h with⟨f,caps,h1,h2,h3⟩|⟨f,caps,h1,h2,h3⟩
 ·exact .inl ⟨f,caps,h1,h2,λx hx objs=>(h3 x hx objs).mono λd o ⟨a,b⟩=>⟨by rw[a,he x hx],b⟩⟩
 ·exact .inr ⟨f,caps,h1,h2,λx hx objs=>(h3 x hx objs).mono λd o ⟨a,b⟩=>⟨by rw[a,he x hx],b⟩⟩
attribute [simp] w0 fA w5 C7 nilV Q2 ZK
attribute [simp] w0 fA Dg Fh w5 C7 nilV Q2 ZK
@[simp] theorem DB (L:List ChLoop) (k:Nat) (h:k<(l8 (L.map D4)).length):(l8 (L.map D4))[k]=[DC.im (.sl ((L[k]'(by simpa[o3] using h)).links.map G7)),DC.im (.raw (.int .i64 (L[k]'(by simpa[o3] using h)).lo)),DC.im (.raw (.int .i64 (L[k]'(by simpa[o3] using h)).hi))]:=by
 simp[l8,D4,rI]
@[simp] theorem DA (L:List Issue) (k:Nat) (h:k<(l8 (L.map e9)).length):(l8 (L.map e9))[k]=(e9 (L[k]'(by simpa[o3] using h))).map .im:=by
 simp[l8]
def bP (l:List Issue) (d:Int):DV:=if j8 l=0/\d∈nums l then .one (.im (s8 l (nums l))) else .one (.im (.raw (.pointer none)))
theorem ur (l:List Issue) (d:Int):ImV (bP l d):=by unfold bP;split<;>simp[s8]
attribute [simp] ur
def Z5 (l:List Issue) (d:Int):Int:=if j8 l≠0 then j8 l else if d∈nums l then 0 else 6
@[simp] abbrev Jl:List Nat:=[0,1,2,4,5,6,7,14,19]
theorem Au (l:List Issue) (d:Int) (hG:s9 G) (hs:T6 l):zP prog G 176 [A6 l,iv d] (.tup [bP l d,iv (Z5 l d)]):=by
 refine zf func176 ntmps176 ?_;try simp only[A6,iv]
 have c1:=fX l hG hs;by_cases h0:j8 l=0
 ·simp only[bt,h0,if_true] at c1;have c2:=xG (G:=G) l (nums l) d ((C0 h0).1.imp λh=>Int.le_of_lt h) (by have:=hs.1;have:=n3 l l.length;unfold nums;omega);by_cases hm:d∈nums l
  ·simp only[hm,decide_true,s8] at c1 c2;have hs:=trivial;repeat' first|(with_reducible first|refine zz ?_|refine zr ?_|refine zE Jl ?_)|simp -dsimp[hs]|refine zp c1 ?_|refine zp c2 ?_|refine i7 ?_ ?_<;>intro h<;>try exact h.elim
   all_goals try clear hs
   all_goals simp[bP,Z5,h0,hm,s8]
  ·simp only[hm,decide_false,s8] at c1 c2;have hs:=trivial;repeat' first|(with_reducible first|refine zz ?_|refine zr ?_|refine zE Jl ?_)|simp -dsimp[hs]|refine zp c1 ?_|refine zp c2 ?_|refine i7 ?_ ?_<;>intro h<;>try exact h.elim
   all_goals try clear hs
   all_goals simp[bP,Z5,h0,hm,s8]
 ·simp only[bt,h0,if_false] at c1;have hs:=h0;repeat' first|(with_reducible first|refine zz ?_|refine zr ?_|refine zE Jl ?_)|simp -dsimp[hs]|refine zp c1 ?_|refine i7 ?_ ?_<;>intro h<;>try exact h.elim
  all_goals try clear hs
  all_goals simp[bP,Z5,h0]
def ek (l:List Issue) (d:Int):Nat:=(l.filter λx=>decide (x.drawing=d)).length
theorem zG {l:List Issue} {d:Int} (hs:(l.map (·.drawing)).Pairwise (·<=·)):ek l d=ek (l.drop (lb (l.map (·.drawing)) d)) d:=by
 conv=>lhs;rw[<- List.take_append_drop (lb (l.map (·.drawing)) d) l]
 simp only[ek,List.filter_append];rw[List.filter_eq_nil_iff.2 λx hx=>?_]
 ·rfl
 ·have:=qt hs x hx;simp;omega
@[simp] abbrev KR:List Nat:=[0,1,2,4,5,7,8,24,25,26,27,39]
theorem Ar (l:List Issue) (ds:List Int) (d:Int) (hs:(l.map (·.drawing)).Pairwise (·<=·)) (hl:l.length<1000000):zP prog G 177 [.one (.im (s8 l ds)),iv d] (iv (ek l d:Int)):=by
 refine zf func177 ntmps177 ?_;try simp only[iv]
 simp only[s8];have c1:=kK (G:=G) (s8 l ds) d;simp only[s8] at c1;have hs:=trivial;repeat' first|(with_reducible first|refine zz ?_|refine zE [0,1,4,5,8] ?_)|simp -dsimp[hs]|refine zp c1 ?_
 all_goals try clear hs
 refine R2 (f:=249) (by simp;exact rfl) (by rfl) call249 ?_;generalize hR:LoopD.mk _ _ _ _ _ _ _=R;have hR1:R.st=.ready:=by rw[<- hR]
 have hR2:R.pend=none:=by rw[<- hR]
 have hR3:R.at .ready none=R:=by rw[<- hR];rfl
 have hR4:=(congrArg LoopD.nt hR).symm;have hR5:=(congrArg LoopD.tm hR).symm;have hR6:=(congrArg LoopD.ps hR).symm;have hR7:=(congrArg LoopD.asg hR).symm;have hR8:=(congrArg LoopD.body hR).symm;dsimp only at hR4 hR5 hR6 hR7 hR8;clear hR;refine i8 func249 rfl ntmps249 (by simp) rfl ?_;have hR9:∀ objs:List DObj,(R.tm.map λx=>(x.1,fB 2 objs x.2))=R.tm:=by intro objs;rw[hR5];simp
 have hlb:=pa (l.map (·.drawing)) d;rw[List.length_map] at hlb;have c2:=fp (G:=G) l d hs hl;have hs:=za hR1 (za hR2 (za hR3 hlb));repeat' first|with_reducible refine zz ?_|simp -dsimp[hs]|refine zq c2 ?_|refine zM 0 41 12 [0,1,2,4,7,24,25,26,27,39] ?_|with_reducible refine zE KR ?_
 all_goals try clear hs
 rw[<- List.map_drop];have hge:=qu (d:=d) hs;have hss:((l.drop (lb (l.map (·.drawing)) d)).map (·.drawing)).Pairwise (·<=·):=by rw[List.map_drop];exact hs.drop
 have hsl:l.length-lb (l.map (·.drawing)) d=(l.drop (lb (l.map (·.drawing)) d)).length:=by simp
 rw[hsl];have hsl2:(l.drop (lb (l.map (·.drawing)) d)).length<1000000:=by simp;omega
 rw[zG hs];generalize l.drop (lb (l.map (·.drawing)) d)=s at hge hss hsl2 ⊢;refine g9 (ι:={ k:Nat // k<=s.length/\k+ek (s.drop k) d=ek s d }) (λp=>⟨41,[(0,.one (.yld 1)),(2,.one (.im (.ip [rI d]))),(24,.one (.im (.sl (s.map e9)))),(25,iv (s.length:Int)),(26,iv (p.1:Int))],[.row [.im (rI (p.1:Int))],.loop R]⟩) (λp=>s.length-p.1) ⟨0,by simp⟩ (zv [0,2,24,25,26]) ?_;rintro⟨k,hk,hno⟩;simp only[iv];by_cases hlt:k<s.length
 ·have hx:s[k]?=some s[k]:=by simp[hlt]
  have hw:=zk k;have hcons:s.drop k=s[k] :: s.drop (k+1):=List.drop_eq_getElem_cons hlt;by_cases hd:s[k].drawing=d
  ·have hno':k+1+ek (s.drop (k+1)) d=ek s d:=by
    rw[<- hno,ek,ek,hcons,List.filter_cons_of_pos (by simp[hd]),List.length_cons];omega
   have hs:=za hR1 (za hR2 (za hR3 (za hx (za hw (za hd hlt)))));repeat' first|(with_reducible first|refine zz ?_|refine zE KR ?_)|simp -dsimp[hs]|with_reducible refine At.yield_end ?_;simp -dsimp[hs]|refine aG ?_ ?_<;>simp -dsimp[hs]|refine P2 ?_;simp -dsimp[R1,hR4,hR5,hR6,hR7,hR8,hs]|refine i7 ?_ ?_<;>intro h<;>try exact h.elim
   all_goals try clear hs
   all_goals exact zn ⟨k+1,by omega,hno'⟩ (zw [0,2,24,25,26] 2 (by simp[hR9]))
  ·have hnone:ek (s.drop k) d=0:=by
    simp only[ek,List.length_eq_zero_iff,List.filter_eq_nil_iff];intro x hxm;obtain⟨i,hi⟩:=List.mem_iff_getElem?.1 hxm;rw[List.getElem?_drop] at hi;have h1:s[k].drawing<=x.drawing:=by
     rcases Nat.eq_zero_or_pos i with rfl|hp
     ·rw[Nat.add_zero,hx] at hi;cases hi;exact Int.le_refl _
     ·have hlt2:=(List.getElem?_eq_some_iff.1 hi).1;have:=(List.pairwise_iff_getElem.1 hss) k (k+i) (by simpa using hlt) (by simpa using hlt2) (by omega);have h6:=(List.getElem?_eq_some_iff.1 hi).2;simp at this;rw[h6] at this;exact this
    have h2:=hge s[k] (List.getElem_mem hlt);simp;omega
   have hN:ek s d=k:=by omega
   have hs:=za hR1 (za hR2 (za hR3 (za hx (za hw (za hd hlt)))));repeat' first|(with_reducible first|refine zz ?_|refine zr ?_ (by simp -dsimp[B8,hs];exact rfl)|refine zE KR ?_)|simp -dsimp[B8,hs]|with_reducible show B8 _ _ _ _ _ _ _ _;simp -dsimp[B8,hs]|refine i7 ?_ ?_<;>intro h<;>try exact h.elim
   all_goals try clear hs
   all_goals simp[hN]
 ·have hN:ek s d=k:=by rw[<- hno,List.drop_eq_nil_of_le (by omega)];simp[ek]
  have hs:=za hR1 (za hR2 (za hR3 hlt));repeat' first|(with_reducible first|refine zz ?_|refine zr ?_ (by simp -dsimp[B8,hs];exact rfl)|refine ze ?_ (by simp -dsimp[B8,hs];exact rfl)|refine zE KR ?_)|simp -dsimp[B8,hs]|with_reducible show B8 _ _ _ _ _ _ _ _;simp -dsimp[B8,hs]|refine i7 ?_ ?_<;>intro h<;>try exact h.elim
  all_goals try clear hs
  all_goals simp[hN]
def xp (l:List Issue) (d:Int):Int:=if Z5 l d=0 then (ek l d:Int) else 0
theorem zX (l:List Issue) (d:Int) (hG:s9 G) (hs:T6 l):zP prog G 119 [A6 l,iv d] (.tup [iv (xp l d),iv (Z5 l d)]):=by
 refine zf func119 ntmps119 ?_;try simp only[A6,iv]
 have c1:=Au (G:=G) l d hG hs;by_cases h0:Z5 l d=0
 ·have hk:j8 l=0/\d∈nums l:=by
   unfold Z5 at h0;by_cases h1:j8 l=0
   ·refine⟨h1,?_⟩;rw[if_neg (by simp[h1])] at h0;by_cases h2:d∈nums l
    ·exact h2
    ·rw[if_neg h2] at h0;cases h0
   ·rw[if_pos h1] at h0;exact absurd h0 h1
  have c2:=Ar (G:=G) l (nums l) d (bX hk.1) (by have:=hs.1;omega);rw[bP,if_pos hk,h0] at c1;rw[xp,if_pos h0,h0];simp only[s8] at c1 c2;have hs:=trivial;repeat' first|(with_reducible first|refine zz ?_|refine zr ?_|refine zE KQ ?_)|simp -dsimp[hs]|refine zp c1 ?_|refine zp c2 ?_|refine i7 ?_ ?_<;>intro h<;>try exact h.elim
  all_goals try clear hs
 ·rw[xp,if_neg h0];generalize hX:bP l d=X at c1;have hXo:∃ x,X=.one (.im x):=by subst hX;unfold bP;split<;>exact⟨_,rfl⟩
  obtain⟨x,rfl⟩:=hXo;generalize Z5 l d=e at *;have hs:=h0;repeat' first|(with_reducible first|refine zz ?_|refine zr ?_|refine zE KQ ?_)|simp -dsimp[hs]|refine zp c1 ?_|refine i7 ?_ ?_<;>intro h<;>try exact h.elim
  all_goals try clear hs
end Go.Proofs
namespace Go.Ab
open Go
structure Piece where
 holder:Int
 day:Int
 lo:Int
 hi:Int
 deriving DecidableEq
structure Case where
 p:Prints
 machine:Int
 of:Int
 loop:ChLoop
 pieces:List Piece
 deriving DecidableEq
def I7 (x:Piece):List IC:=[rI x.holder,rI x.day,rI x.lo,rI x.hi]
def j4 (c:Case):List IC:=[.sl (c.p.n.reg.map e9),.sl (c.p.n.notes.map n8),.sl (c.p.holders.map o8),.sl (c.p.prints.map A0),rI c.machine,rI c.of,.sl (c.loop.links.map G7),rI c.loop.lo,rI c.loop.hi,.sl (c.pieces.map I7)]
def Cp (x:Piece):DV:=.agg ((I7 x).map .im)
def n7 (c:Case):DV:=.agg ((j4 c).map .im)
attribute [simp] I7 j4 Cp n7
end Go.Ab
namespace Go.Proofs
open Go Go.Ab
variable {G:Hn}
theorem uw (x lo hi:Int):DCall Tryz.prog G 123 (iv x :: [DC.ptr 0 0,DC.ptr 1 0].map .one) [.row [.im (rI lo)],.row [.im (rI hi)]] (λd o=>d=bv (decide (x<lo)||decide (hi<x))/\o=[.row [.im (rI lo)],.row [.im (rI hi)]]):=by
 refine i8 Tryz.func123 rfl Tryz.ntmps123 (by simp) rfl ?_;simp only[rI];have hs:=trivial;repeat' first|(with_reducible first|refine zz ?_|refine zr ?_|refine zE [0,1,2,4] ?_)|simp -dsimp[hs]|with_reducible refine j0 ?_ ?_<;>intro h<;>have h0:=h<;>(try simp only[i6] at h)<;>have h2:=h<;>(try simp at h2)<;>replace hs:=za h0 (za h (za h2 hs))|with_reducible refine And.intro ?_ ?_
 all_goals try clear hs
 all_goals simp[*]
theorem da (lo hi:Int) (l:List Int) (hl:l.length<1000000):zP Tryz.prog G 76 [iv lo,iv hi,n9 l] (bv (l.all λx=>decide (lo<=x)&&decide (x<=hi))):=by
 refine zf Tryz.func76 Tryz.ntmps76 ?_;try simp only[iv,iv,n9]
 have hc:=B9 (G:=G) l (λx=>decide (x<lo)||decide (hi<x)) 123 [.ptr 0 0,.ptr 1 0] [.row [.im (rI lo)],.row [.im (rI hi)]] (by simp) (λx _=>uw x lo hi) hl;simp only[rI] at hc;repeat' first|(with_reducible first|refine zz ?_|refine zx ?_|refine zE [0,1,2,3,4,6] ?_)|simp -dsimp|refine CallE.here hc ?_
 rw[Bool.eq_iff_iff];simp;exact exists_congr λx=>and_congr_right λ_=>by omega
def ap (lo hi a b:Int):Bool:=decide (a<=lo/\lo<=b/\a<=hi/\hi<=b/\lo<=hi)
theorem gk (lo hi a b:Int):zP Tryz.prog G 77 [B1 lo hi,iv a,iv b] (bv (ap lo hi a b)):=by
 refine zf Tryz.func77 Tryz.ntmps77 ?_;try simp only[B1,iv,iv]
 have c1:=da (G:=G) a b [lo,hi] (by simp);generalize hb:([lo,hi].all λy=>decide (a<=y)&&decide (y<=b))=q at c1;cases q
 ·repeat' first|(with_reducible first|refine zz ?_|refine zx ?_|refine zE [0,1,2,3,6] ?_)|simp -dsimp|refine zt c1 ?_ ?_ ?_;(focus simp;done);focus (simp;done)
  all_goals simp at hb
  all_goals simp[ap]
  all_goals omega
 ·simp at hb;repeat' first|(with_reducible first|refine zz ?_|refine zx ?_|refine zE [0,1,2,3,6] ?_)|simp -dsimp|refine zt c1 ?_ ?_ ?_;(focus simp;done);focus (simp;done)
  all_goals simp[ap]
  all_goals first|omega|(rw[Bool.eq_iff_iff];simp;omega)
end Go.Proofs
namespace Go.Proofs
open Go Go.Ab
variable {G:Hn}
def H1 (c:Case) (l:Link) (x:Piece):Bool:=(match o2 c.p.n.reg l.drawing 1 with|some y=>!decide (y.kind=1)|none=>false)&&(decide (0<=l.dim/\l.dim<=3)&&((c.p.holders.any λy=>decide (y.id=x.holder))&&(decide (0<=x.day/\x.day<=14610)&&ap x.lo x.hi 0 1000000000)))
def ah (c:Case):Bool:=decide (c.of∈nums c.p.n.reg)&&(decide (1<=c.machine/\c.machine<=999)&&(decide (1<=c.loop.links.length/\c.loop.links.length<=8)&&(decide (c.pieces.length=c.loop.links.length)&&(ap c.loop.lo c.loop.hi (-8000000000) 8000000000&&(c.loop.links.zip c.pieces).all λq=>H1 c q.1 q.2))))
noncomputable def A4 (c:Case):Int:=if p6 c.p≠0 then p6 c.p else if ah c=true then 0 else 100
structure KC (c:Case):Prop where
 p:KP c.p
 l:c.loop.links.length<=16
 q:c.pieces.length<=16
open Go Go.Ab Tryz
theorem C1 {c:Case} (h:A4 c=0):p6 c.p=0/\ah c=true:=by
 unfold A4 at h;by_cases h0:p6 c.p=0
 ·rw[if_neg (by simp[h0])] at h;refine⟨h0,?_⟩;by_cases h1:ah c=true
  ·exact h1
  ·rw[if_neg h1] at h;exact absurd h (by decide)
 ·rw[if_pos h0] at h;exact absurd h h0
theorem B2 {p:Prints} (h:p6 p=0):r7 p.n=0/\C3 p=true/\j8 p.n.reg=0:=by
 have hn:r7 p.n=0:=by
  refine Classical.byContradiction λh1=>?_;unfold p6 at h;rw[if_pos h1] at h;exact h1 h
 refine⟨hn,?_,?_⟩
 ·refine Classical.byContradiction λh1=>?_;unfold p6 at h;rw[if_neg (by simp[hn]),if_neg h1] at h;exact absurd h (by decide)
 ·refine Classical.byContradiction λh1=>?_;unfold r7 at hn;rw[if_pos h1] at hn;exact h1 hn
def cq (c:Case):Bool:=decide (c.of∈nums c.p.n.reg)&&(decide (1<=c.machine/\c.machine<=999)&&(decide (1<=c.loop.links.length/\c.loop.links.length<=8)&&(decide (c.pieces.length=c.loop.links.length)&&ap c.loop.lo c.loop.hi (-8000000000) 8000000000)))
theorem L6 (c:Case):ah c=(cq c&&(c.loop.links.zip c.pieces).all λq=>H1 c q.1 q.2):=by
 simp only[ah,cq,Bool.and_assoc]
theorem fC {α β:Type} {f:α×β->Bool} {l:List α} {m:List β} {k:Nat} (h1:k<l.length) (h2:k<m.length) (hno:(l.zip m).all f=((l.zip m).drop k).all f):(l.zip m).all f=true↔f (l[k],m[k])=true/\((l.zip m).drop (k+1)).all f=true:=by
 have h3:k<(l.zip m).length:=by rw[List.length_zip];omega
 have:=R0 h3 hno;rw[List.getElem_zip] at this;exact this
theorem vc (x:Piece) (y:Holder):DCall prog G 121 (jb y :: [DC.ptr 0 0].map .one) [.row ((I7 x).map .im)] (λd o=>d=bv (decide (y.id=x.holder))/\o=[.row ((I7 x).map .im)]):=by
 refine DCall.drop ?_;refine i8 func121 rfl ntmps121 (by simp) rfl ?_;simp only[jb,o8,I7,rI];repeat' first|(with_reducible first|refine zz ?_|refine zx ?_|refine zE [0,1,2,3] ?_)|simp -dsimp|with_reducible refine And.intro ?_ ?_
theorem mw {c:Case} (h0:j8 c.p.n.reg=0) (l:Link) (x:Piece):H1 c l x=true↔zd c.p.n.reg l.drawing 1=0/\¬ (atR c.p.n.reg l.drawing 1).kind=1/\([l.dim].all λy=>decide (0<=y)&&decide (y<=3))=true/\(c.p.holders.any λy=>decide (y.id=x.holder))=true/\([x.day].all λy=>decide (0<=y)&&decide (y<=14610))=true/\ap x.lo x.hi 0 1000000000=true:=by
 unfold H1 zd atR;rw[if_neg (by simp[h0]),if_pos h0];cases o2 c.p.n.reg l.drawing 1 with
 | none=>simp
 | some y=>simp[and_assoc]
@[simp] abbrev LG:List Nat:=[0,1,2,3,4,6,7,8,9,10,11,12,17,64,67,68,69,70,118]
theorem yz (c:Case) (hG:s9 G) (hN:N3 G) (hS:E7 G) (hR:E9 G) (hk:KC c):zP prog G 75 [n7 c] (iv (A4 c)):=by
 refine zf func75 ntmps75 ?_;try simp only[iv]
 have hl:=hk.l;have hq:=hk.q;have hhl:=hk.p.p.h;have c1:=wM (G:=G) c.p hG hN hS hR hk.p;simp only[r9,m6] at c1;by_cases h0:p6 c.p=0
 ·obtain⟨hn0,hpb,hr0⟩:=B2 h0;rw[h0] at c1;have hE:A4 c=if ah c=true then 0 else 100:=by unfold A4;rw[if_neg (by simp[h0])]
  have c2:=zX (G:=G) c.p.n.reg c.of hG hk.p.n.1;have hLE:Z5 c.p.n.reg c.of=if c.of∈nums c.p.n.reg then 0 else 6:=by unfold Z5;rw[if_neg (by simp[hr0])]
  rw[hLE] at c2;have c3:=da (G:=G) 1 999 [c.machine] (by simp);have c4:=da (G:=G) 1 8 [(c.loop.links.length:Int)] (by simp);have c5:=gk (G:=G) c.loop.lo c.loop.hi (-8000000000) 8000000000;simp only[A6,B1] at c2 c5;cases h5:cq c
  ·have hB:ah c=false:=by rw[L6,h5,Bool.false_and]
   rw[hE,hB];simp only[cq] at h5;generalize hb3:([c.machine].all λy=>decide (1<=y)&&decide (y<=999))=b3 at c3;generalize hb4:([(c.loop.links.length:Int)].all λy=>decide (1<=y)&&decide (y<=8))=b4 at c4;generalize hb5:ap c.loop.lo c.loop.hi (-8000000000) 8000000000=b5 at c5 h5;have hs:True:=trivial;by_cases hm:c.of∈nums c.p.n.reg
   ·rw[if_pos hm] at c2;by_cases hlen:c.pieces.length=c.loop.links.length
    ·cases b3<;>cases b4<;>cases b5
     all_goals
      have hs:=hlen;repeat' first|(with_reducible first|refine zz ?_|refine zr ?_|refine zE LG ?_)|simp -dsimp[hs]|refine zp c1 ?_|refine zp c2 ?_|refine zt c3 ?_ ?_ ?_;(focus simp;done);focus (simp;done)|refine zt c4 ?_ ?_ ?_;(focus simp;done);focus (simp;done)|refine zp c5 ?_|refine i7 ?_ ?_<;>intro h<;>try exact h.elim
      all_goals try clear hs
     all_goals exfalso
     all_goals simp[hm,hlen] at h5 hb3 hb4
     all_goals omega
    ·cases b3<;>cases b4<;>cases b5
     all_goals
      have hs:=hlen;repeat' first|(with_reducible first|refine zz ?_|refine zr ?_|refine zE LG ?_)|simp -dsimp[hs]|refine zp c1 ?_|refine zp c2 ?_|refine zt c3 ?_ ?_ ?_;(focus simp;done);focus (simp;done)|refine zt c4 ?_ ?_ ?_;(focus simp;done);focus (simp;done)|refine zp c5 ?_|refine i7 ?_ ?_<;>intro h<;>try exact h.elim|with_reducible refine j0 ?_ ?_<;>intro h<;>have h0:=h<;>(try simp only[i6] at h)<;>have h2:=h<;>(try simp at h2)<;>replace hs:=za h0 (za h (za h2 hs))
      all_goals try clear hs
     all_goals exfalso
     all_goals omega
   ·rw[if_neg hm] at c2;have hs:=trivial;repeat' first|(with_reducible first|refine zz ?_|refine zr ?_|refine zE LG ?_)|simp -dsimp[hs]|refine zp c1 ?_|refine zp c2 ?_|refine i7 ?_ ?_<;>intro h<;>try exact h.elim
    all_goals try clear hs
  ·rw[L6,h5,Bool.true_and] at hE;rw[hE];simp only[cq,Bool.and_eq_true,decide_eq_true_eq] at h5;obtain⟨hm,⟨hm1,hm2⟩,⟨hl1,hl2⟩,hlen,hgap⟩:=h5;rw[if_pos hm] at c2;rw[hgap] at c5;rw[show ([c.machine].all λy=>decide (1<=y)&&decide (y<=999))=true by simp;omega] at c3;rw[show ([(c.loop.links.length:Int)].all λy=>decide (1<=y)&&decide (y<=8))=true by simp;omega] at c4;have hs:=hlen;repeat' first|(with_reducible first|refine zz ?_|refine zE LG ?_)|simp -dsimp[hs]|refine zp c1 ?_|refine zp c2 ?_|refine zt c3 ?_ ?_ ?_;(focus simp;done);focus (simp;done)|refine zt c4 ?_ ?_ ?_;(focus simp;done);focus (simp;done)|refine zp c5 ?_|refine i7 ?_ ?_<;>intro h<;>try exact h.elim
   all_goals try clear hs
   have hno:((c.loop.links.zip c.pieces).all λq=>H1 c q.1 q.2)=((c.loop.links.zip c.pieces).drop 0).all λq=>H1 c q.1 q.2:=rfl;clear c1 c2 c3 c4 c5;generalize hA:((c.loop.links.zip c.pieces).all λq=>H1 c q.1 q.2)=A at *;refine g9 (ι:={ k:Nat // k<=c.loop.links.length/\A=((c.loop.links.zip c.pieces).drop k).all λq=>H1 c q.1 q.2 }) (λq=>⟨120,[(1,.one (.ptr 0 0)),(4,.one (.ptr 2 0)),(67,.one (.im (.sl (c.loop.links.map G7)))),(68,iv (c.loop.links.length:Int)),(69,iv (q.1:Int))],[.row ((j4 c).map .im),.vec 0 [] 0 true,.row [.im (.sl (c.p.n.reg.map e9))],.vec 1 [[.im (rI c.machine)]] 0 false,.vec 1 [[.im (rI (c.loop.links.length:Int))]] 0 false]⟩) (λq=>c.loop.links.length-q.1) ⟨0,by simp,hno⟩ (zv [1,4,67,68,69]) ?_;rintro⟨k,hk1,hrest⟩;simp only[iv];by_cases hlt:k<c.loop.links.length
   ·have hlt2:k<c.pieces.length:=by omega
    have hw:=zk k;have hst:=fC (f:=λq=>H1 c q.1 q.2) hlt hlt2 (hA.trans hrest);rw[hA] at hst;simp only at hst;rw[mw hr0] at hst;clear hno;generalize hx:c.pieces[k]=x at *;generalize hy:c.loop.links[k]=y at *;have c6:=Bg (G:=G) c.p.n.reg y.drawing 1 hG hk.p.n.1;have c7:=gH (G:=G) c.p.holders (λy=>decide (y.id=x.holder)) 121 [.ptr 0 0] [.row ((I7 x).map .im)] (by simp) (λy _=>vc x y) (by omega);have c8:=da (G:=G) 0 3 [y.dim] (by simp);have c9:=da (G:=G) 0 14610 [x.day] (by simp);have c10:=gk (G:=G) x.lo x.hi 0 1000000000;simp only[A6,B1] at c6 c10;simp only[I7,rI,List.map_cons,List.map_nil] at c7;generalize (c.p.holders.any λy=>decide (y.id=x.holder))=b2 at *;generalize ([y.dim].all λy=>decide (0<=y)&&decide (y<=3))=b1 at *;generalize ([x.day].all λy=>decide (0<=y)&&decide (y<=14610))=b3 at *;generalize ap x.lo x.hi 0 1000000000=b4 at *;generalize zd c.p.n.reg y.drawing 1=e at *;generalize atR c.p.n.reg y.drawing 1=z at *;have hcs:(e=0/\¬ z.kind=1/\b1=true/\b2=true/\b3=true/\b4=true)\/(A=false/\((¬ e=0/\True/\True/\True/\True/\True)\/(e=0/\z.kind=1/\True/\True/\True/\True)\/(e=0/\¬ z.kind=1/\b1=false/\True/\True/\True)\/(e=0/\¬ z.kind=1/\b1=true/\b2=false/\True/\True)\/(e=0/\¬ z.kind=1/\b1=true/\b2=true/\b3=false/\True)\/(e=0/\¬ z.kind=1/\b1=true/\b2=true/\b3=true/\b4=false))):=by
     by_cases g1:e=0<;>by_cases g2:z.kind=1<;>cases b1<;>cases b2<;>cases b3<;>cases b4<;>simp_all
    have hs:True:=trivial;rcases hcs with⟨g1,g2,g3,g4,g5,g6⟩|⟨gA,hcs⟩
    ·have hs:=za hx (za hy (za hlt (za hlt2 (za hw (za g1 (za g2 (za g3 (za g4 (za g5 g6)))))))));repeat' first|(with_reducible first|refine zz ?_|refine zE LG ?_)|simp -dsimp[hs]|refine zp c6 ?_|refine CallE.embed [9] (c7) ?_ ?_ ?_ ?_ ?_ ?_;(focus simp[D6];done);(focus simp;done);(focus simp;done);(focus simp;done);(focus refine C4 ?_;simp[D6,D5];done);try simp -dsimp[u7,D6,hs]|refine zt c8 ?_ ?_ ?_;(focus simp;done);focus (simp;done)|refine zt c9 ?_ ?_ ?_;(focus simp;done);focus (simp;done)|refine zp c10 ?_|refine i7 ?_ ?_<;>intro h<;>try exact h.elim
     all_goals try clear hs
     all_goals exact zn ⟨k+1,by omega,by rw[Bool.eq_iff_iff];exact hst.trans ⟨λh=>h.2,λh=>⟨⟨g1,g2,g3,g4,g5,g6⟩,h⟩⟩⟩ (zw [1,4,67,68,69] 5)
    ·rcases hcs with⟨g1,g2,g3,g4,g5,g6⟩|⟨g1,g2,g3,g4,g5,g6⟩|⟨g1,g2,g3,g4,g5,g6⟩|⟨g1,g2,g3,g4,g5,g6⟩|⟨g1,g2,g3,g4,g5,g6⟩|⟨g1,g2,g3,g4,g5,g6⟩
     all_goals
      have hs:=za hx (za hy (za hlt (za hlt2 (za hw (za g1 (za g2 (za g3 (za g4 (za g5 g6)))))))));repeat' first|(with_reducible first|refine zz ?_|refine zr ?_|refine zE LG ?_)|simp -dsimp[hs]|refine zp c6 ?_|refine CallE.embed [9] (c7) ?_ ?_ ?_ ?_ ?_ ?_;(focus simp[D6];done);(focus simp;done);(focus simp;done);(focus simp;done);(focus refine C4 ?_;simp[D6,D5];done);try simp -dsimp[u7,D6,hs]|refine zt c8 ?_ ?_ ?_;(focus simp;done);focus (simp;done)|refine zt c9 ?_ ?_ ?_;(focus simp;done);focus (simp;done)|refine zp c10 ?_|refine i7 ?_ ?_<;>intro h<;>try exact h.elim
      all_goals try clear hs
     all_goals exact gA
   ·obtain rfl:k=c.loop.links.length:=by omega
    have hA1:A=true:=by rw[hrest,List.drop_eq_nil_of_le (by rw[List.length_zip];omega)];rfl
    subst hA1;have hs:=hlt;repeat' first|(with_reducible first|refine zz ?_|refine zr ?_|refine zE LG ?_)|simp -dsimp[hs]|refine i7 ?_ ?_<;>intro h<;>try exact h.elim
    all_goals try clear hs
 ·have hE:A4 c=p6 c.p:=by unfold A4;rw[if_pos h0]
  rw[hE];have hs:=h0;repeat' first|(with_reducible first|refine zz ?_|refine zr ?_|refine zE LG ?_)|simp -dsimp[hs]|refine zp c1 ?_|refine i7 ?_ ?_<;>intro h<;>try exact h.elim
  all_goals try clear hs
end Go.Proofs
