/- Part 21 of the proofs. -/
import Derived.Test.YtlmlkkoapahmjaaGreatDoorQ14
import Derived.Test.YtlmlkkoapahmjaaGreatDoorQ18
import Derived.Test.YtlmlkkoapahmjaaGreatDoorB02
set_option linter.all false
set_option maxHeartbeats 100000000
namespace Go.Ab
open Go
def rA (n:Int):List IC:=[.raw (.int .u32 n)]
def w9 (l:List Int) (i:Nat):Int:=if l.length=0 then 0 else (l[i % l.length]?).getD 0
end Go.Ab
namespace Go.Proofs
open Go Go.Ab
variable {G:LI}
attribute [simp] r9 cX O1 iG v6 A8 nilV K0 ZK
theorem py (n l:Int) (d:Dim):zP Tryz.prog G 79 [iv n,iv l,fY d] (P9 { drawing:=n,letter:=l,kind:=2,items:=[],dims:=[d] }):=by
 refine zf Tryz.func79 Tryz.ntmps79 ?_;try simp only[iv,iv,fY]
 repeat' first|(with_reducible first|refine zz ?_|refine zx ?_|refine zE [0,1,2,5,6] ?_)|simp -dsimp
theorem fD (a b:Int):zP Tryz.prog G 28 [iv a,iv b] (D9 a b):=by
 refine zf Tryz.func28 Tryz.ntmps28 ?_;try simp only[iv,iv]
 repeat' first|(with_reducible first|refine zz ?_|refine zx ?_|refine zE [0,1,4] ?_)|simp -dsimp
theorem pm (a b d e f g:Int):zP Tryz.prog G 80 [iv a,iv b,iv d,iv e,iv f,sN g] (dF ⟨a,b,d,e,f,-1,g⟩):=by
 refine zf Tryz.func80 Tryz.ntmps80 ?_;try simp only[iv,iv,iv,iv,iv,sN]
 repeat' first|(with_reducible first|refine zz ?_|refine zx ?_|refine zE [0,1,2,3,4,5,12] ?_)|simp -dsimp
theorem zm  : zP Tryz.prog G 34 [] (C3 ⟨1,0⟩):=by
 refine zf Tryz.func34 Tryz.ntmps34 ?_;try simp only[iv]
 repeat' first|(with_reducible first|refine zz ?_|refine zx ?_|refine zE [0] ?_)|simp -dsimp
theorem ph (n:Int):zP Tryz.prog G 32 [iv n] (C3 ⟨2,n⟩):=by
 refine zf Tryz.func32 Tryz.ntmps32 ?_;try simp only[iv]
 repeat' first|(with_reducible first|refine zz ?_|refine zx ?_|refine zE [0,2] ?_)|simp -dsimp
theorem sS (n:Int):zP Tryz.prog G 33 [iv n] (C3 ⟨3,n⟩):=by
 refine zf Tryz.func33 Tryz.ntmps33 ?_;try simp only[iv]
 repeat' first|(with_reducible first|refine zz ?_|refine zx ?_|refine zE [0,2] ?_)|simp -dsimp
def Jy:List Issue:=[{ drawing:=1,letter:=1,kind:=1,items:=[⟨2,1⟩,⟨3,1⟩],dims:=[] },{ drawing:=2,letter:=1,kind:=2,items:=[],dims:=[⟨105,100,110⟩] },{ drawing:=2,letter:=2,kind:=2,items:=[],dims:=[⟨102,100,104⟩] },{ drawing:=3,letter:=1,kind:=2,items:=[],dims:=[⟨94,90,98⟩] }]
def boltP:Prints:={ n:={ reg:=Jy,notes:=[⟨5,10,2,2,2,7,999,0,false,0⟩] },holders:=[⟨1,1,999,[2,3]⟩,⟨2,1,999,[2]⟩],prints:=[⟨1,1,1,2,1,-1,0⟩,⟨2,1,1,3,1,-1,0⟩,⟨3,1,2,2,1,-1,0⟩,⟨4,12,2,2,2,-1,1⟩] }
def boltC:Case:={ p:=boltP,machine:=8,of:=1,loop:={ links:=[⟨2,0,false⟩,⟨3,0,true⟩],lo:=0,hi:=14 },pieces:=[⟨2,20,106,107⟩,⟨1,20,90,91⟩] }
theorem Hq  : zP Tryz.prog G 31 [] (l7 boltC):=by
 refine zf Tryz.func31 Tryz.ntmps31 ?_;try simp only[iv]
 have c1:=py (G:=G) 2 1 ⟨105,100,110⟩;have c2:=py (G:=G) 2 2 ⟨102,100,104⟩;have c3:=py (G:=G) 3 1 ⟨94,90,98⟩;have d1:=pm (G:=G) 1 1 1 2 1 0;have d2:=pm (G:=G) 2 1 1 3 1 0;have d3:=pm (G:=G) 3 1 2 2 1 0;have d4:=pm (G:=G) 4 12 2 2 2 1;have e1:=fD (G:=G) 0 14;have e2:=fD (G:=G) 106 107;have e3:=fD (G:=G) 90 91;simp only[fY,F0,P9,e9,dF,A4,D9,rI,List.map_cons,List.map_nil] at c1 c2 c3 d1 d2 d3 d4 e1 e2 e3;repeat' first|(with_reducible first|refine zz ?_|refine zx ?_)|simp -dsimp|refine zp c1 ?_|refine zp c2 ?_|refine zp c3 ?_|refine zq d1 ?_|refine zq d2 ?_|refine zq d3 ?_|refine zq d4 ?_|refine zq e1 ?_|refine zq e2 ?_|refine zq e3 ?_|refine zM 3 45 30 [0,1,2] ?_|with_reducible refine zE [0,1,2] ?_
 all_goals (repeat' apply And.intro)<;>rfl
theorem iL (l:List Int) (i:Nat) (hi:i<1000000) (hu:∀ n∈l,0<=n/\n<=4294967295):zP Tryz.prog G 26 [.one (.im (.sl (l.map rA))),iv (i:Int)] (iv (w9 l i)):=by
 refine zf Tryz.func26 Tryz.ntmps26 ?_;try simp only[iv]
 by_cases h0:l.length=0
 ·have h0':l=[]:=List.eq_nil_of_length_eq_zero h0;subst h0';have hs:=trivial;repeat' first|(with_reducible first|refine zz ?_|refine zr ?_|refine zE [0,1,4,7] ?_)|simp -dsimp[hs]|refine i8 ?_ ?_<;>intro h<;>try exact h.elim
  all_goals simp[w9]
 ·have h0i:¬ (l.length:Int)=0:=by omega
  have hlt:i % l.length<l.length:=Nat.mod_lt _ (by omega);have hm:((i:Int).tmod (l.length:Int))=((i % l.length:Nat):Int):=by
   rw[Int.tmod_eq_emod_of_nonneg (by omega)];omega
  have hc:w9 l i=l[i % l.length]:=by rw[w9,if_neg h0,List.getElem?_eq_getElem hlt];rfl
  have hn:=hu _ (List.getElem_mem hlt);rw[hc];have hji:i % l.length<=i:=Nat.mod_le _ _;generalize hj:i % l.length=j at *;generalize hx:l[j]=x at *;have hxx:l[j]?=some x:=by rw[List.getElem?_eq_getElem hlt,hx]
  have w1:IntKind.i64.wrap x=x:=n4 (by omega) (by omega);have w2:IntKind.i64.wrap (j:Int)=(j:Int):=n4 (by omega) (by omega);have hs:=za h0 (za h0i (za hm (za hlt (za hx (za hxx (za w1 w2))))));repeat' first|(with_reducible first|refine zz ?_|refine zr ?_ (by simp -dsimp[rA,hs];exact rfl)|refine zE [0,1,4,7] ?_)|simp -dsimp[rA,hs]|refine i8 ?_ ?_<;>intro h<;>try exact h.elim
theorem cO {b:List Int} (hu:∀ n∈b,0<=n/\n<=4294967295) (i:Nat):0<=w9 b i/\w9 b i<=4294967295:=by
 unfold w9;split
 ·omega
 ·rename_i h;rw[List.getElem?_eq_getElem (Nat.mod_lt _ (by omega))];exact hu _ (List.getElem_mem _)
@[simp] abbrev QT:List Nat:=[0,1,3,4,6,7,8,9,10,15]
theorem EN (l:List Susp) (s:Susp) (hl:l.length<1000000):zP Tryz.prog G 15 [A3 l,C3 s] (bv (decide (s∈l))):=by
 refine zf Tryz.func15 Tryz.ntmps15 ?_;try simp only[iv]
 obtain⟨a,b⟩:=s;simp only[A3,C3,j5,rI,List.map_cons,List.map_nil];have hs:=trivial;repeat' first|(with_reducible first|refine zz ?_|refine zE QT ?_)|simp -dsimp[hs]
 refine i6 (ι:={ k:Nat // k<=l.length/\((⟨a,b⟩:Susp)∈l↔(⟨a,b⟩:Susp)∈l.drop k) }) (λp=>⟨17,[(3,.one (.ptr 0 0)),(7,.one (.im (.sl (l.map j5)))),(8,iv (l.length:Int)),(9,iv (p.1:Int))],[.row [.im (.raw (.int .u8 a)),.im (.raw (.int .i64 b))]]⟩) (λp=>l.length-p.1) ⟨0,by simp⟩ (zv [3,7,8,9]) ?_;rintro⟨k,hk,hno⟩;simp only[iv];by_cases hlt:k<l.length
 ·have hw:=zk k;rw[List.drop_eq_getElem_cons hlt,List.mem_cons] at hno;have hx0:l[k]?=some l[k]:=by simp[hlt]
  generalize hx:l[k]=x at *;obtain⟨x1,x2⟩:=x;have hs:True:=trivial;by_cases hq1:x1=a
  ·subst hq1;by_cases hq2:x2=b
   ·subst hq2;have hin:(⟨x1,x2⟩:Susp)∈l:=hno.2 (.inl rfl);rw[decide_eq_true hin];have hs:=za hx (za hlt hw);repeat' first|(with_reducible first|refine zz ?_|refine zr ?_|refine zE QT ?_)|simp -dsimp[hs]|refine i8 ?_ ?_<;>intro h<;>try exact h.elim
   ·have hst:(⟨x1,b⟩:Susp)∈l↔(⟨x1,b⟩:Susp)∈l.drop (k+1):=by
     rw[hno];constructor
     ·rintro (h|h)
      ·injection h with _ h2;exact absurd h2.symm hq2
      ·exact h
     ·exact .inr
    have hs:=za hx (za hlt (za hw hq2));repeat' first|(with_reducible first|refine zz ?_|refine zE QT ?_)|simp -dsimp[hs]|refine i8 ?_ ?_<;>intro h<;>try exact h.elim
    all_goals exact zn ⟨k+1,by omega,hst⟩ (zw [3,7,8,9] 1)
  ·have hst:(⟨a,b⟩:Susp)∈l↔(⟨a,b⟩:Susp)∈l.drop (k+1):=by
    rw[hno];constructor
    ·rintro (h|h)
     ·injection h with h1 _;exact absurd h1.symm hq1
     ·exact h
    ·exact .inr
   have hs:=za hx (za hlt (za hw hq1));repeat' first|(with_reducible first|refine zz ?_|refine zE QT ?_)|simp -dsimp[hs]|refine i8 ?_ ?_<;>intro h<;>try exact h.elim
   all_goals exact zn ⟨k+1,by omega,hst⟩ (zw [3,7,8,9] 1)
 ·have hn:¬ (⟨a,b⟩:Susp)∈l:=by rw[hno,List.drop_eq_nil_of_le (by omega)];simp
  rw[decide_eq_false hn];have hs:=hlt;repeat' first|(with_reducible first|refine zz ?_|refine zr ?_|refine zE QT ?_)|simp -dsimp[hs]|refine i8 ?_ ?_<;>intro h<;>try exact h.elim
def JA (c:Case):Bool:=decide ((R8 (c.loop.links.zip c.pieces)).2<c.loop.lo)||decide (c.loop.hi<(R8 (c.loop.links.zip c.pieces)).1)
@[simp] abbrev Qw:List Nat:=[0,1,2,3,4,5,6,8,9,10,11,21]
theorem EM (c:Case) (h0:p9 c=0):zP Tryz.prog G 42 [l7 c] (bv (JA c)):=by
 refine zf Tryz.func42 Tryz.ntmps42 ?_;try simp only[iv]
 have hok:=I4 (A1 h0).2;have hlen:=hok.e;have hl8:=hok.l;simp only[l7,j4,rI,List.map_cons,List.map_nil];have hs:=trivial;repeat' first|(with_reducible first|refine zz ?_|refine zE Qw ?_)|simp -dsimp[hs]
 refine i6 (ι:={ k:Nat // k<=c.pieces.length }) (λq=>⟨57,[(1,.one (.ptr 0 0)),(3,iv (R8 ((c.loop.links.zip c.pieces).take q.1)).1),(4,iv (R8 ((c.loop.links.zip c.pieces).take q.1)).2),(8,.one (.im (.sl (c.pieces.map w5)))),(9,iv (c.pieces.length:Int)),(10,iv (q.1:Int))],[.row ((j4 c).map .im)]⟩) (λq=>c.pieces.length-q.1) ⟨0,by simp⟩ (zv [1,3,4,8,9,10] (by simp[R8])) ?_;rintro⟨k,hk1⟩;simp only[iv];by_cases hlt:k<c.pieces.length
 ·have hlt2:k<c.loop.links.length:=by omega
  have hw:=zk k;have hb1:=pi hok (Nat.le_of_lt hlt);have hb2:=pi hok (show k+1<=c.pieces.length by omega);have hst:=qk hok hlt hlt2;have hp:=iU hok hlt;unfold P3 at hp;rw[hst] at hb2;generalize hx:c.pieces[k]=x at *;generalize hy:c.loop.links[k]=y at *;generalize R8 ((c.loop.links.zip c.pieces).take k)=s at *;unfold E2 at hst hb2;cases hbk:y.back
  ·rw[if_neg (by simp[hbk])] at hst hb2;simp only at hb2;have hw1:IntKind.i64.wrap (s.1+x.lo)=s.1+x.lo:=n4 (by omega) (by omega);have hw2:IntKind.i64.wrap (s.2+x.hi)=s.2+x.hi:=n4 (by omega) (by omega);have hs:=za hx (za hy (za hlt (za hlt2 (za hw (za hw1 (za hw2 hbk))))));repeat' first|with_reducible refine zz ?_|simp -dsimp[hs]|refine zM 7 57 12 Qw ?_|with_reducible refine zE Qw ?_|refine i8 ?_ ?_<;>intro h<;>try exact h.elim
   all_goals exact zn ⟨k+1,by omega⟩ (zw [1,3,4,8,9,10] 1 (by simp[hst]))
  ·rw[if_pos hbk] at hst hb2;simp only at hb2;have hw1:IntKind.i64.wrap (s.1-x.hi)=s.1-x.hi:=n4 (by omega) (by omega);have hw2:IntKind.i64.wrap (s.2-x.lo)=s.2-x.lo:=n4 (by omega) (by omega);have hs:=za hx (za hy (za hlt (za hlt2 (za hw (za hw1 (za hw2 hbk))))));repeat' first|with_reducible refine zz ?_|simp -dsimp[hs]|refine zM 6 57 12 Qw ?_|with_reducible refine zE Qw ?_|refine i8 ?_ ?_<;>intro h<;>try exact h.elim
   all_goals exact zn ⟨k+1,by omega⟩ (zw [1,3,4,8,9,10] 1 (by simp[hst]))
 ·obtain rfl:k=c.pieces.length:=by omega
  have hall:(c.loop.links.zip c.pieces).take c.pieces.length=c.loop.links.zip c.pieces:=List.take_of_length_le (by rw[List.length_zip];omega);rw[hall];unfold JA;generalize R8 (c.loop.links.zip c.pieces)=s at *;by_cases h1:s.2<c.loop.lo
  ·have hs:=za hlt h1;repeat' first|(with_reducible first|refine zz ?_|refine zr ?_|refine zE Qw ?_)|simp -dsimp[hs]|refine i8 ?_ ?_<;>intro h<;>try exact h.elim
  ·have hs:=za hlt h1;repeat' first|(with_reducible first|refine zz ?_|refine zr ?_|refine zE Qw ?_)|simp -dsimp[hs]|refine i8 ?_ ?_<;>intro h<;>try exact h.elim
   all_goals simp[h1]
noncomputable def lP (c:Case):Bool:=cu c&&(decide (p9 c=0)&&JA c)
theorem Df (c:Case) (hp:ki c.p):zP Tryz.prog G 9 [l7 c] (bv (lP c)):=by
 refine zf Tryz.func9 Tryz.ntmps9 ?_;try simp only[iv]
 have c1:=xA (G:=G) c;unfold lP;cases hq:cu c
 ·rw[hq] at c1;simp only[l7,j4,rI,List.map_cons,List.map_nil] at c1 ⊢;have hs:=trivial;repeat' first|(with_reducible first|refine zz ?_|refine zr ?_|refine zE [0,1,2] ?_)|simp -dsimp[hs]|refine zp c1 ?_
 ·obtain⟨hsk,hk⟩:=CE hp hq;rw[hq] at c1;have c2:=wH (G:=G) c hk;by_cases h0:p9 c=0
  ·have c3:=EM (G:=G) c h0;rw[h0] at c2 ⊢;generalize JA c=A at *;simp only[l7,j4,rI,List.map_cons,List.map_nil] at c1 c2 c3 ⊢;have hs:=trivial;repeat' first|(with_reducible first|refine zz ?_|refine zr ?_|refine zE [0,1,2] ?_)|simp -dsimp[hs]|refine zp c1 ?_|refine zp c2 ?_|refine zp c3 ?_
  ·simp only[l7,j4,rI,List.map_cons,List.map_nil] at c1 c2 ⊢;rw[decide_eq_false h0];have hs:=h0;repeat' first|(with_reducible first|refine zz ?_|refine zr ?_|refine zE [0,1,2] ?_)|simp -dsimp[hs]|refine zp c1 ?_|refine zp c2 ?_
theorem th {c:Case} (hp:ki c.p) (h:lP c=true):uP c/\KC c/\J2 c=0:=by
 unfold lP at h;simp only[Bool.and_eq_true,decide_eq_true_eq] at h;obtain⟨h1,h2,h3⟩:=h;obtain⟨a,b⟩:=CE hp h1;refine⟨a,b,?_⟩;unfold J2;rw[if_neg (by simp[h2]),if_neg ?_];simp only[JA,Bool.or_eq_true,decide_eq_true_eq] at h3;unfold cZ bG rl;rw[if_pos h2,if_pos h2,if_pos (by omega)];simp
end Go.Proofs
namespace Go.Proofs
open Go Go.Ab
theorem Ip:Opens Tryz.prog 40 (λl=>∃ xs:List Int,(∀ n∈xs,0<=n/\n<=4294967295)/\l=[.sl (xs.map rA)]):=
 Opens.sliceOf Tryz.underlying40 (sz:=1) (by kernel_rfl) (by decide) (λ_=>rfl) ((Opens.int Tryz.underlying140).mono (by
  rintro l ⟨n,hn,rfl⟩;exact⟨n,by simpa[IntKind.min,IntKind.max,IntKind.signed,IntKind.bits] using hn,rfl⟩))
end Go.Proofs
