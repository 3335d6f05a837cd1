/- Part 21 of the proofs. -/
import Derived.Test.YtjodaihiogfkbaaGreatDoorU18
import Derived.Test.YtjodaihiogfkbaaGreatDoorI02
set_option linter.all false
set_option maxHeartbeats 100000000
namespace Go.Ab
open Go
end Go.Ab
namespace Go.Proofs
open Go Go.Ab
variable {G:MF}
attribute [simp] s7 cN O1 fI u9 A4 nilV J1 ZK
theorem pV (n l:Int) (d:Dim):zP Tryz.prog G 151 [iv n,iv l,iZ d] (N9 { drawing:=n,letter:=l,kind:=2,items:=[],dims:=[d] }):=by
 refine zf Tryz.func151 Tryz.ntmps151 ?_;try simp only[iv,iv,iZ]
 repeat' first|(with_reducible first|refine zz ?_|refine zx ?_|refine zE [0,1,2,5,6] ?_)|simp -dsimp
theorem gl (a b:Int):zP Tryz.prog G 42 [iv a,iv b] (E0 a b):=by
 refine zf Tryz.func42 Tryz.ntmps42 ?_;try simp only[iv,iv]
 repeat' first|(with_reducible first|refine zz ?_|refine zx ?_|refine zE [0,1,4] ?_)|simp -dsimp
theorem pI (a b d e f g:Int):zP Tryz.prog G 152 [iv a,iv b,iv d,iv e,iv f,vU g] (ee ⟨a,b,d,e,f,-1,g⟩):=by
 refine zf Tryz.func152 Tryz.ntmps152 ?_;try simp only[iv,iv,iv,iv,iv,vU]
 repeat' first|(with_reducible first|refine zz ?_|refine zx ?_|refine zE [0,1,2,3,4,5,12] ?_)|simp -dsimp
theorem GC  : zP Tryz.prog G 49 [] (F1 ⟨1,0⟩):=by
 refine zf Tryz.func49 Tryz.ntmps49 ?_;try simp only[iv]
 repeat' first|(with_reducible first|refine zz ?_|refine zx ?_|refine zE [0] ?_)|simp -dsimp
theorem Aj (n:Int):zP Tryz.prog G 61 [iv n] (F1 ⟨2,n⟩):=by
 refine zf Tryz.func61 Tryz.ntmps61 ?_;try simp only[iv]
 repeat' first|(with_reducible first|refine zz ?_|refine zx ?_|refine zE [0,2] ?_)|simp -dsimp
theorem GE (n:Int):zP Tryz.prog G 46 [iv n] (F1 ⟨3,n⟩):=by
 refine zf Tryz.func46 Tryz.ntmps46 ?_;try simp only[iv]
 repeat' first|(with_reducible first|refine zz ?_|refine zx ?_|refine zE [0,2] ?_)|simp -dsimp
def Ku:List Issue:=[{ drawing:=1,letter:=1,kind:=1,items:=[⟨2,1⟩,⟨3,1⟩],dims:=[] },{ drawing:=2,letter:=1,kind:=2,items:=[],dims:=[⟨105,100,110⟩] },{ drawing:=2,letter:=2,kind:=2,items:=[],dims:=[⟨102,100,104⟩] },{ drawing:=3,letter:=1,kind:=2,items:=[],dims:=[⟨94,90,98⟩] }]
def boltP:Prints:={ n:={ reg:=Ku,notes:=[⟨5,10,2,2,2,7,999,0,false,0⟩] },holders:=[⟨1,1,999,[2,3]⟩,⟨2,1,999,[2]⟩],prints:=[⟨1,1,1,2,1,-1,0⟩,⟨2,1,1,3,1,-1,0⟩,⟨3,1,2,2,1,-1,0⟩,⟨4,12,2,2,2,-1,1⟩] }
def boltC:Case:={ p:=boltP,machine:=8,of:=1,loop:={ links:=[⟨2,0,false⟩,⟨3,0,true⟩],lo:=0,hi:=14 },pieces:=[⟨2,20,106,107⟩,⟨1,20,90,91⟩] }
theorem Ij  : zP Tryz.prog G 92 [] (n5 boltC):=by
 refine zf Tryz.func92 Tryz.ntmps92 ?_;try simp only[iv]
 have c1:=pV (G:=G) 2 1 ⟨105,100,110⟩;have c2:=pV (G:=G) 2 2 ⟨102,100,104⟩;have c3:=pV (G:=G) 3 1 ⟨94,90,98⟩;have d1:=pI (G:=G) 1 1 1 2 1 0;have d2:=pI (G:=G) 2 1 1 3 1 0;have d3:=pI (G:=G) 3 1 2 2 1 0;have d4:=pI (G:=G) 4 12 2 2 2 1;have e1:=gl (G:=G) 0 14;have e2:=gl (G:=G) 106 107;have e3:=gl (G:=G) 90 91;simp only[iZ,D3,N9,e8,ee,A0,E0,rI,List.map_cons,List.map_nil] at c1 c2 c3 d1 d2 d3 d4 e1 e2 e3;repeat' first|(with_reducible first|refine zz ?_|refine zx ?_)|simp -dsimp|refine zp c1 ?_|refine zp c2 ?_|refine zp c3 ?_|refine zq d1 ?_|refine zq d2 ?_|refine zq d3 ?_|refine zq d4 ?_|refine zq e1 ?_|refine zq e2 ?_|refine zq e3 ?_|refine zM 3 45 30 [0,1,2] ?_|with_reducible refine zE [0,1,2] ?_
 all_goals (repeat' apply And.intro)<;>rfl
@[simp] abbrev Wf:List Nat:=[0,1,3,4,6,7,8,9,10,15]
theorem qE (l:List Susp) (s:Susp) (hl:l.length<1000000):zP Tryz.prog G 36 [C2 l,F1 s] (bv (decide (s∈l))):=by
 refine zf Tryz.func36 Tryz.ntmps36 ?_;try simp only[iv]
 obtain⟨a,b⟩:=s;simp only[C2,F1,j6,rI,List.map_cons,List.map_nil];have hs:=trivial;repeat' first|(with_reducible first|refine zz ?_|refine zE Wf ?_)|simp -dsimp[hs]
 refine i6 (ι:={ k:Nat // k<=l.length/\((⟨a,b⟩:Susp)∈l↔(⟨a,b⟩:Susp)∈l.drop k) }) (λp=>⟨17,[(3,.one (.ptr 0 0)),(7,.one (.im (.sl (l.map j6)))),(8,iv (l.length:Int)),(9,iv (p.1:Int))],[.row [.im (.raw (.int .u8 a)),.im (.raw (.int .i64 b))]]⟩) (λp=>l.length-p.1) ⟨0,by simp⟩ (zv [3,7,8,9]) ?_;rintro⟨k,hk,hno⟩;simp only[iv];by_cases hlt:k<l.length
 ·have hw:=zk k;rw[List.drop_eq_getElem_cons hlt,List.mem_cons] at hno;have hx0:l[k]?=some l[k]:=by simp[hlt]
  generalize hx:l[k]=x at *;obtain⟨x1,x2⟩:=x;have hs:True:=trivial;by_cases hq1:x1=a
  ·subst hq1;by_cases hq2:x2=b
   ·subst hq2;have hin:(⟨x1,x2⟩:Susp)∈l:=hno.2 (.inl rfl);rw[decide_eq_true hin];have hs:=za hx (za hlt hw);repeat' first|(with_reducible first|refine zz ?_|refine zr ?_|refine zE Wf ?_)|simp -dsimp[hs]|refine i9 ?_ ?_<;>intro h<;>try exact h.elim
   ·have hst:(⟨x1,b⟩:Susp)∈l↔(⟨x1,b⟩:Susp)∈l.drop (k+1):=by
     rw[hno];constructor
     ·rintro (h|h)
      ·injection h with _ h2;exact absurd h2.symm hq2
      ·exact h
     ·exact .inr
    have hs:=za hx (za hlt (za hw hq2));repeat' first|(with_reducible first|refine zz ?_|refine zE Wf ?_)|simp -dsimp[hs]|refine i9 ?_ ?_<;>intro h<;>try exact h.elim
    all_goals exact zn ⟨k+1,by omega,hst⟩ (zw [3,7,8,9] 1)
  ·have hst:(⟨a,b⟩:Susp)∈l↔(⟨a,b⟩:Susp)∈l.drop (k+1):=by
    rw[hno];constructor
    ·rintro (h|h)
     ·injection h with h1 _;exact absurd h1.symm hq1
     ·exact h
    ·exact .inr
   have hs:=za hx (za hlt (za hw hq1));repeat' first|(with_reducible first|refine zz ?_|refine zE Wf ?_)|simp -dsimp[hs]|refine i9 ?_ ?_<;>intro h<;>try exact h.elim
   all_goals exact zn ⟨k+1,by omega,hst⟩ (zw [3,7,8,9] 1)
 ·have hn:¬ (⟨a,b⟩:Susp)∈l:=by rw[hno,List.drop_eq_nil_of_le (by omega)];simp
  rw[decide_eq_false hn];have hs:=hlt;repeat' first|(with_reducible first|refine zz ?_|refine zr ?_|refine zE Wf ?_)|simp -dsimp[hs]|refine i9 ?_ ?_<;>intro h<;>try exact h.elim
def IH (c:Case):Bool:=decide ((R3 (c.loop.links.zip c.pieces)).2<c.loop.lo)||decide (c.loop.hi<(R3 (c.loop.links.zip c.pieces)).1)
@[simp] abbrev QI:List Nat:=[0,1,2,3,4,5,6,8,9,10,11,21]
theorem FN (c:Case) (h0:s6 c=0):zP Tryz.prog G 53 [n5 c] (bv (IH c)):=by
 refine zf Tryz.func53 Tryz.ntmps53 ?_;try simp only[iv]
 have hok:=K2 (B8 h0).2;have hlen:=hok.e;have hl8:=hok.l;simp only[n5,j4,rI,List.map_cons,List.map_nil];have hs:=trivial;repeat' first|(with_reducible first|refine zz ?_|refine zE QI ?_)|simp -dsimp[hs]
 refine i6 (ι:={ k:Nat // k<=c.pieces.length }) (λq=>⟨57,[(1,.one (.ptr 0 0)),(3,iv (R3 ((c.loop.links.zip c.pieces).take q.1)).1),(4,iv (R3 ((c.loop.links.zip c.pieces).take q.1)).2),(8,.one (.im (.sl (c.pieces.map A8)))),(9,iv (c.pieces.length:Int)),(10,iv (q.1:Int))],[.row ((j4 c).map .im)]⟩) (λq=>c.pieces.length-q.1) ⟨0,by simp⟩ (zv [1,3,4,8,9,10] (by simp[R3])) ?_;rintro⟨k,hk1⟩;simp only[iv];by_cases hlt:k<c.pieces.length
 ·have hlt2:k<c.loop.links.length:=by omega
  have hw:=zk k;have hb1:=pF hok (Nat.le_of_lt hlt);have hb2:=pF hok (show k+1<=c.pieces.length by omega);have hst:=qO hok hlt hlt2;have hp:=tu hok hlt;unfold aC at hp;rw[hst] at hb2;generalize hx:c.pieces[k]=x at *;generalize hy:c.loop.links[k]=y at *;generalize R3 ((c.loop.links.zip c.pieces).take k)=s at *;unfold E1 at hst hb2;cases hbk:y.back
  ·rw[if_neg (by simp[hbk])] at hst hb2;simp only at hb2;have hw1:IntKind.i64.wrap (s.1+x.lo)=s.1+x.lo:=p9 (by omega) (by omega);have hw2:IntKind.i64.wrap (s.2+x.hi)=s.2+x.hi:=p9 (by omega) (by omega);have hs:=za hx (za hy (za hlt (za hlt2 (za hw (za hw1 (za hw2 hbk))))));repeat' first|with_reducible refine zz ?_|simp -dsimp[hs]|refine zM 7 57 12 QI ?_|with_reducible refine zE QI ?_|refine i9 ?_ ?_<;>intro h<;>try exact h.elim
   all_goals exact zn ⟨k+1,by omega⟩ (zw [1,3,4,8,9,10] 1 (by simp[hst]))
  ·rw[if_pos hbk] at hst hb2;simp only at hb2;have hw1:IntKind.i64.wrap (s.1-x.hi)=s.1-x.hi:=p9 (by omega) (by omega);have hw2:IntKind.i64.wrap (s.2-x.lo)=s.2-x.lo:=p9 (by omega) (by omega);have hs:=za hx (za hy (za hlt (za hlt2 (za hw (za hw1 (za hw2 hbk))))));repeat' first|with_reducible refine zz ?_|simp -dsimp[hs]|refine zM 6 57 12 QI ?_|with_reducible refine zE QI ?_|refine i9 ?_ ?_<;>intro h<;>try exact h.elim
   all_goals exact zn ⟨k+1,by omega⟩ (zw [1,3,4,8,9,10] 1 (by simp[hst]))
 ·obtain rfl:k=c.pieces.length:=by omega
  have hall:(c.loop.links.zip c.pieces).take c.pieces.length=c.loop.links.zip c.pieces:=List.take_of_length_le (by rw[List.length_zip];omega);rw[hall];unfold IH;generalize R3 (c.loop.links.zip c.pieces)=s at *;by_cases h1:s.2<c.loop.lo
  ·have hs:=za hlt h1;repeat' first|(with_reducible first|refine zz ?_|refine zr ?_|refine zE QI ?_)|simp -dsimp[hs]|refine i9 ?_ ?_<;>intro h<;>try exact h.elim
  ·have hs:=za hlt h1;repeat' first|(with_reducible first|refine zz ?_|refine zr ?_|refine zE QI ?_)|simp -dsimp[hs]|refine i9 ?_ ?_<;>intro h<;>try exact h.elim
   all_goals simp[h1]
noncomputable def aO (c:Case):Bool:=Q5 c&&(decide (s6 c=0)&&IH c)
theorem wd (c:Case) (hp:W0 c.p):zP Tryz.prog G 33 [n5 c] (bv (aO c)):=by
 refine zf Tryz.func33 Tryz.ntmps33 ?_;try simp only[iv]
 have c1:=yj (G:=G) c;unfold aO;cases hq:Q5 c
 ·rw[hq] at c1;simp only[n5,j4,rI,List.map_cons,List.map_nil] at c1 ⊢;have hs:=trivial;repeat' first|(with_reducible first|refine zz ?_|refine zr ?_|refine zE [0,1,2] ?_)|simp -dsimp[hs]|refine zp c1 ?_
 ·obtain⟨hsk,hk⟩:=Dx hp hq;rw[hq] at c1;have c2:=xt (G:=G) c hk;by_cases h0:s6 c=0
  ·have c3:=FN (G:=G) c h0;rw[h0] at c2 ⊢;generalize IH c=A at *;simp only[n5,j4,rI,List.map_cons,List.map_nil] at c1 c2 c3 ⊢;have hs:=trivial;repeat' first|(with_reducible first|refine zz ?_|refine zr ?_|refine zE [0,1,2] ?_)|simp -dsimp[hs]|refine zp c1 ?_|refine zp c2 ?_|refine zp c3 ?_
  ·simp only[n5,j4,rI,List.map_cons,List.map_nil] at c1 c2 ⊢;rw[decide_eq_false h0];have hs:=h0;repeat' first|(with_reducible first|refine zz ?_|refine zr ?_|refine zE [0,1,2] ?_)|simp -dsimp[hs]|refine zp c1 ?_|refine zp c2 ?_
theorem mc {c:Case} (hp:W0 c.p) (h:aO c=true):no c/\KC c/\G4 c=0:=by
 unfold aO at h;simp only[Bool.and_eq_true,decide_eq_true_eq] at h;obtain⟨h1,h2,h3⟩:=h;obtain⟨a,b⟩:=Dx hp h1;refine⟨a,b,?_⟩;unfold G4;rw[if_neg (by simp[h2]),if_neg ?_];simp only[IH,Bool.or_eq_true,decide_eq_true_eq] at h3;unfold Z2 bw oT;rw[if_pos h2,if_pos h2,if_pos (by omega)];simp
end Go.Proofs
