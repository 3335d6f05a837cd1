/- Part 21 of the proofs. -/
import Derived.Test.YtjodaihiogfkbaaGreatDoorP18
import Derived.Test.YtjodaihiogfkbaaGreatDoorC02
set_option linter.all false
set_option linter.deprecated false
set_option maxHeartbeats 100000000
namespace Go.Ab
open Go
end Go.Ab
namespace Go.Proofs
open Go Go.Ab
variable {G:GW}
attribute [simp] u4 eq T1 mM A3 C2 nilV N0 ZK
theorem oV (n l:Int) (d:Dim):zP Tryz.prog G 151 [iv n,iv l,gV d] (P1 { drawing:=n,letter:=l,kind:=2,items:=[],dims:=[d] }):=by
 refine zf Tryz.func151 Tryz.ntmps151 ?_
 try simp only[iv,iv,gV]
 repeat' first|(with_reducible first|refine zz ?_|refine zx ?_|refine zE [0,1,2,5,6] ?_)|simp -dsimp
theorem fo (a b:Int):zP Tryz.prog G 42 [iv a,iv b] (D4 a b):=by
 refine zf Tryz.func42 Tryz.ntmps42 ?_
 try simp only[iv,iv]
 repeat' first|(with_reducible first|refine zz ?_|refine zx ?_|refine zE [0,1,4] ?_)|simp -dsimp
theorem oF (a b d e f g:Int):zP Tryz.prog G 152 [iv a,iv b,iv d,iv e,iv f,yI g] (du ⟨a,b,d,e,f,-1,g⟩):=by
 refine zf Tryz.func152 Tryz.ntmps152 ?_
 try simp only[iv,iv,iv,iv,iv,yI]
 repeat' first|(with_reducible first|refine zz ?_|refine zx ?_|refine zE [0,1,2,3,4,5,12] ?_)|simp -dsimp
theorem Fs  : zP Tryz.prog G 49 [] (C7 ⟨1,0⟩):=by
 refine zf Tryz.func49 Tryz.ntmps49 ?_
 try simp only[iv]
 repeat' first|(with_reducible first|refine zz ?_|refine zx ?_|refine zE [0] ?_)|simp -dsimp
theorem yM (n:Int):zP Tryz.prog G 61 [iv n] (C7 ⟨2,n⟩):=by
 refine zf Tryz.func61 Tryz.ntmps61 ?_
 try simp only[iv]
 repeat' first|(with_reducible first|refine zz ?_|refine zx ?_|refine zE [0,2] ?_)|simp -dsimp
theorem Fu (n:Int):zP Tryz.prog G 46 [iv n] (C7 ⟨3,n⟩):=by
 refine zf Tryz.func46 Tryz.ntmps46 ?_
 try simp only[iv]
 repeat' first|(with_reducible first|refine zz ?_|refine zx ?_|refine zE [0,2] ?_)|simp -dsimp
def Jh:List Issue:=[{ drawing:=1,letter:=1,kind:=1,items:=[⟨2,1⟩,⟨3,1⟩],dims:=[] },{ drawing:=2,letter:=1,kind:=2,items:=[],dims:=[⟨105,100,110⟩] },{ drawing:=2,letter:=2,kind:=2,items:=[],dims:=[⟨102,100,104⟩] },{ drawing:=3,letter:=1,kind:=2,items:=[],dims:=[⟨94,90,98⟩] }]
def boltP:Prints:={ n:={ reg:=Jh,notes:=[⟨5,10,2,2,2,7,999,0,false,0⟩] },holders:=[⟨1,1,999,[2,3]⟩,⟨2,1,999,[2]⟩],prints:=[⟨1,1,1,2,1,-1,0⟩,⟨2,1,1,3,1,-1,0⟩,⟨3,1,2,2,1,-1,0⟩,⟨4,12,2,2,2,-1,1⟩] }
def boltC:Case:={ p:=boltP,machine:=8,of:=1,loop:={ links:=[⟨2,0,false⟩,⟨3,0,true⟩],lo:=0,hi:=14 },pieces:=[⟨2,20,106,107⟩,⟨1,20,90,91⟩] }
theorem Hd  : zP Tryz.prog G 92 [] (n3 boltC):=by
 refine zf Tryz.func92 Tryz.ntmps92 ?_
 try simp only[iv]
 have c1:=oV (G:=G) 2 1 ⟨105,100,110⟩
 have c2:=oV (G:=G) 2 2 ⟨102,100,104⟩
 have c3:=oV (G:=G) 3 1 ⟨94,90,98⟩
 have d1:=oF (G:=G) 1 1 1 2 1 0
 have d2:=oF (G:=G) 2 1 1 3 1 0
 have d3:=oF (G:=G) 3 1 2 2 1 0
 have d4:=oF (G:=G) 4 12 2 2 2 1
 have e1:=fo (G:=G) 0 14
 have e2:=fo (G:=G) 106 107
 have e3:=fo (G:=G) 90 91
 simp only[gV,E3,P1,g9,du,A0,D4,rI,List.map_cons,List.map_nil] at c1 c2 c3 d1 d2 d3 d4 e1 e2 e3
 repeat' first|(with_reducible first|refine zz ?_|refine zx ?_)|simp -dsimp|refine zp c1 ?_|refine zp c2 ?_|refine zp c3 ?_|refine zq d1 ?_|refine zq d2 ?_|refine zq d3 ?_|refine zq d4 ?_|refine zq e1 ?_|refine zq e2 ?_|refine zq e3 ?_|refine zM 3 45 30 [0,1,2] ?_|with_reducible refine zE [0,1,2] ?_
 all_goals (repeat' apply And.intro)<;>rfl
theorem pH (l:List Susp) (s:Susp) (hl:l.length<1000000):zP Tryz.prog G 36 [C1 l,C7 s] (bv (decide (s∈l))):=by
 refine zf Tryz.func36 Tryz.ntmps36 ?_
 try simp only[iv]
 obtain⟨a,b⟩:=s
 simp only[C1,C7,j5,rI,List.map_cons,List.map_nil]
 have hs:=trivial
 repeat' first|(with_reducible first|refine zz ?_|refine zE [0,1,3,4,6,7,8,9,10,15] ?_)|simp -dsimp[hs]
 refine i6 (ι:={ k:Nat // k≤l.length∧((⟨a,b⟩:Susp)∈l↔(⟨a,b⟩:Susp)∈l.drop k) }) (fun p=>⟨17,[(3,.one (.ptr 0 0)),(7,.one (.im (.sl (l.map j5)))),(8,iv (l.length:Int)),(9,iv (p.1:Int))],[.row [.im (.raw (.int .u8 a)),.im (.raw (.int .i64 b))]]⟩) (fun p=>l.length-p.1) ⟨0,by simp⟩ (zv [3,7,8,9]) ?_
 rintro⟨k,hk,hno⟩
 simp only[iv]
 by_cases hlt:k<l.length
 ·have hw:=zk k
  rw[List.drop_eq_getElem_cons hlt,List.mem_cons] at hno
  have hx0:l[k]?=some l[k]:=by simp[hlt]
  generalize hx:l[k]=x at *
  obtain⟨x1,x2⟩:=x
  have hs:True:=trivial
  by_cases hq1:x1=a
  ·subst hq1
   by_cases hq2:x2=b
   ·subst hq2
    have hin:(⟨x1,x2⟩:Susp)∈l:=hno.2 (.inl rfl)
    rw[decide_eq_true hin]
    have hs:=za hx (za hlt hw)
    repeat' first|(with_reducible first|refine zz ?_|refine zr ?_|refine zE [0,1,3,4,6,7,8,9,10,15] ?_)|simp -dsimp[hs]|refine i9 ?_ ?_<;>intro h<;>try simp only[i7] at h
   ·have hst:(⟨x1,b⟩:Susp)∈l↔(⟨x1,b⟩:Susp)∈l.drop (k+1):=by
     rw[hno];constructor
     ·rintro (h|h)
      ·injection h with _ h2;exact absurd h2.symm hq2
      ·exact h
     ·exact .inr
    have hs:=za hx (za hlt (za hw hq2))
    repeat' first|(with_reducible first|refine zz ?_|refine zE [0,1,3,4,6,7,8,9,10,15] ?_)|simp -dsimp[hs]|refine i9 ?_ ?_<;>intro h<;>try simp only[i7] at h
    all_goals exact zn ⟨k+1,by omega,hst⟩ (zw [3,7,8,9] 1)
  ·have hst:(⟨a,b⟩:Susp)∈l↔(⟨a,b⟩:Susp)∈l.drop (k+1):=by
    rw[hno];constructor
    ·rintro (h|h)
     ·injection h with h1 _;exact absurd h1.symm hq1
     ·exact h
    ·exact .inr
   have hs:=za hx (za hlt (za hw hq1))
   repeat' first|(with_reducible first|refine zz ?_|refine zE [0,1,3,4,6,7,8,9,10,15] ?_)|simp -dsimp[hs]|refine i9 ?_ ?_<;>intro h<;>try simp only[i7] at h
   all_goals exact zn ⟨k+1,by omega,hst⟩ (zw [3,7,8,9] 1)
 ·have hn:¬ (⟨a,b⟩:Susp)∈l:=by rw[hno,List.drop_eq_nil_of_le (by omega)];simp
  rw[decide_eq_false hn]
  have hs:=hlt
  repeat' first|(with_reducible first|refine zz ?_|refine zr ?_|refine zE [0,1,3,4,6,7,8,9,10,15] ?_)|simp -dsimp[hs]|refine i9 ?_ ?_<;>intro h<;>try simp only[i7] at h
def Jj (c:Case):Bool:=decide ((R2 (c.loop.links.zip c.pieces)).2<c.loop.lo)||decide (c.loop.hi<(R2 (c.loop.links.zip c.pieces)).1)
theorem EC (c:Case) (h0:v6 c=0):zP Tryz.prog G 53 [n3 c] (bv (Jj c)):=by
 refine zf Tryz.func53 Tryz.ntmps53 ?_
 try simp only[iv]
 have hok:=O0 (F8 h0).2
 have hlen:=hok.e
 have hl8:=hok.l
 simp only[n3,j4,rI,List.map_cons,List.map_nil]
 have hs:=trivial
 repeat' first|(with_reducible first|refine zz ?_|refine zE [0,1,2,3,4,5,6,8,9,10,11,21] ?_)|simp -dsimp[hs]
 refine i6 (ι:={ k:Nat // k≤c.pieces.length }) (fun q=>⟨57,[(1,.one (.ptr 0 0)),(3,iv (R2 ((c.loop.links.zip c.pieces).take q.1)).1),(4,iv (R2 ((c.loop.links.zip c.pieces).take q.1)).2),(8,.one (.im (.sl (c.pieces.map A7)))),(9,iv (c.pieces.length:Int)),(10,iv (q.1:Int))],[.row ((j4 c).map .im)]⟩) (fun q=>c.pieces.length-q.1) ⟨0,by simp⟩ (zv [1,3,4,8,9,10] (by simp[R2])) ?_
 rintro⟨k,hk1⟩
 simp only[iv]
 by_cases hlt:k<c.pieces.length
 ·have hlt2:k<c.loop.links.length:=by omega
  have hw:=zk k
  have hb1:=oC hok (Nat.le_of_lt hlt)
  have hb2:=oC hok (show k+1≤c.pieces.length by omega)
  have hst:=pP hok hlt hlt2
  have hp:=sg hok hlt
  unfold Z6 at hp
  rw[hst] at hb2
  generalize hx:c.pieces[k]=x at *
  generalize hy:c.loop.links[k]=y at *
  generalize R2 ((c.loop.links.zip c.pieces).take k)=s at *
  unfold D6 at hst hb2
  cases hbk:y.back
  ·rw[if_neg (by simp[hbk])] at hst hb2
   simp only at hb2
   have hw1:IntKind.i64.wrap (s.1+x.lo)=s.1+x.lo:=p6 (by omega) (by omega)
   have hw2:IntKind.i64.wrap (s.2+x.hi)=s.2+x.hi:=p6 (by omega) (by omega)
   have hs:=za hx (za hy (za hlt (za hlt2 (za hw (za hw1 (za hw2 hbk))))))
   repeat' first|with_reducible refine zz ?_|simp -dsimp[hs]|refine zM 7 57 12 [0,1,2,3,4,5,6,8,9,10,11,21] ?_|with_reducible refine zE [0,1,2,3,4,5,6,8,9,10,11,21] ?_|refine i9 ?_ ?_<;>intro h<;>try simp only[i7] at h
   all_goals exact zn ⟨k+1,by omega⟩ (zw [1,3,4,8,9,10] 1 (by simp[hst]))
  ·rw[if_pos hbk] at hst hb2
   simp only at hb2
   have hw1:IntKind.i64.wrap (s.1-x.hi)=s.1-x.hi:=p6 (by omega) (by omega)
   have hw2:IntKind.i64.wrap (s.2-x.lo)=s.2-x.lo:=p6 (by omega) (by omega)
   have hs:=za hx (za hy (za hlt (za hlt2 (za hw (za hw1 (za hw2 hbk))))))
   repeat' first|with_reducible refine zz ?_|simp -dsimp[hs]|refine zM 6 57 12 [0,1,2,3,4,5,6,8,9,10,11,21] ?_|with_reducible refine zE [0,1,2,3,4,5,6,8,9,10,11,21] ?_|refine i9 ?_ ?_<;>intro h<;>try simp only[i7] at h
   all_goals exact zn ⟨k+1,by omega⟩ (zw [1,3,4,8,9,10] 1 (by simp[hst]))
 ·obtain rfl:k=c.pieces.length:=by omega
  have hall:(c.loop.links.zip c.pieces).take c.pieces.length=c.loop.links.zip c.pieces:=List.take_of_length_le (by rw[List.length_zip];omega)
  rw[hall]
  unfold Jj
  generalize R2 (c.loop.links.zip c.pieces)=s at *
  by_cases h1:s.2<c.loop.lo
  ·have hs:=za hlt h1
   repeat' first|(with_reducible first|refine zz ?_|refine zr ?_|refine zE [0,1,2,3,4,5,6,8,9,10,11,21] ?_)|simp -dsimp[hs]|refine i9 ?_ ?_<;>intro h<;>try simp only[i7] at h
  ·have hs:=za hlt h1
   repeat' first|(with_reducible first|refine zz ?_|refine zr ?_|refine zE [0,1,2,3,4,5,6,8,9,10,11,21] ?_)|simp -dsimp[hs]|refine i9 ?_ ?_<;>intro h<;>try simp only[i7] at h
   all_goals simp[h1]
noncomputable def ld (c:Case):Bool:=cj c&&(decide (v6 c=0)&&Jj c)
theorem CU (c:Case) (hp:jL c.p):zP Tryz.prog G 33 [n3 c] (bv (ld c)):=by
 refine zf Tryz.func33 Tryz.ntmps33 ?_
 try simp only[iv]
 have c1:=xc (G:=G) c
 unfold ld
 cases hq:cj c
 ·rw[hq] at c1
  simp only[n3,j4,rI,List.map_cons,List.map_nil] at c1 ⊢
  have hs:=trivial
  repeat' first|(with_reducible first|refine zz ?_|refine zr ?_|refine zE [0,1,2] ?_)|simp -dsimp[hs]|refine zp c1 ?_
 ·obtain⟨hsk,hk⟩:=Cp hp hq
  rw[hq] at c1
  have c2:=wm (G:=G) c hk
  by_cases h0:v6 c=0
  ·have c3:=EC (G:=G) c h0
   rw[h0] at c2 ⊢
   generalize Jj c=A at *
   simp only[n3,j4,rI,List.map_cons,List.map_nil] at c1 c2 c3 ⊢
   have hs:=trivial
   repeat' first|(with_reducible first|refine zz ?_|refine zr ?_|refine zE [0,1,2] ?_)|simp -dsimp[hs]|refine zp c1 ?_|refine zp c2 ?_|refine zp c3 ?_
  ·simp only[n3,j4,rI,List.map_cons,List.map_nil] at c1 c2 ⊢
   rw[decide_eq_false h0]
   have hs:=h0
   repeat' first|(with_reducible first|refine zz ?_|refine zr ?_|refine zE [0,1,2] ?_)|simp -dsimp[hs]|refine zp c1 ?_|refine zp c2 ?_
theorem sJ {c:Case} (hp:jL c.p) (h:ld c=true):um c∧KC c∧J4 c=0:=by
 unfold ld at h
 simp only[Bool.and_eq_true,decide_eq_true_eq] at h
 obtain⟨h1,h2,h3⟩:=h
 obtain⟨a,b⟩:=Cp hp h1
 refine⟨a,b,?_⟩
 unfold J4
 rw[if_neg (by simp[h2]),if_neg ?_]
 simp only[Jj,Bool.or_eq_true,decide_eq_true_eq] at h3
 unfold cN bu qQ
 rw[if_pos h2,if_pos h2,if_pos (by omega)]
 simp
end Go.Proofs
