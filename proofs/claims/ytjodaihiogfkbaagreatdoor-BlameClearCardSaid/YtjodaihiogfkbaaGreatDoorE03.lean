/- Part 21 of the proofs. -/
import Derived.Test.YtjodaihiogfkbaaGreatDoorR14
import Derived.Test.YtjodaihiogfkbaaGreatDoorR18
import Derived.Test.YtjodaihiogfkbaaGreatDoorE02
set_option linter.all false
set_option linter.deprecated false
set_option maxHeartbeats 100000000
namespace Go.Ab
open Go
def AD (n:Int):List IC:=[.raw (.int .u32 n)]
def K6 (l:List Int) (i:Nat):Int:=if l.length=0 then 0 else (l[i % l.length]?).getD 0
end Go.Ab
namespace Go.Proofs
open Go Go.Ab
variable {G:KB}
attribute [simp] s7 cG N9 gQ v6 B0 nilV J9 ZK
theorem ou (n l:Int) (d:Dim):zP Tryz.prog G 151 [iv n,iv l,gL d] (P6 { drawing:=n,letter:=l,kind:=2,items:=[],dims:=[d] }):=by
 refine zf Tryz.func151 Tryz.ntmps151 ?_
 try simp only[iv,iv,gL]
 repeat' first|(with_reducible first|refine zz ?_|refine zx ?_|refine zE [0,1,2,5,6] ?_)|simp -dsimp
theorem da (a b:Int):zP Tryz.prog G 42 [iv a,iv b] (D6 a b):=by
 refine zf Tryz.func42 Tryz.ntmps42 ?_
 try simp only[iv,iv]
 repeat' first|(with_reducible first|refine zz ?_|refine zx ?_|refine zE [0,1,4] ?_)|simp -dsimp
theorem nX (a b d e f g:Int):zP Tryz.prog G 152 [iv a,iv b,iv d,iv e,iv f,vh g] (dj ⟨a,b,d,e,f,-1,g⟩):=by
 refine zf Tryz.func152 Tryz.ntmps152 ?_
 try simp only[iv,iv,iv,iv,iv,vh]
 repeat' first|(with_reducible first|refine zz ?_|refine zx ?_|refine zE [0,1,2,3,4,5,12] ?_)|simp -dsimp
theorem EH  : zP Tryz.prog G 49 [] (F1 ⟨1,0⟩):=by
 refine zf Tryz.func49 Tryz.ntmps49 ?_
 try simp only[iv]
 repeat' first|(with_reducible first|refine zz ?_|refine zx ?_|refine zE [0] ?_)|simp -dsimp
theorem yf (n:Int):zP Tryz.prog G 61 [iv n] (F1 ⟨2,n⟩):=by
 refine zf Tryz.func61 Tryz.ntmps61 ?_
 try simp only[iv]
 repeat' first|(with_reducible first|refine zz ?_|refine zx ?_|refine zE [0,2] ?_)|simp -dsimp
theorem yg (n:Int):zP Tryz.prog G 46 [iv n] (F1 ⟨3,n⟩):=by
 refine zf Tryz.func46 Tryz.ntmps46 ?_
 try simp only[iv]
 repeat' first|(with_reducible first|refine zz ?_|refine zx ?_|refine zE [0,2] ?_)|simp -dsimp
def Iy:List Issue:=[{ drawing:=1,letter:=1,kind:=1,items:=[⟨2,1⟩,⟨3,1⟩],dims:=[] },{ drawing:=2,letter:=1,kind:=2,items:=[],dims:=[⟨105,100,110⟩] },{ drawing:=2,letter:=2,kind:=2,items:=[],dims:=[⟨102,100,104⟩] },{ drawing:=3,letter:=1,kind:=2,items:=[],dims:=[⟨94,90,98⟩] }]
def boltP:Prints:={ n:={ reg:=Iy,notes:=[⟨5,10,2,2,2,7,999,0,false,0⟩] },holders:=[⟨1,1,999,[2,3]⟩,⟨2,1,999,[2]⟩],prints:=[⟨1,1,1,2,1,-1,0⟩,⟨2,1,1,3,1,-1,0⟩,⟨3,1,2,2,1,-1,0⟩,⟨4,12,2,2,2,-1,1⟩] }
def boltC:Case:={ p:=boltP,machine:=8,of:=1,loop:={ links:=[⟨2,0,false⟩,⟨3,0,true⟩],lo:=0,hi:=14 },pieces:=[⟨2,20,106,107⟩,⟨1,20,90,91⟩] }
theorem Gn  : zP Tryz.prog G 92 [] (o2 boltC):=by
 refine zf Tryz.func92 Tryz.ntmps92 ?_
 try simp only[iv]
 have c1:=ou (G:=G) 2 1 ⟨105,100,110⟩
 have c2:=ou (G:=G) 2 2 ⟨102,100,104⟩
 have c3:=ou (G:=G) 3 1 ⟨94,90,98⟩
 have d1:=nX (G:=G) 1 1 1 2 1 0
 have d2:=nX (G:=G) 2 1 1 3 1 0
 have d3:=nX (G:=G) 3 1 2 2 1 0
 have d4:=nX (G:=G) 4 12 2 2 2 1
 have e1:=da (G:=G) 0 14
 have e2:=da (G:=G) 106 107
 have e3:=da (G:=G) 90 91
 simp only[gL,E5,P6,g9,dj,A3,D6,rI,List.map_cons,List.map_nil] at c1 c2 c3 d1 d2 d3 d4 e1 e2 e3
 repeat' first|(with_reducible first|refine zz ?_|refine zx ?_)|simp -dsimp|refine zp c1 ?_|refine zp c2 ?_|refine zp c3 ?_|refine zq d1 ?_|refine zq d2 ?_|refine zq d3 ?_|refine zq d4 ?_|refine zq e1 ?_|refine zq e2 ?_|refine zq e3 ?_|refine zM 3 45 30 [0,1,2] ?_|with_reducible refine zE [0,1,2] ?_
 all_goals (repeat' apply And.intro)<;>rfl
theorem AP (l:List Int) (i:Nat) (hi:i<1000000) (hu:∀ n∈l,0≤n∧n≤4294967295):zP Tryz.prog G 40 [.one (.im (.sl (l.map AD))),iv (i:Int)] (iv (K6 l i)):=by
 refine zf Tryz.func40 Tryz.ntmps40 ?_
 try simp only[iv]
 by_cases h0:l.length=0
 ·have h0':l=[]:=List.eq_nil_of_length_eq_zero h0
  subst h0'
  have hs:=trivial
  repeat' first|(with_reducible first|refine zz ?_|refine zr ?_|refine zE [0,1,4,7] ?_)|simp -dsimp[hs]|refine i9 ?_ ?_<;>intro h<;>try simp only[i7] at h
  all_goals simp[K6]
 ·have h0i:¬ (l.length:Int)=0:=by omega
  have hlt:i % l.length<l.length:=Nat.mod_lt _ (by omega)
  have hm:((i:Int).tmod (l.length:Int))=((i % l.length:Nat):Int):=by
   rw[Int.tmod_eq_emod_of_nonneg (by omega)];omega
  have hc:K6 l i=l[i % l.length]:=by rw[K6,if_neg h0,List.getElem?_eq_getElem hlt];rfl
  have hn:=hu _ (List.getElem_mem hlt)
  rw[hc]
  have hji:i % l.length≤i:=Nat.mod_le _ _
  generalize hj:i % l.length=j at *
  generalize hx:l[j]=x at *
  have hxx:l[j]?=some x:=by rw[List.getElem?_eq_getElem hlt,hx]
  have w1:IntKind.i64.wrap x=x:=o5 (by omega) (by omega)
  have w2:IntKind.i64.wrap (j:Int)=(j:Int):=o5 (by omega) (by omega)
  have hs:=za h0 (za h0i (za hm (za hlt (za hx (za hxx (za w1 w2))))))
  repeat' first|(with_reducible first|refine zz ?_|refine zr ?_ (by simp -dsimp[AD,hs];exact rfl)|refine zE [0,1,4,7] ?_)|simp -dsimp[AD,hs]|refine i9 ?_ ?_<;>intro h<;>try simp only[i7] at h
theorem tz {b:List Int} (hu:∀ n∈b,0≤n∧n≤4294967295) (i:Nat):0≤K6 b i∧K6 b i≤4294967295:=by
 unfold K6
 split
 ·omega
 ·rename_i h
  rw[List.getElem?_eq_getElem (Nat.mod_lt _ (by omega))]
  exact hu _ (List.getElem_mem _)
def GM (c:Case):Bool:=decide ((O1 (c.loop.links.zip c.pieces)).2<c.loop.lo)||decide (c.loop.hi<(O1 (c.loop.links.zip c.pieces)).1)
theorem DO (c:Case) (h0:r7 c=0):zP Tryz.prog G 53 [o2 c] (bv (GM c)):=by
 refine zf Tryz.func53 Tryz.ntmps53 ?_
 try simp only[iv]
 have hok:=H0 (C5 h0).2
 have hlen:=hok.e
 have hl8:=hok.l
 simp only[o2,j4,rI,List.map_cons,List.map_nil]
 have hs:=trivial
 repeat' first|(with_reducible first|refine zz ?_|refine zE [0,1,2,3,4,5,6,8,9,10,11,21] ?_)|simp -dsimp[hs]
 refine i6 (ι:={ k:Nat // k≤c.pieces.length }) (fun q=>⟨57,[(1,.one (.ptr 0 0)),(3,iv (O1 ((c.loop.links.zip c.pieces).take q.1)).1),(4,iv (O1 ((c.loop.links.zip c.pieces).take q.1)).2),(8,.one (.im (.sl (c.pieces.map A9)))),(9,iv (c.pieces.length:Int)),(10,iv (q.1:Int))],[.row ((j4 c).map .im)]⟩) (fun q=>c.pieces.length-q.1) ⟨0,by simp⟩ (zv [1,3,4,8,9,10] (by simp[O1])) ?_
 rintro⟨k,hk1⟩
 simp only[iv]
 by_cases hlt:k<c.pieces.length
 ·have hlt2:k<c.loop.links.length:=by omega
  have hw:=zk k
  have hb1:=nU hok (Nat.le_of_lt hlt)
  have hb2:=nU hok (show k+1≤c.pieces.length by omega)
  have hst:=pn hok hlt hlt2
  have hp:=jZ hok hlt
  unfold T9 at hp
  rw[hst] at hb2
  generalize hx:c.pieces[k]=x at *
  generalize hy:c.loop.links[k]=y at *
  generalize O1 ((c.loop.links.zip c.pieces).take k)=s at *
  unfold B1 at hst hb2
  cases hbk:y.back
  ·rw[if_neg (by simp[hbk])] at hst hb2
   simp only at hb2
   have hw1:IntKind.i64.wrap (s.1+x.lo)=s.1+x.lo:=o5 (by omega) (by omega)
   have hw2:IntKind.i64.wrap (s.2+x.hi)=s.2+x.hi:=o5 (by omega) (by omega)
   have hs:=za hx (za hy (za hlt (za hlt2 (za hw (za hw1 (za hw2 hbk))))))
   repeat' first|with_reducible refine zz ?_|simp -dsimp[hs]|refine zM 7 57 12 [0,1,2,3,4,5,6,8,9,10,11,21] ?_|with_reducible refine zE [0,1,2,3,4,5,6,8,9,10,11,21] ?_|refine i9 ?_ ?_<;>intro h<;>try simp only[i7] at h
   all_goals exact zn ⟨k+1,by omega⟩ (zw [1,3,4,8,9,10] 1 (by simp[hst]))
  ·rw[if_pos hbk] at hst hb2
   simp only at hb2
   have hw1:IntKind.i64.wrap (s.1-x.hi)=s.1-x.hi:=o5 (by omega) (by omega)
   have hw2:IntKind.i64.wrap (s.2-x.lo)=s.2-x.lo:=o5 (by omega) (by omega)
   have hs:=za hx (za hy (za hlt (za hlt2 (za hw (za hw1 (za hw2 hbk))))))
   repeat' first|with_reducible refine zz ?_|simp -dsimp[hs]|refine zM 6 57 12 [0,1,2,3,4,5,6,8,9,10,11,21] ?_|with_reducible refine zE [0,1,2,3,4,5,6,8,9,10,11,21] ?_|refine i9 ?_ ?_<;>intro h<;>try simp only[i7] at h
   all_goals exact zn ⟨k+1,by omega⟩ (zw [1,3,4,8,9,10] 1 (by simp[hst]))
 ·obtain rfl:k=c.pieces.length:=by omega
  have hall:(c.loop.links.zip c.pieces).take c.pieces.length=c.loop.links.zip c.pieces:=List.take_of_length_le (by rw[List.length_zip];omega)
  rw[hall]
  unfold GM
  generalize O1 (c.loop.links.zip c.pieces)=s at *
  by_cases h1:s.2<c.loop.lo
  ·have hs:=za hlt h1
   repeat' first|(with_reducible first|refine zz ?_|refine zr ?_|refine zE [0,1,2,3,4,5,6,8,9,10,11,21] ?_)|simp -dsimp[hs]|refine i9 ?_ ?_<;>intro h<;>try simp only[i7] at h
  ·have hs:=za hlt h1
   repeat' first|(with_reducible first|refine zz ?_|refine zr ?_|refine zE [0,1,2,3,4,5,6,8,9,10,11,21] ?_)|simp -dsimp[hs]|refine i9 ?_ ?_<;>intro h<;>try simp only[i7] at h
   all_goals simp[h1]
noncomputable def ac (c:Case):Bool:=R8 c&&(decide (r7 c=0)&&GM c)
theorem og (c:Case) (hp:dU c.p):zP Tryz.prog G 33 [o2 c] (bv (ac c)):=by
 refine zf Tryz.func33 Tryz.ntmps33 ?_
 try simp only[iv]
 have c1:=wA (G:=G) c
 unfold ac
 cases hq:R8 c
 ·rw[hq] at c1
  simp only[o2,j4,rI,List.map_cons,List.map_nil] at c1 ⊢
  have hs:=trivial
  repeat' first|(with_reducible first|refine zz ?_|refine zr ?_|refine zE [0,1,2] ?_)|simp -dsimp[hs]|refine zp c1 ?_
 ·obtain⟨hsk,hk⟩:=BJ hp hq
  rw[hq] at c1
  have c2:=vH (G:=G) c hk
  by_cases h0:r7 c=0
  ·have c3:=DO (G:=G) c h0
   rw[h0] at c2 ⊢
   generalize GM c=A at *
   simp only[o2,j4,rI,List.map_cons,List.map_nil] at c1 c2 c3 ⊢
   have hs:=trivial
   repeat' first|(with_reducible first|refine zz ?_|refine zr ?_|refine zE [0,1,2] ?_)|simp -dsimp[hs]|refine zp c1 ?_|refine zp c2 ?_|refine zp c3 ?_
  ·simp only[o2,j4,rI,List.map_cons,List.map_nil] at c1 c2 ⊢
   rw[decide_eq_false h0]
   have hs:=h0
   repeat' first|(with_reducible first|refine zz ?_|refine zr ?_|refine zE [0,1,2] ?_)|simp -dsimp[hs]|refine zp c1 ?_|refine zp c2 ?_
theorem kG {c:Case} (hp:dU c.p) (h:ac c=true):tO c∧KC c∧H8 c=0:=by
 unfold ac at h
 simp only[Bool.and_eq_true,decide_eq_true_eq] at h
 obtain⟨h1,h2,h3⟩:=h
 obtain⟨a,b⟩:=BJ hp h1
 refine⟨a,b,?_⟩
 unfold H8
 rw[if_neg (by simp[h2]),if_neg ?_]
 simp only[GM,Bool.or_eq_true,decide_eq_true_eq] at h3
 unfold ap aH lq
 rw[if_pos h2,if_pos h2,if_pos (by omega)]
 simp
end Go.Proofs
namespace Go.Proofs
open Go Go.Ab
theorem Hq:Opens Tryz.prog 69 (fun l=>∃ xs:List Int,(∀ n∈xs,0≤n∧n≤4294967295)∧l=[.sl (xs.map AD)]):=
 Opens.sliceOf Tryz.underlying69 (sz:=1) (by kernel_rfl) (by decide) (fun _=>rfl) ((Opens.int Tryz.underlying157).mono (by
  rintro l ⟨n,hn,rfl⟩
  exact⟨n,by simpa[IntKind.min,IntKind.max,IntKind.signed,IntKind.bits] using hn,rfl⟩))
end Go.Proofs
