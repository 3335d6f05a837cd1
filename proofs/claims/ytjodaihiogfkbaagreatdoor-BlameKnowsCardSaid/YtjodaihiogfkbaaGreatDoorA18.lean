/- Part 18 of the proofs. -/
import Derived.Test.YtjodaihiogfkbaaGreatDoorA09
import Derived.Test.YtjodaihiogfkbaaGreatDoorA11
import Derived.Test.YtjodaihiogfkbaaGreatDoorA13
import Derived.Test.YtjodaihiogfkbaaGreatDoorA14
import Derived.Test.YtjodaihiogfkbaaGreatDoorA15
import Derived.Test.YtjodaihiogfkbaaGreatDoorA16
import Derived.Test.YtjodaihiogfkbaaGreatDoorA17
set_option linter.all false
set_option linter.deprecated false
set_option maxHeartbeats 100000000
namespace Go.Proofs
open Go Go.Ab Tryz
variable {G:GW}
def I1 (s:Int×Int) (q:Link×Piece):Int×Int:=if q.1.back=true then (s.1-q.2.hi,s.2-q.2.lo) else (s.1+q.2.lo,s.2+q.2.hi)
def P0 (l:List (Link×Piece)):Int×Int:=l.foldl I1 (0,0)
theorem ti {l:List (Link×Piece)} {k:Nat} (h:k<l.length):P0 (l.take (k+1))=I1 (P0 (l.take k)) l[k]:=by
 unfold P0
 rw[List.take_succ_eq_append_getElem h,List.foldl_append]
 rfl
def X5 (x:Piece):Prop:=0≤x.lo∧x.lo≤x.hi∧x.hi≤1000000000
theorem th (l:List (Link×Piece)):∀ s:Int×Int,s.1≤s.2→(∀ q∈l,X5 q.2)→(l.foldl I1 s).1≤(l.foldl I1 s).2∧s.1-1000000000*(l.length:Int)≤(l.foldl I1 s).1∧(l.foldl I1 s).2≤s.2+1000000000*(l.length:Int):=by
 induction l with
 | nil=>intro s h _;simp[h]
 | cons q l ih =>
   intro s h hq
   have h1:=hq q List.mem_cons_self
   unfold X5 at h1
   have hst:(I1 s q).1≤(I1 s q).2∧s.1-1000000000≤(I1 s q).1∧(I1 s q).2≤s.2+1000000000:=by
    unfold I1
    split<;>simp only<;>omega
   have:=ih (I1 s q) hst.1 (fun y hy=>hq y (List.mem_cons_of_mem _ hy))
   rw[List.foldl_cons,List.length_cons]
   omega
theorem ej {l:List (Link×Piece)} (h:∀ q∈l,X5 q.2):(P0 l).1≤(P0 l).2∧- (1000000000*(l.length:Int))≤(P0 l).1∧(P0 l).2≤1000000000*(l.length:Int):=by
 have:=th l (0,0) (Int.le_refl _) h
 unfold P0
 simp only at this
 omega
structure CaseOk (c:Case):Prop where
 e:c.pieces.length=c.loop.links.length
 l:1≤c.loop.links.length∧c.loop.links.length≤8
 p:∀ q∈c.loop.links.zip c.pieces,X5 q.2
 g:-8000000000≤c.loop.lo∧c.loop.lo≤c.loop.hi∧c.loop.hi≤8000000000
theorem V4 {c:Case} (h:Z9 c=true):CaseOk c:=by
 rw[N1,ce] at h
 simp only[Bool.and_eq_true,decide_eq_true_eq,aC,List.all_eq_true] at h
 obtain⟨⟨_,_,h3,h4,h5⟩,h6⟩:=h
 refine⟨h4,h3,fun q hq=>?_,by omega⟩
 have:=h6 q hq
 simp only[H2,Bool.and_eq_true,aC,decide_eq_true_eq] at this
 unfold X5
 omega
noncomputable def R1 (c:Case):Int×Int:=if B8 c=0 then P0 (c.loop.links.zip c.pieces) else (0,0)
theorem mu {c:Case} (h:CaseOk c) {k:Nat} (hk:k≤c.pieces.length):((c.loop.links.zip c.pieces).take k).length=k:=by
 rw[List.length_take,List.length_zip];have:=h.e;omega
theorem mB {c:Case} (h:CaseOk c) {k:Nat} (hk:k≤c.pieces.length):(P0 ((c.loop.links.zip c.pieces).take k)).1≤(P0 ((c.loop.links.zip c.pieces).take k)).2∧-8000000000≤(P0 ((c.loop.links.zip c.pieces).take k)).1∧(P0 ((c.loop.links.zip c.pieces).take k)).2≤8000000000:=by
 have h1:=ej (l:=(c.loop.links.zip c.pieces).take k) fun q hq=>h.p q (List.mem_of_mem_take hq)
 rw[mu h hk] at h1
 have:=h.l;have:=h.e
 omega
theorem nF {c:Case} (h:CaseOk c) {k:Nat} (h1:k<c.pieces.length) (h2:k<c.loop.links.length):P0 ((c.loop.links.zip c.pieces).take (k+1))=I1 (P0 ((c.loop.links.zip c.pieces).take k)) (c.loop.links[k],c.pieces[k]):=by
 have h3:k<(c.loop.links.zip c.pieces).length:=by rw[List.length_zip];omega
 rw[ti h3,List.getElem_zip]
theorem pU {c:Case} (h:CaseOk c) {k:Nat} (h1:k<c.pieces.length):X5 c.pieces[k]:=by
 have h2:k<c.loop.links.length:=by have:=h.e;omega
 have h3:k<(c.loop.links.zip c.pieces).length:=by rw[List.length_zip];omega
 have:=h.p _ (List.getElem_mem h3)
 rw[List.getElem_zip] at this
 exact this
theorem Da (c:Case) (hG:s6 G) (hN:M7 G) (hS:C8 G) (hR:F0 G) (hk:KC c):zP prog G 51 [m6 c] (.tup [C9 (R1 c).1 (R1 c).2,iv (B8 c)]):=by
 refine zf func51 ntmps51 ?_
 try simp only[iv]
 have c1:=yo (G:=G) c hG hN hS hR hk
 simp only[m6,j4] at c1
 by_cases h0:B8 c=0
 ·have hok:=V4 (F6 h0).2
  have hE:R1 c=P0 (c.loop.links.zip c.pieces):=by unfold R1;rw[if_pos h0]
  rw[hE]
  rw[h0] at c1 ⊢
  have hlen:=hok.e
  have hl8:=hok.l
  have hs:=trivial
  repeat' first|(with_reducible first|refine zz ?_|refine zE [0,1,2,3,4,5,6,7,8,9,13,17,18,19,20,36] ?_)|simp -dsimp[hs]|refine zp c1 ?_|refine i8 ?_ ?_<;>intro h<;>try simp only[i6] at h
  refine g9 (ι:={ k:Nat // k≤c.pieces.length }) (fun q=>⟨52,[(1,.one (.ptr 0 0)),(2,.one (.ptr 1 0)),(5,.one (.ptr 2 0)),(17,.one (.im (.sl (c.pieces.map I7)))),(18,iv (c.pieces.length:Int)),(19,iv (q.1:Int))],[.row ((j4 c).map .im),.row [.im (rI 0),.im (rI 0)],.row [.im (rI (P0 ((c.loop.links.zip c.pieces).take q.1)).1),.im (rI (P0 ((c.loop.links.zip c.pieces).take q.1)).2)]]⟩) (fun q=>c.pieces.length-q.1) ⟨0,by simp⟩ (zv [1,2,5,17,18,19] (by simp[P0])) ?_
  rintro⟨k,hk1⟩
  simp only[iv]
  by_cases hlt:k<c.pieces.length
  ·have hlt2:k<c.loop.links.length:=by omega
   have hw:=zk k
   have hb1:=mB hok (Nat.le_of_lt hlt)
   have hb2:=mB hok (show k+1≤c.pieces.length by omega)
   have hst:=nF hok hlt hlt2
   have hp:=pU hok hlt
   unfold X5 at hp
   rw[hst] at hb2
   generalize hx:c.pieces[k]=x at *
   generalize hy:c.loop.links[k]=y at *
   generalize P0 ((c.loop.links.zip c.pieces).take k)=s at *
   unfold I1 at hst hb2
   cases hbk:y.back
   ·rw[if_neg (by simp[hbk])] at hst hb2
    simp only at hb2
    have hw1:IntKind.i64.wrap (s.1+x.lo)=s.1+x.lo:=n8 (by omega) (by omega)
    have hw2:IntKind.i64.wrap (s.2+x.hi)=s.2+x.hi:=n8 (by omega) (by omega)
    have hs:=za hx (za hy (za hlt (za hlt2 (za hw (za hw1 (za hw2 hbk))))))
    repeat' first|with_reducible refine zz ?_|simp -dsimp[hs]|refine zM 8 52 8 [0,1,2,3,4,5,6,7,8,9,13,17,18,19,20,36] ?_|with_reducible refine zE [0,1,2,3,4,5,6,7,8,9,13,17,18,19,20,36] ?_|refine i8 ?_ ?_<;>intro h<;>try simp only[i6] at h
    all_goals exact zn ⟨k+1,by omega⟩ (zw [1,2,5,17,18,19] 3 (by simp[hst]))
   ·rw[if_pos hbk] at hst hb2
    simp only at hb2
    have hw1:IntKind.i64.wrap (-x.hi)=-x.hi:=n8 (by omega) (by omega)
    have hw2:IntKind.i64.wrap (-x.lo)=-x.lo:=n8 (by omega) (by omega)
    have hw3:IntKind.i64.wrap (s.1 + -x.hi)=s.1-x.hi:=by rw[n8 (by omega) (by omega)];omega
    have hw4:IntKind.i64.wrap (s.2 + -x.lo)=s.2-x.lo:=by rw[n8 (by omega) (by omega)];omega
    have hs:=za hx (za hy (za hlt (za hlt2 (za hw (za hw1 (za hw2 (za hw3 (za hw4 hbk))))))))
    repeat' first|with_reducible refine zz ?_|simp -dsimp[hs]|refine zM 8 52 8 [0,1,2,3,4,5,6,7,8,9,13,17,18,19,20,36] ?_|with_reducible refine zE [0,1,2,3,4,5,6,7,8,9,13,17,18,19,20,36] ?_|refine i8 ?_ ?_<;>intro h<;>try simp only[i6] at h
    all_goals exact zn ⟨k+1,by omega⟩ (zw [1,2,5,17,18,19] 3 (by simp[hst]))
  ·obtain rfl:k=c.pieces.length:=by omega
   have hall:(c.loop.links.zip c.pieces).take c.pieces.length=c.loop.links.zip c.pieces:=List.take_of_length_le (by rw[List.length_zip];omega)
   rw[hall]
   have hs:=hlt
   repeat' first|(with_reducible first|refine zz ?_|refine zr ?_|refine zE [0,1,2,3,4,5,6,7,8,9,13,17,18,19,20,36] ?_)|simp -dsimp[hs]|refine i8 ?_ ?_<;>intro h<;>try simp only[i6] at h
 ·have hE:R1 c=(0,0):=by unfold R1;rw[if_neg h0]
  rw[hE]
  have hs:=h0
  repeat' first|(with_reducible first|refine zz ?_|refine zr ?_|refine zE [0,1,2,3,4,5,6,7,8,9,13,17,18,19,20,36] ?_)|simp -dsimp[hs]|refine zp c1 ?_|refine i8 ?_ ?_<;>intro h<;>try simp only[i6] at h
def oV (c:Case) (s:Int×Int):Int:=if s.2<c.loop.lo∨s.1 > c.loop.hi then 0 else if c.loop.lo≤s.1∧s.2≤c.loop.hi then 2 else 1
noncomputable def al (c:Case):Int:=if B8 c=0 then oV c (R1 c) else 0
theorem xJ {c:Case} {s:Int×Int} (h:s.1≤s.2):aC s.1 s.2 c.loop.lo c.loop.hi=decide (c.loop.lo≤s.1∧s.2≤c.loop.hi):=by
 unfold aC
 rw[decide_eq_decide]
 omega
theorem AX (c:Case) (hG:s6 G) (hN:M7 G) (hS:C8 G) (hR:F0 G) (hk:KC c):zP prog G 52 [m6 c] (.tup [vA (al c),iv (B8 c)]):=by
 refine zf func52 ntmps52 ?_
 try simp only[iv]
 have c1:=Da (G:=G) c hG hN hS hR hk
 simp only[m6,j4,C9] at c1
 by_cases h0:B8 c=0
 ·have hok:=V4 (F6 h0).2
  have hE:al c=oV c (R1 c):=by unfold al;rw[if_pos h0]
  have hS:R1 c=P0 (c.loop.links.zip c.pieces):=by unfold R1;rw[if_pos h0]
  have hle:(R1 c).1≤(R1 c).2:=by rw[hS];exact(ej hok.p).1
  have c2:=fK (G:=G) (R1 c).1 (R1 c).2 c.loop.lo c.loop.hi
  rw[xJ (c:=c) (s:=R1 c) hle] at c2
  rw[hE]
  rw[h0] at c1 ⊢
  unfold oV
  generalize R1 c=s at *
  simp only[C9] at c2
  by_cases h1:s.2<c.loop.lo∨s.1 > c.loop.hi
  ·rw[if_pos h1]
   by_cases h2:s.2<c.loop.lo
   ·have hs:=h2
    repeat' first|(with_reducible first|refine zz ?_|refine zr ?_|refine zE [0,1,2,3,4,5,6,15,33] ?_)|simp -dsimp[hs]|refine zp c1 ?_|refine i8 ?_ ?_<;>intro h<;>try simp only[i6] at h
   ·have h3:c.loop.hi<s.1:=by omega
    have hs:=za h2 h3
    repeat' first|(with_reducible first|refine zz ?_|refine zr ?_|refine zE [0,1,2,3,4,5,6,15,33] ?_)|simp -dsimp[hs]|refine zp c1 ?_|refine i8 ?_ ?_<;>intro h<;>try simp only[i6] at h
  ·rw[if_neg h1]
   have h2:¬ s.2<c.loop.lo:=by omega
   have h3:¬ c.loop.hi<s.1:=by omega
   by_cases h4:c.loop.lo≤s.1∧s.2≤c.loop.hi
   ·rw[if_pos h4]
    rw[decide_eq_true h4] at c2
    have hs:=za h2 h3
    repeat' first|(with_reducible first|refine zz ?_|refine zr ?_|refine zE [0,1,2,3,4,5,6,15,33] ?_)|simp -dsimp[hs]|refine zp c1 ?_|refine zp c2 ?_|refine i8 ?_ ?_<;>intro h<;>try simp only[i6] at h
   ·rw[if_neg h4]
    rw[decide_eq_false h4] at c2
    have hs:=za h2 h3
    repeat' first|(with_reducible first|refine zz ?_|refine zr ?_|refine zE [0,1,2,3,4,5,6,15,33] ?_)|simp -dsimp[hs]|refine zp c1 ?_|refine zp c2 ?_|refine i8 ?_ ?_<;>intro h<;>try simp only[i6] at h
 ·have hE:al c=0:=by unfold al;rw[if_neg h0]
  rw[hE]
  have hs:=h0
  repeat' first|(with_reducible first|refine zz ?_|refine zr ?_|refine zE [0,1,2,3,4,5,6,15,33] ?_)|simp -dsimp[hs]|refine zp c1 ?_|refine i8 ?_ ?_<;>intro h<;>try simp only[i6] at h
noncomputable def aR (c:Case) (k:Nat):List Int:=match c.pieces[k]?,c.loop.links[k]? with
 | some x,some y=>N7 c.p x.day x.holder y.drawing
 | _,_=>[]
theorem oD {c:Case} {k:Nat} (h1:k<c.pieces.length) (h2:k<c.loop.links.length):aR c k=N7 c.p c.pieces[k].day c.pieces[k].holder c.loop.links[k].drawing:=by
 unfold aR
 rw[List.getElem?_eq_getElem h1,List.getElem?_eq_getElem h2]
theorem Ct (c:Case) (k:Nat) (h1:k<c.pieces.length) (h2:k<c.loop.links.length) (hG:s6 G) (hN:M7 G) (hS:C8 G) (hR:F0 G) (hk:KC c):zP prog G 113 [m6 c,iv (k:Int)] (n7 (aR c k)):=by
 refine zf func113 ntmps113 ?_
 try simp only[iv]
 rw[oD h1 h2]
 generalize hx:c.pieces[k]=x at *
 generalize hy:c.loop.links[k]=y at *
 have c1:=wy (G:=G) c.p x.day x.holder y.drawing hG hN hS hR hk.p
 simp only[r7,m8] at c1
 generalize N7 c.p x.day x.holder y.drawing=L at *
 generalize I2 c.p x.day 1 x.holder y.drawing=e at *
 have hs:=za hx (za hy (za h1 h2))
 repeat' first|(with_reducible first|refine zz ?_|refine zr ?_)|simp -dsimp[hs]|refine zq c1 ?_|refine zM 2 31 19 [0,1,2,4,5,6] ?_|with_reducible refine zE [0,1,2,4,5,6] ?_
theorem R8 (n lo hi:Int):zP prog G 268 [iv n,iv lo,iv hi] (bv (decide (lo≤n)&&decide (n≤hi))):=by
 refine zf func268 ntmps268 ?_
 try simp only[iv,iv,iv]
 have hs:=trivial
 repeat' first|(with_reducible first|refine zz ?_|refine zr ?_|refine zE [0,1,2,6] ?_)|simp -dsimp[hs]|with_reducible refine j0 ?_ ?_<;>intro h<;>have h0:=h<;>(try simp only[i6] at h)<;>have h2:=h<;>(try simp at h2)<;>replace hs:=za h0 (za h (za h2 hs))
 all_goals try clear hs
 all_goals simp[*]
theorem xy (l:List Int) (n:Int) (hl:l.length<1000000):zP prog G 269 [n7 l,iv n] (bv (decide (n∈l))):=by
 refine zf func269 ntmps269 ?_
 try simp only[n7,iv]
 have hs:=trivial
 repeat' first|(with_reducible first|refine zz ?_|refine zE [0,1,4,5,9,17] ?_)|simp -dsimp[hs]
 refine g9 (ι:={ k:Nat // k≤l.length∧decide (n∈l)=decide (n∈l.drop k) }) (fun i=>⟨18,[(0,n7 l),(1,iv n),(5,iv (i.1:Int))],[]⟩) (fun i=>l.length-i.1) ⟨0,by simp⟩ (zv [0,1,5]) ?_
 rintro⟨i,hi,hno⟩
 simp only[iv,n7]
 by_cases hlt:i<l.length
 ·have hw:=zk i
  rw[List.drop_eq_getElem_cons hlt] at hno
  generalize hx:l[i]=x at *
  have hs:=za hx (za hw hlt)
  repeat' first|(with_reducible first|refine zz ?_|refine zr ?_|refine zE [0,1,4,5,9,17] ?_)|simp -dsimp[hs]|refine i8 ?_ ?_<;>intro h<;>try simp only[i6] at h
  all_goals try clear hs
  ·exact of_decide_eq_true (by rw[hno];simp[*])
  ·exact zn ⟨i+1,by omega,by rw[hno,decide_eq_decide,List.mem_cons];exact or_iff_right (fun e=>absurd e.symm (by assumption))⟩ (zv [0,1,5])
 ·rw[List.drop_eq_nil_of_le (by omega)] at hno
  have hs:=hlt
  repeat' first|(with_reducible first|refine zz ?_|refine zr ?_|refine zE [0,1,4,5,9,17] ?_)|simp -dsimp[hs]|refine i8 ?_ ?_<;>intro h<;>try simp only[i6] at h
  exact fun hm=>by simp[hm] at hno
theorem ka (p:Prints) (n:Int) (hl:p.holders.length<1000):zP prog G 172 [r7 p,iv n] (iv (G7 (fun y=>decide (y.id=n)) p.holders)):=by
 refine zf func172 ntmps172 ?_
 try simp only[iv]
 have hs:=trivial
 repeat' first|(with_reducible first|refine zz ?_|refine zE [0,1,2,4,5,10,20] ?_)|simp -dsimp[hs]
 refine g9 (ι:={ k:Nat // k≤p.holders.length∧∀ (j:Nat) (x:Holder),j<k→p.holders[j]?=some x→decide (x.id=n)=false }) (fun i=>⟨22,[(1,iv n),(2,.one (.ptr 0 0)),(5,iv (i.1:Int))],[.row ((m8 p).map .im)]⟩) (fun i=>p.holders.length-i.1) ⟨0,by simp⟩ (zv [1,2,5]) ?_
 rintro⟨i,hi,hno⟩
 simp only[iv]
 by_cases hlt:i<p.holders.length
 ·have hw:=zk i
  have hx0:p.holders[i]?=some p.holders[i]:=by simp[hlt]
  generalize hx:p.holders[i]=x at *
  have hs:=za hx (za hw hlt)
  repeat' first|(with_reducible first|refine zz ?_|refine zr ?_|refine zE [0,1,2,4,5,10,20] ?_)|simp -dsimp[hs]|refine i8 ?_ ?_<;>intro h<;>try simp only[i6] at h
  all_goals try clear hs
  ·exact(I5 hx0 (by simp[*]) hno).symm
  ·exact At.round ⟨i+1,by omega,fun j z hj hjx=>by
    by_cases e:j=i
    ·subst e;rw[hx0] at hjx;cases hjx;simp[*]
    ·exact hno j z (by omega) hjx⟩ (by simp;omega) (zv [1,2,5])
 ·have hs:=hlt
  repeat' first|(with_reducible first|refine zz ?_|refine zr ?_|refine zE [0,1,2,4,5,10,20] ?_)|simp -dsimp[hs]|refine i8 ?_ ?_<;>intro h<;>try simp only[i6] at h
  exact(Q3 fun j z hjx=>hno j z (by have:=e7 hjx;omega) hjx).symm
open Classical in
theorem tu (p:Prints) (k:Nat) (x:Holder) (hx0:p.holders[k]?=some x) (hsm:SmallP p):zP prog G 219 [r7 p,iv (k:Int)] (bv (decide (pR (nums p.n.reg) p.holders k x))):=by
 refine zf func219 ntmps219 ?_
 try simp only[iv]
 have hlt:k<p.holders.length:=e7 hx0
 have hx:p.holders[k]=x:=(List.getElem?_eq_some_iff.1 hx0).2
 have hdl:x.draws.length≤20:=hsm.d x (by rw[← hx];exact List.getElem_mem hlt)
 have hh:=hsm.h
 have hr:=hsm.r
 have hrl:=hsm.l
 have c1:=R8 (G:=G) x.id 1 9999
 have c2:=R8 (G:=G) x.frm 1 x.to
 have c3:=H1 (G:=G) p.n.reg (by omega)
 have c4:=fun d=>xy (G:=G) (nums p.n.reg) d (by omega)
 have hs:True:=trivial
 by_cases hA:FL p.holders k x
 ·obtain⟨a1,a3,a4,a6,a8,a9⟩:=id hA
  rw[show (decide (1≤x.id)&&decide (x.id≤9999))=true by simp;omega] at c1
  rw[show (decide (1≤x.frm)&&decide (x.frm≤x.to))=true by simp;omega] at c2
  have a8':¬ (999:Int)<x.to:=by omega
  have a9':¬ (8:Int)<x.draws.length:=by omega
  have hcs:(¬ 0<k∧True∧∃ _:True,True)∨(0<k∧IntKind.i64.wrap ((k:Int)-1)=((k-1:Nat):Int)∧∃ h:k-1<p.holders.length,¬ x.id≤(p.holders[k-1]'h).id):=by
   rcases Nat.eq_zero_or_pos k with h0|h0
   ·exact .inl ⟨by omega,trivial,trivial,trivial⟩
   ·have h1:k-1<p.holders.length:=by omega
    exact .inr ⟨by omega,by rw[n8 (by omega) (by omega)];omega,h1,by have:=a3 h0 _ (List.getElem?_eq_getElem h1);omega⟩
  rcases hcs with⟨hk0,hwm,hi1,hlt1⟩|⟨hk0,hwm,hi1,hlt1⟩
  all_goals
   have hs:=za hx (za hlt (za a8' (za a9' (za hk0 (za hwm (za hi1 hlt1))))))
   repeat' first|with_reducible refine zz ?_|simp -dsimp[hs]|refine zq c1 ?_|refine zq c2 ?_|refine zp c3 ?_|refine zM 2 89 39 [0,1,2,4,5,6,7,51,60,88] ?_|with_reducible refine zE [0,1,2,4,5,6,7,51,60,88] ?_|refine i8 ?_ ?_<;>intro h<;>try simp only[i6] at h
  all_goals
   refine g9 (ι:={ j:Nat // j≤x.draws.length∧∀ (i:Nat) (d:Int),i<j→x.draws[i]?=some d→AA (nums p.n.reg) x.draws i d }) (fun q=>⟨89,[(5,.one (.ptr 2 0)),(6,n7 (nums p.n.reg)),(7,iv (q.1:Int))],[.row ((m8 p).map .im),.vec 0 [] 0 true,.row ((o7 x).map .im)]⟩) (fun q=>x.draws.length-q.1) ⟨0,by simp⟩ (zv [5,6,7]) ?_
   rintro⟨j,hj,hjok⟩
   simp only[iv,n7]
   by_cases hlj:j<x.draws.length
   ·have hx1:x.draws[j]?=some x.draws[j]:=by simp[hlj]
    have hwj:=zk j
    have c5:=c4 x.draws[j]
    have hcj:(¬ 0<j∧True∧∃ _:True,True)∨(0<j∧IntKind.i64.wrap ((j:Int)-1)=((j-1:Nat):Int)∧∃ h:j-1<x.draws.length,True):=by
     rcases Nat.eq_zero_or_pos j with h0|h0
     ·exact .inl ⟨by omega,trivial,trivial,trivial⟩
     ·exact .inr ⟨by omega,by rw[n8 (by omega) (by omega)];omega,by omega,trivial⟩
    have hbadj:¬ AA (nums p.n.reg) x.draws j x.draws[j]→decide (pR (nums p.n.reg) p.holders k x)=false:=fun h=>decide_eq_false fun h'=>h (h'.2 j _ hx1)
    have hstj:AA (nums p.n.reg) x.draws j x.draws[j]→∀ (i:Nat) (d:Int),i<j+1→x.draws[i]?=some d→AA (nums p.n.reg) x.draws i d:=fun h i d hi hd=>by
     by_cases e:i=j
     ·subst e;rw[hx1] at hd;cases hd;exact h
     ·exact hjok i d (by omega) hd
    generalize decide (pR (nums p.n.reg) p.holders k x)=B at *
    rcases hcj with⟨hj0,hwmj,hij,-⟩|⟨hj0,hwmj,hij,-⟩
    all_goals
     have hs:=za hx1 (za hlj (za hj0 (za hwmj (za hij hwj))))
     repeat' first|(with_reducible first|refine zz ?_|refine zr ?_)|simp -dsimp[hs]|refine zq c5 ?_|refine zM 8 89 26 [0,1,2,4,5,6,7,51,60,88] ?_|with_reducible refine zE [0,1,2,4,5,6,7,51,60,88] ?_|refine i8 ?_ ?_<;>intro h<;>try simp only[i6] at h|with_reducible refine j0 ?_ ?_<;>intro h<;>have h0:=h<;>(try simp only[i6] at h)<;>have h2:=h<;>(try simp at h2)<;>replace hs:=za h0 (za h (za h2 hs))
     all_goals try clear hs
    all_goals first
     | exact zn ⟨j+1,by omega,hstj ⟨of_decide_eq_true (by assumption),fun h1 e he=>by first|omega|(obtain⟨_,rfl⟩:=List.getElem?_eq_some_iff.1 he;omega)⟩⟩ (zv [5,6,7])
     | (refine hbadj fun hh=>?_;have:=hh.1;simp_all;done)
     | (refine hbadj fun hh=>?_;have:=hh.2 (by omega) _ (List.getElem?_eq_getElem hij);omega)
   ·have hyes:decide (pR (nums p.n.reg) p.holders k x)=true:=decide_eq_true ⟨hA,fun i d hd=>hjok i d (by have:=e7 hd;omega) hd⟩
    rw[hyes]
    have hs:=hlj
    repeat' first|(with_reducible first|refine zz ?_|refine zr ?_|refine zE [0,1,2,4,5,6,7,51,60,88] ?_)|simp -dsimp[hs]|refine i8 ?_ ?_<;>intro h<;>try simp only[i6] at h
 ·have hno:decide (pR (nums p.n.reg) p.holders k x)=false:=decide_eq_false fun h=>hA h.1
  rw[hno]
  generalize hb1:(decide (1≤x.id)&&decide (x.id≤9999))=b1 at c1
  generalize hb2:(decide (1≤x.frm)&&decide (x.frm≤x.to))=b2 at c2
  have hcs:(¬ 0<k∧True∧∃ _:True,True)∨(0<k∧IntKind.i64.wrap ((k:Int)-1)=((k-1:Nat):Int)∧∃ h:k-1<p.holders.length,True):=by
   rcases Nat.eq_zero_or_pos k with h0|h0
   ·exact .inl ⟨by omega,trivial,trivial,trivial⟩
   ·exact .inr ⟨by omega,by rw[n8 (by omega) (by omega)];omega,by omega,trivial⟩
  rcases hcs with⟨hk0,hwm,hi1,-⟩|⟨hk0,hwm,hi1,-⟩<;>cases b1<;>cases b2
  all_goals
   have hs:=za hx (za hlt (za hk0 (za hwm hi1)))
   repeat' first|(with_reducible first|refine zz ?_|refine zr ?_)|simp -dsimp[hs]|refine zq c1 ?_|refine zq c2 ?_|refine zM 2 89 39 [0,1,2,4,5,6,7,51,60,88] ?_|with_reducible refine zE [0,1,2,4,5,6,7,51,60,88] ?_|refine i8 ?_ ?_<;>intro h<;>try simp only[i6] at h|with_reducible refine j0 ?_ ?_<;>intro h<;>have h0:=h<;>(try simp only[i6] at h)<;>have h2:=h<;>(try simp at h2)<;>replace hs:=za h0 (za h (za h2 hs))
  ·refine absurd ?_ hA
   simp at hb1 hb2
   exact⟨by omega,fun h1=>by omega,by omega,by omega,by omega,by omega⟩
  ·refine absurd ?_ hA
   simp at hb1 hb2
   exact⟨by omega,fun h1 y hy=>by
    obtain⟨_,rfl⟩:=List.getElem?_eq_some_iff.1 hy
    simp_all<;>omega,by omega,by omega,by omega,by omega⟩
theorem wH (l:List Issue) (x:Print):(n9 l x.drawing x.letter).isSome=Ca l x:=by
 unfold n9 Ca
 rw[Bool.eq_iff_iff,List.find?_isSome,List.any_eq_true]
 refine exists_congr fun y=>and_congr_right fun _=>?_
 simp only[Bool.and_eq_true,beq_iff_eq,decide_eq_true_eq]
 constructor<;>exact fun ⟨h1,h2⟩=>⟨h1.symm,h2.symm⟩
theorem sA (p:Prints) (i:Nat) (x:Print):tM p i x↔(0<i→∀ y,p.prints[i-1]?=some y→y.number<x.number)∧Di x=true∧DQ p.holders x=true∧Ca p.n.reg x=true∧BY x=true∧Dh x=true:=by
 refine and_congr_right fun _=>⟨fun h=>⟨h 0 (by omega),h 1 (by omega),h 2 (by omega),h 3 (by omega),h 4 (by omega)⟩,fun ⟨h1,h2,h3,h4,h5⟩ c hc=>?_⟩
 match c,hc with
 | 0,_=>exact h1
 | 1,_=>exact h2
 | 2,_=>exact h3
 | 3,_=>exact h4
 | 4,_=>exact h5
theorem vZ {B b1 b2 b3 b4 b5:Bool} {O:Prop} {f l r:Int} (hf3:b3=true↔¬ f<0) (hP:B=true↔O∧(b1&&b2)=true∧b3=true∧b4=true∧decide (l≤2)=true∧(decide (r=-1)||b5&&decide (l=0))=true):(b1=false∧True∧True∧True∧True∧True∧True∧B=false)∨(¬ O∧B=false)∨(O∧((b1=true∧b2=false∧True∧True∧True∧True∧True∧B=false)∨(b1=true∧b2=true∧f<0∧True∧True∧True∧True∧B=false)∨(b1=true∧b2=true∧¬ f<0∧2<l∧True∧True∧True∧B=false)∨(b1=true∧b2=true∧¬ f<0∧¬ 2<l∧b4=false∧True∧True∧B=false)∨(b1=true∧b2=true∧¬ f<0∧¬ 2<l∧b4=true∧r=-1∧True∧B=true)∨(b1=true∧b2=true∧¬ f<0∧¬ 2<l∧b4=true∧¬ r=-1∧b5=false∧B=false)∨(b1=true∧b2=true∧¬ f<0∧¬ 2<l∧b4=true∧¬ r=-1∧b5=true∧B=decide (l=0)))):=by
 have hn:¬ (O∧(b1&&b2)=true∧b3=true∧b4=true∧decide (l≤2)=true∧(decide (r=-1)||b5&&decide (l=0))=true)→B=false:=fun h=>Bool.eq_false_iff.2 fun e=>h (hP.1 e)
 have t:=trivial
 by_cases hO:O
 ·cases b1 with
  | false=>exact .inl ⟨rfl,t,t,t,t,t,t,hn fun h=>by simpa using h.2.1⟩
  | true =>
    refine .inr (.inr ⟨hO,?_⟩)
    cases b2 with
    | false=>exact .inl ⟨rfl,rfl,t,t,t,t,t,hn fun h=>by simpa using h.2.1⟩
    | true =>
      by_cases q2:f<0
      ·exact .inr (.inl ⟨rfl,rfl,q2,t,t,t,t,hn fun h=>hf3.1 h.2.2.1 q2⟩)
      ·by_cases q3:2<l
       ·exact .inr (.inr (.inl ⟨rfl,rfl,q2,q3,t,t,t,hn fun h=>by have:=of_decide_eq_true h.2.2.2.2.1;omega⟩))
       ·have h2:decide (l≤2)=true:=decide_eq_true (by omega)
        have hb3:b3=true:=hf3.2 q2
        cases b4 with
        | false=>exact .inr (.inr (.inr (.inl ⟨rfl,rfl,q2,q3,rfl,t,t,hn fun h=>Bool.noConfusion h.2.2.2.1⟩)))
        | true =>
          by_cases q4:r=-1
          ·exact .inr (.inr (.inr (.inr (.inl ⟨rfl,rfl,q2,q3,rfl,q4,t,hP.2 ⟨hO,rfl,hb3,rfl,h2,by rw[decide_eq_true q4];rfl⟩⟩))))
          ·cases b5 with
           | false=>exact .inr (.inr (.inr (.inr (.inr (.inl ⟨rfl,rfl,q2,q3,rfl,q4,rfl,hn fun h=>by have:=h.2.2.2.2.2;rw[decide_eq_false q4] at this;simp at this⟩)))))
           | true =>
             refine .inr (.inr (.inr (.inr (.inr (.inr ⟨rfl,rfl,q2,q3,rfl,q4,rfl,?_⟩)))))
             by_cases q5:l=0
             ·rw[decide_eq_true q5];exact hP.2 ⟨hO,rfl,hb3,rfl,h2,by rw[decide_eq_true q5];simp⟩
             ·rw[decide_eq_false q5];exact hn fun h=>by have:=h.2.2.2.2.2;rw[decide_eq_false q4,decide_eq_false q5] at this;simp at this
 ·exact .inr (.inl ⟨hO,hn fun h=>hO h.1⟩)
open Classical in
theorem wo (p:Prints) (k:Nat) (x:Print) (hx0:p.prints[k]?=some x) (hsm:SmallP p):zP prog G 220 [r7 p,iv (k:Int)] (bv (decide (tM p k x))):=by
 refine zf func220 ntmps220 ?_
 try simp only[iv]
 have hlt:k<p.prints.length:=e7 hx0
 have hx:p.prints[k]=x:=(List.getElem?_eq_some_iff.1 hx0).2
 have hlo:=hsm.lo x (by rw[← hx];exact List.getElem_mem hlt)
 have hh:=hsm.h
 have hrl:=hsm.l
 have hql:=hsm.q
 have c1:=R8 (G:=G) x.number 1 9999
 have c2:=R8 (G:=G) x.day 0 14610
 have c3:=ka (G:=G) p x.holder (by omega)
 have c4:=kg (G:=G) p.n.reg x.drawing x.letter (by omega)
 have c5:=R8 (G:=G) x.back x.day 14610
 have hf:=nc (fun y:Holder=>decide (y.id=x.holder)) p.holders
 have hP:=sA p k x
 rw[← wH,show DQ p.holders x=p.holders.any (fun y=>decide (y.id=x.holder)) from rfl] at hP
 simp only[C9] at c4
 generalize G7 (fun y:Holder=>decide (y.id=x.holder)) p.holders=f at *
 generalize (p.holders.any fun y=>decide (y.id=x.holder))=b3 at *
 generalize (n9 p.n.reg x.drawing x.letter).isSome=b4 at *
 generalize (n9 p.n.reg x.drawing x.letter).getD J2=z at *
 generalize hB:decide (tM p k x)=B
 have hP':B=true↔tM p k x:=by rw[← hB,decide_eq_true_eq]
 rw[hP] at hP'
 clear hP hB
 generalize hb1:(decide (1≤x.number)&&decide (x.number≤9999))=b1 at c1
 generalize hb2:(decide (0≤x.day)&&decide (x.day≤14610))=b2 at c2
 generalize hb5:(decide (x.day≤x.back)&&decide (x.back≤14610))=b5 at c5
 have e1:Di x=(b1&&b2):=by rw[← hb1,← hb2];rfl
 have e5:Dh x=(decide (x.back=-1)||b5&&decide (x.lost=0)):=by rw[← hb5];rfl
 rw[e1,e5,show BY x=decide (x.lost≤2) from rfl] at hP'
 clear e1 e5 hb1 hb2 hb5
 have hf3:b3=true↔¬ f<0:=by cases b3<;>simpa using hf
 clear hf
 have hs:True:=trivial
 have hcs:(¬ 0<k∧True∧(∃ _:True,True)∧(0<k→∀ y,p.prints[k-1]?=some y→y.number<x.number))∨(0<k∧IntKind.i64.wrap ((k:Int)-1)=((k-1:Nat):Int)∧(∃ h:k-1<p.prints.length,¬ x.number≤(p.prints[k-1]'h).number)∧(0<k→∀ y,p.prints[k-1]?=some y→y.number<x.number))∨(0<k∧IntKind.i64.wrap ((k:Int)-1)=((k-1:Nat):Int)∧(∃ h:k-1<p.prints.length,x.number≤(p.prints[k-1]'h).number)∧¬ (0<k→∀ y,p.prints[k-1]?=some y→y.number<x.number)):=by
  rcases Nat.eq_zero_or_pos k with h0|h0
  ·exact .inl ⟨by omega,trivial,⟨trivial,trivial⟩,fun h=>by omega⟩
  ·have h1:k-1<p.prints.length:=by omega
   have h2:=List.getElem?_eq_getElem h1
   have hw:IntKind.i64.wrap ((k:Int)-1)=((k-1:Nat):Int):=by rw[n8 (by omega) (by omega)];omega
   by_cases h3:x.number≤(p.prints[k-1]'h1).number
   ·exact .inr (.inr ⟨h0,hw,⟨h1,h3⟩,fun h=>by have:=h h0 _ h2;omega⟩)
   ·exact .inr (.inl ⟨h0,hw,⟨h1,h3⟩,fun _ y hy=>by rw[h2] at hy;cases hy;omega⟩)
 generalize (0<k→∀ y,p.prints[k-1]?=some y→y.number<x.number)=O at *
 have hc2:=vZ hf3 hP'
 rcases hc2 with⟨g1,g2,g3,g4,g5,g6,g7,gB⟩|⟨hO,gB⟩|⟨hO,hc2⟩
 ·clear hcs
  have hs:=za hx (za hlt g1)
  repeat' first|(with_reducible first|refine zz ?_|refine zr ?_)|simp -dsimp[hs]|refine zq c1 ?_|refine zM 2 77 38 [0,1,2,4,5,7,50,61] ?_|with_reducible refine zE [0,1,2,4,5,7,50,61] ?_|refine i8 ?_ ?_<;>intro h<;>try simp only[i6] at h
  all_goals try clear hs
  all_goals exact gB
 ·rcases hcs with⟨hk0,hwm,⟨hi1,hlt1⟩,hO1⟩|⟨hk0,hwm,⟨hi1,hlt1⟩,hO1⟩|⟨hk0,hwm,⟨hi1,hlt1⟩,hO1⟩
  ·exact absurd hO1 hO
  ·exact absurd hO1 hO
  ·cases b1
   all_goals
    have hs:=za hx (za hlt (za hk0 (za hwm (za hi1 hlt1))))
    repeat' first|(with_reducible first|refine zz ?_|refine zr ?_)|simp -dsimp[hs]|refine zq c1 ?_|refine zM 2 77 38 [0,1,2,4,5,7,50,61] ?_|with_reducible refine zE [0,1,2,4,5,7,50,61] ?_|refine i8 ?_ ?_<;>intro h<;>try simp only[i6] at h
    all_goals try clear hs
   all_goals exact gB
 ·rcases hc2 with⟨g1,g2,g3,g4,g5,g6,g7,gB⟩|⟨g1,g2,g3,g4,g5,g6,g7,gB⟩|⟨g1,g2,g3,g4,g5,g6,g7,gB⟩|⟨g1,g2,g3,g4,g5,g6,g7,gB⟩|⟨g1,g2,g3,g4,g5,g6,g7,gB⟩|⟨g1,g2,g3,g4,g5,g6,g7,gB⟩|⟨g1,g2,g3,g4,g5,g6,g7,gB⟩<;>rcases hcs with⟨hk0,hwm,⟨hi1,hlt1⟩,hO1⟩|⟨hk0,hwm,⟨hi1,hlt1⟩,hO1⟩|⟨hk0,hwm,⟨hi1,hlt1⟩,hO1⟩
  all_goals first
   | exact absurd hO hO1
   | skip
  all_goals
   have hs:=za hx (za hlt (za hk0 (za hwm (za hi1 (za hlt1 (za g1 (za g2 (za g3 (za g4 (za g5 (za g6 g7)))))))))))
   repeat' first|(with_reducible first|refine zz ?_|refine zr ?_)|simp -dsimp[hs]|refine zq c1 ?_|refine zq c2 ?_|refine zq c3 ?_|refine zp c4 ?_|refine zp c5 ?_|refine zM 2 77 38 [0,1,2,4,5,7,50,61] ?_|with_reducible refine zE [0,1,2,4,5,7,50,61] ?_|refine i8 ?_ ?_<;>intro h<;>try simp only[i6] at h
   all_goals try clear hs
  all_goals first
   | exact gB
   | exact gB.symm
   | trace_state
open Classical in
theorem tA (p:Prints) (hsm:SmallP p):zP prog G 170 [r7 p] (bv (C4 p)):=by
 refine zf func170 ntmps170 ?_
 try simp only[iv]
 have hh:=hsm.h
 have hq:=hsm.q
 by_cases h6:¬ p.holders.length≤6
 ·have h6':(6:Int)<p.holders.length:=by omega
  have hno:=K4 (p:=p) fun h=>h6 h.hl
  have hs:=h6'
  repeat' first|(with_reducible first|refine zz ?_|refine zr ?_|refine zE [0,1,2,3,4,14,19,25,30,36] ?_)|simp -dsimp[hs]|refine i8 ?_ ?_<;>intro h<;>try simp only[i6] at h
  all_goals try clear hs
  all_goals simp[hno]
 replace h6:=Classical.not_not.1 h6
 have h6':¬ (6:Int)<p.holders.length:=by omega
 by_cases h30:¬ p.prints.length≤30
 ·have h30':(30:Int)<p.prints.length:=by omega
  have hno:=K4 (p:=p) fun h=>h30 h.pl
  have hs:=za h6' h30'
  repeat' first|(with_reducible first|refine zz ?_|refine zr ?_|refine zE [0,1,2,3,4,14,19,25,30,36] ?_)|simp -dsimp[hs]|refine i8 ?_ ?_<;>intro h<;>try simp only[i6] at h
  all_goals try clear hs
  all_goals simp[hno]
 replace h30:=Classical.not_not.1 h30
 have h30':¬ (30:Int)<p.prints.length:=by omega
 have hs:=za h6' h30'
 repeat' first|(with_reducible first|refine zz ?_|refine zE [0,1,2,3,4,14,19,25,30,36] ?_)|simp -dsimp[hs]|refine i8 ?_ ?_<;>intro h<;>try simp only[i6] at h
 all_goals try clear hs
 refine g9 (ι:={ k:Nat // k≤p.holders.length∧∀ (j:Nat) (x:Holder),j<k→p.holders[j]?=some x→pR (nums p.n.reg) p.holders j x }) (fun q=>⟨37,[(1,.one (.ptr 0 0)),(3,iv (q.1:Int))],[.row ((m8 p).map .im)]⟩) (fun q=>p.holders.length-q.1) ⟨0,by simp⟩ (zv [1,3]) ?_
 rintro⟨k,hk,hok⟩
 simp only[iv]
 by_cases hlt:k<p.holders.length
 ·have hx0:p.holders[k]?=some p.holders[k]:=by simp[hlt]
  have hw:=zk k
  have c1:=tu (G:=G) p k _ hx0 hsm
  generalize hx:p.holders[k]=x at *
  have hstep:pR (nums p.n.reg) p.holders k x→∀ (j:Nat) (z:Holder),j<k+1→p.holders[j]?=some z→pR (nums p.n.reg) p.holders j z:=fun h j z hj hz=>by
   by_cases e:j=k
   ·subst e;rw[hx0] at hz;cases hz;exact h
   ·exact hok j z (by omega) hz
  by_cases hB:pR (nums p.n.reg) p.holders k x
  ·rw[decide_eq_true hB] at c1
   have hs:=za hlt hw
   repeat' first|(with_reducible first|refine zz ?_|refine zE [0,1,2,3,4,14,19,25,30,36] ?_)|simp -dsimp[hs]|refine zp c1 ?_|refine i8 ?_ ?_<;>intro h<;>try simp only[i6] at h
   all_goals try clear hs
   exact zn ⟨k+1,by omega,hstep hB⟩ (zv [1,3])
  ·rw[decide_eq_false hB] at c1
   have hno:=K4 (p:=p) fun h'=>hB (h'.h k x hx0)
   have hs:=za hlt hw
   repeat' first|(with_reducible first|refine zz ?_|refine zr ?_|refine zE [0,1,2,3,4,14,19,25,30,36] ?_)|simp -dsimp[hs]|refine zp c1 ?_|refine i8 ?_ ?_<;>intro h<;>try simp only[i6] at h
   all_goals try clear hs
   all_goals simp[hno]
 have hall:∀ i x,p.holders[i]?=some x→pR (nums p.n.reg) p.holders i x:=fun i x hx=>hok i x (by have:=e7 hx;omega) hx
 have hs:=hlt
 repeat' first|(with_reducible first|refine zz ?_|refine zE [0,1,2,3,4,14,19,25,30,36] ?_)|simp -dsimp[hs]|refine i8 ?_ ?_<;>intro h<;>try simp only[i6] at h
 all_goals try clear hs
 clear hlt hok hk
 refine g9 (ι:={ k:Nat // k≤p.prints.length∧∀ (j:Nat) (x:Print),j<k→p.prints[j]?=some x→tM p j x }) (fun q=>⟨37,[(1,.one (.ptr 0 0)),(4,iv (q.1:Int))],[.row ((m8 p).map .im)]⟩) (fun q=>p.prints.length-q.1) ⟨0,by simp⟩ (zv [1,4]) ?_
 rintro⟨k,hk,hok⟩
 simp only[iv]
 by_cases hlt:k<p.prints.length
 ·have hx0:p.prints[k]?=some p.prints[k]:=by simp[hlt]
  have hw:=zk k
  have c1:=wo (G:=G) p k _ hx0 hsm
  generalize hx:p.prints[k]=x at *
  have hstep:tM p k x→∀ (j:Nat) (z:Print),j<k+1→p.prints[j]?=some z→tM p j z:=fun h j z hj hz=>by
   by_cases e:j=k
   ·subst e;rw[hx0] at hz;cases hz;exact h
   ·exact hok j z (by omega) hz
  by_cases hB:tM p k x
  ·rw[decide_eq_true hB] at c1
   have hs:=za hlt hw
   repeat' first|(with_reducible first|refine zz ?_|refine zE [0,1,2,3,4,14,19,25,30,36] ?_)|simp -dsimp[hs]|refine zp c1 ?_|refine i8 ?_ ?_<;>intro h<;>try simp only[i6] at h
   all_goals try clear hs
   exact zn ⟨k+1,by omega,hstep hB⟩ (zv [1,4])
  ·rw[decide_eq_false hB] at c1
   have hno:=K4 (p:=p) fun h'=>hB (h'.q k x hx0)
   have hs:=za hlt hw
   repeat' first|(with_reducible first|refine zz ?_|refine zr ?_|refine zE [0,1,2,3,4,14,19,25,30,36] ?_)|simp -dsimp[hs]|refine zp c1 ?_|refine i8 ?_ ?_<;>intro h<;>try simp only[i6] at h
   all_goals try clear hs
   all_goals simp[hno]
 have hyes:C4 p=true:=ic ⟨h6,h30,hall,fun i x hx=>hok i x (by have:=e7 hx;omega) hx⟩
 rw[hyes]
 have hs:=hlt
 repeat' first|(with_reducible first|refine zz ?_|refine zr ?_|refine zE [0,1,2,3,4,14,19,25,30,36] ?_)|simp -dsimp[hs]|refine i8 ?_ ?_<;>intro h<;>try simp only[i6] at h
 all_goals try clear hs
theorem lE (p:Prints) (hk:KP p):zP prog G 104 [r7 p] (iv (p5 p)):=by
 refine zf func104 ntmps104 ?_
 try simp only[iv]
 have c1:=pq (G:=G) p.n hk.n
 have c2:=tA (G:=G) p hk.p
 by_cases h0:q8 p.n=0
 ·simp only[h0] at c1
  have hE:p5 p=if C4 p=true then 0 else 70:=by unfold p5;rw[if_neg (by simp[h0])]
  rw[hE]
  generalize C4 p=b at *
  cases b
  ·have hs:=trivial
   repeat' first|(with_reducible first|refine zz ?_|refine zr ?_|refine zE [0,1,2,3,8,12] ?_)|simp -dsimp[hs]|refine zp c1 ?_|refine zp c2 ?_|refine i8 ?_ ?_<;>intro h<;>try simp only[i6] at h
  ·have hs:=trivial
   repeat' first|(with_reducible first|refine zz ?_|refine zr ?_|refine zE [0,1,2,3,8,12] ?_)|simp -dsimp[hs]|refine zp c1 ?_|refine zp c2 ?_|refine i8 ?_ ?_<;>intro h<;>try simp only[i6] at h
 ·have hE:p5 p=q8 p.n:=by unfold p5;rw[if_pos h0]
  rw[hE]
  have hs:=h0
  repeat' first|(with_reducible first|refine zz ?_|refine zr ?_|refine zE [0,1,2,3,8,12] ?_)|simp -dsimp[hs]|refine zp c1 ?_|refine i8 ?_ ?_<;>intro h<;>try simp only[i6] at h
theorem tC (p:Prints) (d m:Int) (hk:KP p):zP prog G 296 [r7 p,iv d,iv m] (iv (C7 p d m)):=by
 refine zf func296 ntmps296 ?_
 try simp only[iv,iv]
 have c1:=lE (G:=G) p hk
 have c2:=R8 (G:=G) d 0 14610
 have c3:=R8 (G:=G) m 1 999
 by_cases h0:p5 p=0
 ·have hE:C7 p d m=if uH d m=true then 0 else 2:=by unfold C7;rw[if_neg (by simp[h0])]
  rw[hE]
  simp only[h0] at c1
  unfold uH
  generalize (decide (0≤d)&&decide (d≤14610))=b1 at *
  generalize (decide (1≤m)&&decide (m≤999))=b2 at *
  cases b1<;>cases b2
  all_goals
   have hs:=trivial
   repeat' first|(with_reducible first|refine zz ?_|refine zr ?_|refine zE [0,1,2,3,6,7,11,20] ?_)|simp -dsimp[hs]|refine zp c1 ?_|refine zp c2 ?_|refine zp c3 ?_|refine i8 ?_ ?_<;>intro h<;>try simp only[i6] at h
 ·have hE:C7 p d m=p5 p:=by unfold C7;rw[if_pos h0]
  rw[hE]
  have hs:=h0
  repeat' first|(with_reducible first|refine zz ?_|refine zr ?_|refine zE [0,1,2,3,6,7,11,20] ?_)|simp -dsimp[hs]|refine zp c1 ?_|refine i8 ?_ ?_<;>intro h<;>try simp only[i6] at h
theorem tD (p:Prints) (d m i w:Int) (hk:KP p):zP prog G 257 [r7 p,iv d,iv m,iv i,iv w] (iv (I2 p d m i w)):=by
 refine zf func257 ntmps257 ?_
 try simp only[iv,iv,iv,iv]
 have c1:=tC (G:=G) p d m hk
 have hh:=hk.p.h
 have hr:=hk.p.r
 have hrl:=hk.p.l
 have c2:=ka (G:=G) p i (by omega)
 have c3:=H1 (G:=G) p.n.reg (by omega)
 have c4:=xy (G:=G) (nums p.n.reg) w (by omega)
 have hf:=nc (fun y:Holder=>decide (y.id=i)) p.holders
 by_cases h0:C7 p d m=0
 ·have hE:I2 p d m i w=if (p.holders.any fun y=>decide (y.id=i))=true∧w∈nums p.n.reg then 0 else 6:=by unfold I2;rw[if_neg (by simp[h0])]
  rw[hE]
  simp only[h0] at c1
  generalize G7 (fun y:Holder=>decide (y.id=i)) p.holders=f at *
  generalize (p.holders.any fun y=>decide (y.id=i))=b at *
  cases b
  ·have hf':f<0:=by simpa using hf
   have hs:=hf'
   repeat' first|(with_reducible first|refine zz ?_|refine zr ?_|refine zE [0,1,2,3,4,5,10,11,17,31] ?_)|simp -dsimp[hs]|refine zp c1 ?_|refine zp c2 ?_|refine i8 ?_ ?_<;>intro h<;>try simp only[i6] at h
  ·have hf':¬ f<0:=by simpa using hf
   by_cases hw:w∈nums p.n.reg
   ·simp only[hw,decide_true] at c4
    have hs:=za hf' hw
    repeat' first|(with_reducible first|refine zz ?_|refine zr ?_|refine zE [0,1,2,3,4,5,10,11,17,31] ?_)|simp -dsimp[hs]|refine zp c1 ?_|refine zp c2 ?_|refine zp c3 ?_|refine zp c4 ?_|refine i8 ?_ ?_<;>intro h<;>try simp only[i6] at h
   ·simp only[hw,decide_false] at c4
    have hs:=za hf' hw
    repeat' first|(with_reducible first|refine zz ?_|refine zr ?_|refine zE [0,1,2,3,4,5,10,11,17,31] ?_)|simp -dsimp[hs]|refine zp c1 ?_|refine zp c2 ?_|refine zp c3 ?_|refine zp c4 ?_|refine i8 ?_ ?_<;>intro h<;>try simp only[i6] at h
 ·have hE:I2 p d m i w=C7 p d m:=by unfold I2;rw[if_pos h0]
  rw[hE]
  have hs:=h0
  repeat' first|(with_reducible first|refine zz ?_|refine zr ?_|refine zE [0,1,2,3,4,5,10,11,17,31] ?_)|simp -dsimp[hs]|refine zp c1 ?_|refine i8 ?_ ?_<;>intro h<;>try simp only[i6] at h
theorem Cd (x:Print) (d:Int) (hl:0≤x.lost∧x.lost≤255):zP prog G 297 [bq x,iv d] (bv (oo x d)):=by
 refine zf func297 ntmps297 ?_
 try simp only[iv]
 have hs:=trivial
 repeat' first|(with_reducible first|refine zz ?_|refine zr ?_|refine zE [0,1,2,4] ?_)|simp -dsimp[hs]|with_reducible refine j0 ?_ ?_<;>intro h<;>have h0:=h<;>(try simp only[i6] at h)<;>have h2:=h<;>(try simp at h2)<;>replace hs:=za h0 (za h (za h2 hs))
 all_goals try clear hs
 all_goals simp_all [oo]
 all_goals omega
end Go.Proofs
namespace Go.Ab
open Go
def lexB:List Int→List Int→Bool
 | a :: x,b :: y=>if a=b then lexB x y else decide (a<b)
 | _,_=>false
theorem fI {l:List Int} (h:l.Nodup):(j8 l).Pairwise (· < ·):=by
 have h1:(j8 l).Nodup:=(List.mergeSort_perm l _).nodup_iff.2 h
 have h2:=List.pairwise_mergeSort (le:=fun x y:Int=>decide (x≤y)) (fun a b c h1 h2=>by simp at *;omega) (fun a b=>by simp;omega) l
 rw[List.nodup_iff_pairwise_ne] at h1
 refine(h1.and h2).imp ?_
 rintro a b ⟨h3,h4⟩
 simp at h4;omega
theorem bi:∀ (X Y:List Int),X.Pairwise (· < ·)→Y.Pairwise (· < ·)→(∀ x∈X,x∈Y)→X.Sublist Y
 | [],Y,_,_,_=>by simp
 | a :: x,[],_,_,h=>by have:=h a (by simp);simp at this
 | a :: x,b :: y,hX,hY,h=>by
   obtain⟨h1,h2⟩:=List.pairwise_cons.1 hX
   obtain⟨h3,h4⟩:=List.pairwise_cons.1 hY
   by_cases e:a=b
   ·subst e
    refine List.Sublist.cons_cons a (bi x y h2 h4 fun z hz=>?_)
    rcases List.mem_cons.1 (h z (by simp[hz])) with rfl|hm
    ·have:=h1 z hz;omega
    ·exact hm
   ·refine List.Sublist.cons b (bi (a :: x) y hX h4 fun z hz=>?_)
    have hab:b<a:=by
     rcases List.mem_cons.1 (h a (by simp)) with rfl|hm
     ·exact absurd rfl e
     ·exact h3 a hm
    rcases List.mem_cons.1 (h z hz) with rfl|hm
    ·rcases List.mem_cons.1 hz with rfl|hz
     ·omega
     ·have:=h1 z hz;omega
    ·exact hm
theorem tj {X Y:List Int} (hX:X.Pairwise (· < ·)) (hY:Y.Pairwise (· < ·)) (h:∀ x,x∈X↔x∈Y):X=Y:=
 (bi X Y hX hY fun x hx=>(h x).1 hx).eq_of_length_le (bi Y X hY hX fun x hx=>(h x).2 hx).length_le
def R2 (N:List Int) (s:Nat) (k:Nat):List Int:=((List.range k).filter fun i=>s.testBit i).map fun i=>N.getD i 0
theorem dm (N:List Int) (s k:Nat):R2 N s (k+1)=R2 N s k++(if s.testBit k=true then [N.getD k 0] else []):=by
 unfold R2
 rw[List.range_succ,List.filter_append,List.map_append]
 congr 1
 by_cases h:s.testBit k=true<;>simp[h]
end Go.Ab
namespace Go.Proofs
open Go Go.Ab
def pY (v:Int) (q:Int→Bool) (k:Nat):List Int:=((List.range k).map fun (x:Nat)=>v+1+(x:Int)).filter q
theorem vN (v:Int) (q:Int→Bool):pY v q 0=[]:=rfl
theorem vO (v:Int) (q:Int→Bool) (k:Nat):pY v q (k+1)=pY v q k++(if q (v+1+(k:Int))=true then [v+1+(k:Int)] else []):=by
 unfold pY
 rw[List.range_succ,List.map_append,List.filter_append]
 congr 1
 simp only[List.map_cons,List.map_nil,List.filter_cons,List.filter_nil]
theorem yW (v:Int) (q:Int→Bool) (k:Nat):(pY v q k).length≤k:=by
 unfold pY
 refine Nat.le_trans (List.length_filter_le _ _) ?_
 simp
theorem upL_mem {v:Int} {q:Int→Bool} {k:Nat} {x:Int}:x∈pY v q k↔(v+1≤x∧x<v+1+k)∧q x=true:=by
 unfold pY
 rw[List.mem_filter,List.mem_map]
 refine and_congr_left fun _=>⟨fun ⟨a,ha,e⟩=>?_,fun ⟨h1,h2⟩=>⟨(x-v-1).toNat,?_,?_⟩⟩
 ·rw[List.mem_range] at ha;omega
 ·rw[List.mem_range];omega
 ·omega
theorem BB (v:Int) (q:Int→Bool) (k:Nat):(pY v q k).Pairwise (· < ·):=by
 unfold pY
 refine List.Pairwise.filter _ ?_
 rw[List.pairwise_map]
 exact List.pairwise_lt_range.imp fun h=>by omega
def gl (d i w:Int) (l:List Print):List Int:=R0 d i w l :: pY (R0 d i w l) (fun n=>decide (n∈R3 d i w l)) (8-R0 d i w l).toNat
theorem uz {D:List Int} {v:Int} (hs:D.Pairwise (· < ·)) (hv:v∈D):(D.drop (G7 (fun x=>decide (v=x)) D).toNat).Pairwise (· < ·)∧∀ x,x∈D.drop (G7 (fun x=>decide (v=x)) D).toNat↔x∈D∧v≤x:=by
 obtain⟨j,hj,hjv⟩:=List.mem_iff_getElem.1 hv
 have hf:G7 (fun x=>decide (v=x)) D=j:=by
  refine I5 (x:=v) (List.getElem?_eq_some_iff.2 ⟨hj,hjv⟩) (by simp) fun a x ha hx=>?_
  obtain⟨h1,rfl⟩:=List.getElem?_eq_some_iff.1 hx
  have:=List.pairwise_iff_getElem.1 hs a j h1 hj ha
  simp;omega
 rw[hf,Int.toNat_natCast]
 refine⟨hs.drop,fun x=>⟨fun hx=>?_,fun ⟨hx,hvx⟩=>?_⟩⟩
 ·obtain⟨a,ha,rfl⟩:=List.mem_iff_getElem.1 hx
  rw[List.length_drop] at ha
  rw[List.getElem_drop]
  refine⟨List.getElem_mem _,?_⟩
  rcases Nat.eq_zero_or_pos a with h0|h0
  ·subst h0;simp[hjv]
  ·have:=List.pairwise_iff_getElem.1 hs j (j+a) hj (by omega) (by omega)
   omega
 ·obtain⟨a,ha,rfl⟩:=List.mem_iff_getElem.1 hx
  have hja:j≤a:=by
   refine Classical.byContradiction fun h=>?_
   have:=List.pairwise_iff_getElem.1 hs a j ha hj (by omega)
   omega
  refine List.mem_iff_getElem.2 ⟨a-j,by rw[List.length_drop];omega,?_⟩
  rw[List.getElem_drop]
  congr 1;omega
theorem lw (L:List Print):∀ a:Int,a≤L.foldl (fun a x=>max a x.letter) a∧((∀ x∈L,x.letter≤8)→a≤8→L.foldl (fun a x=>max a x.letter) a≤8):=by
 induction L with
 | nil=>intro a;exact⟨Int.le_refl _,fun _ h=>h⟩
 | cons x L ih =>
   intro a
   rw[List.foldl_cons]
   obtain⟨h1,h2⟩:=ih (max a x.letter)
   refine⟨by omega,fun h3 h4=>h2 (fun y hy=>h3 y (List.mem_cons_of_mem _ hy)) ?_⟩
   have:=h3 x List.mem_cons_self
   omega
theorem vL {d i w:Int} {l:List Print} (h:∀ x∈l,dJ d i w x=true→1≤x.letter∧x.letter≤8):cq d i w l=gl d i w l:=by
 have hv:=lw (l.filter fun x=>dJ d i w x && !decide (x.lost=1)) 0
 have hv0:0≤R0 d i w l:=hv.1
 have hv8:R0 d i w l≤8:=hv.2 (fun x hx=>by
  obtain⟨h1,h2⟩:=List.mem_filter.1 hx
  rw[Bool.and_eq_true] at h2
  exact(h x h1 h2.1).2) (by omega)
 have hq:∀ n∈R3 d i w l,1≤n∧n≤8:=fun n hn=>by
  unfold R3 at hn
  obtain⟨x,hx,rfl⟩:=List.mem_map.1 hn
  obtain⟨h1,h2⟩:=List.mem_filter.1 hx
  rw[Bool.and_eq_true] at h2
  exact h x h1 h2.1
 unfold cq gl
 generalize R0 d i w l=v at *
 generalize R3 d i w l=Q at *
 have hD:(o8 (j8 (Q++[v]))).Pairwise (· < ·):=mc _ (mP _)
 have hm:∀ x,x∈o8 (j8 (Q++[v]))↔x∈Q∨x=v:=fun x=>by rw[bI,isort_mem];simp
 obtain⟨h1,h2⟩:=uz hD ((hm v).2 (.inr rfl))
 refine tj h1 ?_ fun x=>?_
 ·refine List.pairwise_cons.2 ⟨fun y hy=>?_,BB _ _ _⟩
  have:=(upL_mem.1 hy).1;omega
 ·rw[h2,hm,List.mem_cons,upL_mem,decide_eq_true_eq]
  constructor
  ·rintro⟨h3|h3,h4⟩
   ·by_cases e:x=v
    ·exact .inl e
    ·have:=hq x h3
     exact .inr ⟨by omega,h3⟩
   ·exact .inl h3
  ·rintro (rfl|⟨h3,h4⟩)
   ·exact⟨.inr rfl,Int.le_refl _⟩
   ·exact⟨.inl h4,by omega⟩
end Go.Proofs
namespace Go.Ab
open Go
theorem yg (s i:Nat):IntKind.i64.wrap ((BitVec.ofInt 64 ((s:Int).fdiv (2 ^ i)) &&& BitVec.ofInt 64 1).toNat:Int)=if s.testBit i=true then 1 else 0:=by
 have e1:(s:Int).fdiv (2 ^ i)=((s / 2 ^ i:Nat):Int):=by
  rw[Int.fdiv_eq_ediv_of_nonneg _ (by exact Int.pow_nonneg (by omega))]
  simp
 have e2:(BitVec.ofInt 64 ((s / 2 ^ i:Nat):Int) &&& BitVec.ofInt 64 1).toNat=(s / 2 ^ i) % 2:=by
  have h1:(BitVec.ofInt 64 1)=1#64:=by decide
  rw[h1,BitVec.ofInt_natCast,BitVec.toNat_and,BitVec.toNat_ofNat,BitVec.toNat_ofNat]
  rw[show (1 % 2 ^ 64:Nat)=1 by decide,Nat.and_one_is_mod]
  omega
 rw[e1,e2,Nat.testBit_eq_decide_div_mod_eq]
 rcases Nat.mod_two_eq_zero_or_one (s / 2 ^ i) with h|h
 ·rw[h];simp;decide
 ·rw[h];simp;decide
end Go.Ab
namespace Go.Proofs
open Go Go.Ab
variable {G:GW}
theorem mQ (l:List Int):(j8 l).length=l.length:=(List.mergeSort_perm l _).length_eq
theorem fg (N:List Int) (s k:Nat):(R2 N s k).length≤k:=by
 induction k with
 | zero=>simp[R2]
 | succ k ih =>
   rw[dm]
   split<;>simp<;>omega
open Go Go.Ab Tryz
def xS (l:List Int):List IC:=[.sl (l.map l7)]
def FF (L:List (List Int)):DV:=.one (.im (.sl (L.map xS)))
attribute [simp] xS FF
def iC (O:List Int) (k:Nat):List (List Int):=(List.range k).map fun s=>R2 O s O.length
def P4 (O:List Int):List (List Int):=iC O (2 ^ O.length)
theorem jn (O:List Int) (k:Nat):(iC O k).length=k:=by simp[iC]
theorem hZ (O:List Int):(P4 O).length=2 ^ O.length:=jn _ _
theorem lm (O:List Int) (k:Nat):iC O (k+1)=iC O k++[R2 O k O.length]:=by
 simp[iC,List.range_succ]
theorem td (O:List Int):iC O 0=[]:=rfl
theorem tz (n:Notes) (hs:se n) (hok:cZ n) (h5:(j6 n.notes).length≤5):zP prog G 47 [l4 n] (FF (P4 (j8 (j6 n.notes)))):=by
 refine zf func47 ntmps47 ?_
 try simp only[l4]
 have c1:=sB (G:=G) n hs hok
 have hn16:=hs.2.1
 have hnu:=jG (n:=n)
 have hOl:(j8 (j6 n.notes)).length=(G4 n.notes).length:=by rw[← hnu,List.length_map]
 have hO5:(j8 (j6 n.notes)).length≤5:=by rw[mQ];exact h5
 have hIlt:∀ i∈G4 n.notes,i<n.notes.length:=fun i hi=>ou hi
 have hJl:(L9 (G4 n.notes)).length=(j8 (j6 n.notes)).length:=by rw[hOl];simp[L9]
 have hJi:∀ i (h:i<(j8 (j6 n.notes)).length),∃ j,∃ hj:j<n.notes.length,(L9 (G4 n.notes))[i]?=some (j:Int)∧(j8 (j6 n.notes))[i]=n.notes[j].number:=fun i h=>by
  have hi:i<(G4 n.notes).length:=by omega
  refine⟨(G4 n.notes)[i],hIlt _ (List.getElem_mem hi),by simp[L9,hi],?_⟩
  have h1:((G4 n.notes).map (A0 n.notes))[i]?=(j8 (j6 n.notes))[i]?:=by rw[hnu]
  rw[List.getElem?_map,List.getElem?_eq_getElem hi,List.getElem?_eq_getElem h] at h1
  simp only[Option.map_some,Option.some.injEq] at h1
  rw[← h1]
  simp[A0,hIlt _ (List.getElem_mem hi)]
 clear hnu hIlt hOl
 generalize j8 (j6 n.notes)=O at *
 generalize L9 (G4 n.notes)=J at *
 have hPe:(2:Nat) ^ O.length≤2 ^ 5:=Nat.pow_le_pow_right (by omega) hO5
 have hmin:min O.length 64=O.length:=by omega
 have hb64:IntKind.i64.bits=64:=rfl
 have hlnn:¬ ((O.length:Int)<0):=by omega
 have hsh:IntKind.i64.wrap ((2:Int) ^ O.length)=((2 ^ O.length:Nat):Int):=by
  rw[show ((2:Int) ^ O.length)=((2 ^ O.length:Nat):Int) by simp]
  exact(fun (P:Nat) (h:P≤2 ^ 5)=>(n8 (by omega) (by omega):IntKind.i64.wrap (P:Int)=(P:Int))) _ hPe
 have hTz:P4 O=iC O (2 ^ O.length):=rfl
 simp only[n7] at c1
 have hs:=trivial
 repeat' first|(with_reducible first|refine zz ?_|refine zE [0,1,2,3,4,5,6,7,14,21,28] ?_)|simp -dsimp[hs]|refine zp c1 ?_
 all_goals try clear hs
 generalize hP:2 ^ O.length=P at *
 refine g9 (ι:={ p:Nat×Nat×Bool // p.1≤P }) (fun p=>⟨46,[(1,.one (.ptr 0 0)),(3,n7 J),(4,.one (.vec 2 p.1.2.1 0 p.1.1)),(5,iv (p.1.1:Int))],[.row ((m4 n).map .im),.vec 1 [] 0 true,.vec 1 (n4 ((iC O p.1.1).map xS)) p.1.2.1 p.1.2.2]⟩) (fun p=>P-p.1.1) ⟨(0,0,true),by simp⟩ (zv [1,3,4,5] (by simp[td])) ?_
 rintro⟨⟨k,g,nl⟩,hk⟩
 simp only at hk
 simp only[iv,n7]
 have hkl:=jn O k
 by_cases hlt:k<P
 ·have hw:=zk k
  have htk:=lm O k
  have hz:R2 O k 0=[]:=by simp[R2]
  generalize iC O k=T at *
  subst hkl
  have hs:=za hJl (za hmin (za hb64 (za hsh (za hlnn hlt))))
  repeat' first|(with_reducible first|refine zz ?_|refine zE [0,1,2,3,4,5,6,7,14,21,28] ?_)|simp -dsimp[hs]|refine i8 ?_ ?_<;>intro h<;>try simp only[i6] at h
  all_goals try clear hs
  refine g9 (ι:={ p:Nat×Nat // p.1≤O.length }) (fun p=>⟨46,[(1,.one (.ptr 0 0)),(3,n7 J),(4,.one (.vec 2 g 0 T.length)),(5,iv (T.length:Int)),(6,.one (.vec 3 p.1.2 0 (R2 O T.length p.1.1).length)),(7,iv (p.1.1:Int))],[.row ((m4 n).map .im),.vec 1 [] 0 true,.vec 1 (n4 (T.map xS)) g nl,.vec 1 (n4 ((R2 O T.length p.1.1).map l7)) p.1.2 false]⟩) (fun p=>O.length-p.1.1) ⟨(0,0),by simp⟩ (zv [1,3,4,5,6,7] (by simp[hz])) ?_
  rintro⟨⟨i,g2⟩,hi⟩
  simp only at hi
  simp only[iv,n7]
  by_cases hil:i<O.length
  ·have hwi:=zk i
   have hi63:min i 64=i:=by omega
   have hin:¬ ((i:Int)<0):=by omega
   have hbit:=yg T.length i
   have hSl:=fg O T.length i
   obtain⟨j,hj,hJ,hOi⟩:=hJi i hil
   have hJ2:J[i]'(by omega)=(j:Int):=(List.getElem?_eq_some_iff.1 hJ).2
   have hsu:R2 O T.length (i+1)=R2 O T.length i++(if T.length.testBit i=true then [n.notes[j].number] else []):=by
    rw[dm,show O.getD i 0=n.notes[j].number by simp[hil,hOi]]
   have hji:(j:Int)<n.notes.length:=by omega
   generalize hx:n.notes[j]=x at *
   generalize R2 O T.length i=S at *
   cases hb:T.length.testBit i
   ·rw[hb] at hbit hsu
    simp at hbit
    rw[if_neg Bool.false_ne_true,List.append_nil] at hsu
    have hs:=za hJl (za hil (za hwi (za hin (za hi63 (za hb64 hbit)))))
    repeat' first|(with_reducible first|refine zz ?_|refine zE [0,1,2,3,4,5,6,7,14,21,28] ?_)|simp -dsimp[hs]|refine i8 ?_ ?_<;>intro h<;>try simp only[i6] at h
    all_goals try clear hs
    all_goals exact zn ⟨(i+1,g2),by simp only;omega⟩ (zv [1,3,4,5,6,7] (by simp[hsu]))
   ·rw[hb] at hbit hsu
    simp at hbit
    rw[if_pos rfl] at hsu
    have hs:=za hJl (za hil (za hwi (za hin (za hi63 (za hb64 (za hbit (za hJ (za hJ2 (za hx (za hj hji))))))))))
    repeat' first|(with_reducible first|refine zz ?_|refine And.intro (by omega) ?_)|simp -dsimp[hs]|refine zM 11 46 11 [0,1,2,3,4,5,6,7,14,21,28] ?_|with_reducible refine zE [0,1,2,3,4,5,6,7,14,21,28] ?_|refine i8 ?_ ?_<;>intro h<;>try simp only[i6] at h
    all_goals try clear hs
    all_goals exact zn ⟨(i+1,g2+1),by simp only;omega⟩ (zw [1,3,4,5,6,7] 4 (by simp[hsu]))
  ·obtain rfl:i=O.length:=by omega
   generalize R2 O T.length O.length=S at *
   have hs:=za hJl hw
   repeat' first|(with_reducible first|refine zz ?_|refine And.intro (by omega) ?_|refine zE [0,1,2,3,4,5,6,7,14,21,28] ?_)|simp -dsimp[hs]|refine i8 ?_ ?_<;>intro h<;>try simp only[i6] at h
   all_goals try clear hs
   all_goals exact zn ⟨(T.length+1,g+1,false),by simp only;omega⟩ (zw [1,3,4,5] 3 (by simp[htk]))
 ·obtain rfl:k=P:=by omega
  rw[hTz]
  generalize iC O k=T at *
  subst hkl
  have hs:=za hJl (za hmin (za hb64 (za hsh hlnn)))
  repeat' first|(with_reducible first|refine zz ?_|refine zr ?_|refine zE [0,1,2,3,4,5,6,7,14,21,28] ?_)|simp -dsimp[hs]|refine i8 ?_ ?_<;>intro h<;>try simp only[i6] at h
  all_goals try clear hs
  all_goals simp
end Go.Proofs
namespace Go.Ab
open Go
structure Str where
 frm:Int
 to:Int
 letter:Int
 deriving DecidableEq
def xR (x:Str):List IC:=[rI x.frm,rI x.to,rI x.letter]
def Fo (l:List Str):DV:=.one (.im (.sl (l.map xR)))
attribute [simp] xR Fo
end Go.Ab
namespace Go.Proofs
open Go Go.Ab
def aP (l:List Note):List Int:=1 :: l.flatMap fun x=>[x.frm,x.to+1]
def Y5 (l:List Note):List Int:=(o8 (j8 (aP l))).filter fun m=>decide (m≤999)
theorem tT (l:List Note):(Y5 l).length≤2*l.length+1:=by
 have h1:=List.length_filter_le (fun m:Int=>decide (m≤999)) (o8 (j8 (aP l)))
 have h2:=Z7 (j8 (aP l))
 have h3:(aP l).length=2*l.length+1:=by
  unfold aP
  have:∀ l:List Note,(l.flatMap fun x=>[x.frm,x.to+1]).length=2*l.length:=fun l=>by
   induction l with
   | nil=>rfl
   | cons a r ih=>rw[List.flatMap_cons,List.length_append,ih,List.length_cons,List.length_cons,List.length_cons,List.length_nil];omega
  rw[List.length_cons,this]
 rw[L8,h3] at h2
 unfold Y5;omega
theorem Cp {n:Notes} (hok:cZ n) {x:Note} (hx:x∈n.notes):1≤x.frm∧x.frm≤x.to∧x.to≤999:=by
 obtain⟨i,hi,e⟩:=List.mem_iff_getElem.1 hx
 have h:=hok i x (by rw[List.getElem?_eq_getElem hi,e])
 simp only[sC,Bt,Bool.and_eq_true,decide_eq_true_eq] at h
 omega
variable {G:GW}
attribute [simp] D6 lD E8 N8 nilV bu ZK
end Go.Proofs
namespace Go.Proofs
open Go Go.Ab
end Go.Proofs
namespace Go.Ab
open Go
def dP (L:List Bool):List DC:=L.map fun b=>.im (.raw (.bool b))
theorem pu (L:List Bool):(dP L).length=L.length:=by simp[dP]
theorem AW {L:List Bool} {k:Nat} {v:Bool} (h:L[k]?=some v):((dP L).drop k).take 1=[.im (.raw (.bool v))]:=by
 have hk:k<(dP L).length:=by rw[pu];exact e7 h
 have h2:(dP L)[k]?=some (.im (.raw (.bool v))):=by simp[dP,h]
 rw[List.drop_eq_getElem_cons hk,(List.getElem?_eq_some_iff.1 h2).2]
 rfl
theorem yl {L:List Bool} {k:Nat} {v:Bool} (h:k<L.length):List.take k (dP L)++DC.im (IC.raw (Value.bool v)) :: List.drop (k+1) (dP L)=dP (L.set k v):=by
 simp only[dP,List.map_set]
 rw[List.set_eq_take_append_cons_drop,if_pos (by simpa using h)]
@[simp] theorem Fk (m:Nat) (O:List DObj) (L:List Bool):(dP L).map (fz m O)=dP L:=by
 simp only[dP,List.map_map];rfl
end Go.Ab
namespace Go.Proofs
open Go Go.Ab
variable {G:GW}
end Go.Proofs
namespace Go.Proofs
open Go Go.Ab Tryz
variable {G:GW}
theorem vM (p:Prints) (d i w:Int) (hsm:SmallP p) (hlt8:∀ x∈p.prints,dJ d i w x=true→(1≤x.letter∧x.letter≤8)∧(x.lost=0∨x.lost=1)):zP prog G 258 [r7 p,iv d,iv i,iv w] (n7 (gl d i w p.prints)):=by
 refine zf func258 ntmps258 ?_
 try simp only[iv,iv,iv]
 have hq:=hsm.q
 have hs:=trivial
 repeat' first|(with_reducible first|refine zz ?_|refine zE [0,1,2,3,4,8,9,10,11,12,13,14,19,43,46,61,66] ?_)|simp -dsimp[hs]
 all_goals try clear hs
 refine g9 (ι:={ q:Nat×List Bool // q.1≤p.prints.length∧q.2.length=9∧∀ x:Nat,x<9→q.2[x]?=some (decide ((x:Int)∈R3 d i w (p.prints.take q.1))) }) (fun q=>⟨72,[(1,iv d),(2,iv i),(3,iv w),(4,.one (.ptr 0 0)),(9,iv (R0 d i w (p.prints.take q.1.1))),(10,.one (.ptr 2 0)),(11,iv (q.1.1:Int))],[.row ((m8 p).map .im),.vec 1 [] 0 true,.row (dP q.1.2)]⟩) (fun q=>p.prints.length-q.1.1) ⟨(0,List.replicate 9 false),by simp,by simp,fun x hx=>by rw[List.getElem?_replicate,if_pos hx];simp[R3]⟩ (zv [1,2,3,4,9,10,11] (by simp[dP,R0])) ?_
 rintro⟨⟨k,B⟩,hk,hB9,hB⟩
 simp only at hk hB9 hB
 simp only[iv]
 have hbl:=pu B
 by_cases hlt:k<p.prints.length
 ·have hw:=zk k
  have hst1:=lG d i w hlt
  have hst2:=lu d i w hlt
  have hl8:=hlt8 p.prints[k] (List.getElem_mem hlt)
  have hlo:=hsm.lo p.prints[k] (List.getElem_mem hlt)
  generalize hx:p.prints[k]=x at *
  have c1:=Cd (G:=G) x d hlo
  have hs:True:=trivial
  cases hsel:dJ d i w x
  ·rw[hsel] at hst1 hst2
   simp only[Bool.false_and,Bool.false_eq_true,if_false,List.append_nil] at hst1 hst2
   simp only[dJ] at hsel
   generalize oo x d=o at *
   simp at hsel
   rw[← hst1] at hB
   have hcs:¬ x.holder=i∨(x.holder=i∧¬ x.drawing=w)∨(x.holder=i∧x.drawing=w∧o=false):=by
    by_cases g1:x.holder=i<;>by_cases g2:x.drawing=w<;>cases o<;>simp_all
   clear hsel
   rcases hcs with q4|⟨q4,q5⟩|⟨q4,q5,rfl⟩
   ·have hs:=za hx (za hlt (za hw q4))
    repeat' first|(with_reducible first|refine zz ?_|refine zE [0,1,2,3,4,8,9,10,11,12,13,14,19,43,46,61,66] ?_)|simp -dsimp[hs]|refine i8 ?_ ?_<;>intro h<;>try simp only[i6] at h
    all_goals try clear hs
    all_goals exact zn ⟨(k+1,B),by simp only;omega,hB9,hB⟩ (zw [1,2,3,4,9,10,11] 3 (by simp[hst2]))
   ·have hs:=za hx (za hlt (za hw (za q4 q5)))
    repeat' first|(with_reducible first|refine zz ?_|refine zE [0,1,2,3,4,8,9,10,11,12,13,14,19,43,46,61,66] ?_)|simp -dsimp[hs]|refine i8 ?_ ?_<;>intro h<;>try simp only[i6] at h
    all_goals try clear hs
    all_goals exact zn ⟨(k+1,B),by simp only;omega,hB9,hB⟩ (zw [1,2,3,4,9,10,11] 3 (by simp[hst2]))
   ·simp only[bq,w7,rI,q4,q5,List.map_cons,List.map_nil] at c1
    have hs:=za hx (za hlt (za hw (za q4 q5)))
    repeat' first|(with_reducible first|refine zz ?_|refine zE [0,1,2,3,4,8,9,10,11,12,13,14,19,43,46,61,66] ?_)|simp -dsimp[hs]|refine zp c1 ?_|refine i8 ?_ ?_<;>intro h<;>try simp only[i6] at h
    all_goals try clear hs
    all_goals exact zn ⟨(k+1,B),by simp only;omega,hB9,hB⟩ (zw [1,2,3,4,9,10,11] 3 (by simp[hst2]))
  ·obtain⟨⟨hl1,hl2⟩,hl01⟩:=hl8 hsel
   rw[hsel] at hst1 hst2
   simp only[Bool.true_and] at hst1 hst2
   simp only[dJ] at hsel
   generalize oo x d=o at *
   simp at hsel
   obtain⟨rfl,q4,q5⟩:=hsel
   simp only[bq,w7,rI,q4,q5,List.map_cons,List.map_nil] at c1
   obtain⟨j,hj⟩:=Int.eq_ofNat_of_zero_le (show 0≤x.letter by omega)
   rcases hl01 with hl0|hl0
   ·simp only[hl0,show ¬ (0:Int)=1 by omega,decide_false,Bool.false_eq_true,if_false,List.append_nil,Bool.not_false,if_true] at hst1 hst2
    rw[← hst1] at hB
    simp only[hl0] at c1
    have hs:=za hx (za hlt (za hw (za q4 (za q5 hl0))))
    repeat' first|(with_reducible first|refine zz ?_|refine zE [0,1,2,3,4,8,9,10,11,12,13,14,19,43,46,61,66] ?_)|simp -dsimp[hs]|refine zp c1 ?_|refine i8 ?_ ?_<;>intro h<;>try simp only[i6] at h
    all_goals try clear hs
    all_goals exact zn ⟨(k+1,B),by simp only;omega,hB9,hB⟩ (zw [1,2,3,4,9,10,11] 3 (by simp[hst2]))
   ·simp only[hl0,decide_true,if_true,Bool.not_true,Bool.false_eq_true,if_false] at hst1 hst2
    have hjB:j<B.length:=by omega
    have hset:=yl (v:=true) hjB
    have hB2:∀ y:Nat,y<9→(B.set j true)[y]?=some (decide ((y:Int)∈R3 d i w (p.prints.take (k+1)))):=fun y hy9=>by
     rw[hst1,hj]
     by_cases e:j=y
     ·subst e;simp[hjB]
     ·rw[List.getElem?_set_ne e,hB y hy9]
      have:¬ (y:Int)=(j:Int):=by omega
      simp[this]
    have hj9:(j:Int)<9:=by omega
    have hj0:¬ (j:Int)<0:=by omega
    have hjn:j<9:=by omega
    have hj8:j≤8:=by omega
    have hl0':¬ (x.lost=0):=by omega
    simp only[hl0,hj] at c1
    have hs:=za hx (za hlt (za hw (za q4 (za q5 (za hl0 (za hj (za hbl (za hB9 (za hj9 (za hj0 (za hjn (za hj8 hset))))))))))))
    repeat' first|(with_reducible first|refine zz ?_|refine zE [0,1,2,3,4,8,9,10,11,12,13,14,19,43,46,61,66] ?_)|simp -dsimp[hs]|refine zp c1 ?_|refine i8 ?_ ?_<;>intro h<;>try simp only[i6] at h
    all_goals try clear hs
    all_goals exact zn ⟨(k+1,B.set j true),by simp only;omega,by simpa using hB9,hB2⟩ (zw [1,2,3,4,9,10,11] 3 (by simp[hset,hst2]))
 ·obtain rfl:k=p.prints.length:=by omega
  have hBn:=hB
  simp only[List.take_length] at hBn ⊢
  have hvv:=lw (p.prints.filter fun x=>dJ d i w x && !decide (x.lost=1)) 0
  have hv0:0≤R0 d i w p.prints:=hvv.1
  have hv8:R0 d i w p.prints≤8:=hvv.2 (fun x hx=>by
   obtain⟨h1,h2⟩:=List.mem_filter.1 hx
   rw[Bool.and_eq_true] at h2
   exact(hlt8 x h1 h2.1).1.2) (by omega)
  have hEK:gl d i w p.prints=R0 d i w p.prints :: pY (R0 d i w p.prints) (fun n=>decide (n∈R3 d i w p.prints)) (8-R0 d i w p.prints).toNat:=rfl
  generalize gl d i w p.prints=WK at *
  generalize R0 d i w p.prints=v at *
  generalize R3 d i w p.prints=Q at *
  obtain⟨a,rfl⟩:=Int.eq_ofNat_of_zero_le hv0
  rw[show ((8:Int)-(a:Int)).toNat=8-a by omega] at hEK
  have ha8:a≤8:=by omega
  have hwa:IntKind.i64.wrap ((a:Int)+1)=(a:Int)+1:=n8 (by omega) (by omega)
  have hs:=za hlt hwa
  repeat' first|(with_reducible first|refine zz ?_|refine zE [0,1,2,3,4,8,9,10,11,12,13,14,19,43,46,61,66] ?_)|simp -dsimp[hs]|refine i8 ?_ ?_<;>intro h<;>try simp only[i6] at h
  all_goals try clear hs
  refine g9 (ι:={ q:Nat×Nat // q.1≤8-a }) (fun q=>⟨72,[(10,.one (.ptr 2 0)),(13,.one (.vec 3 q.1.2 0 ((pY a (fun n=>decide (n∈Q)) q.1.1).length+1))),(14,iv ((a:Int)+1+(q.1.1:Int)))],[.row ((m8 p).map .im),.vec 1 [] 0 true,.row (dP B),.vec 1 (n4 (((a:Int) :: pY a (fun n=>decide (n∈Q)) q.1.1).map l7)) q.1.2 false]⟩) (fun q=>8-a-q.1.1) ⟨(0,0),by simp⟩ (zv [10,13,14] (by simp[vN,n4])) ?_
  rintro⟨⟨x,g⟩,hx8⟩
  simp only at hx8
  simp only[iv]
  by_cases hlx:x<8-a
  ·have hst:=vO a (fun n=>decide (n∈Q)) x
   have hsl:=yW a (fun n=>decide (n∈Q)) x
   have hbx:=hBn (a+1+x) (by omega)
   have hci:((a+1+x:Nat):Int)=(a:Int)+1+(x:Int):=by omega
   rw[hci] at hbx
   have hat:=AW hbx
   have hw:IntKind.i64.wrap ((a:Int)+1+(x:Int)+1)=(a:Int)+1+((x+1:Nat):Int):=by rw[n8 (by omega) (by omega)];omega
   have hlxi:(a:Int)+1+(x:Int)<9:=by omega
   have hz0:(0:Int)≤(a:Int)+1+(x:Int):=by omega
   have hxn:a+1+x<9:=by omega
   have hx8n:a+1+x≤8:=by omega
   have hx8i:(a:Int)+1+(x:Int)≤8:=by omega
   have hto:((a:Int)+1+(x:Int)).toNat=a+1+x:=by omega
   generalize pY a (fun n=>decide (n∈Q)) x=L at *
   cases hv:decide ((a:Int)+1+(x:Int)∈Q)
   ·rw[hv] at hst hat
    rw[if_neg Bool.false_ne_true,List.append_nil] at hst
    have hs:=za hlxi (za hz0 (za hxn (za hw (za hbl (za hB9 (za hat (za hx8i (za hto hx8n))))))))
    repeat' first|(with_reducible first|refine zz ?_|refine zE [0,1,2,3,4,8,9,10,11,12,13,14,19,43,46,61,66] ?_)|simp -dsimp[hs]|refine i8 ?_ ?_<;>intro h<;>try simp only[i6] at h
    all_goals try clear hs
    all_goals exact zn ⟨(x+1,g),by simp only;omega⟩ (zv [10,13,14] (by simp[hst]))
   ·rw[hv] at hst hat
    rw[if_pos rfl] at hst
    have hs:=za hlxi (za hz0 (za hxn (za hw (za hbl (za hB9 (za hat (za hx8i (za hto hx8n))))))))
    repeat' first|(with_reducible first|refine zz ?_|refine And.intro (by omega) ?_|refine zE [0,1,2,3,4,8,9,10,11,12,13,14,19,43,46,61,66] ?_)|simp -dsimp[hs]|refine i8 ?_ ?_<;>intro h<;>try simp only[i6] at h
    all_goals try clear hs
    all_goals exact zn ⟨(x+1,g+1),by simp only;omega⟩ (zw [10,13,14] 4 (by simp[hst]))
  ·obtain rfl:x=8-a:=by omega
   have hlxi:¬ (a:Int)+1+((8-a:Nat):Int)<9:=by omega
   have hs:=za hlxi hEK
   repeat' first|(with_reducible first|refine zz ?_|refine zr ?_|refine zE [0,1,2,3,4,8,9,10,11,12,13,14,19,43,46,61,66] ?_)|simp -dsimp[hs]|refine i8 ?_ ?_<;>intro h<;>try simp only[i6] at h
   all_goals try clear hs
def rK (p:Prints):Prop:=nz p.n∧p.holders.length≤8∧p.prints.length≤40∧∀ x∈p.holders,x.draws.length≤20
def fd (p:Prints):Bool:=bj p.n&&(decide (p.holders.length≤8)&&(decide (p.prints.length≤40)&&p.holders.all fun x=>decide (x.draws.length≤20)))
theorem xA (p:Prints):zP prog G 62 [r7 p] (bv (!fd p)):=by
 refine zf func62 ntmps62 ?_
 try simp only[iv]
 have c1:=xB (G:=G) p.n
 have hE:fd p=(bj p.n&&(decide (p.holders.length≤8)&&(decide (p.prints.length≤40)&&p.holders.all fun x=>decide (x.draws.length≤20)))):=rfl
 simp only[l4,m4] at c1
 cases hS:bj p.n
 ·rw[hS,Bool.false_and] at hE
  rw[hS] at c1
  rw[hE]
  have hs:=trivial
  repeat' first|(with_reducible first|refine zz ?_|refine zr ?_|refine zE [0,1,2,3,18,23,33] ?_)|simp -dsimp[hs]|refine zp c1 ?_|refine i8 ?_ ?_<;>intro h<;>try simp only[i6] at h
 ·rw[hS,Bool.true_and] at hE
  rw[hS] at c1
  by_cases h8:p.holders.length≤8
  ·have h8':¬ (8:Int)<p.holders.length:=by omega
   rw[decide_eq_true h8,Bool.true_and] at hE
   by_cases h40:p.prints.length≤40
   ·have h40':¬ (40:Int)<p.prints.length:=by omega
    rw[decide_eq_true h40,Bool.true_and] at hE
    have hs:=za h8' h40'
    repeat' first|(with_reducible first|refine zz ?_|refine zE [0,1,2,3,18,23,33] ?_)|simp -dsimp[hs]|refine zp c1 ?_|refine i8 ?_ ?_<;>intro h<;>try simp only[i6] at h
    refine g9 (ι:={ k:Nat // k≤p.holders.length∧(p.holders.all fun x=>decide (x.draws.length≤20))=(p.holders.drop k).all fun x=>decide (x.draws.length≤20) }) (fun q=>⟨34,[(1,.one (.ptr 0 0)),(3,iv (q.1:Int))],[.row ((m8 p).map .im)]⟩) (fun q=>p.holders.length-q.1) ⟨0,by simp⟩ (zv [1,3]) ?_
    rintro⟨k,hk,hall⟩
    simp only[iv]
    by_cases hlt:k<p.holders.length
    ·have hw:=zk k
     have hst:=Q7 hlt hall
     generalize hx:p.holders[k]=x at *
     by_cases h20:x.draws.length≤20
     ·have h20':¬ (20:Int)<x.draws.length:=by omega
      have hs:=za hx (za hlt (za hw h20'))
      repeat' first|(with_reducible first|refine zz ?_|refine zE [0,1,2,3,18,23,33] ?_)|simp -dsimp[hs]|refine i8 ?_ ?_<;>intro h<;>try simp only[i6] at h
      exact zn ⟨k+1,by omega,D3 hst (by simpa using h20)⟩ (zv [1,3])
     ·have h20':(20:Int)<x.draws.length:=by omega
      have hs:=za hx (za hlt (za hw h20'))
      repeat' first|(with_reducible first|refine zz ?_|refine zr ?_|refine zE [0,1,2,3,18,23,33] ?_)|simp -dsimp[hs]|refine i8 ?_ ?_<;>intro h<;>try simp only[i6] at h
      rw[hE,s8 hst (by simpa using h20)];try rfl
    ·have hok:(p.holders.all fun x=>decide (x.draws.length≤20))=true:=by rw[hall,List.drop_eq_nil_of_le (by omega)];rfl
     have hs:=hlt
     repeat' first|(with_reducible first|refine zz ?_|refine zr ?_|refine zE [0,1,2,3,18,23,33] ?_)|simp -dsimp[hs]|refine i8 ?_ ?_<;>intro h<;>try simp only[i6] at h
     rw[hE,hok];try rfl
   ·have h40':(40:Int)<p.prints.length:=by omega
    rw[decide_eq_false h40,Bool.false_and] at hE
    have hs:=za h8' h40'
    repeat' first|(with_reducible first|refine zz ?_|refine zr ?_|refine zE [0,1,2,3,18,23,33] ?_)|simp -dsimp[hs]|refine zp c1 ?_|refine i8 ?_ ?_<;>intro h<;>try simp only[i6] at h
    rw[hE];try rfl
  ·have h8':(8:Int)<p.holders.length:=by omega
   rw[decide_eq_false h8,Bool.false_and] at hE
   have hs:=h8'
   repeat' first|(with_reducible first|refine zz ?_|refine zr ?_|refine zE [0,1,2,3,18,23,33] ?_)|simp -dsimp[hs]|refine zp c1 ?_|refine i8 ?_ ?_<;>intro h<;>try simp only[i6] at h
   rw[hE];try rfl
theorem zB (p:Prints) (hs:rK p):zP prog G 76 [r7 p,r7 p] (bv true):=by
 refine zf func76 ntmps76 ?_
 try simp only[iv]
 have c1:=zC (G:=G) p.n hs.1
 have hh:=hs.2.1
 have hq:=hs.2.2.1
 simp only[l4,m4] at c1
 have hs:=trivial
 repeat' first|(with_reducible first|refine zz ?_|refine zE [0,1,2,3,4,5,6,7,8,32,37,76,81,94] ?_)|simp -dsimp[hs]|refine zp c1 ?_|refine i8 ?_ ?_<;>intro h<;>try simp only[i6] at h
 all_goals try clear hs
 refine g9 (ι:={ k:Nat // k≤p.holders.length }) (fun q=>⟨95,[(2,.one (.ptr 0 0)),(3,.one (.ptr 1 0)),(5,iv (q.1:Int))],[.row ((m8 p).map .im),.row ((m8 p).map .im)]⟩) (fun q=>p.holders.length-q.1) ⟨0,by simp⟩ (zv [2,3,5]) ?_
 rintro⟨k,hk⟩
 simp only[iv]
 by_cases hlt:k<p.holders.length
 ·have hw:=zk k
  have hd:=hs.2.2.2 p.holders[k] (List.getElem_mem hlt)
  generalize hx:p.holders[k]=x at *
  have c2:=js (G:=G) x.draws x.draws (by omega)
  simp only[decide_true] at c2
  have hs:=za hx (za hlt hw)
  repeat' first|with_reducible refine zz ?_|simp -dsimp[hs]|refine zp c2 ?_|refine s9 (id:=6) (nt:=95) 12 [5,6,7,8,9] [0,1,2,3,4,5,6,7,8,32,37,40,41,42,43,44,76,81,94] [0,1,2,3,4,5,6,7,8,32,37,76,81,94] mixed rfl (by kernel_rfl) ?_|with_reducible refine zE [0,1,2,3,4,5,6,7,8,32,37,76,81,94] ?_|refine i8 ?_ ?_<;>intro h<;>try simp only[i6] at h
  all_goals try clear hs
  exact zn ⟨k+1,by omega⟩ (zw [2,3,5] 2)
 have hs:=hlt
 repeat' first|(with_reducible first|refine zz ?_|refine zE [0,1,2,3,4,5,6,7,8,32,37,76,81,94] ?_)|simp -dsimp[hs]|refine i8 ?_ ?_<;>intro h<;>try simp only[i6] at h
 all_goals try clear hs
 clear hlt hk
 refine g9 (ι:={ k:Nat // k≤p.prints.length }) (fun q=>⟨95,[(2,.one (.ptr 0 0)),(3,.one (.ptr 1 0)),(8,iv (q.1:Int))],[.row ((m8 p).map .im),.row ((m8 p).map .im)]⟩) (fun q=>p.prints.length-q.1) ⟨0,by simp⟩ (zv [2,3,8]) ?_
 rintro⟨k,hk⟩
 simp only[iv]
 by_cases hlt:k<p.prints.length
 ·have hw:=zk k
  generalize hx:p.prints[k]=x at *
  have hs:=za hx (za hlt hw)
  repeat' first|with_reducible refine zz ?_|simp -dsimp[hs]|refine zM 12 95 11 [0,1,2,3,4,5,6,7,8,32,37,76,81,94] ?_|with_reducible refine zE [0,1,2,3,4,5,6,7,8,32,37,76,81,94] ?_|refine i8 ?_ ?_<;>intro h<;>try simp only[i6] at h
  all_goals try clear hs
  exact zn ⟨k+1,by omega⟩ (zv [2,3,8])
 ·have hs:=hlt
  repeat' first|(with_reducible first|refine zz ?_|refine zr ?_|refine zE [0,1,2,3,4,5,6,7,8,32,37,76,81,94] ?_)|simp -dsimp[hs]|refine i8 ?_ ?_<;>intro h<;>try simp only[i6] at h
  all_goals try clear hs
noncomputable def Cv (p:Prints) (d i w:Int):Prop:=∀ x∈p.prints,dJ d i w x=true→(1≤x.letter∧x.letter≤8)∧(x.lost=0∨x.lost=1)
theorem xe {p:Prints} (hs:SmallP p) (h0:j9 p.n.reg=0) (hp:C4 p=true) (d i w:Int):Cv p d i w:=fun x hx hsel=>by
 have hP:=(og p).1 hp
 obtain⟨k,hk⟩:=List.mem_iff_getElem?.1 hx
 have hB:=(sA p k x).1 (hP.q k x hk)
 obtain⟨_,_,_,h3,h4,_⟩:=hB
 obtain⟨y,hy,hxy⟩:=List.any_eq_true.1 h3
 simp only[decide_eq_true_eq] at hxy
 have hok:=(I3 (F7 (D9 h0))).2.2.2.1 y hy
 simp only[n3,vG,Bool.and_eq_true,decide_eq_true_eq] at hok
 have hlo:=hs.lo x hx
 simp only[BY,decide_eq_true_eq] at h4
 simp only[dJ,oo,Bool.and_eq_true,Bool.not_eq_true',decide_eq_false_iff_not] at hsel
 omega
theorem tB (p:Prints) (d i w:Int) (hk:KP p):zP prog G 207 [r7 p,iv d,iv i,iv w] (.tup [n7 (N7 p d i w),iv (I2 p d 1 i w)]):=by
 refine zf func207 ntmps207 ?_
 try simp only[iv,iv,iv]
 have c1:=tD (G:=G) p d 1 i w hk
 by_cases h0:I2 p d 1 i w=0
 ·have ha:C7 p d 1=0:=by
   refine Classical.byContradiction fun h=>?_
   unfold I2 at h0;rw[if_pos h] at h0;exact h h0
  have hp:p5 p=0:=by
   refine Classical.byContradiction fun h=>?_
   unfold C7 at ha;rw[if_pos h] at ha;exact h ha
  have hn:q8 p.n=0:=by
   refine Classical.byContradiction fun h=>?_
   unfold p5 at hp;rw[if_pos h] at hp;exact h hp
  have hr0:j9 p.n.reg=0:=by
   refine Classical.byContradiction fun h=>?_
   unfold q8 at hn;rw[if_pos h] at hn;exact h hn
  have hpb:C4 p=true:=by
   refine Classical.byContradiction fun h=>?_
   unfold p5 at hp;rw[if_neg (by simp[hn]),if_neg h] at hp;exact absurd hp (by decide)
  have hl8:=xe hk.p hr0 hpb d i w
  have c2:=vM (G:=G) p d i w hk.p hl8
  have hW:N7 p d i w=gl d i w p.prints:=by
   unfold N7;rw[if_pos h0]
   exact vL fun x hx hsel=>(hl8 x hx hsel).1
  rw[hW,h0]
  simp only[h0] at c1
  have hs:=trivial
  repeat' first|(with_reducible first|refine zz ?_|refine zr ?_|refine zE [0,1,2,3,4,8,9,10,17] ?_)|simp -dsimp[hs]|refine zp c1 ?_|refine zp c2 ?_|refine i8 ?_ ?_<;>intro h<;>try simp only[i6] at h
 ·have hW:N7 p d i w=[]:=by unfold N7;rw[if_neg h0]
  rw[hW]
  have hs:=h0
  repeat' first|(with_reducible first|refine zz ?_|refine zr ?_|refine zE [0,1,2,3,4,8,9,10,17] ?_)|simp -dsimp[hs]|refine zp c1 ?_|refine i8 ?_ ?_<;>intro h<;>try simp only[i6] at h
theorem I0 (n lo hi:Int):zP prog G 94 [iv n,iv lo,iv hi] (bv (decide (lo≤n)&&decide (n≤hi))):=by
 refine zf func94 ntmps94 ?_
 try simp only[iv,iv,iv]
 have hs:=trivial
 repeat' first|(with_reducible first|refine zz ?_|refine zr ?_|refine zE [0,1,2,6] ?_)|simp -dsimp[hs]|with_reducible refine j0 ?_ ?_<;>intro h<;>have h0:=h<;>(try simp only[i6] at h)<;>have h2:=h<;>(try simp at h2)<;>replace hs:=za h0 (za h (za h2 hs))
 all_goals try clear hs
 all_goals simp[*]
theorem jR {l:List Issue} (h:j9 l=0) {x:Issue} (hx:x∈l):1≤x.letter∧1≤x.kind:=by
 have:=(I3 (F7 (D9 h))).2.2.2.1 x hx
 simp only[n3,vG,yS,Bool.and_eq_true,decide_eq_true_eq] at this
 by_cases hk:x.kind=1
 ·omega
 ·rw[if_neg hk] at this
  simp only[Bool.and_eq_true,decide_eq_true_eq] at this
  omega
theorem qM {l:List Issue} (h0:j9 l=0) (d:Int):S9 l d=0↔d∉nums l:=by
 obtain⟨h1,h2,h3⟩:=cL d l 0
 constructor
 ·intro h hd
  obtain⟨x,hx,hxd⟩:=ow hd
  have:=h2 x hx hxd
  have:=(jR h0 hx).1
  unfold S9 at h
  omega
 ·intro hd
  rcases h3 with h3|⟨x,hx,hxd,_⟩
  ·exact h3
  ·exact absurd (hxd ▸ (C2 h0).2 x hx) hd
theorem qm {c:Case} (h0:j9 c.p.n.reg=0) (l:Link) (x:Piece):H2 c l x=true↔(n9 c.p.n.reg l.drawing 1).isSome=true∧¬ ((n9 c.p.n.reg l.drawing 1).getD J2).kind<2∧(decide (0≤l.dim)&&decide (l.dim≤3))=true∧¬ G7 (fun y=>decide (y.id=x.holder)) c.p.holders<0∧(decide (0≤x.day)&&decide (x.day≤14610))=true∧(decide (0≤x.lo)&&decide (x.lo≤1000000000))=true∧(decide (x.lo≤x.hi)&&decide (x.hi≤1000000000))=true:=by
 have hf:(c.p.holders.any fun y=>decide (y.id=x.holder))=true↔¬ G7 (fun y=>decide (y.id=x.holder)) c.p.holders<0:=by
  rw[← u7,decide_eq_true_eq];omega
 unfold H2 aC
 cases hfi:n9 c.p.n.reg l.drawing 1 with
 | none=>simp
 | some y =>
   have hk:=(jR h0 (List.mem_of_find?_eq_some hfi)).2
   simp only[Option.isSome_some,Option.getD_some,Bool.and_eq_true,decide_eq_true_eq,Bool.not_eq_true',decide_eq_false_iff_not,hf,true_and]
   omega
theorem zO (c:Case) (h0:j9 c.p.n.reg=0) (hk:KC c):zP prog G 105 [m6 c] (bv (Z9 c)):=by
 refine zf func105 ntmps105 ?_
 try simp only[iv]
 have hl:=hk.l
 have hq:=hk.q
 have hhl:=hk.p.p.h
 have hrl:=hk.p.p.l
 have c2:=oH (G:=G) c.p.n.reg c.of (by omega)
 have hLm:=qM h0 c.of
 have c3:=I0 (G:=G) c.machine 1 999
 have c4:=I0 (G:=G) (c.loop.links.length:Int) 1 8
 have c5:=I0 (G:=G) c.loop.lo (-8000000000) 8000000000
 have c6:=I0 (G:=G) c.loop.hi c.loop.lo 8000000000
 simp only[A8] at c2
 generalize S9 c.p.n.reg c.of=L at *
 cases h5:ce c
 ·have hB:Z9 c=false:=by rw[N1,h5,Bool.false_and]
  rw[hB]
  simp only[ce,aC] at h5
  generalize hb3:(decide (1≤c.machine)&&decide (c.machine≤999))=b3 at c3
  generalize hb4:(decide (1≤(c.loop.links.length:Int))&&decide ((c.loop.links.length:Int)≤8))=b4 at c4
  generalize hb5:(decide (-8000000000≤c.loop.lo)&&decide (c.loop.lo≤8000000000))=b5 at c5
  generalize hb6:(decide (c.loop.lo≤c.loop.hi)&&decide (c.loop.hi≤8000000000))=b6 at c6
  have hs:True:=trivial
  by_cases hm:L=0
  ·cases b3
   all_goals
    have hs:=hm
    repeat' first|(with_reducible first|refine zz ?_|refine zr ?_|refine zE [0,1,2,3,4,5,6,7,8,61,66,131] ?_)|simp -dsimp[hs]|refine zp c3 ?_|refine zp c2 ?_|refine i8 ?_ ?_<;>intro h<;>try simp only[i6] at h
    all_goals try clear hs
  ·have hm':c.of∈nums c.p.n.reg:=Classical.byContradiction fun h=>hm (hLm.2 h)
   by_cases hlen:c.pieces.length=c.loop.links.length
   ·cases b3<;>cases b4<;>cases b5<;>cases b6
    all_goals
     have hs:=za hlen hm
     repeat' first|(with_reducible first|refine zz ?_|refine zr ?_|refine zE [0,1,2,3,4,5,6,7,8,61,66,131] ?_)|simp -dsimp[hs]|refine zp c3 ?_|refine zp c2 ?_|refine zp c4 ?_|refine zp c5 ?_|refine zp c6 ?_|refine i8 ?_ ?_<;>intro h<;>try simp only[i6] at h
     all_goals try clear hs
    all_goals exfalso
    all_goals simp[hm',hlen] at h5 hb3 hb4 hb5 hb6
    all_goals omega
   ·have hlen':¬ (c.pieces.length:Int)=c.loop.links.length:=by omega
    cases b3<;>cases b4<;>cases b5<;>cases b6
    all_goals
     have hs:=za hlen (za hlen' hm)
     repeat' first|(with_reducible first|refine zz ?_|refine zr ?_|refine zE [0,1,2,3,4,5,6,7,8,61,66,131] ?_)|simp -dsimp[hs]|refine zp c3 ?_|refine zp c2 ?_|refine zp c4 ?_|refine zp c5 ?_|refine zp c6 ?_|refine i8 ?_ ?_<;>intro h<;>try simp only[i6] at h
     all_goals try clear hs
 ·have hB:Z9 c=(c.loop.links.zip c.pieces).all fun q=>H2 c q.1 q.2:=by rw[N1,h5,Bool.true_and]
  rw[hB]
  simp only[ce,Bool.and_eq_true,decide_eq_true_eq,aC] at h5
  obtain⟨hm,⟨hm1,hm2⟩,⟨hl1,hl2⟩,hlen,hgap⟩:=h5
  have hm':¬ L=0:=fun h=>hLm.1 h hm
  rw[show (decide (1≤c.machine)&&decide (c.machine≤999))=true by simp;omega] at c3
  rw[show (decide (1≤(c.loop.links.length:Int))&&decide ((c.loop.links.length:Int)≤8))=true by simp;omega] at c4
  rw[show (decide (-8000000000≤c.loop.lo)&&decide (c.loop.lo≤8000000000))=true by simp;omega] at c5
  rw[show (decide (c.loop.lo≤c.loop.hi)&&decide (c.loop.hi≤8000000000))=true by simp;omega] at c6
  have hs:=za hlen hm'
  repeat' first|(with_reducible first|refine zz ?_|refine zE [0,1,2,3,4,5,6,7,8,61,66,131] ?_)|simp -dsimp[hs]|refine zp c3 ?_|refine zp c2 ?_|refine zp c4 ?_|refine zp c5 ?_|refine zp c6 ?_|refine i8 ?_ ?_<;>intro h<;>try simp only[i6] at h
  all_goals try clear hs
  have hno:((c.loop.links.zip c.pieces).all fun q=>H2 c q.1 q.2)=((c.loop.links.zip c.pieces).drop 0).all fun q=>H2 c q.1 q.2:=rfl
  clear c2 c3 c4 c5 c6
  generalize hA:((c.loop.links.zip c.pieces).all fun q=>H2 c q.1 q.2)=A at *
  refine g9 (ι:={ k:Nat // k≤c.pieces.length∧A=((c.loop.links.zip c.pieces).drop k).all fun q=>H2 c q.1 q.2 }) (fun q=>⟨132,[(1,.one (.ptr 0 0)),(3,.one (.ptr 2 0)),(4,iv (q.1:Int))],[.row ((j4 c).map .im),.vec 0 [] 0 true,.row [.im (.sl (c.p.n.reg.map e9))]]⟩) (fun q=>c.pieces.length-q.1) ⟨0,by simp,hno⟩ (zv [1,3,4]) ?_
  rintro⟨k,hk1,hrest⟩
  simp only[iv]
  by_cases hlt:k<c.pieces.length
  ·have hlt2:k<c.loop.links.length:=by omega
   have hw:=zk k
   have hst:=eW (f:=fun q=>H2 c q.1 q.2) hlt2 hlt (hA.trans hrest)
   rw[hA] at hst
   simp only at hst
   rw[qm h0] at hst
   clear hno
   generalize hx:c.pieces[k]=x at *
   generalize hy:c.loop.links[k]=y at *
   have c6:=kg (G:=G) c.p.n.reg y.drawing 1 (by omega)
   have c7:=ka (G:=G) c.p x.holder (by omega)
   have c8:=I0 (G:=G) y.dim 0 3
   have c9:=I0 (G:=G) x.day 0 14610
   have c10:=I0 (G:=G) x.lo 0 1000000000
   have c11:=I0 (G:=G) x.hi x.lo 1000000000
   simp only[A8,C9] at c6
   simp only[r7,m8,List.map_cons,List.map_nil] at c7
   generalize G7 (fun y=>decide (y.id=x.holder)) c.p.holders=f at *
   generalize (decide (0≤y.dim)&&decide (y.dim≤3))=b1 at *
   generalize (decide (0≤x.day)&&decide (x.day≤14610))=b3 at *
   generalize (decide (0≤x.lo)&&decide (x.lo≤1000000000))=b4 at *
   generalize (decide (x.lo≤x.hi)&&decide (x.hi≤1000000000))=b5 at *
   generalize (n9 c.p.n.reg y.drawing 1).isSome=e at *
   generalize (n9 c.p.n.reg y.drawing 1).getD J2=z at *
   have hcs:(e=true∧¬ z.kind<2∧b1=true∧¬ f<0∧b3=true∧b4=true∧b5=true)∨(A=false∧((e=false∧True∧True∧True∧True∧True∧True)∨(e=true∧z.kind<2∧True∧True∧True∧True∧True)∨(e=true∧¬ z.kind<2∧b1=false∧True∧True∧True∧True)∨(e=true∧¬ z.kind<2∧b1=true∧f<0∧True∧True∧True)∨(e=true∧¬ z.kind<2∧b1=true∧¬ f<0∧b3=false∧True∧True)∨(e=true∧¬ z.kind<2∧b1=true∧¬ f<0∧b3=true∧b4=false∧True)∨(e=true∧¬ z.kind<2∧b1=true∧¬ f<0∧b3=true∧b4=true∧b5=false))):=by
    by_cases g2:z.kind<2<;>by_cases g4:f<0<;>cases e<;>cases b1<;>cases b3<;>cases b4<;>cases b5<;>simp_all
   have hs:True:=trivial
   rcases hcs with⟨g1,g2,g3,g4,g5,g6,g7⟩|⟨gA,hcs⟩
   ·have hs:=za hx (za hy (za hlt (za hlt2 (za hw (za g1 (za g2 (za g3 (za g4 (za g5 (za g6 g7))))))))))
    repeat' first|with_reducible refine zz ?_|simp -dsimp[hs]|refine zp c6 ?_|refine zp c7 ?_|refine zp c8 ?_|refine zp c9 ?_|refine zp c10 ?_|refine zp c11 ?_|refine s9 (id:=7) (nt:=132) 13 [6,7,8,9,10] [0,1,2,3,4,5,6,7,8,61,66,69,70,71,72,73,74,131] [0,1,2,3,4,5,6,7,8,61,66,131] mixed rfl (by kernel_rfl) ?_|with_reducible refine zE [0,1,2,3,4,5,6,7,8,61,66,131] ?_|refine i8 ?_ ?_<;>intro h<;>try simp only[i6] at h
    all_goals try clear hs
    all_goals exact zn ⟨k+1,by omega,by rw[Bool.eq_iff_iff];exact hst.trans ⟨fun h=>h.2,fun h=>⟨⟨g1,g2,g3,g4,g5,g6,g7⟩,h⟩⟩⟩ (zw [1,3,4] 3)
   ·rcases hcs with⟨g1,g2,g3,g4,g5,g6,g7⟩|⟨g1,g2,g3,g4,g5,g6,g7⟩|⟨g1,g2,g3,g4,g5,g6,g7⟩|⟨g1,g2,g3,g4,g5,g6,g7⟩|⟨g1,g2,g3,g4,g5,g6,g7⟩|⟨g1,g2,g3,g4,g5,g6,g7⟩|⟨g1,g2,g3,g4,g5,g6,g7⟩
    all_goals
     have hs:=za hx (za hy (za hlt (za hlt2 (za hw (za g1 (za g2 (za g3 (za g4 (za g5 (za g6 g7))))))))))
     repeat' first|(with_reducible first|refine zz ?_|refine zr ?_)|simp -dsimp[hs]|refine zp c6 ?_|refine zp c7 ?_|refine zp c8 ?_|refine zp c9 ?_|refine zp c10 ?_|refine zp c11 ?_|refine s9 (id:=7) (nt:=132) 13 [6,7,8,9,10] [0,1,2,3,4,5,6,7,8,61,66,69,70,71,72,73,74,131] [0,1,2,3,4,5,6,7,8,61,66,131] mixed rfl (by kernel_rfl) ?_|with_reducible refine zE [0,1,2,3,4,5,6,7,8,61,66,131] ?_|refine i8 ?_ ?_<;>intro h<;>try simp only[i6] at h
     all_goals try clear hs
    all_goals exact gA
  ·obtain rfl:k=c.pieces.length:=by omega
   have hA1:A=true:=by rw[hrest,List.drop_eq_nil_of_le (by rw[List.length_zip];omega)];rfl
   subst hA1
   have hs:=hlt
   repeat' first|(with_reducible first|refine zz ?_|refine zr ?_|refine zE [0,1,2,3,4,5,6,7,8,61,66,131] ?_)|simp -dsimp[hs]|refine i8 ?_ ?_<;>intro h<;>try simp only[i6] at h
   all_goals try clear hs
end Go.Proofs
