/- Part 18 of the proofs. -/
import Derived.Test.YtlmlkkoapahmjaaGreatDoorP08
import Derived.Test.YtlmlkkoapahmjaaGreatDoorP09
import Derived.Test.YtlmlkkoapahmjaaGreatDoorP12
import Derived.Test.YtlmlkkoapahmjaaGreatDoorP14
import Derived.Test.YtlmlkkoapahmjaaGreatDoorP15
import Derived.Test.YtlmlkkoapahmjaaGreatDoorP16
import Derived.Test.YtlmlkkoapahmjaaGreatDoorP17
set_option linter.all false
set_option maxHeartbeats 100000000
namespace Go.Proofs
open Go Go.Ab Tryz
variable {G:LS}
def E5 (s:Int×Int) (q:Link×Piece):Int×Int:=if q.1.back=true then (s.1-q.2.hi,s.2-q.2.lo) else (s.1+q.2.lo,s.2+q.2.hi)
def R7 (l:List (Link×Piece)):Int×Int:=l.foldl E5 (0,0)
theorem wx {l:List (Link×Piece)} {k:Nat} (h:k<l.length):R7 (l.take (k+1))=E5 (R7 (l.take k)) l[k]:=by
 unfold R7;rw[List.take_succ_eq_append_getElem h,List.foldl_append];rfl
def P2 (x:Piece):Prop:=0<=x.lo/\x.lo<=x.hi/\x.hi<=1000000000
theorem ww (l:List (Link×Piece)):∀ s:Int×Int,s.1<=s.2->(∀ q∈l,P2 q.2)->(l.foldl E5 s).1<=(l.foldl E5 s).2/\s.1-1000000000*(l.length:Int)<=(l.foldl E5 s).1/\(l.foldl E5 s).2<=s.2+1000000000*(l.length:Int):=by
 induction l with
 | nil=>intro s h _;simp[h]
 | cons q l ih =>
   intro s h hq;have h1:=hq q List.mem_cons_self;unfold P2 at h1;have hst:(E5 s q).1<=(E5 s q).2/\s.1-1000000000<=(E5 s q).1/\(E5 s q).2<=s.2+1000000000:=by
    unfold E5;split<;>simp only<;>omega
   have:=ih (E5 s q) hst.1 (λy hy=>hq y (List.mem_cons_of_mem _ hy));rw[List.foldl_cons,List.length_cons];omega
theorem lF {l:List (Link×Piece)} (h:∀ q∈l,P2 q.2):(R7 l).1<=(R7 l).2/\- (1000000000*(l.length:Int))<=(R7 l).1/\(R7 l).2<=1000000000*(l.length:Int):=by
 have:=ww l (0,0) (Int.le_refl _) h;unfold R7;simp only at this;omega
structure CaseOk (c:Case):Prop where
 e:c.pieces.length=c.loop.links.length
 l:1<=c.loop.links.length/\c.loop.links.length<=8
 p:∀ q∈c.loop.links.zip c.pieces,P2 q.2
 g:-8000000000<=c.loop.lo/\c.loop.lo<=c.loop.hi/\c.loop.hi<=8000000000
theorem I5 {c:Case} (h:aN c=true):CaseOk c:=by
 rw[N4,ew] at h;simp only[Bool.and_eq_true,decide_eq_true_eq,U6,List.all_eq_true] at h;obtain⟨⟨_,_,h3,h4,h5⟩,h6⟩:=h;refine⟨h4,h3,λq hq=>?_,by omega⟩;have:=h6 q hq;simp only[I2,Bool.and_eq_true,U6,decide_eq_true_eq] at this;unfold P2;omega
noncomputable def bJ (c:Case):Int×Int:=if q8 c=0 then R7 (c.loop.links.zip c.pieces) else (0,0)
theorem pi {c:Case} (h:CaseOk c) {k:Nat} (hk:k<=c.pieces.length):((c.loop.links.zip c.pieces).take k).length=k:=by
 rw[List.length_take,List.length_zip];have:=h.e;omega
theorem pn {c:Case} (h:CaseOk c) {k:Nat} (hk:k<=c.pieces.length):(R7 ((c.loop.links.zip c.pieces).take k)).1<=(R7 ((c.loop.links.zip c.pieces).take k)).2/\-8000000000<=(R7 ((c.loop.links.zip c.pieces).take k)).1/\(R7 ((c.loop.links.zip c.pieces).take k)).2<=8000000000:=by
 have h1:=lF (l:=(c.loop.links.zip c.pieces).take k) λq hq=>h.p q (List.mem_of_mem_take hq);rw[pi h hk] at h1;have:=h.l;have:=h.e;omega
theorem qw {c:Case} (h:CaseOk c) {k:Nat} (h1:k<c.pieces.length) (h2:k<c.loop.links.length):R7 ((c.loop.links.zip c.pieces).take (k+1))=E5 (R7 ((c.loop.links.zip c.pieces).take k)) (c.loop.links[k],c.pieces[k]):=by
 have h3:k<(c.loop.links.zip c.pieces).length:=by rw[List.length_zip];omega
 rw[wx h3,List.getElem_zip]
theorem iV {c:Case} (h:CaseOk c) {k:Nat} (h1:k<c.pieces.length):P2 c.pieces[k]:=by
 have h2:k<c.loop.links.length:=by have:=h.e;omega
 have h3:k<(c.loop.links.zip c.pieces).length:=by rw[List.length_zip];omega
 have:=h.p _ (List.getElem_mem h3);rw[List.getElem_zip] at this;exact this
@[simp] abbrev QB:List Nat:=[0,1,2,3,4,5,6,7,8,9,13,17,18,19,20,36]
theorem Cn (c:Case) (hG:o4 G) (hN:E2 G) (hS:u5 G) (hR:w0 G) (hk:KC c):zP prog G 38 [l7 c] (.tup [E1 (bJ c).1 (bJ c).2,iv (q8 c)]):=by
 refine zf func38 ntmps38 ?_;try simp only[iv]
 have c1:=iS (G:=G) c hG hN hS hR hk;simp only[l7,j0] at c1;by_cases h0:q8 c=0
 ·have hok:=I5 (A2 h0).2;have hE:bJ c=R7 (c.loop.links.zip c.pieces):=by unfold bJ;rw[if_pos h0]
  rw[hE];rw[h0] at c1 ⊢;have hlen:=hok.e;have hl8:=hok.l;have hs:=trivial;repeat' first|(with_reducible first|refine zz ?_|refine zE QB ?_)|simp -dsimp[hs]|refine zp c1 ?_|refine i8 ?_ ?_<;>intro h<;>try exact h.elim
  refine i6 (ι:={ k:Nat // k<=c.pieces.length }) (λq=>⟨52,[(1,.one (.ptr 0 0)),(2,.one (.ptr 1 0)),(5,.one (.ptr 2 0)),(17,.one (.im (.sl (c.pieces.map w9)))),(18,iv (c.pieces.length:Int)),(19,iv (q.1:Int))],[.row ((j0 c).map .im),.row [.im (rI 0),.im (rI 0)],.row [.im (rI (R7 ((c.loop.links.zip c.pieces).take q.1)).1),.im (rI (R7 ((c.loop.links.zip c.pieces).take q.1)).2)]]⟩) (λq=>c.pieces.length-q.1) ⟨0,by simp⟩ (zv [1,2,5,17,18,19] (by simp[R7])) ?_;rintro⟨k,hk1⟩;simp only[iv];by_cases hlt:k<c.pieces.length
  ·have hlt2:k<c.loop.links.length:=by omega
   have hw:=zk k;have hb1:=pn hok (Nat.le_of_lt hlt);have hb2:=pn hok (show k+1<=c.pieces.length by omega);have hst:=qw hok hlt hlt2;have hp:=iV hok hlt;unfold P2 at hp;rw[hst] at hb2;generalize hx:c.pieces[k]=x at *;generalize hy:c.loop.links[k]=y at *;generalize R7 ((c.loop.links.zip c.pieces).take k)=s at *;unfold E5 at hst hb2;cases hbk:y.back
   ·rw[if_neg (by simp[hbk])] at hst hb2;simp only at hb2;have hw1:IntKind.i64.wrap (s.1+x.lo)=s.1+x.lo:=n4 (by omega) (by omega);have hw2:IntKind.i64.wrap (s.2+x.hi)=s.2+x.hi:=n4 (by omega) (by omega);have hs:=za hx (za hy (za hlt (za hlt2 (za hw (za hw1 (za hw2 hbk))))));repeat' first|with_reducible refine zz ?_|simp -dsimp[hs]|refine zM 8 52 8 QB ?_|with_reducible refine zE QB ?_|refine i8 ?_ ?_<;>intro h<;>try exact h.elim
    all_goals exact zn ⟨k+1,by omega⟩ (zw [1,2,5,17,18,19] 3 (by simp[hst]))
   ·rw[if_pos hbk] at hst hb2;simp only at hb2;have hw1:IntKind.i64.wrap (-x.hi)=-x.hi:=n4 (by omega) (by omega);have hw2:IntKind.i64.wrap (-x.lo)=-x.lo:=n4 (by omega) (by omega);have hw3:IntKind.i64.wrap (s.1 + -x.hi)=s.1-x.hi:=by rw[n4 (by omega) (by omega)];omega
    have hw4:IntKind.i64.wrap (s.2 + -x.lo)=s.2-x.lo:=by rw[n4 (by omega) (by omega)];omega
    have hs:=za hx (za hy (za hlt (za hlt2 (za hw (za hw1 (za hw2 (za hw3 (za hw4 hbk))))))));repeat' first|with_reducible refine zz ?_|simp -dsimp[hs]|refine zM 8 52 8 QB ?_|with_reducible refine zE QB ?_|refine i8 ?_ ?_<;>intro h<;>try exact h.elim
    all_goals exact zn ⟨k+1,by omega⟩ (zw [1,2,5,17,18,19] 3 (by simp[hst]))
  ·obtain rfl:k=c.pieces.length:=by omega
   have hall:(c.loop.links.zip c.pieces).take c.pieces.length=c.loop.links.zip c.pieces:=List.take_of_length_le (by rw[List.length_zip];omega);rw[hall];have hs:=hlt;repeat' first|(with_reducible first|refine zz ?_|refine zr ?_|refine zE QB ?_)|simp -dsimp[hs]|refine i8 ?_ ?_<;>intro h<;>try exact h.elim
 ·have hE:bJ c=(0,0):=by unfold bJ;rw[if_neg h0]
  rw[hE];have hs:=h0;repeat' first|(with_reducible first|refine zz ?_|refine zr ?_|refine zE QB ?_)|simp -dsimp[hs]|refine zp c1 ?_|refine i8 ?_ ?_<;>intro h<;>try exact h.elim
def rF (c:Case) (s:Int×Int):Int:=if s.2<c.loop.lo\/s.1 > c.loop.hi then 0 else if c.loop.lo<=s.1/\s.2<=c.loop.hi then 2 else 1
noncomputable def da (c:Case):Int:=if q8 c=0 then rF c (bJ c) else 0
theorem By {c:Case} {s:Int×Int} (h:s.1<=s.2):U6 s.1 s.2 c.loop.lo c.loop.hi=decide (c.loop.lo<=s.1/\s.2<=c.loop.hi):=by
 unfold U6;rw[decide_eq_decide];omega
@[simp] abbrev Wc:List Nat:=[0,1,2,3,4,5,6,15,33]
theorem wd (c:Case) (hG:o4 G) (hN:E2 G) (hS:u5 G) (hR:w0 G) (hk:KC c):zP prog G 39 [l7 c] (.tup [sY (da c),iv (q8 c)]):=by
 refine zf func39 ntmps39 ?_;try simp only[iv]
 have c1:=Cn (G:=G) c hG hN hS hR hk;simp only[l7,j0,E1] at c1;by_cases h0:q8 c=0
 ·have hok:=I5 (A2 h0).2;have hE:da c=rF c (bJ c):=by unfold da;rw[if_pos h0]
  have hS:bJ c=R7 (c.loop.links.zip c.pieces):=by unfold bJ;rw[if_pos h0]
  have hle:(bJ c).1<=(bJ c).2:=by rw[hS];exact(lF hok.p).1
  have c2:=bY (G:=G) (bJ c).1 (bJ c).2 c.loop.lo c.loop.hi;rw[By (c:=c) (s:=bJ c) hle] at c2;rw[hE];rw[h0] at c1 ⊢;unfold rF;generalize bJ c=s at *;simp only[E1] at c2;by_cases h1:s.2<c.loop.lo\/s.1 > c.loop.hi
  ·rw[if_pos h1];by_cases h2:s.2<c.loop.lo
   ·have hs:=h2;repeat' first|(with_reducible first|refine zz ?_|refine zr ?_|refine zE Wc ?_)|simp -dsimp[hs]|refine zp c1 ?_|refine i8 ?_ ?_<;>intro h<;>try exact h.elim
   ·have h3:c.loop.hi<s.1:=by omega
    have hs:=za h2 h3;repeat' first|(with_reducible first|refine zz ?_|refine zr ?_|refine zE Wc ?_)|simp -dsimp[hs]|refine zp c1 ?_|refine i8 ?_ ?_<;>intro h<;>try exact h.elim
  ·rw[if_neg h1];have h2:¬ s.2<c.loop.lo:=by omega
   have h3:¬ c.loop.hi<s.1:=by omega
   by_cases h4:c.loop.lo<=s.1/\s.2<=c.loop.hi
   ·rw[if_pos h4];rw[decide_eq_true h4] at c2;have hs:=za h2 h3;repeat' first|(with_reducible first|refine zz ?_|refine zr ?_|refine zE Wc ?_)|simp -dsimp[hs]|refine zp c1 ?_|refine zp c2 ?_|refine i8 ?_ ?_<;>intro h<;>try exact h.elim
   ·rw[if_neg h4];rw[decide_eq_false h4] at c2;have hs:=za h2 h3;repeat' first|(with_reducible first|refine zz ?_|refine zr ?_|refine zE Wc ?_)|simp -dsimp[hs]|refine zp c1 ?_|refine zp c2 ?_|refine i8 ?_ ?_<;>intro h<;>try exact h.elim
 ·have hE:da c=0:=by unfold da;rw[if_neg h0]
  rw[hE];have hs:=h0;repeat' first|(with_reducible first|refine zz ?_|refine zr ?_|refine zE Wc ?_)|simp -dsimp[hs]|refine zp c1 ?_|refine i8 ?_ ?_<;>intro h<;>try exact h.elim
noncomputable def C7 (c:Case) (k:Nat):List Int:=match c.pieces[k]?,c.loop.links[k]? with
 | some x,some y=>P5 c.p x.day x.holder y.drawing
 | _,_=>[]
theorem ia {c:Case} {k:Nat} (h1:k<c.pieces.length) (h2:k<c.loop.links.length):C7 c k=P5 c.p c.pieces[k].day c.pieces[k].holder c.loop.links[k].drawing:=by
 unfold C7;rw[List.getElem?_eq_getElem h1,List.getElem?_eq_getElem h2]
noncomputable def Z9 (c:Case) (n:Int):Int:=if q8 c≠0 then q8 c else if 0<=n/\n<c.pieces.length then 0 else 2
noncomputable def kA (c:Case) (n:Int):List Int:=if Z9 c n=0 then C7 c n.toNat else []
theorem AN (c:Case) (k:Nat) (h1:k<c.pieces.length) (h2:k<c.loop.links.length) (hG:o4 G) (hN:E2 G) (hS:u5 G) (hR:w0 G) (hk:KC c):zP prog G 81 [l7 c,iv (k:Int)] (r5 (C7 c k)):=by
 refine zf func81 ntmps81 ?_;try simp only[iv]
 rw[ia h1 h2];generalize hx:c.pieces[k]=x at *;generalize hy:c.loop.links[k]=y at *;have c1:=lS (G:=G) c.p x.day x.holder y.drawing hG hN hS hR hk.p;simp only[D8,p7] at c1;generalize P5 c.p x.day x.holder y.drawing=L at *;generalize O1 c.p x.day 1 x.holder y.drawing=e at *;have hs:=za hx (za hy (za h1 h2));repeat' first|(with_reducible first|refine zz ?_|refine zr ?_)|simp -dsimp[hs]|refine zq c1 ?_|refine zM 2 31 19 [0,1,2,4,5,6] ?_|with_reducible refine zE [0,1,2,4,5,6] ?_
@[simp] abbrev WK:List Nat:=[0,1,2,4,5,6,10,19]
theorem mQ (c:Case) (n:Int) (hG:o4 G) (hN:E2 G) (hS:u5 G) (hR:w0 G) (hk:KC c):zP prog G 35 [l7 c,iv n] (.tup [r5 (kA c n),iv (Z9 c n)]):=by
 refine zf func35 ntmps35 ?_;try simp only[iv]
 have c1:=iS (G:=G) c hG hN hS hR hk;have hq:=hk.q;by_cases h0:q8 c=0
 ·have hok:=I5 (A2 h0).2;have hE:Z9 c n=if 0<=n/\n<c.pieces.length then 0 else 2:=by unfold Z9;rw[if_neg (by simp[h0])]
  have hlen:=hok.e;have hl:=hok.l;have hw:IntKind.i64.wrap ((c.pieces.length:Int)-1)=(c.pieces.length:Int)-1:=n4 (by omega) (by omega);have c2:=O4 (G:=G) 0 ((c.pieces.length:Int)-1) [n] (by simp);unfold kA;rw[hE];rw[h0] at c1;by_cases hn:0<=n/\n<c.pieces.length
  ·rw[if_pos hn,if_pos rfl];obtain⟨k,rfl⟩:=Int.eq_ofNat_of_zero_le hn.1;rw[Int.toNat_natCast];have c3:=AN (G:=G) c k (by omega) (by omega) hG hN hS hR hk;rw[show ([(k:Int)].all λy=>decide (0<=y)&&decide (y<=(c.pieces.length:Int)-1))=true by simp;omega] at c2;generalize C7 c k=L at *;simp only[l7,j0] at c1 c3;have hs:=hw;repeat' first|(with_reducible first|refine zz ?_|refine zr ?_|refine zE WK ?_)|simp -dsimp[hs]|refine zp c1 ?_|refine zt c2 ?_ ?_ ?_;(focus simp;done);focus (simp;done)|refine zp c3 ?_|refine i8 ?_ ?_<;>intro h<;>try exact h.elim
  ·rw[if_neg hn,if_neg (by decide)];rw[show ([n].all λy=>decide (0<=y)&&decide (y<=(c.pieces.length:Int)-1))=false by simp;omega] at c2;simp only[l7,j0] at c1;have hs:=hw;repeat' first|(with_reducible first|refine zz ?_|refine zr ?_|refine zE WK ?_)|simp -dsimp[hs]|refine zp c1 ?_|refine zt c2 ?_ ?_ ?_;(focus simp;done);focus (simp;done)|refine i8 ?_ ?_<;>intro h<;>try exact h.elim
 ·have hE:Z9 c n=q8 c:=by unfold Z9;rw[if_pos h0]
  have hO:kA c n=[]:=by unfold kA;rw[if_neg (by rw[hE];exact h0)]
  rw[hE,hO];simp only[l7,j0] at c1;have hs:=h0;repeat' first|(with_reducible first|refine zz ?_|refine zr ?_|refine zE WK ?_)|simp -dsimp[hs]|refine zp c1 ?_|refine i8 ?_ ?_<;>intro h<;>try exact h.elim
theorem bG (n lo hi:Int):zP prog G 232 [iv n,iv lo,iv hi] (bv (decide (lo<=n)&&decide (n<=hi))):=by
 refine zf func232 ntmps232 ?_;try simp only[iv,iv,iv]
 have hs:=trivial;repeat' first|(with_reducible first|refine zz ?_|refine zr ?_|refine zE [0,1,2,6] ?_)|simp -dsimp[hs]|with_reducible refine j5 ?_ ?_<;>intro h<;>have h0:=h<;>(try simp only[i7] at h)<;>have h2:=h<;>(try simp at h2)<;>replace hs:=za h0 (za h (za h2 hs))
 all_goals try clear hs
 all_goals simp[*]
theorem GX (l:List Int) (n:Int) (hl:l.length<1000000):zP prog G 233 [r5 l,iv n] (bv (decide (n∈l))):=by
 refine zf func233 ntmps233 ?_;try simp only[r5,iv]
 have hs:=trivial;repeat' first|(with_reducible first|refine zz ?_|refine zE [0,1,4,5,9,17] ?_)|simp -dsimp[hs]
 refine i6 (ι:={ k:Nat // k<=l.length/\decide (n∈l)=decide (n∈l.drop k) }) (λi=>⟨18,[(0,r5 l),(1,iv n),(5,iv (i.1:Int))],[]⟩) (λi=>l.length-i.1) ⟨0,by simp⟩ (zv [0,1,5]) ?_;rintro⟨i,hi,hno⟩;simp only[iv,r5];by_cases hlt:i<l.length
 ·have hw:=zk i;rw[List.drop_eq_getElem_cons hlt] at hno;generalize hx:l[i]=x at *;have hs:=za hx (za hw hlt);repeat' first|(with_reducible first|refine zz ?_|refine zr ?_|refine zE [0,1,4,5,9,17] ?_)|simp -dsimp[hs]|refine i8 ?_ ?_<;>intro h<;>try exact h.elim
  all_goals try clear hs
  ·exact of_decide_eq_true (by rw[hno];simp[*])
  ·exact zn ⟨i+1,by omega,by rw[hno,decide_eq_decide,List.mem_cons];exact or_iff_right (λe=>absurd e.symm (by assumption))⟩ (zv [0,1,5])
 ·rw[List.drop_eq_nil_of_le (by omega)] at hno;have hs:=hlt;repeat' first|(with_reducible first|refine zz ?_|refine zr ?_|refine zE [0,1,4,5,9,17] ?_)|simp -dsimp[hs]|refine i8 ?_ ?_<;>intro h<;>try exact h.elim
  exact λhm=>by simp[hm] at hno
theorem rz (p:Prints) (n:Int) (hl:p.holders.length<1000):zP prog G 138 [D8 p,iv n] (iv (J1 (λy=>decide (y.id=n)) p.holders)):=by
 refine zf func138 ntmps138 ?_;try simp only[iv]
 have hs:=trivial;repeat' first|(with_reducible first|refine zz ?_|refine zE [0,1,2,4,5,10,20] ?_)|simp -dsimp[hs]
 refine i6 (ι:={ k:Nat // k<=p.holders.length/\∀ (j:Nat) (x:Holder),j<k->p.holders[j]?=some x->decide (x.id=n)=false }) (λi=>⟨22,[(1,iv n),(2,.one (.ptr 0 0)),(5,iv (i.1:Int))],[.row ((p7 p).map .im)]⟩) (λi=>p.holders.length-i.1) ⟨0,by simp⟩ (zv [1,2,5]) ?_;rintro⟨i,hi,hno⟩;simp only[iv];by_cases hlt:i<p.holders.length
 ·have hw:=zk i;have hx0:p.holders[i]?=some p.holders[i]:=by simp[hlt]
  generalize hx:p.holders[i]=x at *;have hs:=za hx (za hw hlt);repeat' first|(with_reducible first|refine zz ?_|refine zr ?_|refine zE [0,1,2,4,5,10,20] ?_)|simp -dsimp[hs]|refine i8 ?_ ?_<;>intro h<;>try exact h.elim
  all_goals try clear hs
  ·exact(N1 hx0 (by simp[*]) hno).symm
  ·exact At.round ⟨i+1,by omega,λj z hj hjx=>by
    by_cases e:j=i
    ·subst e;rw[hx0] at hjx;cases hjx;simp[*]
    ·exact hno j z (by omega) hjx⟩ (by simp;omega) (zv [1,2,5])
 ·have hs:=hlt;repeat' first|(with_reducible first|refine zz ?_|refine zr ?_|refine zE [0,1,2,4,5,10,20] ?_)|simp -dsimp[hs]|refine i8 ?_ ?_<;>intro h<;>try exact h.elim
  exact(T4 λj z hjx=>hno j z (by have:=e7 hjx;omega) hjx).symm
@[simp] abbrev QC:List Nat:=[0,1,2,4,5,6,7,51,60,88]
open Classical in
theorem wD (p:Prints) (k:Nat) (x:Holder) (hx0:p.holders[k]?=some x) (hsm:SmallP p):zP prog G 182 [D8 p,iv (k:Int)] (bv (decide (sS (nums p.n.reg) p.holders k x))):=by
 refine zf func182 ntmps182 ?_;try simp only[iv]
 have hlt:k<p.holders.length:=e7 hx0;have hx:p.holders[k]=x:=(List.getElem?_eq_some_iff.1 hx0).2;have hdl:x.draws.length<=20:=hsm.d x (by rw[<- hx];exact List.getElem_mem hlt);have hh:=hsm.h;have hr:=hsm.r;have hrl:=hsm.l;have c1:=bG (G:=G) x.id 1 9999;have c2:=bG (G:=G) x.frm 1 x.to;have c3:=bT (G:=G) p.n.reg (by omega);have c4:=λd=>GX (G:=G) (nums p.n.reg) d (by omega);have hs:True:=trivial;by_cases hA:JY p.holders k x
 ·obtain⟨a1,a3,a4,a6,a8,a9⟩:=id hA;rw[show (decide (1<=x.id)&&decide (x.id<=9999))=true by simp;omega] at c1;rw[show (decide (1<=x.frm)&&decide (x.frm<=x.to))=true by simp;omega] at c2;have a8':¬ (999:Int)<x.to:=by omega
  have a9':¬ (8:Int)<x.draws.length:=by omega
  have hcs:(¬ 0<k/\True/\∃ _:True,True)\/(0<k/\IntKind.i64.wrap ((k:Int)-1)=((k-1:Nat):Int)/\∃ h:k-1<p.holders.length,¬ x.id<=(p.holders[k-1]'h).id):=by
   rcases Nat.eq_zero_or_pos k with h0|h0
   ·exact .inl ⟨by omega,trivial,trivial,trivial⟩
   ·have h1:k-1<p.holders.length:=by omega
    exact .inr ⟨by omega,by rw[n4 (by omega) (by omega)];omega,h1,by have:=a3 h0 _ (List.getElem?_eq_getElem h1);omega⟩
  rcases hcs with⟨hk0,hwm,hi1,hlt1⟩|⟨hk0,hwm,hi1,hlt1⟩
  all_goals
   have hs:=za hx (za hlt (za a8' (za a9' (za hk0 (za hwm (za hi1 hlt1))))));repeat' first|with_reducible refine zz ?_|simp -dsimp[hs]|refine zq c1 ?_|refine zq c2 ?_|refine zp c3 ?_|refine zM 2 89 39 QC ?_|with_reducible refine zE QC ?_|refine i8 ?_ ?_<;>intro h<;>try exact h.elim
  all_goals
   refine i6 (ι:={ j:Nat // j<=x.draws.length/\∀ (i:Nat) (d:Int),i<j->x.draws[i]?=some d->Ew (nums p.n.reg) x.draws i d }) (λq=>⟨89,[(5,.one (.ptr 2 0)),(6,r5 (nums p.n.reg)),(7,iv (q.1:Int))],[.row ((p7 p).map .im),.vec 0 [] 0 true,.row ((o7 x).map .im)]⟩) (λq=>x.draws.length-q.1) ⟨0,by simp⟩ (zv [5,6,7]) ?_;rintro⟨j,hj,hjok⟩;simp only[iv,r5];by_cases hlj:j<x.draws.length
   ·have hx1:x.draws[j]?=some x.draws[j]:=by simp[hlj]
    have hwj:=zk j;have c5:=c4 x.draws[j];have hcj:(¬ 0<j/\True/\∃ _:True,True)\/(0<j/\IntKind.i64.wrap ((j:Int)-1)=((j-1:Nat):Int)/\∃ h:j-1<x.draws.length,True):=by
     rcases Nat.eq_zero_or_pos j with h0|h0
     ·exact .inl ⟨by omega,trivial,trivial,trivial⟩
     ·exact .inr ⟨by omega,by rw[n4 (by omega) (by omega)];omega,by omega,trivial⟩
    have hbadj:¬ Ew (nums p.n.reg) x.draws j x.draws[j]->decide (sS (nums p.n.reg) p.holders k x)=false:=λh=>decide_eq_false λh'=>h (h'.2 j _ hx1);have hstj:Ew (nums p.n.reg) x.draws j x.draws[j]->∀ (i:Nat) (d:Int),i<j+1->x.draws[i]?=some d->Ew (nums p.n.reg) x.draws i d:=λh i d hi hd=>by
     by_cases e:i=j
     ·subst e;rw[hx1] at hd;cases hd;exact h
     ·exact hjok i d (by omega) hd
    generalize decide (sS (nums p.n.reg) p.holders k x)=B at *;rcases hcj with⟨hj0,hwmj,hij,-⟩|⟨hj0,hwmj,hij,-⟩
    all_goals
     have hs:=za hx1 (za hlj (za hj0 (za hwmj (za hij hwj))));repeat' first|(with_reducible first|refine zz ?_|refine zr ?_)|simp -dsimp[hs]|refine zq c5 ?_|refine zM 8 89 26 QC ?_|with_reducible refine zE QC ?_|refine i8 ?_ ?_<;>intro h<;>try exact h.elim|with_reducible refine j5 ?_ ?_<;>intro h<;>have h0:=h<;>(try simp only[i7] at h)<;>have h2:=h<;>(try simp at h2)<;>replace hs:=za h0 (za h (za h2 hs))
     all_goals try clear hs
    all_goals first
     | exact zn ⟨j+1,by omega,hstj ⟨of_decide_eq_true (by assumption),λh1 e he=>by first|omega|(obtain⟨_,rfl⟩:=List.getElem?_eq_some_iff.1 he;omega)⟩⟩ (zv [5,6,7])
     | (refine hbadj λhh=>?_;have:=hh.1;simp_all;done)
     | (refine hbadj λhh=>?_;have:=hh.2 (by omega) _ (List.getElem?_eq_getElem hij);omega)
   ·have hyes:decide (sS (nums p.n.reg) p.holders k x)=true:=decide_eq_true ⟨hA,λi d hd=>hjok i d (by have:=e7 hd;omega) hd⟩;rw[hyes];have hs:=hlj;repeat' first|(with_reducible first|refine zz ?_|refine zr ?_|refine zE QC ?_)|simp -dsimp[hs]|refine i8 ?_ ?_<;>intro h<;>try exact h.elim
 ·have hno:decide (sS (nums p.n.reg) p.holders k x)=false:=decide_eq_false λh=>hA h.1;rw[hno];generalize hb1:(decide (1<=x.id)&&decide (x.id<=9999))=b1 at c1;generalize hb2:(decide (1<=x.frm)&&decide (x.frm<=x.to))=b2 at c2;have hcs:(¬ 0<k/\True/\∃ _:True,True)\/(0<k/\IntKind.i64.wrap ((k:Int)-1)=((k-1:Nat):Int)/\∃ h:k-1<p.holders.length,True):=by
   rcases Nat.eq_zero_or_pos k with h0|h0
   ·exact .inl ⟨by omega,trivial,trivial,trivial⟩
   ·exact .inr ⟨by omega,by rw[n4 (by omega) (by omega)];omega,by omega,trivial⟩
  rcases hcs with⟨hk0,hwm,hi1,-⟩|⟨hk0,hwm,hi1,-⟩<;>cases b1<;>cases b2
  all_goals
   have hs:=za hx (za hlt (za hk0 (za hwm hi1)));repeat' first|(with_reducible first|refine zz ?_|refine zr ?_)|simp -dsimp[hs]|refine zq c1 ?_|refine zq c2 ?_|refine zM 2 89 39 QC ?_|with_reducible refine zE QC ?_|refine i8 ?_ ?_<;>intro h<;>try exact h.elim|with_reducible refine j5 ?_ ?_<;>intro h<;>have h0:=h<;>(try simp only[i7] at h)<;>have h2:=h<;>(try simp at h2)<;>replace hs:=za h0 (za h (za h2 hs))
  ·refine absurd ?_ hA;simp at hb1 hb2;exact⟨by omega,λh1=>by omega,by omega,by omega,by omega,by omega⟩
  ·refine absurd ?_ hA;simp at hb1 hb2;exact⟨by omega,λh1 y hy=>by
    obtain⟨_,rfl⟩:=List.getElem?_eq_some_iff.1 hy
    simp_all<;>omega,by omega,by omega,by omega,by omega⟩
theorem Au (l:List Issue) (x:Print):(n9 l x.drawing x.letter).isSome=Gk l x:=by
 unfold n9 Gk;rw[Bool.eq_iff_iff,List.find?_isSome,List.any_eq_true];refine exists_congr λy=>and_congr_right λ_=>?_;simp only[Bool.and_eq_true,beq_iff_eq,decide_eq_true_eq];constructor<;>exact λ⟨h1,h2⟩=>⟨h1.symm,h2.symm⟩
theorem DD (p:Prints) (i:Nat) (x:Print):wS p i x↔(0<i->∀ y,p.prints[i-1]?=some y->y.number<x.number)/\HP x=true/\Iw p.holders x=true/\Gk p.n.reg x=true/\HO x=true/\HN x=true:=by
 refine and_congr_right λ_=>⟨λh=>⟨h 0 (by omega),h 1 (by omega),h 2 (by omega),h 3 (by omega),h 4 (by omega)⟩,λ⟨h1,h2,h3,h4,h5⟩ c hc=>?_⟩
 match c,hc with
 | 0,_=>exact h1
 | 1,_=>exact h2
 | 2,_=>exact h3
 | 3,_=>exact h4
 | 4,_=>exact h5
theorem zO {B b1 b2 b3 b4 b5:Bool} {O:Prop} {f l r:Int} (hf3:b3=true↔¬ f<0) (hP:B=true↔O/\(b1&&b2)=true/\b3=true/\b4=true/\decide (l<=2)=true/\(decide (r=-1)||b5&&decide (l=0))=true):(b1=false/\True/\True/\True/\True/\True/\True/\B=false)\/(¬ O/\B=false)\/(O/\((b1=true/\b2=false/\True/\True/\True/\True/\True/\B=false)\/(b1=true/\b2=true/\f<0/\True/\True/\True/\True/\B=false)\/(b1=true/\b2=true/\¬ f<0/\2<l/\True/\True/\True/\B=false)\/(b1=true/\b2=true/\¬ f<0/\¬ 2<l/\b4=false/\True/\True/\B=false)\/(b1=true/\b2=true/\¬ f<0/\¬ 2<l/\b4=true/\r=-1/\True/\B=true)\/(b1=true/\b2=true/\¬ f<0/\¬ 2<l/\b4=true/\¬ r=-1/\b5=false/\B=false)\/(b1=true/\b2=true/\¬ f<0/\¬ 2<l/\b4=true/\¬ r=-1/\b5=true/\B=decide (l=0)))):=by
 have hn:¬ (O/\(b1&&b2)=true/\b3=true/\b4=true/\decide (l<=2)=true/\(decide (r=-1)||b5&&decide (l=0))=true)->B=false:=λh=>Bool.eq_false_iff.2 λe=>h (hP.1 e);have t:=trivial;by_cases hO:O
 ·cases b1 with
  | false=>exact .inl ⟨rfl,t,t,t,t,t,t,hn λh=>by simpa using h.2.1⟩
  | true =>
    refine .inr (.inr ⟨hO,?_⟩);cases b2 with
    | false=>exact .inl ⟨rfl,rfl,t,t,t,t,t,hn λh=>by simpa using h.2.1⟩
    | true =>
      by_cases q2:f<0
      ·exact .inr (.inl ⟨rfl,rfl,q2,t,t,t,t,hn λh=>hf3.1 h.2.2.1 q2⟩)
      ·by_cases q3:2<l
       ·exact .inr (.inr (.inl ⟨rfl,rfl,q2,q3,t,t,t,hn λh=>by have:=of_decide_eq_true h.2.2.2.2.1;omega⟩))
       ·have h2:decide (l<=2)=true:=decide_eq_true (by omega);have hb3:b3=true:=hf3.2 q2;cases b4 with
        | false=>exact .inr (.inr (.inr (.inl ⟨rfl,rfl,q2,q3,rfl,t,t,hn λh=>Bool.noConfusion h.2.2.2.1⟩)))
        | true =>
          by_cases q4:r=-1
          ·exact .inr (.inr (.inr (.inr (.inl ⟨rfl,rfl,q2,q3,rfl,q4,t,hP.2 ⟨hO,rfl,hb3,rfl,h2,by rw[decide_eq_true q4];rfl⟩⟩))))
          ·cases b5 with
           | false=>exact .inr (.inr (.inr (.inr (.inr (.inl ⟨rfl,rfl,q2,q3,rfl,q4,rfl,hn λh=>by have:=h.2.2.2.2.2;rw[decide_eq_false q4] at this;simp at this⟩)))))
           | true =>
             refine .inr (.inr (.inr (.inr (.inr (.inr ⟨rfl,rfl,q2,q3,rfl,q4,rfl,?_⟩)))));by_cases q5:l=0
             ·rw[decide_eq_true q5];exact hP.2 ⟨hO,rfl,hb3,rfl,h2,by rw[decide_eq_true q5];simp⟩
             ·rw[decide_eq_false q5];exact hn λh=>by have:=h.2.2.2.2.2;rw[decide_eq_false q4,decide_eq_false q5] at this;simp at this
 ·exact .inr (.inl ⟨hO,hn λh=>hO h.1⟩)
@[simp] abbrev QP:List Nat:=[0,1,2,4,5,7,50,61]
open Classical in
theorem Ac (p:Prints) (k:Nat) (x:Print) (hx0:p.prints[k]?=some x) (hsm:SmallP p):zP prog G 183 [D8 p,iv (k:Int)] (bv (decide (wS p k x))):=by
 refine zf func183 ntmps183 ?_;try simp only[iv]
 have hlt:k<p.prints.length:=e7 hx0;have hx:p.prints[k]=x:=(List.getElem?_eq_some_iff.1 hx0).2;have hlo:=hsm.lo x (by rw[<- hx];exact List.getElem_mem hlt);have hh:=hsm.h;have hrl:=hsm.l;have hql:=hsm.q;have c1:=bG (G:=G) x.number 1 9999;have c2:=bG (G:=G) x.day 0 14610;have c3:=rz (G:=G) p x.holder (by omega);have c4:=uk (G:=G) p.n.reg x.drawing x.letter (by omega);have c5:=bG (G:=G) x.back x.day 14610;have hf:=vS (λy:Holder=>decide (y.id=x.holder)) p.holders;have hP:=DD p k x;rw[<- Au,show Iw p.holders x=p.holders.any (λy=>decide (y.id=x.holder)) from rfl] at hP;simp only[E1] at c4;generalize J1 (λy:Holder=>decide (y.id=x.holder)) p.holders=f at *;generalize (p.holders.any λy=>decide (y.id=x.holder))=b3 at *;generalize (n9 p.n.reg x.drawing x.letter).isSome=b4 at *;generalize (n9 p.n.reg x.drawing x.letter).getD I8=z at *;generalize hB:decide (wS p k x)=B;have hP':B=true↔wS p k x:=by rw[<- hB,decide_eq_true_eq]
 rw[hP] at hP';clear hP hB;generalize hb1:(decide (1<=x.number)&&decide (x.number<=9999))=b1 at c1;generalize hb2:(decide (0<=x.day)&&decide (x.day<=14610))=b2 at c2;generalize hb5:(decide (x.day<=x.back)&&decide (x.back<=14610))=b5 at c5;have e1:HP x=(b1&&b2):=by rw[<- hb1,<- hb2];rfl
 have e5:HN x=(decide (x.back=-1)||b5&&decide (x.lost=0)):=by rw[<- hb5];rfl
 rw[e1,e5,show HO x=decide (x.lost<=2) from rfl] at hP';clear e1 e5 hb1 hb2 hb5;have hf3:b3=true↔¬ f<0:=by cases b3<;>simpa using hf
 clear hf;have hs:True:=trivial;have hcs:(¬ 0<k/\True/\(∃ _:True,True)/\(0<k->∀ y,p.prints[k-1]?=some y->y.number<x.number))\/(0<k/\IntKind.i64.wrap ((k:Int)-1)=((k-1:Nat):Int)/\(∃ h:k-1<p.prints.length,¬ x.number<=(p.prints[k-1]'h).number)/\(0<k->∀ y,p.prints[k-1]?=some y->y.number<x.number))\/(0<k/\IntKind.i64.wrap ((k:Int)-1)=((k-1:Nat):Int)/\(∃ h:k-1<p.prints.length,x.number<=(p.prints[k-1]'h).number)/\¬ (0<k->∀ y,p.prints[k-1]?=some y->y.number<x.number)):=by
  rcases Nat.eq_zero_or_pos k with h0|h0
  ·exact .inl ⟨by omega,trivial,⟨trivial,trivial⟩,λh=>by omega⟩
  ·have h1:k-1<p.prints.length:=by omega
   have h2:=List.getElem?_eq_getElem h1;have hw:IntKind.i64.wrap ((k:Int)-1)=((k-1:Nat):Int):=by rw[n4 (by omega) (by omega)];omega
   by_cases h3:x.number<=(p.prints[k-1]'h1).number
   ·exact .inr (.inr ⟨h0,hw,⟨h1,h3⟩,λh=>by have:=h h0 _ h2;omega⟩)
   ·exact .inr (.inl ⟨h0,hw,⟨h1,h3⟩,λ_ y hy=>by rw[h2] at hy;cases hy;omega⟩)
 generalize (0<k->∀ y,p.prints[k-1]?=some y->y.number<x.number)=O at *;have hc2:=zO hf3 hP';rcases hc2 with⟨g1,g2,g3,g4,g5,g6,g7,gB⟩|⟨hO,gB⟩|⟨hO,hc2⟩
 ·clear hcs;have hs:=za hx (za hlt g1);repeat' first|(with_reducible first|refine zz ?_|refine zr ?_)|simp -dsimp[hs]|refine zq c1 ?_|refine zM 2 77 38 QP ?_|with_reducible refine zE QP ?_|refine i8 ?_ ?_<;>intro h<;>try exact h.elim
  all_goals try clear hs
  all_goals exact gB
 ·rcases hcs with⟨hk0,hwm,⟨hi1,hlt1⟩,hO1⟩|⟨hk0,hwm,⟨hi1,hlt1⟩,hO1⟩|⟨hk0,hwm,⟨hi1,hlt1⟩,hO1⟩
  ·exact absurd hO1 hO
  ·exact absurd hO1 hO
  ·cases b1
   all_goals
    have hs:=za hx (za hlt (za hk0 (za hwm (za hi1 hlt1))));repeat' first|(with_reducible first|refine zz ?_|refine zr ?_)|simp -dsimp[hs]|refine zq c1 ?_|refine zM 2 77 38 QP ?_|with_reducible refine zE QP ?_|refine i8 ?_ ?_<;>intro h<;>try exact h.elim
    all_goals try clear hs
   all_goals exact gB
 ·rcases hc2 with⟨g1,g2,g3,g4,g5,g6,g7,gB⟩|⟨g1,g2,g3,g4,g5,g6,g7,gB⟩|⟨g1,g2,g3,g4,g5,g6,g7,gB⟩|⟨g1,g2,g3,g4,g5,g6,g7,gB⟩|⟨g1,g2,g3,g4,g5,g6,g7,gB⟩|⟨g1,g2,g3,g4,g5,g6,g7,gB⟩|⟨g1,g2,g3,g4,g5,g6,g7,gB⟩<;>rcases hcs with⟨hk0,hwm,⟨hi1,hlt1⟩,hO1⟩|⟨hk0,hwm,⟨hi1,hlt1⟩,hO1⟩|⟨hk0,hwm,⟨hi1,hlt1⟩,hO1⟩
  all_goals first
   | exact absurd hO hO1
   | skip
  all_goals
   have hs:=za hx (za hlt (za hk0 (za hwm (za hi1 (za hlt1 (za g1 (za g2 (za g3 (za g4 (za g5 (za g6 g7)))))))))));repeat' first|(with_reducible first|refine zz ?_|refine zr ?_)|simp -dsimp[hs]|refine zq c1 ?_|refine zq c2 ?_|refine zq c3 ?_|refine zp c4 ?_|refine zp c5 ?_|refine zM 2 77 38 QP ?_|with_reducible refine zE QP ?_|refine i8 ?_ ?_<;>intro h<;>try exact h.elim
   all_goals try clear hs
  all_goals first
   | exact gB
   | exact gB.symm
   | trace_state
@[simp] abbrev Qo:List Nat:=[0,1,2,3,4,14,19,25,30,36]
open Classical in
theorem wI (p:Prints) (hsm:SmallP p):zP prog G 134 [D8 p] (bv (G5 p)):=by
 refine zf func134 ntmps134 ?_;try simp only[iv]
 have hh:=hsm.h;have hq:=hsm.q;by_cases h6:¬ p.holders.length<=6
 ·have h6':(6:Int)<p.holders.length:=by omega
  have hno:=L8 (p:=p) λh=>h6 h.hl;have hs:=h6';repeat' first|(with_reducible first|refine zz ?_|refine zr ?_|refine zE Qo ?_)|simp -dsimp[hs]|refine i8 ?_ ?_<;>intro h<;>try exact h.elim
  all_goals try clear hs
  all_goals simp[hno]
 replace h6:=Classical.not_not.1 h6;have h6':¬ (6:Int)<p.holders.length:=by omega
 by_cases h30:¬ p.prints.length<=30
 ·have h30':(30:Int)<p.prints.length:=by omega
  have hno:=L8 (p:=p) λh=>h30 h.pl;have hs:=za h6' h30';repeat' first|(with_reducible first|refine zz ?_|refine zr ?_|refine zE Qo ?_)|simp -dsimp[hs]|refine i8 ?_ ?_<;>intro h<;>try exact h.elim
  all_goals try clear hs
  all_goals simp[hno]
 replace h30:=Classical.not_not.1 h30;have h30':¬ (30:Int)<p.prints.length:=by omega
 have hs:=za h6' h30';repeat' first|(with_reducible first|refine zz ?_|refine zE Qo ?_)|simp -dsimp[hs]|refine i8 ?_ ?_<;>intro h<;>try exact h.elim
 all_goals try clear hs
 refine i6 (ι:={ k:Nat // k<=p.holders.length/\∀ (j:Nat) (x:Holder),j<k->p.holders[j]?=some x->sS (nums p.n.reg) p.holders j x }) (λq=>⟨37,[(1,.one (.ptr 0 0)),(3,iv (q.1:Int))],[.row ((p7 p).map .im)]⟩) (λq=>p.holders.length-q.1) ⟨0,by simp⟩ (zv [1,3]) ?_;rintro⟨k,hk,hok⟩;simp only[iv];by_cases hlt:k<p.holders.length
 ·have hx0:p.holders[k]?=some p.holders[k]:=by simp[hlt]
  have hw:=zk k;have c1:=wD (G:=G) p k _ hx0 hsm;generalize hx:p.holders[k]=x at *;have hstep:sS (nums p.n.reg) p.holders k x->∀ (j:Nat) (z:Holder),j<k+1->p.holders[j]?=some z->sS (nums p.n.reg) p.holders j z:=λh j z hj hz=>by
   by_cases e:j=k
   ·subst e;rw[hx0] at hz;cases hz;exact h
   ·exact hok j z (by omega) hz
  by_cases hB:sS (nums p.n.reg) p.holders k x
  ·rw[decide_eq_true hB] at c1;have hs:=za hlt hw;repeat' first|(with_reducible first|refine zz ?_|refine zE Qo ?_)|simp -dsimp[hs]|refine zp c1 ?_|refine i8 ?_ ?_<;>intro h<;>try exact h.elim
   all_goals try clear hs
   exact zn ⟨k+1,by omega,hstep hB⟩ (zv [1,3])
  ·rw[decide_eq_false hB] at c1;have hno:=L8 (p:=p) λh'=>hB (h'.h k x hx0);have hs:=za hlt hw;repeat' first|(with_reducible first|refine zz ?_|refine zr ?_|refine zE Qo ?_)|simp -dsimp[hs]|refine zp c1 ?_|refine i8 ?_ ?_<;>intro h<;>try exact h.elim
   all_goals try clear hs
   all_goals simp[hno]
 have hall:∀ i x,p.holders[i]?=some x->sS (nums p.n.reg) p.holders i x:=λi x hx=>hok i x (by have:=e7 hx;omega) hx;have hs:=hlt;repeat' first|(with_reducible first|refine zz ?_|refine zE Qo ?_)|simp -dsimp[hs]|refine i8 ?_ ?_<;>intro h<;>try exact h.elim
 all_goals try clear hs
 clear hlt hok hk;refine i6 (ι:={ k:Nat // k<=p.prints.length/\∀ (j:Nat) (x:Print),j<k->p.prints[j]?=some x->wS p j x }) (λq=>⟨37,[(1,.one (.ptr 0 0)),(4,iv (q.1:Int))],[.row ((p7 p).map .im)]⟩) (λq=>p.prints.length-q.1) ⟨0,by simp⟩ (zv [1,4]) ?_;rintro⟨k,hk,hok⟩;simp only[iv];by_cases hlt:k<p.prints.length
 ·have hx0:p.prints[k]?=some p.prints[k]:=by simp[hlt]
  have hw:=zk k;have c1:=Ac (G:=G) p k _ hx0 hsm;generalize hx:p.prints[k]=x at *;have hstep:wS p k x->∀ (j:Nat) (z:Print),j<k+1->p.prints[j]?=some z->wS p j z:=λh j z hj hz=>by
   by_cases e:j=k
   ·subst e;rw[hx0] at hz;cases hz;exact h
   ·exact hok j z (by omega) hz
  by_cases hB:wS p k x
  ·rw[decide_eq_true hB] at c1;have hs:=za hlt hw;repeat' first|(with_reducible first|refine zz ?_|refine zE Qo ?_)|simp -dsimp[hs]|refine zp c1 ?_|refine i8 ?_ ?_<;>intro h<;>try exact h.elim
   all_goals try clear hs
   exact zn ⟨k+1,by omega,hstep hB⟩ (zv [1,4])
  ·rw[decide_eq_false hB] at c1;have hno:=L8 (p:=p) λh'=>hB (h'.q k x hx0);have hs:=za hlt hw;repeat' first|(with_reducible first|refine zz ?_|refine zr ?_|refine zE Qo ?_)|simp -dsimp[hs]|refine zp c1 ?_|refine i8 ?_ ?_<;>intro h<;>try exact h.elim
   all_goals try clear hs
   all_goals simp[hno]
 have hyes:G5 p=true:=dO ⟨h6,h30,hall,λi x hx=>hok i x (by have:=e7 hx;omega) hx⟩;rw[hyes];have hs:=hlt;repeat' first|(with_reducible first|refine zz ?_|refine zr ?_|refine zE Qo ?_)|simp -dsimp[hs]|refine i8 ?_ ?_<;>intro h<;>try exact h.elim
 all_goals try clear hs
theorem wJ (p:Prints) (hk:KP p):zP prog G 83 [D8 p] (iv (u4 p)):=by
 refine zf func83 ntmps83 ?_;try simp only[iv]
 have c1:=BV (G:=G) p.n hk.n;have c2:=wI (G:=G) p hk.p;by_cases h0:v7 p.n=0
 ·simp only[h0] at c1;have hE:u4 p=if G5 p=true then 0 else 70:=by unfold u4;rw[if_neg (by simp[h0])]
  rw[hE];generalize G5 p=b at *;cases b
  ·have hs:=trivial;repeat' first|(with_reducible first|refine zz ?_|refine zr ?_|refine zE [0,1,2,3,8,12] ?_)|simp -dsimp[hs]|refine zp c1 ?_|refine zp c2 ?_|refine i8 ?_ ?_<;>intro h<;>try exact h.elim
  ·have hs:=trivial;repeat' first|(with_reducible first|refine zz ?_|refine zr ?_|refine zE [0,1,2,3,8,12] ?_)|simp -dsimp[hs]|refine zp c1 ?_|refine zp c2 ?_|refine i8 ?_ ?_<;>intro h<;>try exact h.elim
 ·have hE:u4 p=v7 p.n:=by unfold u4;rw[if_pos h0]
  rw[hE];have hs:=h0;repeat' first|(with_reducible first|refine zz ?_|refine zr ?_|refine zE [0,1,2,3,8,12] ?_)|simp -dsimp[hs]|refine zp c1 ?_|refine i8 ?_ ?_<;>intro h<;>try exact h.elim
end Go.Proofs
namespace Go.Ab
open Go
def lexB:List Int->List Int->Bool
 | a :: x,b :: y=>if a=b then lexB x y else decide (a<b)
 | _,_=>false
theorem ij {l:List Int} (h:l.Nodup):(j8 l).Pairwise (· < ·):=by
 have h1:(j8 l).Nodup:=(List.mergeSort_perm l _).nodup_iff.2 h;have h2:=List.pairwise_mergeSort (le:=λx y:Int=>decide (x<=y)) (λa b c h1 h2=>by simp at *;omega) (λa b=>by simp;omega) l;rw[List.nodup_iff_pairwise_ne] at h1;refine(h1.and h2).imp ?_;rintro a b ⟨h3,h4⟩;simp at h4;omega
def U4 (N:List Int) (s:Nat) (k:Nat):List Int:=((List.range k).filter λi=>s.testBit i).map λi=>N.getD i 0
theorem eI (N:List Int) (s k:Nat):U4 N s (k+1)=U4 N s k++(if s.testBit k=true then [N.getD k 0] else []):=by
 unfold U4;rw[List.range_succ,List.filter_append,List.map_append]
 congr 1
 by_cases h:s.testBit k=true<;>simp[h]
end Go.Ab
namespace Go.Proofs
open Go Go.Ab
end Go.Proofs
namespace Go.Ab
open Go
theorem Cf (s i:Nat):IntKind.i64.wrap ((BitVec.ofInt 64 ((s:Int).fdiv (2 ^ i)) &&& BitVec.ofInt 64 1).toNat:Int)=if s.testBit i=true then 1 else 0:=by
 have e1:(s:Int).fdiv (2 ^ i)=((s / 2 ^ i:Nat):Int):=by
  rw[Int.fdiv_eq_ediv_of_nonneg _ (by exact Int.pow_nonneg (by omega))];simp
 have e2:(BitVec.ofInt 64 ((s / 2 ^ i:Nat):Int) &&& BitVec.ofInt 64 1).toNat=(s / 2 ^ i) % 2:=by
  have h1:(BitVec.ofInt 64 1)=1#64:=by decide
  rw[h1,BitVec.ofInt_natCast,BitVec.toNat_and,BitVec.toNat_ofNat,BitVec.toNat_ofNat];rw[show (1 % 2 ^ 64:Nat)=1 by decide,Nat.and_one_is_mod];omega
 rw[e1,e2,Nat.testBit_eq_decide_div_mod_eq];rcases Nat.mod_two_eq_zero_or_one (s / 2 ^ i) with h|h
 ·rw[h];simp;decide
 ·rw[h];simp;decide
end Go.Ab
namespace Go.Proofs
open Go Go.Ab
variable {G:LS}
theorem pN (l:List Int):(j8 l).length=l.length:=(List.mergeSort_perm l _).length_eq
theorem gI (N:List Int) (s k:Nat):(U4 N s k).length<=k:=by
 induction k with
 | zero=>simp[U4]
 | succ k ih =>
   rw[eI];split<;>simp<;>omega
open Go Go.Ab Tryz
def EK (l:List Int):List IC:=[.sl (l.map encI)]
def Kw (L:List (List Int)):DV:=.one (.im (.sl (L.map EK)))
attribute [simp] EK Kw
def kr (O:List Int) (k:Nat):List (List Int):=(List.range k).map λs=>U4 O s O.length
def H9 (O:List Int):List (List Int):=kr O (2 ^ O.length)
theorem lB (O:List Int) (k:Nat):(kr O k).length=k:=by simp[kr]
theorem aW (O:List Int):(H9 O).length=2 ^ O.length:=lB _ _
theorem nL (O:List Int) (k:Nat):kr O (k+1)=kr O k++[U4 O k O.length]:=by
 simp[kr,List.range_succ]
theorem ws (O:List Int):kr O 0=[]:=rfl
@[simp] abbrev QD:List Nat:=[0,1,2,3,4,5,6,7,14,21,28]
theorem wH (n:Notes) (hs:zC n) (hok:dm n) (h5:(j7 n.notes).length<=5):zP prog G 43 [o6 n] (Kw (H9 (j8 (j7 n.notes)))):=by
 refine zf func43 ntmps43 ?_;try simp only[o6]
 have c1:=DJ (G:=G) n hs hok;have hn16:=hs.2.1;have hnu:=tB (n:=n);have hOl:(j8 (j7 n.notes)).length=(bS n.notes).length:=by rw[<- hnu,List.length_map]
 have hO5:(j8 (j7 n.notes)).length<=5:=by rw[pN];exact h5
 have hIlt:∀ i∈bS n.notes,i<n.notes.length:=λi hi=>AA hi;have hJl:(V8 (bS n.notes)).length=(j8 (j7 n.notes)).length:=by rw[hOl];simp[V8]
 have hJi:∀ i (h:i<(j8 (j7 n.notes)).length),∃ j,∃ hj:j<n.notes.length,(V8 (bS n.notes))[i]?=some (j:Int)/\(j8 (j7 n.notes))[i]=n.notes[j].number:=λi h=>by
  have hi:i<(bS n.notes).length:=by omega
  refine⟨(bS n.notes)[i],hIlt _ (List.getElem_mem hi),by simp[V8,hi],?_⟩;have h1:((bS n.notes).map (C6 n.notes))[i]?=(j8 (j7 n.notes))[i]?:=by rw[hnu]
  rw[List.getElem?_map,List.getElem?_eq_getElem hi,List.getElem?_eq_getElem h] at h1;simp only[Option.map_some,Option.some.injEq] at h1;rw[<- h1];simp[C6,hIlt _ (List.getElem_mem hi)]
 clear hnu hIlt hOl;generalize j8 (j7 n.notes)=O at *;generalize V8 (bS n.notes)=J at *;have hPe:(2:Nat) ^ O.length<=2 ^ 5:=Nat.pow_le_pow_right (by omega) hO5;have hmin:min O.length 64=O.length:=by omega
 have hb64:IntKind.i64.bits=64:=rfl;have hlnn:¬ ((O.length:Int)<0):=by omega
 have hsh:IntKind.i64.wrap ((2:Int) ^ O.length)=((2 ^ O.length:Nat):Int):=by
  rw[show ((2:Int) ^ O.length)=((2 ^ O.length:Nat):Int) by simp];exact(λ(P:Nat) (h:P<=2 ^ 5)=>(n4 (by omega) (by omega):IntKind.i64.wrap (P:Int)=(P:Int))) _ hPe
 have hTz:H9 O=kr O (2 ^ O.length):=rfl;simp only[r5] at c1;have hs:=trivial;repeat' first|(with_reducible first|refine zz ?_|refine zE QD ?_)|simp -dsimp[hs]|refine zp c1 ?_
 all_goals try clear hs
 generalize hP:2 ^ O.length=P at *;refine i6 (ι:={ p:Nat×Nat×Bool // p.1<=P }) (λp=>⟨46,[(1,.one (.ptr 0 0)),(3,r5 J),(4,.one (.vec 2 p.1.2.1 0 p.1.1)),(5,iv (p.1.1:Int))],[.row ((p8 n).map .im),.vec 1 [] 0 true,.vec 1 (l5 ((kr O p.1.1).map EK)) p.1.2.1 p.1.2.2]⟩) (λp=>P-p.1.1) ⟨(0,0,true),by simp⟩ (zv [1,3,4,5] (by simp[ws])) ?_;rintro⟨⟨k,g,nl⟩,hk⟩;simp only at hk;simp only[iv,r5];have hkl:=lB O k;by_cases hlt:k<P
 ·have hw:=zk k;have htk:=nL O k;have hz:U4 O k 0=[]:=by simp[U4]
  generalize kr O k=T at *;subst hkl;have hs:=za hJl (za hmin (za hb64 (za hsh (za hlnn hlt))));repeat' first|(with_reducible first|refine zz ?_|refine zE QD ?_)|simp -dsimp[hs]|refine i8 ?_ ?_<;>intro h<;>try exact h.elim
  all_goals try clear hs
  refine i6 (ι:={ p:Nat×Nat // p.1<=O.length }) (λp=>⟨46,[(1,.one (.ptr 0 0)),(3,r5 J),(4,.one (.vec 2 g 0 T.length)),(5,iv (T.length:Int)),(6,.one (.vec 3 p.1.2 0 (U4 O T.length p.1.1).length)),(7,iv (p.1.1:Int))],[.row ((p8 n).map .im),.vec 1 [] 0 true,.vec 1 (l5 (T.map EK)) g nl,.vec 1 (l5 ((U4 O T.length p.1.1).map encI)) p.1.2 false]⟩) (λp=>O.length-p.1.1) ⟨(0,0),by simp⟩ (zv [1,3,4,5,6,7] (by simp[hz])) ?_;rintro⟨⟨i,g2⟩,hi⟩;simp only at hi;simp only[iv,r5];by_cases hil:i<O.length
  ·have hwi:=zk i;have hi63:min i 64=i:=by omega
   have hin:¬ ((i:Int)<0):=by omega
   have hbit:=Cf T.length i;have hSl:=gI O T.length i;obtain⟨j,hj,hJ,hOi⟩:=hJi i hil;have hJ2:J[i]'(by omega)=(j:Int):=(List.getElem?_eq_some_iff.1 hJ).2;have hsu:U4 O T.length (i+1)=U4 O T.length i++(if T.length.testBit i=true then [n.notes[j].number] else []):=by
    rw[eI,show O.getD i 0=n.notes[j].number by simp[hil,hOi]]
   have hji:(j:Int)<n.notes.length:=by omega
   generalize hx:n.notes[j]=x at *;generalize U4 O T.length i=S at *;cases hb:T.length.testBit i
   ·rw[hb] at hbit hsu;simp at hbit;rw[if_neg Bool.false_ne_true,List.append_nil] at hsu;have hs:=za hJl (za hil (za hwi (za hin (za hi63 (za hb64 hbit)))));repeat' first|(with_reducible first|refine zz ?_|refine zE QD ?_)|simp -dsimp[hs]|refine i8 ?_ ?_<;>intro h<;>try exact h.elim
    all_goals try clear hs
    all_goals exact zn ⟨(i+1,g2),by simp only;omega⟩ (zv [1,3,4,5,6,7] (by simp[hsu]))
   ·rw[hb] at hbit hsu;simp at hbit;rw[if_pos rfl] at hsu;have hs:=za hJl (za hil (za hwi (za hin (za hi63 (za hb64 (za hbit (za hJ (za hJ2 (za hx (za hj hji))))))))));repeat' first|(with_reducible first|refine zz ?_|refine And.intro (by omega) ?_)|simp -dsimp[hs]|refine zM 11 46 11 QD ?_|with_reducible refine zE QD ?_|refine i8 ?_ ?_<;>intro h<;>try exact h.elim
    all_goals try clear hs
    all_goals exact zn ⟨(i+1,g2+1),by simp only;omega⟩ (zw [1,3,4,5,6,7] 4 (by simp[hsu]))
  ·obtain rfl:i=O.length:=by omega
   generalize U4 O T.length O.length=S at *;have hs:=za hJl hw;repeat' first|(with_reducible first|refine zz ?_|refine And.intro (by omega) ?_|refine zE QD ?_)|simp -dsimp[hs]|refine i8 ?_ ?_<;>intro h<;>try exact h.elim
   all_goals try clear hs
   all_goals exact zn ⟨(T.length+1,g+1,false),by simp only;omega⟩ (zw [1,3,4,5] 3 (by simp[htk]))
 ·obtain rfl:k=P:=by omega
  rw[hTz];generalize kr O k=T at *;subst hkl;have hs:=za hJl (za hmin (za hb64 (za hsh hlnn)));repeat' first|(with_reducible first|refine zz ?_|refine zr ?_|refine zE QD ?_)|simp -dsimp[hs]|refine i8 ?_ ?_<;>intro h<;>try exact h.elim
  all_goals try clear hs
  all_goals simp
end Go.Proofs
namespace Go.Ab
open Go
structure Str where
 frm:Int
 to:Int
 letter:Int
 deriving DecidableEq
def BF (x:Str):List IC:=[rI x.frm,rI x.to,rI x.letter]
def Kd (l:List Str):DV:=.one (.im (.sl (l.map BF)))
attribute [simp] BF Kd
end Go.Ab
namespace Go.Proofs
open Go Go.Ab
def bP (l:List Note):List Int:=1 :: l.flatMap λx=>[x.frm,x.to+1]
def ay (l:List Note):List Int:=(r8 (j8 (bP l))).filter λm=>decide (m<=999)
theorem xh (l:List Note):(ay l).length<=2*l.length+1:=by
 have h1:=List.length_filter_le (λm:Int=>decide (m<=999)) (r8 (j8 (bP l)));have h2:=aM (j8 (bP l));have h3:(bP l).length=2*l.length+1:=by
  unfold bP;have:∀ l:List Note,(l.flatMap λx=>[x.frm,x.to+1]).length=2*l.length:=λl=>by
   induction l with
   | nil=>rfl
   | cons a r ih=>rw[List.flatMap_cons,List.length_append,ih,List.length_cons,List.length_cons,List.length_cons,List.length_nil];omega
  rw[List.length_cons,this]
 rw[N7,h3] at h2;unfold ay;omega
theorem GC {n:Notes} (hok:dm n) {x:Note} (hx:x∈n.notes):1<=x.frm/\x.frm<=x.to/\x.to<=999:=by
 obtain⟨i,hi,e⟩:=List.mem_iff_getElem.1 hx;have h:=hok i x (by rw[List.getElem?_eq_getElem hi,e]);simp only[tH,FD,Bool.and_eq_true,decide_eq_true_eq] at h;omega
def GN (n:Notes) (s:List Int) (d m:Int):Int:=ie n.notes (T3 s [] m n.notes) d
def stepS (a b:List Int):List Int:=List.zipWith (λx y=>if y=x then x else 0) a b
variable {G:LS}
attribute [simp] s6 du w5 B6 nilV K9 ZK
end Go.Proofs
namespace Go.Proofs
open Go Go.Ab
theorem yn {l:List Issue} (h:l4 l=0) {x:Issue} (hx:x∈l):1<=x.drawing/\1<=x.letter/\x.letter<=8:=by
 have h1:=(L5 (I7 (H2 h))).2.2.2.1 x hx;simp only[n5,zu,Bool.and_eq_true,decide_eq_true_eq] at h1;omega
theorem jQ (l:List Issue):∀ (k:Nat) (d:Int),d∈E6 l k->∃ x∈l,x.drawing=d
 | 0,d,h=>by simp[E6] at h
 | k+1,d,h=>by
   simp only[E6] at h;rcases List.mem_append.1 h with h|h
   ·exact jQ l k d h
   ·split at h
    ·rename_i x hx;split at h
     ·exact⟨x,List.mem_of_getElem? hx,(List.mem_singleton.1 h).symm⟩
     ·cases h
    ·cases h
theorem sn (l:List Note) (b:List Bool) (d:Int):∀ k,0<=qj l b d k->∃ x,l[(qj l b d k).toNat]?=some x/\x.drawing=d
 | 0,h=>by simp[qj] at h
 | k+1,h=>by
   unfold qj at h ⊢;split
   ·rename_i hc;obtain⟨x,h1,h2⟩:=Option.map_eq_some_iff.1 hc.2;exact⟨x,by simpa using h1,h2⟩
   ·rename_i hc;rw[if_neg hc] at h;exact sn l b d k h
end Go.Proofs
namespace Go.Ab
open Go
def HE (L:List Bool):List DC:=L.map λb=>.im (.raw (.bool b))
@[simp] theorem JZ (m:Nat) (O:List DObj) (L:List Bool):(HE L).map (fz m O)=HE L:=by
 simp only[HE,List.map_map];rfl
end Go.Ab
namespace Go.Proofs
open Go Go.Ab
variable {G:LS}
end Go.Proofs
namespace Go.Proofs
open Go Go.Ab
variable {G:LS}
open Go Go.Ab Tryz
def HH (p:Prints):Prop:=CH p.n/\p.holders.length<=8/\p.prints.length<=40/\∀ x∈p.holders,x.draws.length<=20
def gE (p:Prints):Bool:=cw p.n&&(decide (p.holders.length<=8)&&(decide (p.prints.length<=40)&&p.holders.all λx=>decide (x.draws.length<=20)))
@[simp] abbrev QE:List Nat:=[0,1,2,3,18,23,33]
theorem Bn (p:Prints):zP prog G 66 [D8 p] (bv (!gE p)):=by
 refine zf func66 ntmps66 ?_;try simp only[iv]
 have c1:=Bo (G:=G) p.n;have hE:gE p=(cw p.n&&(decide (p.holders.length<=8)&&(decide (p.prints.length<=40)&&p.holders.all λx=>decide (x.draws.length<=20)))):=rfl;simp only[o6,p8] at c1;cases hS:cw p.n
 ·rw[hS,Bool.false_and] at hE;rw[hS] at c1;rw[hE];have hs:=trivial;repeat' first|(with_reducible first|refine zz ?_|refine zr ?_|refine zE QE ?_)|simp -dsimp[hs]|refine zp c1 ?_|refine i8 ?_ ?_<;>intro h<;>try exact h.elim
 ·rw[hS,Bool.true_and] at hE;rw[hS] at c1;by_cases h8:p.holders.length<=8
  ·have h8':¬ (8:Int)<p.holders.length:=by omega
   rw[decide_eq_true h8,Bool.true_and] at hE;by_cases h40:p.prints.length<=40
   ·have h40':¬ (40:Int)<p.prints.length:=by omega
    rw[decide_eq_true h40,Bool.true_and] at hE;have hs:=za h8' h40';repeat' first|(with_reducible first|refine zz ?_|refine zE QE ?_)|simp -dsimp[hs]|refine zp c1 ?_|refine i8 ?_ ?_<;>intro h<;>try exact h.elim
    refine i6 (ι:={ k:Nat // k<=p.holders.length/\(p.holders.all λx=>decide (x.draws.length<=20))=(p.holders.drop k).all λx=>decide (x.draws.length<=20) }) (λq=>⟨34,[(1,.one (.ptr 0 0)),(3,iv (q.1:Int))],[.row ((p7 p).map .im)]⟩) (λq=>p.holders.length-q.1) ⟨0,by simp⟩ (zv [1,3]) ?_;rintro⟨k,hk,hall⟩;simp only[iv];by_cases hlt:k<p.holders.length
    ·have hw:=zk k;have hst:=aS hlt hall;generalize hx:p.holders[k]=x at *;by_cases h20:x.draws.length<=20
     ·have h20':¬ (20:Int)<x.draws.length:=by omega
      have hs:=za hx (za hlt (za hw h20'));repeat' first|(with_reducible first|refine zz ?_|refine zE QE ?_)|simp -dsimp[hs]|refine i8 ?_ ?_<;>intro h<;>try exact h.elim
      exact zn ⟨k+1,by omega,H6 hst (by simpa using h20)⟩ (zv [1,3])
     ·have h20':(20:Int)<x.draws.length:=by omega
      have hs:=za hx (za hlt (za hw h20'));repeat' first|(with_reducible first|refine zz ?_|refine zr ?_|refine zE QE ?_)|simp -dsimp[hs]|refine i8 ?_ ?_<;>intro h<;>try exact h.elim
      rw[hE,E8 hst (by simpa using h20)];try rfl
    ·have hok:(p.holders.all λx=>decide (x.draws.length<=20))=true:=by rw[hall,List.drop_eq_nil_of_le (by omega)];rfl
     have hs:=hlt;repeat' first|(with_reducible first|refine zz ?_|refine zr ?_|refine zE QE ?_)|simp -dsimp[hs]|refine i8 ?_ ?_<;>intro h<;>try exact h.elim
     rw[hE,hok];try rfl
   ·have h40':(40:Int)<p.prints.length:=by omega
    rw[decide_eq_false h40,Bool.false_and] at hE;have hs:=za h8' h40';repeat' first|(with_reducible first|refine zz ?_|refine zr ?_|refine zE QE ?_)|simp -dsimp[hs]|refine zp c1 ?_|refine i8 ?_ ?_<;>intro h<;>try exact h.elim
    rw[hE];try rfl
  ·have h8':(8:Int)<p.holders.length:=by omega
   rw[decide_eq_false h8,Bool.false_and] at hE;have hs:=h8';repeat' first|(with_reducible first|refine zz ?_|refine zr ?_|refine zE QE ?_)|simp -dsimp[hs]|refine zp c1 ?_|refine i8 ?_ ?_<;>intro h<;>try exact h.elim
   rw[hE];try rfl
theorem L3 (n lo hi:Int):zP prog G 135 [iv n,iv lo,iv hi] (bv (decide (lo<=n)&&decide (n<=hi))):=by
 refine zf func135 ntmps135 ?_;try simp only[iv,iv,iv]
 have hs:=trivial;repeat' first|(with_reducible first|refine zz ?_|refine zr ?_|refine zE [0,1,2,6] ?_)|simp -dsimp[hs]|with_reducible refine j5 ?_ ?_<;>intro h<;>have h0:=h<;>(try simp only[i7] at h)<;>have h2:=h<;>(try simp at h2)<;>replace hs:=za h0 (za h (za h2 hs))
 all_goals try clear hs
 all_goals simp[*]
theorem mi {l:List Issue} (h:l4 l=0) {x:Issue} (hx:x∈l):1<=x.letter/\1<=x.kind:=by
 have:=(L5 (I7 (H2 h))).2.2.2.1 x hx;simp only[n5,zu,CZ,Bool.and_eq_true,decide_eq_true_eq] at this;by_cases hk:x.kind=1
 ·omega
 ·rw[if_neg hk] at this;simp only[Bool.and_eq_true,decide_eq_true_eq] at this;omega
theorem tU {l:List Issue} (h0:l4 l=0) (d:Int):T2 l d=0↔d∉nums l:=by
 obtain⟨h1,h2,h3⟩:=dV d l 0;constructor
 ·intro h hd;obtain⟨x,hx,hxd⟩:=qU hd;have:=h2 x hx hxd;have:=(mi h0 hx).1;unfold T2 at h;omega
 ·intro hd;rcases h3 with h3|⟨x,hx,hxd,_⟩
  ·exact h3
  ·exact absurd (hxd ▸ (D5 h0).2 x hx) hd
theorem tu {c:Case} (h0:l4 c.p.n.reg=0) (l:Link) (x:Piece):I2 c l x=true↔(n9 c.p.n.reg l.drawing 1).isSome=true/\¬ ((n9 c.p.n.reg l.drawing 1).getD I8).kind<2/\(decide (0<=l.dim)&&decide (l.dim<=3))=true/\¬ J1 (λy=>decide (y.id=x.holder)) c.p.holders<0/\(decide (0<=x.day)&&decide (x.day<=14610))=true/\(decide (0<=x.lo)&&decide (x.lo<=1000000000))=true/\(decide (x.lo<=x.hi)&&decide (x.hi<=1000000000))=true:=by
 have hf:(c.p.holders.any λy=>decide (y.id=x.holder))=true↔¬ J1 (λy=>decide (y.id=x.holder)) c.p.holders<0:=by
  rw[<- B0,decide_eq_true_eq];omega
 unfold I2 U6;cases hfi:n9 c.p.n.reg l.drawing 1 with
 | none=>simp
 | some y =>
   have hk:=(mi h0 (List.mem_of_find?_eq_some hfi)).2;simp only[Option.isSome_some,Option.getD_some,Bool.and_eq_true,decide_eq_true_eq,Bool.not_eq_true',decide_eq_false_iff_not,hf,true_and];omega
@[simp] abbrev Qp:List Nat:=[0,1,2,3,4,5,6,7,8,61,66,131]
@[simp] abbrev WY:List Nat:=[0,1,2,3,4,5,6,7,8,61,66,69,70,71,72,73,74,131]
theorem Dz (c:Case) (h0:l4 c.p.n.reg=0) (hk:KC c):zP prog G 84 [l7 c] (bv (aN c)):=by
 refine zf func84 ntmps84 ?_;try simp only[iv]
 have hl:=hk.l;have hq:=hk.q;have hhl:=hk.p.p.h;have hrl:=hk.p.p.l;have c2:=rl (G:=G) c.p.n.reg c.of (by omega);have hLm:=tU h0 c.of;have c3:=L3 (G:=G) c.machine 1 999;have c4:=L3 (G:=G) (c.loop.links.length:Int) 1 8;have c5:=L3 (G:=G) c.loop.lo (-8000000000) 8000000000;have c6:=L3 (G:=G) c.loop.hi c.loop.lo 8000000000;simp only[G1] at c2;generalize T2 c.p.n.reg c.of=L at *;cases h5:ew c
 ·have hB:aN c=false:=by rw[N4,h5,Bool.false_and]
  rw[hB];simp only[ew,U6] at h5;generalize hb3:(decide (1<=c.machine)&&decide (c.machine<=999))=b3 at c3;generalize hb4:(decide (1<=(c.loop.links.length:Int))&&decide ((c.loop.links.length:Int)<=8))=b4 at c4;generalize hb5:(decide (-8000000000<=c.loop.lo)&&decide (c.loop.lo<=8000000000))=b5 at c5;generalize hb6:(decide (c.loop.lo<=c.loop.hi)&&decide (c.loop.hi<=8000000000))=b6 at c6;have hs:True:=trivial;by_cases hm:L=0
  ·cases b3
   all_goals
    have hs:=hm;repeat' first|(with_reducible first|refine zz ?_|refine zr ?_|refine zE Qp ?_)|simp -dsimp[hs]|refine zp c3 ?_|refine zp c2 ?_|refine i8 ?_ ?_<;>intro h<;>try exact h.elim
    all_goals try clear hs
  ·have hm':c.of∈nums c.p.n.reg:=Classical.byContradiction λh=>hm (hLm.2 h);by_cases hlen:c.pieces.length=c.loop.links.length
   ·cases b3<;>cases b4<;>cases b5<;>cases b6
    all_goals
     have hs:=za hlen hm;repeat' first|(with_reducible first|refine zz ?_|refine zr ?_|refine zE Qp ?_)|simp -dsimp[hs]|refine zp c3 ?_|refine zp c2 ?_|refine zp c4 ?_|refine zp c5 ?_|refine zp c6 ?_|refine i8 ?_ ?_<;>intro h<;>try exact h.elim
     all_goals try clear hs
    all_goals exfalso
    all_goals simp[hm',hlen] at h5 hb3 hb4 hb5 hb6
    all_goals omega
   ·have hlen':¬ (c.pieces.length:Int)=c.loop.links.length:=by omega
    cases b3<;>cases b4<;>cases b5<;>cases b6
    all_goals
     have hs:=za hlen (za hlen' hm);repeat' first|(with_reducible first|refine zz ?_|refine zr ?_|refine zE Qp ?_)|simp -dsimp[hs]|refine zp c3 ?_|refine zp c2 ?_|refine zp c4 ?_|refine zp c5 ?_|refine zp c6 ?_|refine i8 ?_ ?_<;>intro h<;>try exact h.elim
     all_goals try clear hs
 ·have hB:aN c=(c.loop.links.zip c.pieces).all λq=>I2 c q.1 q.2:=by rw[N4,h5,Bool.true_and]
  rw[hB];simp only[ew,Bool.and_eq_true,decide_eq_true_eq,U6] at h5;obtain⟨hm,⟨hm1,hm2⟩,⟨hl1,hl2⟩,hlen,hgap⟩:=h5;have hm':¬ L=0:=λh=>hLm.1 h hm;rw[show (decide (1<=c.machine)&&decide (c.machine<=999))=true by simp;omega] at c3;rw[show (decide (1<=(c.loop.links.length:Int))&&decide ((c.loop.links.length:Int)<=8))=true by simp;omega] at c4;rw[show (decide (-8000000000<=c.loop.lo)&&decide (c.loop.lo<=8000000000))=true by simp;omega] at c5;rw[show (decide (c.loop.lo<=c.loop.hi)&&decide (c.loop.hi<=8000000000))=true by simp;omega] at c6;have hs:=za hlen hm';repeat' first|(with_reducible first|refine zz ?_|refine zE Qp ?_)|simp -dsimp[hs]|refine zp c3 ?_|refine zp c2 ?_|refine zp c4 ?_|refine zp c5 ?_|refine zp c6 ?_|refine i8 ?_ ?_<;>intro h<;>try exact h.elim
  all_goals try clear hs
  have hno:((c.loop.links.zip c.pieces).all λq=>I2 c q.1 q.2)=((c.loop.links.zip c.pieces).drop 0).all λq=>I2 c q.1 q.2:=rfl;clear c2 c3 c4 c5 c6;generalize hA:((c.loop.links.zip c.pieces).all λq=>I2 c q.1 q.2)=A at *;refine i6 (ι:={ k:Nat // k<=c.pieces.length/\A=((c.loop.links.zip c.pieces).drop k).all λq=>I2 c q.1 q.2 }) (λq=>⟨132,[(1,.one (.ptr 0 0)),(3,.one (.ptr 2 0)),(4,iv (q.1:Int))],[.row ((j0 c).map .im),.vec 0 [] 0 true,.row [.im (.sl (c.p.n.reg.map e9))]]⟩) (λq=>c.pieces.length-q.1) ⟨0,by simp,hno⟩ (zv [1,3,4]) ?_;rintro⟨k,hk1,hrest⟩;simp only[iv];by_cases hlt:k<c.pieces.length
  ·have hlt2:k<c.loop.links.length:=by omega
   have hw:=zk k;have hst:=gv (f:=λq=>I2 c q.1 q.2) hlt2 hlt (hA.trans hrest);rw[hA] at hst;simp only at hst;rw[tu h0] at hst;clear hno;generalize hx:c.pieces[k]=x at *;generalize hy:c.loop.links[k]=y at *;have c6:=uk (G:=G) c.p.n.reg y.drawing 1 (by omega);have c7:=rz (G:=G) c.p x.holder (by omega);have c8:=L3 (G:=G) y.dim 0 3;have c9:=L3 (G:=G) x.day 0 14610;have c10:=L3 (G:=G) x.lo 0 1000000000;have c11:=L3 (G:=G) x.hi x.lo 1000000000;simp only[G1,E1] at c6;simp only[D8,p7,List.map_cons,List.map_nil] at c7;generalize J1 (λy=>decide (y.id=x.holder)) c.p.holders=f at *;generalize (decide (0<=y.dim)&&decide (y.dim<=3))=b1 at *;generalize (decide (0<=x.day)&&decide (x.day<=14610))=b3 at *;generalize (decide (0<=x.lo)&&decide (x.lo<=1000000000))=b4 at *;generalize (decide (x.lo<=x.hi)&&decide (x.hi<=1000000000))=b5 at *;generalize (n9 c.p.n.reg y.drawing 1).isSome=e at *;generalize (n9 c.p.n.reg y.drawing 1).getD I8=z at *;have hcs:(e=true/\¬ z.kind<2/\b1=true/\¬ f<0/\b3=true/\b4=true/\b5=true)\/(A=false/\((e=false/\True/\True/\True/\True/\True/\True)\/(e=true/\z.kind<2/\True/\True/\True/\True/\True)\/(e=true/\¬ z.kind<2/\b1=false/\True/\True/\True/\True)\/(e=true/\¬ z.kind<2/\b1=true/\f<0/\True/\True/\True)\/(e=true/\¬ z.kind<2/\b1=true/\¬ f<0/\b3=false/\True/\True)\/(e=true/\¬ z.kind<2/\b1=true/\¬ f<0/\b3=true/\b4=false/\True)\/(e=true/\¬ z.kind<2/\b1=true/\¬ f<0/\b3=true/\b4=true/\b5=false))):=by
    by_cases g2:z.kind<2<;>by_cases g4:f<0<;>cases e<;>cases b1<;>cases b3<;>cases b4<;>cases b5<;>simp_all
   have hs:True:=trivial;rcases hcs with⟨g1,g2,g3,g4,g5,g6,g7⟩|⟨gA,hcs⟩
   ·have hs:=za hx (za hy (za hlt (za hlt2 (za hw (za g1 (za g2 (za g3 (za g4 (za g5 (za g6 g7))))))))));repeat' first|with_reducible refine zz ?_|simp -dsimp[hs]|refine zp c6 ?_|refine zp c7 ?_|refine zp c8 ?_|refine zp c9 ?_|refine zp c10 ?_|refine zp c11 ?_|refine H7 (id:=7) (nt:=132) 13 [6,7,8,9,10] WY Qp mixed rfl (by kernel_rfl) ?_|with_reducible refine zE Qp ?_|refine i8 ?_ ?_<;>intro h<;>try exact h.elim
    all_goals try clear hs
    all_goals exact zn ⟨k+1,by omega,by rw[Bool.eq_iff_iff];exact hst.trans ⟨λh=>h.2,λh=>⟨⟨g1,g2,g3,g4,g5,g6,g7⟩,h⟩⟩⟩ (zw [1,3,4] 3)
   ·rcases hcs with⟨g1,g2,g3,g4,g5,g6,g7⟩|⟨g1,g2,g3,g4,g5,g6,g7⟩|⟨g1,g2,g3,g4,g5,g6,g7⟩|⟨g1,g2,g3,g4,g5,g6,g7⟩|⟨g1,g2,g3,g4,g5,g6,g7⟩|⟨g1,g2,g3,g4,g5,g6,g7⟩|⟨g1,g2,g3,g4,g5,g6,g7⟩
    all_goals
     have hs:=za hx (za hy (za hlt (za hlt2 (za hw (za g1 (za g2 (za g3 (za g4 (za g5 (za g6 g7))))))))));repeat' first|(with_reducible first|refine zz ?_|refine zr ?_)|simp -dsimp[hs]|refine zp c6 ?_|refine zp c7 ?_|refine zp c8 ?_|refine zp c9 ?_|refine zp c10 ?_|refine zp c11 ?_|refine H7 (id:=7) (nt:=132) 13 [6,7,8,9,10] WY Qp mixed rfl (by kernel_rfl) ?_|with_reducible refine zE Qp ?_|refine i8 ?_ ?_<;>intro h<;>try exact h.elim
     all_goals try clear hs
    all_goals exact gA
  ·obtain rfl:k=c.pieces.length:=by omega
   have hA1:A=true:=by rw[hrest,List.drop_eq_nil_of_le (by rw[List.length_zip];omega)];rfl
   subst hA1;have hs:=hlt;repeat' first|(with_reducible first|refine zz ?_|refine zr ?_|refine zE Qp ?_)|simp -dsimp[hs]|refine i8 ?_ ?_<;>intro h<;>try exact h.elim
   all_goals try clear hs
theorem wM (c:Case) (hk:KC c):zP prog G 41 [l7 c] (iv (q8 c)):=by
 refine zf func41 ntmps41 ?_;try simp only[iv]
 have c1:=wJ (G:=G) c.p hk.p;simp only[D8,p7] at c1;by_cases h0:u4 c.p=0
 ·have c2:=Dz (G:=G) c (A9 h0).2.2 hk;have hE:q8 c=if aN c=true then 0 else 100:=by unfold q8;rw[if_neg (by simp[h0])]
  rw[hE];rw[h0] at c1;simp only[l7,j0] at c2;generalize aN c=b at *;cases b
  ·have hs:=trivial;repeat' first|(with_reducible first|refine zz ?_|refine zr ?_|refine zE [0,1,2,3,8,12] ?_)|simp -dsimp[hs]|refine zp c1 ?_|refine zp c2 ?_|refine i8 ?_ ?_<;>intro h<;>try exact h.elim
  ·have hs:=trivial;repeat' first|(with_reducible first|refine zz ?_|refine zr ?_|refine zE [0,1,2,3,8,12] ?_)|simp -dsimp[hs]|refine zp c1 ?_|refine zp c2 ?_|refine i8 ?_ ?_<;>intro h<;>try exact h.elim
 ·have hE:q8 c=u4 c.p:=by unfold q8;rw[if_pos h0]
  rw[hE];have hs:=h0;repeat' first|(with_reducible first|refine zz ?_|refine zr ?_|refine zE [0,1,2,3,8,12] ?_)|simp -dsimp[hs]|refine zp c1 ?_|refine i8 ?_ ?_<;>intro h<;>try exact h.elim
def uV (c:Case):Prop:=HH c.p/\c.loop.links.length<=16/\c.pieces.length<=16
def cz (c:Case):Bool:=gE c.p&&(decide (c.loop.links.length<=16)&&decide (c.pieces.length<=16))
theorem xJ (c:Case):zP prog G 19 [l7 c] (bv (!cz c)):=by
 refine zf func19 ntmps19 ?_;try simp only[iv]
 have c1:=Bn (G:=G) c.p;simp only[D8,p7] at c1;unfold cz;generalize gE c.p=b at *;have hs:True:=trivial;by_cases h1:c.loop.links.length<=16
 ·have h1':¬ (16:Int)<c.loop.links.length:=by omega
  by_cases h2:c.pieces.length<=16
  ·have h2':¬ (16:Int)<c.pieces.length:=by omega
   cases b
   all_goals
    have hs:=za h1 (za h2 (za h1' h2'));repeat' first|(with_reducible first|refine zz ?_|refine zr ?_|refine zE [0,1,2] ?_)|simp -dsimp[hs]|refine zp c1 ?_
  ·have h2':(16:Int)<c.pieces.length:=by omega
   cases b
   all_goals
    have hs:=za h1 (za h2 (za h1' h2'));repeat' first|(with_reducible first|refine zz ?_|refine zr ?_|refine zE [0,1,2] ?_)|simp -dsimp[hs]|refine zp c1 ?_
 ·have h1':(16:Int)<c.loop.links.length:=by omega
  cases b
  all_goals
   have hs:=za h1 h1';repeat' first|(with_reducible first|refine zz ?_|refine zr ?_|refine zE [0,1,2] ?_)|simp -dsimp[hs]|refine zp c1 ?_
def wg (n:Notes):Prop:=(∀ x∈n.reg,0<=x.kind/\x.kind<=255)/\∀ x∈n.notes,0<=x.ways/\x.ways<=255/\0<=x.signed/\x.signed<=255
theorem HK {n:Notes} (hk:wg n) (h:cw n=true):CH n/\zC n:=by
 simp only[cw,Bool.and_eq_true,decide_eq_true_eq] at h;refine⟨h,⟨h.1.1,λx hx=>⟨(hk.1 x hx).1,(hk.1 x hx).2,h.1.2 x hx⟩⟩,h.2,hk.2⟩
def kN (x:Print):Prop:=0<=x.lost/\x.lost<=255
def km (p:Prints):Prop:=wg p.n/\∀ x∈p.prints,kN x
theorem CT {c:Case} (hk:km c.p) (h:cz c=true):uV c/\KC c:=by
 simp only[cz,gE,Bool.and_eq_true,decide_eq_true_eq,List.all_eq_true] at h;obtain⟨⟨h1,h2,h3,h4⟩,h5,h6⟩:=h;obtain⟨hN,hM⟩:=HK hk.1 h1;have hr:=hM.1.1;have hnl:(nums c.p.n.reg).length<=c.p.n.reg.length:=s8 c.p.n.reg c.p.n.reg.length;exact⟨⟨⟨hN,h2,h3,h4⟩,h5,h6⟩,⟨⟨hM,⟨by omega,by omega,h2,h3,h4,hk.2⟩⟩,h5,h6⟩⟩
theorem ln (d i w:Int) (l:List Print):(bl d i w l).length<=l.length+1:=by
 unfold bl;rw[List.length_drop];have h1:=aM (j8 (aq d i w l++[bI d i w l]));rw[N7,List.length_append,List.length_singleton] at h1;have h2:=lV d i w l;omega
theorem AS (c:Case) (n:Int):(kA c n).length<=c.p.prints.length+1:=by
 unfold kA;split
 ·unfold C7;split
  ·unfold P5;split
   ·exact ln _ _ _ _
   ·simp
  ·simp
 ·simp
end Go.Proofs
