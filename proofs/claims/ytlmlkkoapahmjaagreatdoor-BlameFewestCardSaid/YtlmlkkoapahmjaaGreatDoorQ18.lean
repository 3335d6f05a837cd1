/- Part 18 of the proofs. -/
import Derived.Test.YtlmlkkoapahmjaaGreatDoorQ08
import Derived.Test.YtlmlkkoapahmjaaGreatDoorQ09
import Derived.Test.YtlmlkkoapahmjaaGreatDoorQ12
import Derived.Test.YtlmlkkoapahmjaaGreatDoorQ14
import Derived.Test.YtlmlkkoapahmjaaGreatDoorQ15
import Derived.Test.YtlmlkkoapahmjaaGreatDoorQ16
import Derived.Test.YtlmlkkoapahmjaaGreatDoorQ17
set_option linter.all false
set_option maxHeartbeats 100000000
namespace Go.Proofs
open Go Go.Ab Tryz
variable {G:LI}
def E2 (s:Int×Int) (q:Link×Piece):Int×Int:=if q.1.back=true then (s.1-q.2.hi,s.2-q.2.lo) else (s.1+q.2.lo,s.2+q.2.hi)
def R8 (l:List (Link×Piece)):Int×Int:=l.foldl E2 (0,0)
theorem ws {l:List (Link×Piece)} {k:Nat} (h:k<l.length):R8 (l.take (k+1))=E2 (R8 (l.take k)) l[k]:=by
 unfold R8;rw[List.take_succ_eq_append_getElem h,List.foldl_append];rfl
def P3 (x:Piece):Prop:=0<=x.lo/\x.lo<=x.hi/\x.hi<=1000000000
theorem wr (l:List (Link×Piece)):∀ s:Int×Int,s.1<=s.2->(∀ q∈l,P3 q.2)->(l.foldl E2 s).1<=(l.foldl E2 s).2/\s.1-1000000000*(l.length:Int)<=(l.foldl E2 s).1/\(l.foldl E2 s).2<=s.2+1000000000*(l.length:Int):=by
 induction l with
 | nil=>intro s h _;simp[h]
 | cons q l ih =>
   intro s h hq;have h1:=hq q List.mem_cons_self;unfold P3 at h1;have hst:(E2 s q).1<=(E2 s q).2/\s.1-1000000000<=(E2 s q).1/\(E2 s q).2<=s.2+1000000000:=by
    unfold E2;split<;>simp only<;>omega
   have:=ih (E2 s q) hst.1 (λy hy=>hq y (List.mem_cons_of_mem _ hy));rw[List.foldl_cons,List.length_cons];omega
theorem lD {l:List (Link×Piece)} (h:∀ q∈l,P3 q.2):(R8 l).1<=(R8 l).2/\- (1000000000*(l.length:Int))<=(R8 l).1/\(R8 l).2<=1000000000*(l.length:Int):=by
 have:=wr l (0,0) (Int.le_refl _) h;unfold R8;simp only at this;omega
structure CaseOk (c:Case):Prop where
 e:c.pieces.length=c.loop.links.length
 l:1<=c.loop.links.length/\c.loop.links.length<=8
 p:∀ q∈c.loop.links.zip c.pieces,P3 q.2
 g:-8000000000<=c.loop.lo/\c.loop.lo<=c.loop.hi/\c.loop.hi<=8000000000
theorem I4 {c:Case} (h:aM c=true):CaseOk c:=by
 rw[N1,ek] at h;simp only[Bool.and_eq_true,decide_eq_true_eq,U6,List.all_eq_true] at h;obtain⟨⟨_,_,h3,h4,h5⟩,h6⟩:=h;refine⟨h4,h3,λq hq=>?_,by omega⟩;have:=h6 q hq;simp only[I2,Bool.and_eq_true,U6,decide_eq_true_eq] at this;unfold P3;omega
noncomputable def bG (c:Case):Int×Int:=if p9 c=0 then R8 (c.loop.links.zip c.pieces) else (0,0)
theorem pc {c:Case} (h:CaseOk c) {k:Nat} (hk:k<=c.pieces.length):((c.loop.links.zip c.pieces).take k).length=k:=by
 rw[List.length_take,List.length_zip];have:=h.e;omega
theorem pi {c:Case} (h:CaseOk c) {k:Nat} (hk:k<=c.pieces.length):(R8 ((c.loop.links.zip c.pieces).take k)).1<=(R8 ((c.loop.links.zip c.pieces).take k)).2/\-8000000000<=(R8 ((c.loop.links.zip c.pieces).take k)).1/\(R8 ((c.loop.links.zip c.pieces).take k)).2<=8000000000:=by
 have h1:=lD (l:=(c.loop.links.zip c.pieces).take k) λq hq=>h.p q (List.mem_of_mem_take hq);rw[pc h hk] at h1;have:=h.l;have:=h.e;omega
theorem qk {c:Case} (h:CaseOk c) {k:Nat} (h1:k<c.pieces.length) (h2:k<c.loop.links.length):R8 ((c.loop.links.zip c.pieces).take (k+1))=E2 (R8 ((c.loop.links.zip c.pieces).take k)) (c.loop.links[k],c.pieces[k]):=by
 have h3:k<(c.loop.links.zip c.pieces).length:=by rw[List.length_zip];omega
 rw[ws h3,List.getElem_zip]
theorem iU {c:Case} (h:CaseOk c) {k:Nat} (h1:k<c.pieces.length):P3 c.pieces[k]:=by
 have h2:k<c.loop.links.length:=by have:=h.e;omega
 have h3:k<(c.loop.links.zip c.pieces).length:=by rw[List.length_zip];omega
 have:=h.p _ (List.getElem_mem h3);rw[List.getElem_zip] at this;exact this
@[simp] abbrev Qs:List Nat:=[0,1,2,3,4,5,6,7,8,9,13,17,18,19,20,36]
theorem Cb (c:Case) (hG:o3 G) (hN:E0 G) (hS:u4 G) (hR:w0 G) (hk:KC c):zP prog G 38 [l7 c] (.tup [D9 (bG c).1 (bG c).2,iv (p9 c)]):=by
 refine zf func38 ntmps38 ?_;try simp only[iv]
 have c1:=iR (G:=G) c hG hN hS hR hk;simp only[l7,j4] at c1;by_cases h0:p9 c=0
 ·have hok:=I4 (A1 h0).2;have hE:bG c=R8 (c.loop.links.zip c.pieces):=by unfold bG;rw[if_pos h0]
  rw[hE];rw[h0] at c1 ⊢;have hlen:=hok.e;have hl8:=hok.l;have hs:=trivial;repeat' first|(with_reducible first|refine zz ?_|refine zE Qs ?_)|simp -dsimp[hs]|refine zp c1 ?_|refine i8 ?_ ?_<;>intro h<;>try exact h.elim
  refine i6 (ι:={ k:Nat // k<=c.pieces.length }) (λq=>⟨52,[(1,.one (.ptr 0 0)),(2,.one (.ptr 1 0)),(5,.one (.ptr 2 0)),(17,.one (.im (.sl (c.pieces.map w5)))),(18,iv (c.pieces.length:Int)),(19,iv (q.1:Int))],[.row ((j4 c).map .im),.row [.im (rI 0),.im (rI 0)],.row [.im (rI (R8 ((c.loop.links.zip c.pieces).take q.1)).1),.im (rI (R8 ((c.loop.links.zip c.pieces).take q.1)).2)]]⟩) (λq=>c.pieces.length-q.1) ⟨0,by simp⟩ (zv [1,2,5,17,18,19] (by simp[R8])) ?_;rintro⟨k,hk1⟩;simp only[iv];by_cases hlt:k<c.pieces.length
  ·have hlt2:k<c.loop.links.length:=by omega
   have hw:=zk k;have hb1:=pi hok (Nat.le_of_lt hlt);have hb2:=pi hok (show k+1<=c.pieces.length by omega);have hst:=qk hok hlt hlt2;have hp:=iU hok hlt;unfold P3 at hp;rw[hst] at hb2;generalize hx:c.pieces[k]=x at *;generalize hy:c.loop.links[k]=y at *;generalize R8 ((c.loop.links.zip c.pieces).take k)=s at *;unfold E2 at hst hb2;cases hbk:y.back
   ·rw[if_neg (by simp[hbk])] at hst hb2;simp only at hb2;have hw1:IntKind.i64.wrap (s.1+x.lo)=s.1+x.lo:=n4 (by omega) (by omega);have hw2:IntKind.i64.wrap (s.2+x.hi)=s.2+x.hi:=n4 (by omega) (by omega);have hs:=za hx (za hy (za hlt (za hlt2 (za hw (za hw1 (za hw2 hbk))))));repeat' first|with_reducible refine zz ?_|simp -dsimp[hs]|refine zM 8 52 8 Qs ?_|with_reducible refine zE Qs ?_|refine i8 ?_ ?_<;>intro h<;>try exact h.elim
    all_goals exact zn ⟨k+1,by omega⟩ (zw [1,2,5,17,18,19] 3 (by simp[hst]))
   ·rw[if_pos hbk] at hst hb2;simp only at hb2;have hw1:IntKind.i64.wrap (-x.hi)=-x.hi:=n4 (by omega) (by omega);have hw2:IntKind.i64.wrap (-x.lo)=-x.lo:=n4 (by omega) (by omega);have hw3:IntKind.i64.wrap (s.1 + -x.hi)=s.1-x.hi:=by rw[n4 (by omega) (by omega)];omega
    have hw4:IntKind.i64.wrap (s.2 + -x.lo)=s.2-x.lo:=by rw[n4 (by omega) (by omega)];omega
    have hs:=za hx (za hy (za hlt (za hlt2 (za hw (za hw1 (za hw2 (za hw3 (za hw4 hbk))))))));repeat' first|with_reducible refine zz ?_|simp -dsimp[hs]|refine zM 8 52 8 Qs ?_|with_reducible refine zE Qs ?_|refine i8 ?_ ?_<;>intro h<;>try exact h.elim
    all_goals exact zn ⟨k+1,by omega⟩ (zw [1,2,5,17,18,19] 3 (by simp[hst]))
  ·obtain rfl:k=c.pieces.length:=by omega
   have hall:(c.loop.links.zip c.pieces).take c.pieces.length=c.loop.links.zip c.pieces:=List.take_of_length_le (by rw[List.length_zip];omega);rw[hall];have hs:=hlt;repeat' first|(with_reducible first|refine zz ?_|refine zr ?_|refine zE Qs ?_)|simp -dsimp[hs]|refine i8 ?_ ?_<;>intro h<;>try exact h.elim
 ·have hE:bG c=(0,0):=by unfold bG;rw[if_neg h0]
  rw[hE];have hs:=h0;repeat' first|(with_reducible first|refine zz ?_|refine zr ?_|refine zE Qs ?_)|simp -dsimp[hs]|refine zp c1 ?_|refine i8 ?_ ?_<;>intro h<;>try exact h.elim
def rl (c:Case) (s:Int×Int):Int:=if s.2<c.loop.lo\/s.1 > c.loop.hi then 0 else if c.loop.lo<=s.1/\s.2<=c.loop.hi then 2 else 1
noncomputable def cZ (c:Case):Int:=if p9 c=0 then rl c (bG c) else 0
theorem Bm {c:Case} {s:Int×Int} (h:s.1<=s.2):U6 s.1 s.2 c.loop.lo c.loop.hi=decide (c.loop.lo<=s.1/\s.2<=c.loop.hi):=by
 unfold U6;rw[decide_eq_decide];omega
@[simp] abbrev QS:List Nat:=[0,1,2,3,4,5,6,15,33]
theorem vX (c:Case) (hG:o3 G) (hN:E0 G) (hS:u4 G) (hR:w0 G) (hk:KC c):zP prog G 39 [l7 c] (.tup [sN (cZ c),iv (p9 c)]):=by
 refine zf func39 ntmps39 ?_;try simp only[iv]
 have c1:=Cb (G:=G) c hG hN hS hR hk;simp only[l7,j4,D9] at c1;by_cases h0:p9 c=0
 ·have hok:=I4 (A1 h0).2;have hE:cZ c=rl c (bG c):=by unfold cZ;rw[if_pos h0]
  have hS:bG c=R8 (c.loop.links.zip c.pieces):=by unfold bG;rw[if_pos h0]
  have hle:(bG c).1<=(bG c).2:=by rw[hS];exact(lD hok.p).1
  have c2:=bU (G:=G) (bG c).1 (bG c).2 c.loop.lo c.loop.hi;rw[Bm (c:=c) (s:=bG c) hle] at c2;rw[hE];rw[h0] at c1 ⊢;unfold rl;generalize bG c=s at *;simp only[D9] at c2;by_cases h1:s.2<c.loop.lo\/s.1 > c.loop.hi
  ·rw[if_pos h1];by_cases h2:s.2<c.loop.lo
   ·have hs:=h2;repeat' first|(with_reducible first|refine zz ?_|refine zr ?_|refine zE QS ?_)|simp -dsimp[hs]|refine zp c1 ?_|refine i8 ?_ ?_<;>intro h<;>try exact h.elim
   ·have h3:c.loop.hi<s.1:=by omega
    have hs:=za h2 h3;repeat' first|(with_reducible first|refine zz ?_|refine zr ?_|refine zE QS ?_)|simp -dsimp[hs]|refine zp c1 ?_|refine i8 ?_ ?_<;>intro h<;>try exact h.elim
  ·rw[if_neg h1];have h2:¬ s.2<c.loop.lo:=by omega
   have h3:¬ c.loop.hi<s.1:=by omega
   by_cases h4:c.loop.lo<=s.1/\s.2<=c.loop.hi
   ·rw[if_pos h4];rw[decide_eq_true h4] at c2;have hs:=za h2 h3;repeat' first|(with_reducible first|refine zz ?_|refine zr ?_|refine zE QS ?_)|simp -dsimp[hs]|refine zp c1 ?_|refine zp c2 ?_|refine i8 ?_ ?_<;>intro h<;>try exact h.elim
   ·rw[if_neg h4];rw[decide_eq_false h4] at c2;have hs:=za h2 h3;repeat' first|(with_reducible first|refine zz ?_|refine zr ?_|refine zE QS ?_)|simp -dsimp[hs]|refine zp c1 ?_|refine zp c2 ?_|refine i8 ?_ ?_<;>intro h<;>try exact h.elim
 ·have hE:cZ c=0:=by unfold cZ;rw[if_neg h0]
  rw[hE];have hs:=h0;repeat' first|(with_reducible first|refine zz ?_|refine zr ?_|refine zE QS ?_)|simp -dsimp[hs]|refine zp c1 ?_|refine i8 ?_ ?_<;>intro h<;>try exact h.elim
noncomputable def C6 (c:Case) (k:Nat):List Int:=match c.pieces[k]?,c.loop.links[k]? with
 | some x,some y=>P6 c.p x.day x.holder y.drawing
 | _,_=>[]
theorem gW {c:Case} {k:Nat} (h1:k<c.pieces.length) (h2:k<c.loop.links.length):C6 c k=P6 c.p c.pieces[k].day c.pieces[k].holder c.loop.links[k].drawing:=by
 unfold C6;rw[List.getElem?_eq_getElem h1,List.getElem?_eq_getElem h2]
noncomputable def Z9 (c:Case) (n:Int):Int:=if p9 c≠0 then p9 c else if 0<=n/\n<c.pieces.length then 0 else 2
noncomputable def kw (c:Case) (n:Int):List Int:=if Z9 c n=0 then C6 c n.toNat else []
theorem AC (c:Case) (k:Nat) (h1:k<c.pieces.length) (h2:k<c.loop.links.length) (hG:o3 G) (hN:E0 G) (hS:u4 G) (hR:w0 G) (hk:KC c):zP prog G 81 [l7 c,iv (k:Int)] (q9 (C6 c k)):=by
 refine zf func81 ntmps81 ?_;try simp only[iv]
 rw[gW h1 h2];generalize hx:c.pieces[k]=x at *;generalize hy:c.loop.links[k]=y at *;have c1:=lQ (G:=G) c.p x.day x.holder y.drawing hG hN hS hR hk.p;simp only[D7,p6] at c1;generalize P6 c.p x.day x.holder y.drawing=L at *;generalize O3 c.p x.day 1 x.holder y.drawing=e at *;have hs:=za hx (za hy (za h1 h2));repeat' first|(with_reducible first|refine zz ?_|refine zr ?_)|simp -dsimp[hs]|refine zq c1 ?_|refine zM 2 31 19 [0,1,2,4,5,6] ?_|with_reducible refine zE [0,1,2,4,5,6] ?_
@[simp] abbrev WB:List Nat:=[0,1,2,4,5,6,10,19]
theorem mQ (c:Case) (n:Int) (hG:o3 G) (hN:E0 G) (hS:u4 G) (hR:w0 G) (hk:KC c):zP prog G 35 [l7 c,iv n] (.tup [q9 (kw c n),iv (Z9 c n)]):=by
 refine zf func35 ntmps35 ?_;try simp only[iv]
 have c1:=iR (G:=G) c hG hN hS hR hk;have hq:=hk.q;by_cases h0:p9 c=0
 ·have hok:=I4 (A1 h0).2;have hE:Z9 c n=if 0<=n/\n<c.pieces.length then 0 else 2:=by unfold Z9;rw[if_neg (by simp[h0])]
  have hlen:=hok.e;have hl:=hok.l;have hw:IntKind.i64.wrap ((c.pieces.length:Int)-1)=(c.pieces.length:Int)-1:=n4 (by omega) (by omega);have c2:=O6 (G:=G) 0 ((c.pieces.length:Int)-1) [n] (by simp);unfold kw;rw[hE];rw[h0] at c1;by_cases hn:0<=n/\n<c.pieces.length
  ·rw[if_pos hn,if_pos rfl];obtain⟨k,rfl⟩:=Int.eq_ofNat_of_zero_le hn.1;rw[Int.toNat_natCast];have c3:=AC (G:=G) c k (by omega) (by omega) hG hN hS hR hk;rw[show ([(k:Int)].all λy=>decide (0<=y)&&decide (y<=(c.pieces.length:Int)-1))=true by simp;omega] at c2;generalize C6 c k=L at *;simp only[l7,j4] at c1 c3;have hs:=hw;repeat' first|(with_reducible first|refine zz ?_|refine zr ?_|refine zE WB ?_)|simp -dsimp[hs]|refine zp c1 ?_|refine zt c2 ?_ ?_ ?_;(focus simp;done);focus (simp;done)|refine zp c3 ?_|refine i8 ?_ ?_<;>intro h<;>try exact h.elim
  ·rw[if_neg hn,if_neg (by decide)];rw[show ([n].all λy=>decide (0<=y)&&decide (y<=(c.pieces.length:Int)-1))=false by simp;omega] at c2;simp only[l7,j4] at c1;have hs:=hw;repeat' first|(with_reducible first|refine zz ?_|refine zr ?_|refine zE WB ?_)|simp -dsimp[hs]|refine zp c1 ?_|refine zt c2 ?_ ?_ ?_;(focus simp;done);focus (simp;done)|refine i8 ?_ ?_<;>intro h<;>try exact h.elim
 ·have hE:Z9 c n=p9 c:=by unfold Z9;rw[if_pos h0]
  have hO:kw c n=[]:=by unfold kw;rw[if_neg (by rw[hE];exact h0)]
  rw[hE,hO];simp only[l7,j4] at c1;have hs:=h0;repeat' first|(with_reducible first|refine zz ?_|refine zr ?_|refine zE WB ?_)|simp -dsimp[hs]|refine zp c1 ?_|refine i8 ?_ ?_<;>intro h<;>try exact h.elim
theorem bD (n lo hi:Int):zP prog G 232 [iv n,iv lo,iv hi] (bv (decide (lo<=n)&&decide (n<=hi))):=by
 refine zf func232 ntmps232 ?_;try simp only[iv,iv,iv]
 have hs:=trivial;repeat' first|(with_reducible first|refine zz ?_|refine zr ?_|refine zE [0,1,2,6] ?_)|simp -dsimp[hs]|with_reducible refine j0 ?_ ?_<;>intro h<;>have h0:=h<;>(try simp only[i7] at h)<;>have h2:=h<;>(try simp at h2)<;>replace hs:=za h0 (za h (za h2 hs))
 all_goals try clear hs
 all_goals simp[*]
theorem GK (l:List Int) (n:Int) (hl:l.length<1000000):zP prog G 233 [q9 l,iv n] (bv (decide (n∈l))):=by
 refine zf func233 ntmps233 ?_;try simp only[q9,iv]
 have hs:=trivial;repeat' first|(with_reducible first|refine zz ?_|refine zE [0,1,4,5,9,17] ?_)|simp -dsimp[hs]
 refine i6 (ι:={ k:Nat // k<=l.length/\decide (n∈l)=decide (n∈l.drop k) }) (λi=>⟨18,[(0,q9 l),(1,iv n),(5,iv (i.1:Int))],[]⟩) (λi=>l.length-i.1) ⟨0,by simp⟩ (zv [0,1,5]) ?_;rintro⟨i,hi,hno⟩;simp only[iv,q9];by_cases hlt:i<l.length
 ·have hw:=zk i;rw[List.drop_eq_getElem_cons hlt] at hno;generalize hx:l[i]=x at *;have hs:=za hx (za hw hlt);repeat' first|(with_reducible first|refine zz ?_|refine zr ?_|refine zE [0,1,4,5,9,17] ?_)|simp -dsimp[hs]|refine i8 ?_ ?_<;>intro h<;>try exact h.elim
  all_goals try clear hs
  ·exact of_decide_eq_true (by rw[hno];simp[*])
  ·exact zn ⟨i+1,by omega,by rw[hno,decide_eq_decide,List.mem_cons];exact or_iff_right (λe=>absurd e.symm (by assumption))⟩ (zv [0,1,5])
 ·rw[List.drop_eq_nil_of_le (by omega)] at hno;have hs:=hlt;repeat' first|(with_reducible first|refine zz ?_|refine zr ?_|refine zE [0,1,4,5,9,17] ?_)|simp -dsimp[hs]|refine i8 ?_ ?_<;>intro h<;>try exact h.elim
  exact λhm=>by simp[hm] at hno
theorem rg (p:Prints) (n:Int) (hl:p.holders.length<1000):zP prog G 138 [D7 p,iv n] (iv (I9 (λy=>decide (y.id=n)) p.holders)):=by
 refine zf func138 ntmps138 ?_;try simp only[iv]
 have hs:=trivial;repeat' first|(with_reducible first|refine zz ?_|refine zE [0,1,2,4,5,10,20] ?_)|simp -dsimp[hs]
 refine i6 (ι:={ k:Nat // k<=p.holders.length/\∀ (j:Nat) (x:Holder),j<k->p.holders[j]?=some x->decide (x.id=n)=false }) (λi=>⟨22,[(1,iv n),(2,.one (.ptr 0 0)),(5,iv (i.1:Int))],[.row ((p6 p).map .im)]⟩) (λi=>p.holders.length-i.1) ⟨0,by simp⟩ (zv [1,2,5]) ?_;rintro⟨i,hi,hno⟩;simp only[iv];by_cases hlt:i<p.holders.length
 ·have hw:=zk i;have hx0:p.holders[i]?=some p.holders[i]:=by simp[hlt]
  generalize hx:p.holders[i]=x at *;have hs:=za hx (za hw hlt);repeat' first|(with_reducible first|refine zz ?_|refine zr ?_|refine zE [0,1,2,4,5,10,20] ?_)|simp -dsimp[hs]|refine i8 ?_ ?_<;>intro h<;>try exact h.elim
  all_goals try clear hs
  ·exact(M8 hx0 (by simp[*]) hno).symm
  ·exact At.round ⟨i+1,by omega,λj z hj hjx=>by
    by_cases e:j=i
    ·subst e;rw[hx0] at hjx;cases hjx;simp[*]
    ·exact hno j z (by omega) hjx⟩ (by simp;omega) (zv [1,2,5])
 ·have hs:=hlt;repeat' first|(with_reducible first|refine zz ?_|refine zr ?_|refine zE [0,1,2,4,5,10,20] ?_)|simp -dsimp[hs]|refine i8 ?_ ?_<;>intro h<;>try exact h.elim
  exact(T5 λj z hjx=>hno j z (by have:=e7 hjx;omega) hjx).symm
@[simp] abbrev Qt:List Nat:=[0,1,2,4,5,6,7,51,60,88]
open Classical in
theorem wy (p:Prints) (k:Nat) (x:Holder) (hx0:p.holders[k]?=some x) (hsm:SmallP p):zP prog G 182 [D7 p,iv (k:Int)] (bv (decide (sH (nums p.n.reg) p.holders k x))):=by
 refine zf func182 ntmps182 ?_;try simp only[iv]
 have hlt:k<p.holders.length:=e7 hx0;have hx:p.holders[k]=x:=(List.getElem?_eq_some_iff.1 hx0).2;have hdl:x.draws.length<=20:=hsm.d x (by rw[<- hx];exact List.getElem_mem hlt);have hh:=hsm.h;have hr:=hsm.r;have hrl:=hsm.l;have c1:=bD (G:=G) x.id 1 9999;have c2:=bD (G:=G) x.frm 1 x.to;have c3:=bQ (G:=G) p.n.reg (by omega);have c4:=λd=>GK (G:=G) (nums p.n.reg) d (by omega);have hs:True:=trivial;by_cases hA:JM p.holders k x
 ·obtain⟨a1,a3,a4,a6,a8,a9⟩:=id hA;rw[show (decide (1<=x.id)&&decide (x.id<=9999))=true by simp;omega] at c1;rw[show (decide (1<=x.frm)&&decide (x.frm<=x.to))=true by simp;omega] at c2;have a8':¬ (999:Int)<x.to:=by omega
  have a9':¬ (8:Int)<x.draws.length:=by omega
  have hcs:(¬ 0<k/\True/\∃ _:True,True)\/(0<k/\IntKind.i64.wrap ((k:Int)-1)=((k-1:Nat):Int)/\∃ h:k-1<p.holders.length,¬ x.id<=(p.holders[k-1]'h).id):=by
   rcases Nat.eq_zero_or_pos k with h0|h0
   ·exact .inl ⟨by omega,trivial,trivial,trivial⟩
   ·have h1:k-1<p.holders.length:=by omega
    exact .inr ⟨by omega,by rw[n4 (by omega) (by omega)];omega,h1,by have:=a3 h0 _ (List.getElem?_eq_getElem h1);omega⟩
  rcases hcs with⟨hk0,hwm,hi1,hlt1⟩|⟨hk0,hwm,hi1,hlt1⟩
  all_goals
   have hs:=za hx (za hlt (za a8' (za a9' (za hk0 (za hwm (za hi1 hlt1))))));repeat' first|with_reducible refine zz ?_|simp -dsimp[hs]|refine zq c1 ?_|refine zq c2 ?_|refine zp c3 ?_|refine zM 2 89 39 Qt ?_|with_reducible refine zE Qt ?_|refine i8 ?_ ?_<;>intro h<;>try exact h.elim
  all_goals
   refine i6 (ι:={ j:Nat // j<=x.draws.length/\∀ (i:Nat) (d:Int),i<j->x.draws[i]?=some d->Eg (nums p.n.reg) x.draws i d }) (λq=>⟨89,[(5,.one (.ptr 2 0)),(6,q9 (nums p.n.reg)),(7,iv (q.1:Int))],[.row ((p6 p).map .im),.vec 0 [] 0 true,.row ((o6 x).map .im)]⟩) (λq=>x.draws.length-q.1) ⟨0,by simp⟩ (zv [5,6,7]) ?_;rintro⟨j,hj,hjok⟩;simp only[iv,q9];by_cases hlj:j<x.draws.length
   ·have hx1:x.draws[j]?=some x.draws[j]:=by simp[hlj]
    have hwj:=zk j;have c5:=c4 x.draws[j];have hcj:(¬ 0<j/\True/\∃ _:True,True)\/(0<j/\IntKind.i64.wrap ((j:Int)-1)=((j-1:Nat):Int)/\∃ h:j-1<x.draws.length,True):=by
     rcases Nat.eq_zero_or_pos j with h0|h0
     ·exact .inl ⟨by omega,trivial,trivial,trivial⟩
     ·exact .inr ⟨by omega,by rw[n4 (by omega) (by omega)];omega,by omega,trivial⟩
    have hbadj:¬ Eg (nums p.n.reg) x.draws j x.draws[j]->decide (sH (nums p.n.reg) p.holders k x)=false:=λh=>decide_eq_false λh'=>h (h'.2 j _ hx1);have hstj:Eg (nums p.n.reg) x.draws j x.draws[j]->∀ (i:Nat) (d:Int),i<j+1->x.draws[i]?=some d->Eg (nums p.n.reg) x.draws i d:=λh i d hi hd=>by
     by_cases e:i=j
     ·subst e;rw[hx1] at hd;cases hd;exact h
     ·exact hjok i d (by omega) hd
    generalize decide (sH (nums p.n.reg) p.holders k x)=B at *;rcases hcj with⟨hj0,hwmj,hij,-⟩|⟨hj0,hwmj,hij,-⟩
    all_goals
     have hs:=za hx1 (za hlj (za hj0 (za hwmj (za hij hwj))));repeat' first|(with_reducible first|refine zz ?_|refine zr ?_)|simp -dsimp[hs]|refine zq c5 ?_|refine zM 8 89 26 Qt ?_|with_reducible refine zE Qt ?_|refine i8 ?_ ?_<;>intro h<;>try exact h.elim|with_reducible refine j0 ?_ ?_<;>intro h<;>have h0:=h<;>(try simp only[i7] at h)<;>have h2:=h<;>(try simp at h2)<;>replace hs:=za h0 (za h (za h2 hs))
     all_goals try clear hs
    all_goals first
     | exact zn ⟨j+1,by omega,hstj ⟨of_decide_eq_true (by assumption),λh1 e he=>by first|omega|(obtain⟨_,rfl⟩:=List.getElem?_eq_some_iff.1 he;omega)⟩⟩ (zv [5,6,7])
     | (refine hbadj λhh=>?_;have:=hh.1;simp_all;done)
     | (refine hbadj λhh=>?_;have:=hh.2 (by omega) _ (List.getElem?_eq_getElem hij);omega)
   ·have hyes:decide (sH (nums p.n.reg) p.holders k x)=true:=decide_eq_true ⟨hA,λi d hd=>hjok i d (by have:=e7 hd;omega) hd⟩;rw[hyes];have hs:=hlj;repeat' first|(with_reducible first|refine zz ?_|refine zr ?_|refine zE Qt ?_)|simp -dsimp[hs]|refine i8 ?_ ?_<;>intro h<;>try exact h.elim
 ·have hno:decide (sH (nums p.n.reg) p.holders k x)=false:=decide_eq_false λh=>hA h.1;rw[hno];generalize hb1:(decide (1<=x.id)&&decide (x.id<=9999))=b1 at c1;generalize hb2:(decide (1<=x.frm)&&decide (x.frm<=x.to))=b2 at c2;have hcs:(¬ 0<k/\True/\∃ _:True,True)\/(0<k/\IntKind.i64.wrap ((k:Int)-1)=((k-1:Nat):Int)/\∃ h:k-1<p.holders.length,True):=by
   rcases Nat.eq_zero_or_pos k with h0|h0
   ·exact .inl ⟨by omega,trivial,trivial,trivial⟩
   ·exact .inr ⟨by omega,by rw[n4 (by omega) (by omega)];omega,by omega,trivial⟩
  rcases hcs with⟨hk0,hwm,hi1,-⟩|⟨hk0,hwm,hi1,-⟩<;>cases b1<;>cases b2
  all_goals
   have hs:=za hx (za hlt (za hk0 (za hwm hi1)));repeat' first|(with_reducible first|refine zz ?_|refine zr ?_)|simp -dsimp[hs]|refine zq c1 ?_|refine zq c2 ?_|refine zM 2 89 39 Qt ?_|with_reducible refine zE Qt ?_|refine i8 ?_ ?_<;>intro h<;>try exact h.elim|with_reducible refine j0 ?_ ?_<;>intro h<;>have h0:=h<;>(try simp only[i7] at h)<;>have h2:=h<;>(try simp at h2)<;>replace hs:=za h0 (za h (za h2 hs))
  ·refine absurd ?_ hA;simp at hb1 hb2;exact⟨by omega,λh1=>by omega,by omega,by omega,by omega,by omega⟩
  ·refine absurd ?_ hA;simp at hb1 hb2;exact⟨by omega,λh1 y hy=>by
    obtain⟨_,rfl⟩:=List.getElem?_eq_some_iff.1 hy
    simp_all<;>omega,by omega,by omega,by omega,by omega⟩
theorem Ah (l:List Issue) (x:Print):(n9 l x.drawing x.letter).isSome=FX l x:=by
 unfold n9 FX;rw[Bool.eq_iff_iff,List.find?_isSome,List.any_eq_true];refine exists_congr λy=>and_congr_right λ_=>?_;simp only[Bool.and_eq_true,beq_iff_eq,decide_eq_true_eq];constructor<;>exact λ⟨h1,h2⟩=>⟨h1.symm,h2.symm⟩
theorem Dn (p:Prints) (i:Nat) (x:Print):wN p i x↔(0<i->∀ y,p.prints[i-1]?=some y->y.number<x.number)/\HD x=true/\Ik p.holders x=true/\FX p.n.reg x=true/\HC x=true/\HB x=true:=by
 refine and_congr_right λ_=>⟨λh=>⟨h 0 (by omega),h 1 (by omega),h 2 (by omega),h 3 (by omega),h 4 (by omega)⟩,λ⟨h1,h2,h3,h4,h5⟩ c hc=>?_⟩
 match c,hc with
 | 0,_=>exact h1
 | 1,_=>exact h2
 | 2,_=>exact h3
 | 3,_=>exact h4
 | 4,_=>exact h5
theorem zC {B b1 b2 b3 b4 b5:Bool} {O:Prop} {f l r:Int} (hf3:b3=true↔¬ f<0) (hP:B=true↔O/\(b1&&b2)=true/\b3=true/\b4=true/\decide (l<=2)=true/\(decide (r=-1)||b5&&decide (l=0))=true):(b1=false/\True/\True/\True/\True/\True/\True/\B=false)\/(¬ O/\B=false)\/(O/\((b1=true/\b2=false/\True/\True/\True/\True/\True/\B=false)\/(b1=true/\b2=true/\f<0/\True/\True/\True/\True/\B=false)\/(b1=true/\b2=true/\¬ f<0/\2<l/\True/\True/\True/\B=false)\/(b1=true/\b2=true/\¬ f<0/\¬ 2<l/\b4=false/\True/\True/\B=false)\/(b1=true/\b2=true/\¬ f<0/\¬ 2<l/\b4=true/\r=-1/\True/\B=true)\/(b1=true/\b2=true/\¬ f<0/\¬ 2<l/\b4=true/\¬ r=-1/\b5=false/\B=false)\/(b1=true/\b2=true/\¬ f<0/\¬ 2<l/\b4=true/\¬ r=-1/\b5=true/\B=decide (l=0)))):=by
 have hn:¬ (O/\(b1&&b2)=true/\b3=true/\b4=true/\decide (l<=2)=true/\(decide (r=-1)||b5&&decide (l=0))=true)->B=false:=λh=>Bool.eq_false_iff.2 λe=>h (hP.1 e);have t:=trivial;by_cases hO:O
 ·cases b1 with
  | false=>exact .inl ⟨rfl,t,t,t,t,t,t,hn λh=>by simpa using h.2.1⟩
  | true =>
    refine .inr (.inr ⟨hO,?_⟩);cases b2 with
    | false=>exact .inl ⟨rfl,rfl,t,t,t,t,t,hn λh=>by simpa using h.2.1⟩
    | true =>
      by_cases q2:f<0
      ·exact .inr (.inl ⟨rfl,rfl,q2,t,t,t,t,hn λh=>hf3.1 h.2.2.1 q2⟩)
      ·by_cases q3:2<l
       ·exact .inr (.inr (.inl ⟨rfl,rfl,q2,q3,t,t,t,hn λh=>by have:=of_decide_eq_true h.2.2.2.2.1;omega⟩))
       ·have h2:decide (l<=2)=true:=decide_eq_true (by omega);have hb3:b3=true:=hf3.2 q2;cases b4 with
        | false=>exact .inr (.inr (.inr (.inl ⟨rfl,rfl,q2,q3,rfl,t,t,hn λh=>Bool.noConfusion h.2.2.2.1⟩)))
        | true =>
          by_cases q4:r=-1
          ·exact .inr (.inr (.inr (.inr (.inl ⟨rfl,rfl,q2,q3,rfl,q4,t,hP.2 ⟨hO,rfl,hb3,rfl,h2,by rw[decide_eq_true q4];rfl⟩⟩))))
          ·cases b5 with
           | false=>exact .inr (.inr (.inr (.inr (.inr (.inl ⟨rfl,rfl,q2,q3,rfl,q4,rfl,hn λh=>by have:=h.2.2.2.2.2;rw[decide_eq_false q4] at this;simp at this⟩)))))
           | true =>
             refine .inr (.inr (.inr (.inr (.inr (.inr ⟨rfl,rfl,q2,q3,rfl,q4,rfl,?_⟩)))));by_cases q5:l=0
             ·rw[decide_eq_true q5];exact hP.2 ⟨hO,rfl,hb3,rfl,h2,by rw[decide_eq_true q5];simp⟩
             ·rw[decide_eq_false q5];exact hn λh=>by have:=h.2.2.2.2.2;rw[decide_eq_false q4,decide_eq_false q5] at this;simp at this
 ·exact .inr (.inl ⟨hO,hn λh=>hO h.1⟩)
@[simp] abbrev QF:List Nat:=[0,1,2,4,5,7,50,61]
open Classical in
theorem zQ (p:Prints) (k:Nat) (x:Print) (hx0:p.prints[k]?=some x) (hsm:SmallP p):zP prog G 183 [D7 p,iv (k:Int)] (bv (decide (wN p k x))):=by
 refine zf func183 ntmps183 ?_;try simp only[iv]
 have hlt:k<p.prints.length:=e7 hx0;have hx:p.prints[k]=x:=(List.getElem?_eq_some_iff.1 hx0).2;have hlo:=hsm.lo x (by rw[<- hx];exact List.getElem_mem hlt);have hh:=hsm.h;have hrl:=hsm.l;have hql:=hsm.q;have c1:=bD (G:=G) x.number 1 9999;have c2:=bD (G:=G) x.day 0 14610;have c3:=rg (G:=G) p x.holder (by omega);have c4:=ud (G:=G) p.n.reg x.drawing x.letter (by omega);have c5:=bD (G:=G) x.back x.day 14610;have hf:=vM (λy:Holder=>decide (y.id=x.holder)) p.holders;have hP:=Dn p k x;rw[<- Ah,show Ik p.holders x=p.holders.any (λy=>decide (y.id=x.holder)) from rfl] at hP;simp only[D9] at c4;generalize I9 (λy:Holder=>decide (y.id=x.holder)) p.holders=f at *;generalize (p.holders.any λy=>decide (y.id=x.holder))=b3 at *;generalize (n9 p.n.reg x.drawing x.letter).isSome=b4 at *;generalize (n9 p.n.reg x.drawing x.letter).getD I7=z at *;generalize hB:decide (wN p k x)=B;have hP':B=true↔wN p k x:=by rw[<- hB,decide_eq_true_eq]
 rw[hP] at hP';clear hP hB;generalize hb1:(decide (1<=x.number)&&decide (x.number<=9999))=b1 at c1;generalize hb2:(decide (0<=x.day)&&decide (x.day<=14610))=b2 at c2;generalize hb5:(decide (x.day<=x.back)&&decide (x.back<=14610))=b5 at c5;have e1:HD x=(b1&&b2):=by rw[<- hb1,<- hb2];rfl
 have e5:HB x=(decide (x.back=-1)||b5&&decide (x.lost=0)):=by rw[<- hb5];rfl
 rw[e1,e5,show HC x=decide (x.lost<=2) from rfl] at hP';clear e1 e5 hb1 hb2 hb5;have hf3:b3=true↔¬ f<0:=by cases b3<;>simpa using hf
 clear hf;have hs:True:=trivial;have hcs:(¬ 0<k/\True/\(∃ _:True,True)/\(0<k->∀ y,p.prints[k-1]?=some y->y.number<x.number))\/(0<k/\IntKind.i64.wrap ((k:Int)-1)=((k-1:Nat):Int)/\(∃ h:k-1<p.prints.length,¬ x.number<=(p.prints[k-1]'h).number)/\(0<k->∀ y,p.prints[k-1]?=some y->y.number<x.number))\/(0<k/\IntKind.i64.wrap ((k:Int)-1)=((k-1:Nat):Int)/\(∃ h:k-1<p.prints.length,x.number<=(p.prints[k-1]'h).number)/\¬ (0<k->∀ y,p.prints[k-1]?=some y->y.number<x.number)):=by
  rcases Nat.eq_zero_or_pos k with h0|h0
  ·exact .inl ⟨by omega,trivial,⟨trivial,trivial⟩,λh=>by omega⟩
  ·have h1:k-1<p.prints.length:=by omega
   have h2:=List.getElem?_eq_getElem h1;have hw:IntKind.i64.wrap ((k:Int)-1)=((k-1:Nat):Int):=by rw[n4 (by omega) (by omega)];omega
   by_cases h3:x.number<=(p.prints[k-1]'h1).number
   ·exact .inr (.inr ⟨h0,hw,⟨h1,h3⟩,λh=>by have:=h h0 _ h2;omega⟩)
   ·exact .inr (.inl ⟨h0,hw,⟨h1,h3⟩,λ_ y hy=>by rw[h2] at hy;cases hy;omega⟩)
 generalize (0<k->∀ y,p.prints[k-1]?=some y->y.number<x.number)=O at *;have hc2:=zC hf3 hP';rcases hc2 with⟨g1,g2,g3,g4,g5,g6,g7,gB⟩|⟨hO,gB⟩|⟨hO,hc2⟩
 ·clear hcs;have hs:=za hx (za hlt g1);repeat' first|(with_reducible first|refine zz ?_|refine zr ?_)|simp -dsimp[hs]|refine zq c1 ?_|refine zM 2 77 38 QF ?_|with_reducible refine zE QF ?_|refine i8 ?_ ?_<;>intro h<;>try exact h.elim
  all_goals try clear hs
  all_goals exact gB
 ·rcases hcs with⟨hk0,hwm,⟨hi1,hlt1⟩,hO1⟩|⟨hk0,hwm,⟨hi1,hlt1⟩,hO1⟩|⟨hk0,hwm,⟨hi1,hlt1⟩,hO1⟩
  ·exact absurd hO1 hO
  ·exact absurd hO1 hO
  ·cases b1
   all_goals
    have hs:=za hx (za hlt (za hk0 (za hwm (za hi1 hlt1))));repeat' first|(with_reducible first|refine zz ?_|refine zr ?_)|simp -dsimp[hs]|refine zq c1 ?_|refine zM 2 77 38 QF ?_|with_reducible refine zE QF ?_|refine i8 ?_ ?_<;>intro h<;>try exact h.elim
    all_goals try clear hs
   all_goals exact gB
 ·rcases hc2 with⟨g1,g2,g3,g4,g5,g6,g7,gB⟩|⟨g1,g2,g3,g4,g5,g6,g7,gB⟩|⟨g1,g2,g3,g4,g5,g6,g7,gB⟩|⟨g1,g2,g3,g4,g5,g6,g7,gB⟩|⟨g1,g2,g3,g4,g5,g6,g7,gB⟩|⟨g1,g2,g3,g4,g5,g6,g7,gB⟩|⟨g1,g2,g3,g4,g5,g6,g7,gB⟩<;>rcases hcs with⟨hk0,hwm,⟨hi1,hlt1⟩,hO1⟩|⟨hk0,hwm,⟨hi1,hlt1⟩,hO1⟩|⟨hk0,hwm,⟨hi1,hlt1⟩,hO1⟩
  all_goals first
   | exact absurd hO hO1
   | skip
  all_goals
   have hs:=za hx (za hlt (za hk0 (za hwm (za hi1 (za hlt1 (za g1 (za g2 (za g3 (za g4 (za g5 (za g6 g7)))))))))));repeat' first|(with_reducible first|refine zz ?_|refine zr ?_)|simp -dsimp[hs]|refine zq c1 ?_|refine zq c2 ?_|refine zq c3 ?_|refine zp c4 ?_|refine zp c5 ?_|refine zM 2 77 38 QF ?_|with_reducible refine zE QF ?_|refine i8 ?_ ?_<;>intro h<;>try exact h.elim
   all_goals try clear hs
  all_goals first
   | exact gB
   | exact gB.symm
   | trace_state
@[simp] abbrev Qe:List Nat:=[0,1,2,3,4,14,19,25,30,36]
open Classical in
theorem wD (p:Prints) (hsm:SmallP p):zP prog G 134 [D7 p] (bv (G4 p)):=by
 refine zf func134 ntmps134 ?_;try simp only[iv]
 have hh:=hsm.h;have hq:=hsm.q;by_cases h6:¬ p.holders.length<=6
 ·have h6':(6:Int)<p.holders.length:=by omega
  have hno:=L5 (p:=p) λh=>h6 h.hl;have hs:=h6';repeat' first|(with_reducible first|refine zz ?_|refine zr ?_|refine zE Qe ?_)|simp -dsimp[hs]|refine i8 ?_ ?_<;>intro h<;>try exact h.elim
  all_goals try clear hs
  all_goals simp[hno]
 replace h6:=Classical.not_not.1 h6;have h6':¬ (6:Int)<p.holders.length:=by omega
 by_cases h30:¬ p.prints.length<=30
 ·have h30':(30:Int)<p.prints.length:=by omega
  have hno:=L5 (p:=p) λh=>h30 h.pl;have hs:=za h6' h30';repeat' first|(with_reducible first|refine zz ?_|refine zr ?_|refine zE Qe ?_)|simp -dsimp[hs]|refine i8 ?_ ?_<;>intro h<;>try exact h.elim
  all_goals try clear hs
  all_goals simp[hno]
 replace h30:=Classical.not_not.1 h30;have h30':¬ (30:Int)<p.prints.length:=by omega
 have hs:=za h6' h30';repeat' first|(with_reducible first|refine zz ?_|refine zE Qe ?_)|simp -dsimp[hs]|refine i8 ?_ ?_<;>intro h<;>try exact h.elim
 all_goals try clear hs
 refine i6 (ι:={ k:Nat // k<=p.holders.length/\∀ (j:Nat) (x:Holder),j<k->p.holders[j]?=some x->sH (nums p.n.reg) p.holders j x }) (λq=>⟨37,[(1,.one (.ptr 0 0)),(3,iv (q.1:Int))],[.row ((p6 p).map .im)]⟩) (λq=>p.holders.length-q.1) ⟨0,by simp⟩ (zv [1,3]) ?_;rintro⟨k,hk,hok⟩;simp only[iv];by_cases hlt:k<p.holders.length
 ·have hx0:p.holders[k]?=some p.holders[k]:=by simp[hlt]
  have hw:=zk k;have c1:=wy (G:=G) p k _ hx0 hsm;generalize hx:p.holders[k]=x at *;have hstep:sH (nums p.n.reg) p.holders k x->∀ (j:Nat) (z:Holder),j<k+1->p.holders[j]?=some z->sH (nums p.n.reg) p.holders j z:=λh j z hj hz=>by
   by_cases e:j=k
   ·subst e;rw[hx0] at hz;cases hz;exact h
   ·exact hok j z (by omega) hz
  by_cases hB:sH (nums p.n.reg) p.holders k x
  ·rw[decide_eq_true hB] at c1;have hs:=za hlt hw;repeat' first|(with_reducible first|refine zz ?_|refine zE Qe ?_)|simp -dsimp[hs]|refine zp c1 ?_|refine i8 ?_ ?_<;>intro h<;>try exact h.elim
   all_goals try clear hs
   exact zn ⟨k+1,by omega,hstep hB⟩ (zv [1,3])
  ·rw[decide_eq_false hB] at c1;have hno:=L5 (p:=p) λh'=>hB (h'.h k x hx0);have hs:=za hlt hw;repeat' first|(with_reducible first|refine zz ?_|refine zr ?_|refine zE Qe ?_)|simp -dsimp[hs]|refine zp c1 ?_|refine i8 ?_ ?_<;>intro h<;>try exact h.elim
   all_goals try clear hs
   all_goals simp[hno]
 have hall:∀ i x,p.holders[i]?=some x->sH (nums p.n.reg) p.holders i x:=λi x hx=>hok i x (by have:=e7 hx;omega) hx;have hs:=hlt;repeat' first|(with_reducible first|refine zz ?_|refine zE Qe ?_)|simp -dsimp[hs]|refine i8 ?_ ?_<;>intro h<;>try exact h.elim
 all_goals try clear hs
 clear hlt hok hk;refine i6 (ι:={ k:Nat // k<=p.prints.length/\∀ (j:Nat) (x:Print),j<k->p.prints[j]?=some x->wN p j x }) (λq=>⟨37,[(1,.one (.ptr 0 0)),(4,iv (q.1:Int))],[.row ((p6 p).map .im)]⟩) (λq=>p.prints.length-q.1) ⟨0,by simp⟩ (zv [1,4]) ?_;rintro⟨k,hk,hok⟩;simp only[iv];by_cases hlt:k<p.prints.length
 ·have hx0:p.prints[k]?=some p.prints[k]:=by simp[hlt]
  have hw:=zk k;have c1:=zQ (G:=G) p k _ hx0 hsm;generalize hx:p.prints[k]=x at *;have hstep:wN p k x->∀ (j:Nat) (z:Print),j<k+1->p.prints[j]?=some z->wN p j z:=λh j z hj hz=>by
   by_cases e:j=k
   ·subst e;rw[hx0] at hz;cases hz;exact h
   ·exact hok j z (by omega) hz
  by_cases hB:wN p k x
  ·rw[decide_eq_true hB] at c1;have hs:=za hlt hw;repeat' first|(with_reducible first|refine zz ?_|refine zE Qe ?_)|simp -dsimp[hs]|refine zp c1 ?_|refine i8 ?_ ?_<;>intro h<;>try exact h.elim
   all_goals try clear hs
   exact zn ⟨k+1,by omega,hstep hB⟩ (zv [1,4])
  ·rw[decide_eq_false hB] at c1;have hno:=L5 (p:=p) λh'=>hB (h'.q k x hx0);have hs:=za hlt hw;repeat' first|(with_reducible first|refine zz ?_|refine zr ?_|refine zE Qe ?_)|simp -dsimp[hs]|refine zp c1 ?_|refine i8 ?_ ?_<;>intro h<;>try exact h.elim
   all_goals try clear hs
   all_goals simp[hno]
 have hyes:G4 p=true:=dG ⟨h6,h30,hall,λi x hx=>hok i x (by have:=e7 hx;omega) hx⟩;rw[hyes];have hs:=hlt;repeat' first|(with_reducible first|refine zz ?_|refine zr ?_|refine zE Qe ?_)|simp -dsimp[hs]|refine i8 ?_ ?_<;>intro h<;>try exact h.elim
 all_goals try clear hs
theorem wE (p:Prints) (hk:KP p):zP prog G 83 [D7 p] (iv (u3 p)):=by
 refine zf func83 ntmps83 ?_;try simp only[iv]
 have c1:=BJ (G:=G) p.n hk.n;have c2:=wD (G:=G) p hk.p;by_cases h0:v7 p.n=0
 ·simp only[h0] at c1;have hE:u3 p=if G4 p=true then 0 else 70:=by unfold u3;rw[if_neg (by simp[h0])]
  rw[hE];generalize G4 p=b at *;cases b
  ·have hs:=trivial;repeat' first|(with_reducible first|refine zz ?_|refine zr ?_|refine zE [0,1,2,3,8,12] ?_)|simp -dsimp[hs]|refine zp c1 ?_|refine zp c2 ?_|refine i8 ?_ ?_<;>intro h<;>try exact h.elim
  ·have hs:=trivial;repeat' first|(with_reducible first|refine zz ?_|refine zr ?_|refine zE [0,1,2,3,8,12] ?_)|simp -dsimp[hs]|refine zp c1 ?_|refine zp c2 ?_|refine i8 ?_ ?_<;>intro h<;>try exact h.elim
 ·have hE:u3 p=v7 p.n:=by unfold u3;rw[if_pos h0]
  rw[hE];have hs:=h0;repeat' first|(with_reducible first|refine zz ?_|refine zr ?_|refine zE [0,1,2,3,8,12] ?_)|simp -dsimp[hs]|refine zp c1 ?_|refine i8 ?_ ?_<;>intro h<;>try exact h.elim
end Go.Proofs
namespace Go.Ab
open Go
def lexB:List Int->List Int->Bool
 | a :: x,b :: y=>if a=b then lexB x y else decide (a<b)
 | _,_=>false
theorem ic {l:List Int} (h:l.Nodup):(j8 l).Pairwise (· < ·):=by
 have h1:(j8 l).Nodup:=(List.mergeSort_perm l _).nodup_iff.2 h;have h2:=List.pairwise_mergeSort (le:=λx y:Int=>decide (x<=y)) (λa b c h1 h2=>by simp at *;omega) (λa b=>by simp;omega) l;rw[List.nodup_iff_pairwise_ne] at h1;refine(h1.and h2).imp ?_;rintro a b ⟨h3,h4⟩;simp at h4;omega
def U4 (N:List Int) (s:Nat) (k:Nat):List Int:=((List.range k).filter λi=>s.testBit i).map λi=>N.getD i 0
theorem eD (N:List Int) (s k:Nat):U4 N s (k+1)=U4 N s k++(if s.testBit k=true then [N.getD k 0] else []):=by
 unfold U4;rw[List.range_succ,List.filter_append,List.map_append]
 congr 1
 by_cases h:s.testBit k=true<;>simp[h]
end Go.Ab
namespace Go.Proofs
open Go Go.Ab
end Go.Proofs
namespace Go.Ab
open Go
theorem BT (s i:Nat):IntKind.i64.wrap ((BitVec.ofInt 64 ((s:Int).fdiv (2 ^ i)) &&& BitVec.ofInt 64 1).toNat:Int)=if s.testBit i=true then 1 else 0:=by
 have e1:(s:Int).fdiv (2 ^ i)=((s / 2 ^ i:Nat):Int):=by
  rw[Int.fdiv_eq_ediv_of_nonneg _ (by exact Int.pow_nonneg (by omega))];simp
 have e2:(BitVec.ofInt 64 ((s / 2 ^ i:Nat):Int) &&& BitVec.ofInt 64 1).toNat=(s / 2 ^ i) % 2:=by
  have h1:(BitVec.ofInt 64 1)=1#64:=by decide
  rw[h1,BitVec.ofInt_natCast,BitVec.toNat_and,BitVec.toNat_ofNat,BitVec.toNat_ofNat];rw[show (1 % 2 ^ 64:Nat)=1 by decide,Nat.and_one_is_mod];omega
 rw[e1,e2,Nat.testBit_eq_decide_div_mod_eq];rcases Nat.mod_two_eq_zero_or_one (s / 2 ^ i) with h|h
 ·rw[h];simp;decide
 ·rw[h];simp;decide
end Go.Ab
namespace Go.Proofs
open Go Go.Ab
variable {G:LI}
theorem pG (l:List Int):(j8 l).length=l.length:=(List.mergeSort_perm l _).length_eq
theorem gF (N:List Int) (s k:Nat):(U4 N s k).length<=k:=by
 induction k with
 | zero=>simp[U4]
 | succ k ih =>
   rw[eD];split<;>simp<;>omega
open Go Go.Ab Tryz
def Ev (l:List Int):List IC:=[.sl (l.map encI)]
def Km (L:List (List Int)):DV:=.one (.im (.sl (L.map Ev)))
attribute [simp] Ev Km
def ko (O:List Int) (k:Nat):List (List Int):=(List.range k).map λs=>U4 O s O.length
def H9 (O:List Int):List (List Int):=ko O (2 ^ O.length)
theorem lw (O:List Int) (k:Nat):(ko O k).length=k:=by simp[ko]
theorem aW (O:List Int):(H9 O).length=2 ^ O.length:=lw _ _
theorem nK (O:List Int) (k:Nat):ko O (k+1)=ko O k++[U4 O k O.length]:=by
 simp[ko,List.range_succ]
theorem wn (O:List Int):ko O 0=[]:=rfl
@[simp] abbrev Qu:List Nat:=[0,1,2,3,4,5,6,7,14,21,28]
theorem wC (n:Notes) (hs:zb n) (hok:di n) (h5:(j7 n.notes).length<=5):zP prog G 43 [o5 n] (Km (H9 (j8 (j7 n.notes)))):=by
 refine zf func43 ntmps43 ?_;try simp only[o5]
 have c1:=Du (G:=G) n hs hok;have hn16:=hs.2.1;have hnu:=tp (n:=n);have hOl:(j8 (j7 n.notes)).length=(bP n.notes).length:=by rw[<- hnu,List.length_map]
 have hO5:(j8 (j7 n.notes)).length<=5:=by rw[pG];exact h5
 have hIlt:∀ i∈bP n.notes,i<n.notes.length:=λi hi=>Ao hi;have hJl:(V9 (bP n.notes)).length=(j8 (j7 n.notes)).length:=by rw[hOl];simp[V9]
 have hJi:∀ i (h:i<(j8 (j7 n.notes)).length),∃ j,∃ hj:j<n.notes.length,(V9 (bP n.notes))[i]?=some (j:Int)/\(j8 (j7 n.notes))[i]=n.notes[j].number:=λi h=>by
  have hi:i<(bP n.notes).length:=by omega
  refine⟨(bP n.notes)[i],hIlt _ (List.getElem_mem hi),by simp[V9,hi],?_⟩;have h1:((bP n.notes).map (C5 n.notes))[i]?=(j8 (j7 n.notes))[i]?:=by rw[hnu]
  rw[List.getElem?_map,List.getElem?_eq_getElem hi,List.getElem?_eq_getElem h] at h1;simp only[Option.map_some,Option.some.injEq] at h1;rw[<- h1];simp[C5,hIlt _ (List.getElem_mem hi)]
 clear hnu hIlt hOl;generalize j8 (j7 n.notes)=O at *;generalize V9 (bP n.notes)=J at *;have hPe:(2:Nat) ^ O.length<=2 ^ 5:=Nat.pow_le_pow_right (by omega) hO5;have hmin:min O.length 64=O.length:=by omega
 have hb64:IntKind.i64.bits=64:=rfl;have hlnn:¬ ((O.length:Int)<0):=by omega
 have hsh:IntKind.i64.wrap ((2:Int) ^ O.length)=((2 ^ O.length:Nat):Int):=by
  rw[show ((2:Int) ^ O.length)=((2 ^ O.length:Nat):Int) by simp];exact(λ(P:Nat) (h:P<=2 ^ 5)=>(n4 (by omega) (by omega):IntKind.i64.wrap (P:Int)=(P:Int))) _ hPe
 have hTz:H9 O=ko O (2 ^ O.length):=rfl;simp only[q9] at c1;have hs:=trivial;repeat' first|(with_reducible first|refine zz ?_|refine zE Qu ?_)|simp -dsimp[hs]|refine zp c1 ?_
 all_goals try clear hs
 generalize hP:2 ^ O.length=P at *;refine i6 (ι:={ p:Nat×Nat×Bool // p.1<=P }) (λp=>⟨46,[(1,.one (.ptr 0 0)),(3,q9 J),(4,.one (.vec 2 p.1.2.1 0 p.1.1)),(5,iv (p.1.1:Int))],[.row ((p7 n).map .im),.vec 1 [] 0 true,.vec 1 (l5 ((ko O p.1.1).map Ev)) p.1.2.1 p.1.2.2]⟩) (λp=>P-p.1.1) ⟨(0,0,true),by simp⟩ (zv [1,3,4,5] (by simp[wn])) ?_;rintro⟨⟨k,g,nl⟩,hk⟩;simp only at hk;simp only[iv,q9];have hkl:=lw O k;by_cases hlt:k<P
 ·have hw:=zk k;have htk:=nK O k;have hz:U4 O k 0=[]:=by simp[U4]
  generalize ko O k=T at *;subst hkl;have hs:=za hJl (za hmin (za hb64 (za hsh (za hlnn hlt))));repeat' first|(with_reducible first|refine zz ?_|refine zE Qu ?_)|simp -dsimp[hs]|refine i8 ?_ ?_<;>intro h<;>try exact h.elim
  all_goals try clear hs
  refine i6 (ι:={ p:Nat×Nat // p.1<=O.length }) (λp=>⟨46,[(1,.one (.ptr 0 0)),(3,q9 J),(4,.one (.vec 2 g 0 T.length)),(5,iv (T.length:Int)),(6,.one (.vec 3 p.1.2 0 (U4 O T.length p.1.1).length)),(7,iv (p.1.1:Int))],[.row ((p7 n).map .im),.vec 1 [] 0 true,.vec 1 (l5 (T.map Ev)) g nl,.vec 1 (l5 ((U4 O T.length p.1.1).map encI)) p.1.2 false]⟩) (λp=>O.length-p.1.1) ⟨(0,0),by simp⟩ (zv [1,3,4,5,6,7] (by simp[hz])) ?_;rintro⟨⟨i,g2⟩,hi⟩;simp only at hi;simp only[iv,q9];by_cases hil:i<O.length
  ·have hwi:=zk i;have hi63:min i 64=i:=by omega
   have hin:¬ ((i:Int)<0):=by omega
   have hbit:=BT T.length i;have hSl:=gF O T.length i;obtain⟨j,hj,hJ,hOi⟩:=hJi i hil;have hJ2:J[i]'(by omega)=(j:Int):=(List.getElem?_eq_some_iff.1 hJ).2;have hsu:U4 O T.length (i+1)=U4 O T.length i++(if T.length.testBit i=true then [n.notes[j].number] else []):=by
    rw[eD,show O.getD i 0=n.notes[j].number by simp[hil,hOi]]
   have hji:(j:Int)<n.notes.length:=by omega
   generalize hx:n.notes[j]=x at *;generalize U4 O T.length i=S at *;cases hb:T.length.testBit i
   ·rw[hb] at hbit hsu;simp at hbit;rw[if_neg Bool.false_ne_true,List.append_nil] at hsu;have hs:=za hJl (za hil (za hwi (za hin (za hi63 (za hb64 hbit)))));repeat' first|(with_reducible first|refine zz ?_|refine zE Qu ?_)|simp -dsimp[hs]|refine i8 ?_ ?_<;>intro h<;>try exact h.elim
    all_goals try clear hs
    all_goals exact zn ⟨(i+1,g2),by simp only;omega⟩ (zv [1,3,4,5,6,7] (by simp[hsu]))
   ·rw[hb] at hbit hsu;simp at hbit;rw[if_pos rfl] at hsu;have hs:=za hJl (za hil (za hwi (za hin (za hi63 (za hb64 (za hbit (za hJ (za hJ2 (za hx (za hj hji))))))))));repeat' first|(with_reducible first|refine zz ?_|refine And.intro (by omega) ?_)|simp -dsimp[hs]|refine zM 11 46 11 Qu ?_|with_reducible refine zE Qu ?_|refine i8 ?_ ?_<;>intro h<;>try exact h.elim
    all_goals try clear hs
    all_goals exact zn ⟨(i+1,g2+1),by simp only;omega⟩ (zw [1,3,4,5,6,7] 4 (by simp[hsu]))
  ·obtain rfl:i=O.length:=by omega
   generalize U4 O T.length O.length=S at *;have hs:=za hJl hw;repeat' first|(with_reducible first|refine zz ?_|refine And.intro (by omega) ?_|refine zE Qu ?_)|simp -dsimp[hs]|refine i8 ?_ ?_<;>intro h<;>try exact h.elim
   all_goals try clear hs
   all_goals exact zn ⟨(T.length+1,g+1,false),by simp only;omega⟩ (zw [1,3,4,5] 3 (by simp[htk]))
 ·obtain rfl:k=P:=by omega
  rw[hTz];generalize ko O k=T at *;subst hkl;have hs:=za hJl (za hmin (za hb64 (za hsh hlnn)));repeat' first|(with_reducible first|refine zz ?_|refine zr ?_|refine zE Qu ?_)|simp -dsimp[hs]|refine i8 ?_ ?_<;>intro h<;>try exact h.elim
  all_goals try clear hs
  all_goals simp
end Go.Proofs
namespace Go.Ab
open Go
structure Str where
 frm:Int
 to:Int
 letter:Int
 deriving DecidableEq
def Bu (x:Str):List IC:=[rI x.frm,rI x.to,rI x.letter]
def JT (l:List Str):DV:=.one (.im (.sl (l.map Bu)))
attribute [simp] Bu JT
end Go.Ab
namespace Go.Proofs
open Go Go.Ab
def bL (l:List Note):List Int:=1 :: l.flatMap λx=>[x.frm,x.to+1]
def az (l:List Note):List Int:=(r7 (j8 (bL l))).filter λm=>decide (m<=999)
theorem wX (l:List Note):(az l).length<=2*l.length+1:=by
 have h1:=List.length_filter_le (λm:Int=>decide (m<=999)) (r7 (j8 (bL l)));have h2:=aL (j8 (bL l));have h3:(bL l).length=2*l.length+1:=by
  unfold bL;have:∀ l:List Note,(l.flatMap λx=>[x.frm,x.to+1]).length=2*l.length:=λl=>by
   induction l with
   | nil=>rfl
   | cons a r ih=>rw[List.flatMap_cons,List.length_append,ih,List.length_cons,List.length_cons,List.length_cons,List.length_nil];omega
  rw[List.length_cons,this]
 rw[N6,h3] at h2;unfold az;omega
theorem Gn {n:Notes} (hok:di n) {x:Note} (hx:x∈n.notes):1<=x.frm/\x.frm<=x.to/\x.to<=999:=by
 obtain⟨i,hi,e⟩:=List.mem_iff_getElem.1 hx;have h:=hok i x (by rw[List.getElem?_eq_getElem hi,e]);simp only[tw,Fs,Bool.and_eq_true,decide_eq_true_eq] at h;omega
def GA (n:Notes) (s:List Int) (d m:Int):Int:=gY n.notes (T4 s [] m n.notes) d
def stepS (a b:List Int):List Int:=List.zipWith (λx y=>if y=x then x else 0) a b
variable {G:LI}
attribute [simp] r9 cX v6 A8 nilV K0 ZK
end Go.Proofs
namespace Go.Proofs
open Go Go.Ab
theorem yc {l:List Issue} (h:l4 l=0) {x:Issue} (hx:x∈l):1<=x.drawing/\1<=x.letter/\x.letter<=8:=by
 have h1:=(L0 (I6 (H1 h))).2.2.2.1 x hx;simp only[n5,yY,Bool.and_eq_true,decide_eq_true_eq] at h1;omega
theorem jN (l:List Issue):∀ (k:Nat) (d:Int),d∈E3 l k->∃ x∈l,x.drawing=d
 | 0,d,h=>by simp[E3] at h
 | k+1,d,h=>by
   simp only[E3] at h;rcases List.mem_append.1 h with h|h
   ·exact jN l k d h
   ·split at h
    ·rename_i x hx;split at h
     ·exact⟨x,List.mem_of_getElem? hx,(List.mem_singleton.1 h).symm⟩
     ·cases h
    ·cases h
theorem rX (l:List Note) (b:List Bool) (d:Int):∀ k,0<=qb l b d k->∃ x,l[(qb l b d k).toNat]?=some x/\x.drawing=d
 | 0,h=>by simp[qb] at h
 | k+1,h=>by
   unfold qb at h ⊢;split
   ·rename_i hc;obtain⟨x,h1,h2⟩:=Option.map_eq_some_iff.1 hc.2;exact⟨x,by simpa using h1,h2⟩
   ·rename_i hc;rw[if_neg hc] at h;exact rX l b d k h
end Go.Proofs
namespace Go.Ab
open Go
def Hr (L:List Bool):List DC:=L.map λb=>.im (.raw (.bool b))
@[simp] theorem JN (m:Nat) (O:List DObj) (L:List Bool):(Hr L).map (fz m O)=Hr L:=by
 simp only[Hr,List.map_map];rfl
end Go.Ab
namespace Go.Proofs
open Go Go.Ab
variable {G:LI}
end Go.Proofs
namespace Go.Proofs
open Go Go.Ab
variable {G:LI}
open Go Go.Ab Tryz
def Hv (p:Prints):Prop:=Cs p.n/\p.holders.length<=8/\p.prints.length<=40/\∀ x∈p.holders,x.draws.length<=20
def gz (p:Prints):Bool:=ct p.n&&(decide (p.holders.length<=8)&&(decide (p.prints.length<=40)&&p.holders.all λx=>decide (x.draws.length<=20)))
@[simp] abbrev Qv:List Nat:=[0,1,2,3,18,23,33]
theorem Bb (p:Prints):zP prog G 66 [D7 p] (bv (!gz p)):=by
 refine zf func66 ntmps66 ?_;try simp only[iv]
 have c1:=Bc (G:=G) p.n;have hE:gz p=(ct p.n&&(decide (p.holders.length<=8)&&(decide (p.prints.length<=40)&&p.holders.all λx=>decide (x.draws.length<=20)))):=rfl;simp only[o5,p7] at c1;cases hS:ct p.n
 ·rw[hS,Bool.false_and] at hE;rw[hS] at c1;rw[hE];have hs:=trivial;repeat' first|(with_reducible first|refine zz ?_|refine zr ?_|refine zE Qv ?_)|simp -dsimp[hs]|refine zp c1 ?_|refine i8 ?_ ?_<;>intro h<;>try exact h.elim
 ·rw[hS,Bool.true_and] at hE;rw[hS] at c1;by_cases h8:p.holders.length<=8
  ·have h8':¬ (8:Int)<p.holders.length:=by omega
   rw[decide_eq_true h8,Bool.true_and] at hE;by_cases h40:p.prints.length<=40
   ·have h40':¬ (40:Int)<p.prints.length:=by omega
    rw[decide_eq_true h40,Bool.true_and] at hE;have hs:=za h8' h40';repeat' first|(with_reducible first|refine zz ?_|refine zE Qv ?_)|simp -dsimp[hs]|refine zp c1 ?_|refine i8 ?_ ?_<;>intro h<;>try exact h.elim
    refine i6 (ι:={ k:Nat // k<=p.holders.length/\(p.holders.all λx=>decide (x.draws.length<=20))=(p.holders.drop k).all λx=>decide (x.draws.length<=20) }) (λq=>⟨34,[(1,.one (.ptr 0 0)),(3,iv (q.1:Int))],[.row ((p6 p).map .im)]⟩) (λq=>p.holders.length-q.1) ⟨0,by simp⟩ (zv [1,3]) ?_;rintro⟨k,hk,hall⟩;simp only[iv];by_cases hlt:k<p.holders.length
    ·have hw:=zk k;have hst:=aQ hlt hall;generalize hx:p.holders[k]=x at *;by_cases h20:x.draws.length<=20
     ·have h20':¬ (20:Int)<x.draws.length:=by omega
      have hs:=za hx (za hlt (za hw h20'));repeat' first|(with_reducible first|refine zz ?_|refine zE Qv ?_)|simp -dsimp[hs]|refine i8 ?_ ?_<;>intro h<;>try exact h.elim
      exact zn ⟨k+1,by omega,H6 hst (by simpa using h20)⟩ (zv [1,3])
     ·have h20':(20:Int)<x.draws.length:=by omega
      have hs:=za hx (za hlt (za hw h20'));repeat' first|(with_reducible first|refine zz ?_|refine zr ?_|refine zE Qv ?_)|simp -dsimp[hs]|refine i8 ?_ ?_<;>intro h<;>try exact h.elim
      rw[hE,E5 hst (by simpa using h20)];try rfl
    ·have hok:(p.holders.all λx=>decide (x.draws.length<=20))=true:=by rw[hall,List.drop_eq_nil_of_le (by omega)];rfl
     have hs:=hlt;repeat' first|(with_reducible first|refine zz ?_|refine zr ?_|refine zE Qv ?_)|simp -dsimp[hs]|refine i8 ?_ ?_<;>intro h<;>try exact h.elim
     rw[hE,hok];try rfl
   ·have h40':(40:Int)<p.prints.length:=by omega
    rw[decide_eq_false h40,Bool.false_and] at hE;have hs:=za h8' h40';repeat' first|(with_reducible first|refine zz ?_|refine zr ?_|refine zE Qv ?_)|simp -dsimp[hs]|refine zp c1 ?_|refine i8 ?_ ?_<;>intro h<;>try exact h.elim
    rw[hE];try rfl
  ·have h8':(8:Int)<p.holders.length:=by omega
   rw[decide_eq_false h8,Bool.false_and] at hE;have hs:=h8';repeat' first|(with_reducible first|refine zz ?_|refine zr ?_|refine zE Qv ?_)|simp -dsimp[hs]|refine zp c1 ?_|refine i8 ?_ ?_<;>intro h<;>try exact h.elim
   rw[hE];try rfl
theorem K8 (n lo hi:Int):zP prog G 135 [iv n,iv lo,iv hi] (bv (decide (lo<=n)&&decide (n<=hi))):=by
 refine zf func135 ntmps135 ?_;try simp only[iv,iv,iv]
 have hs:=trivial;repeat' first|(with_reducible first|refine zz ?_|refine zr ?_|refine zE [0,1,2,6] ?_)|simp -dsimp[hs]|with_reducible refine j0 ?_ ?_<;>intro h<;>have h0:=h<;>(try simp only[i7] at h)<;>have h2:=h<;>(try simp at h2)<;>replace hs:=za h0 (za h (za h2 hs))
 all_goals try clear hs
 all_goals simp[*]
theorem mi {l:List Issue} (h:l4 l=0) {x:Issue} (hx:x∈l):1<=x.letter/\1<=x.kind:=by
 have:=(L0 (I6 (H1 h))).2.2.2.1 x hx;simp only[n5,yY,CL,Bool.and_eq_true,decide_eq_true_eq] at this;by_cases hk:x.kind=1
 ·omega
 ·rw[if_neg hk] at this;simp only[Bool.and_eq_true,decide_eq_true_eq] at this;omega
theorem tN {l:List Issue} (h0:l4 l=0) (d:Int):T3 l d=0↔d∉nums l:=by
 obtain⟨h1,h2,h3⟩:=dN d l 0;constructor
 ·intro h hd;obtain⟨x,hx,hxd⟩:=qJ hd;have:=h2 x hx hxd;have:=(mi h0 hx).1;unfold T3 at h;omega
 ·intro hd;rcases h3 with h3|⟨x,hx,hxd,_⟩
  ·exact h3
  ·exact absurd (hxd ▸ (D4 h0).2 x hx) hd
theorem td {c:Case} (h0:l4 c.p.n.reg=0) (l:Link) (x:Piece):I2 c l x=true↔(n9 c.p.n.reg l.drawing 1).isSome=true/\¬ ((n9 c.p.n.reg l.drawing 1).getD I7).kind<2/\(decide (0<=l.dim)&&decide (l.dim<=3))=true/\¬ I9 (λy=>decide (y.id=x.holder)) c.p.holders<0/\(decide (0<=x.day)&&decide (x.day<=14610))=true/\(decide (0<=x.lo)&&decide (x.lo<=1000000000))=true/\(decide (x.lo<=x.hi)&&decide (x.hi<=1000000000))=true:=by
 have hf:(c.p.holders.any λy=>decide (y.id=x.holder))=true↔¬ I9 (λy=>decide (y.id=x.holder)) c.p.holders<0:=by
  rw[<- B0,decide_eq_true_eq];omega
 unfold I2 U6;cases hfi:n9 c.p.n.reg l.drawing 1 with
 | none=>simp
 | some y =>
   have hk:=(mi h0 (List.mem_of_find?_eq_some hfi)).2;simp only[Option.isSome_some,Option.getD_some,Bool.and_eq_true,decide_eq_true_eq,Bool.not_eq_true',decide_eq_false_iff_not,hf,true_and];omega
@[simp] abbrev Qf:List Nat:=[0,1,2,3,4,5,6,7,8,61,66,131]
@[simp] abbrev WO:List Nat:=[0,1,2,3,4,5,6,7,8,61,66,69,70,71,72,73,74,131]
theorem Dk (c:Case) (h0:l4 c.p.n.reg=0) (hk:KC c):zP prog G 84 [l7 c] (bv (aM c)):=by
 refine zf func84 ntmps84 ?_;try simp only[iv]
 have hl:=hk.l;have hq:=hk.q;have hhl:=hk.p.p.h;have hrl:=hk.p.p.l;have c2:=qY (G:=G) c.p.n.reg c.of (by omega);have hLm:=tN h0 c.of;have c3:=K8 (G:=G) c.machine 1 999;have c4:=K8 (G:=G) (c.loop.links.length:Int) 1 8;have c5:=K8 (G:=G) c.loop.lo (-8000000000) 8000000000;have c6:=K8 (G:=G) c.loop.hi c.loop.lo 8000000000;simp only[F9] at c2;generalize T3 c.p.n.reg c.of=L at *;cases h5:ek c
 ·have hB:aM c=false:=by rw[N1,h5,Bool.false_and]
  rw[hB];simp only[ek,U6] at h5;generalize hb3:(decide (1<=c.machine)&&decide (c.machine<=999))=b3 at c3;generalize hb4:(decide (1<=(c.loop.links.length:Int))&&decide ((c.loop.links.length:Int)<=8))=b4 at c4;generalize hb5:(decide (-8000000000<=c.loop.lo)&&decide (c.loop.lo<=8000000000))=b5 at c5;generalize hb6:(decide (c.loop.lo<=c.loop.hi)&&decide (c.loop.hi<=8000000000))=b6 at c6;have hs:True:=trivial;by_cases hm:L=0
  ·cases b3
   all_goals
    have hs:=hm;repeat' first|(with_reducible first|refine zz ?_|refine zr ?_|refine zE Qf ?_)|simp -dsimp[hs]|refine zp c3 ?_|refine zp c2 ?_|refine i8 ?_ ?_<;>intro h<;>try exact h.elim
    all_goals try clear hs
  ·have hm':c.of∈nums c.p.n.reg:=Classical.byContradiction λh=>hm (hLm.2 h);by_cases hlen:c.pieces.length=c.loop.links.length
   ·cases b3<;>cases b4<;>cases b5<;>cases b6
    all_goals
     have hs:=za hlen hm;repeat' first|(with_reducible first|refine zz ?_|refine zr ?_|refine zE Qf ?_)|simp -dsimp[hs]|refine zp c3 ?_|refine zp c2 ?_|refine zp c4 ?_|refine zp c5 ?_|refine zp c6 ?_|refine i8 ?_ ?_<;>intro h<;>try exact h.elim
     all_goals try clear hs
    all_goals exfalso
    all_goals simp[hm',hlen] at h5 hb3 hb4 hb5 hb6
    all_goals omega
   ·have hlen':¬ (c.pieces.length:Int)=c.loop.links.length:=by omega
    cases b3<;>cases b4<;>cases b5<;>cases b6
    all_goals
     have hs:=za hlen (za hlen' hm);repeat' first|(with_reducible first|refine zz ?_|refine zr ?_|refine zE Qf ?_)|simp -dsimp[hs]|refine zp c3 ?_|refine zp c2 ?_|refine zp c4 ?_|refine zp c5 ?_|refine zp c6 ?_|refine i8 ?_ ?_<;>intro h<;>try exact h.elim
     all_goals try clear hs
 ·have hB:aM c=(c.loop.links.zip c.pieces).all λq=>I2 c q.1 q.2:=by rw[N1,h5,Bool.true_and]
  rw[hB];simp only[ek,Bool.and_eq_true,decide_eq_true_eq,U6] at h5;obtain⟨hm,⟨hm1,hm2⟩,⟨hl1,hl2⟩,hlen,hgap⟩:=h5;have hm':¬ L=0:=λh=>hLm.1 h hm;rw[show (decide (1<=c.machine)&&decide (c.machine<=999))=true by simp;omega] at c3;rw[show (decide (1<=(c.loop.links.length:Int))&&decide ((c.loop.links.length:Int)<=8))=true by simp;omega] at c4;rw[show (decide (-8000000000<=c.loop.lo)&&decide (c.loop.lo<=8000000000))=true by simp;omega] at c5;rw[show (decide (c.loop.lo<=c.loop.hi)&&decide (c.loop.hi<=8000000000))=true by simp;omega] at c6;have hs:=za hlen hm';repeat' first|(with_reducible first|refine zz ?_|refine zE Qf ?_)|simp -dsimp[hs]|refine zp c3 ?_|refine zp c2 ?_|refine zp c4 ?_|refine zp c5 ?_|refine zp c6 ?_|refine i8 ?_ ?_<;>intro h<;>try exact h.elim
  all_goals try clear hs
  have hno:((c.loop.links.zip c.pieces).all λq=>I2 c q.1 q.2)=((c.loop.links.zip c.pieces).drop 0).all λq=>I2 c q.1 q.2:=rfl;clear c2 c3 c4 c5 c6;generalize hA:((c.loop.links.zip c.pieces).all λq=>I2 c q.1 q.2)=A at *;refine i6 (ι:={ k:Nat // k<=c.pieces.length/\A=((c.loop.links.zip c.pieces).drop k).all λq=>I2 c q.1 q.2 }) (λq=>⟨132,[(1,.one (.ptr 0 0)),(3,.one (.ptr 2 0)),(4,iv (q.1:Int))],[.row ((j4 c).map .im),.vec 0 [] 0 true,.row [.im (.sl (c.p.n.reg.map e9))]]⟩) (λq=>c.pieces.length-q.1) ⟨0,by simp,hno⟩ (zv [1,3,4]) ?_;rintro⟨k,hk1,hrest⟩;simp only[iv];by_cases hlt:k<c.pieces.length
  ·have hlt2:k<c.loop.links.length:=by omega
   have hw:=zk k;have hst:=gr (f:=λq=>I2 c q.1 q.2) hlt2 hlt (hA.trans hrest);rw[hA] at hst;simp only at hst;rw[td h0] at hst;clear hno;generalize hx:c.pieces[k]=x at *;generalize hy:c.loop.links[k]=y at *;have c6:=ud (G:=G) c.p.n.reg y.drawing 1 (by omega);have c7:=rg (G:=G) c.p x.holder (by omega);have c8:=K8 (G:=G) y.dim 0 3;have c9:=K8 (G:=G) x.day 0 14610;have c10:=K8 (G:=G) x.lo 0 1000000000;have c11:=K8 (G:=G) x.hi x.lo 1000000000;simp only[F9,D9] at c6;simp only[D7,p6,List.map_cons,List.map_nil] at c7;generalize I9 (λy=>decide (y.id=x.holder)) c.p.holders=f at *;generalize (decide (0<=y.dim)&&decide (y.dim<=3))=b1 at *;generalize (decide (0<=x.day)&&decide (x.day<=14610))=b3 at *;generalize (decide (0<=x.lo)&&decide (x.lo<=1000000000))=b4 at *;generalize (decide (x.lo<=x.hi)&&decide (x.hi<=1000000000))=b5 at *;generalize (n9 c.p.n.reg y.drawing 1).isSome=e at *;generalize (n9 c.p.n.reg y.drawing 1).getD I7=z at *;have hcs:(e=true/\¬ z.kind<2/\b1=true/\¬ f<0/\b3=true/\b4=true/\b5=true)\/(A=false/\((e=false/\True/\True/\True/\True/\True/\True)\/(e=true/\z.kind<2/\True/\True/\True/\True/\True)\/(e=true/\¬ z.kind<2/\b1=false/\True/\True/\True/\True)\/(e=true/\¬ z.kind<2/\b1=true/\f<0/\True/\True/\True)\/(e=true/\¬ z.kind<2/\b1=true/\¬ f<0/\b3=false/\True/\True)\/(e=true/\¬ z.kind<2/\b1=true/\¬ f<0/\b3=true/\b4=false/\True)\/(e=true/\¬ z.kind<2/\b1=true/\¬ f<0/\b3=true/\b4=true/\b5=false))):=by
    by_cases g2:z.kind<2<;>by_cases g4:f<0<;>cases e<;>cases b1<;>cases b3<;>cases b4<;>cases b5<;>simp_all
   have hs:True:=trivial;rcases hcs with⟨g1,g2,g3,g4,g5,g6,g7⟩|⟨gA,hcs⟩
   ·have hs:=za hx (za hy (za hlt (za hlt2 (za hw (za g1 (za g2 (za g3 (za g4 (za g5 (za g6 g7))))))))));repeat' first|with_reducible refine zz ?_|simp -dsimp[hs]|refine zp c6 ?_|refine zp c7 ?_|refine zp c8 ?_|refine zp c9 ?_|refine zp c10 ?_|refine zp c11 ?_|refine H7 (id:=7) (nt:=132) 13 [6,7,8,9,10] WO Qf mixed rfl (by kernel_rfl) ?_|with_reducible refine zE Qf ?_|refine i8 ?_ ?_<;>intro h<;>try exact h.elim
    all_goals try clear hs
    all_goals exact zn ⟨k+1,by omega,by rw[Bool.eq_iff_iff];exact hst.trans ⟨λh=>h.2,λh=>⟨⟨g1,g2,g3,g4,g5,g6,g7⟩,h⟩⟩⟩ (zw [1,3,4] 3)
   ·rcases hcs with⟨g1,g2,g3,g4,g5,g6,g7⟩|⟨g1,g2,g3,g4,g5,g6,g7⟩|⟨g1,g2,g3,g4,g5,g6,g7⟩|⟨g1,g2,g3,g4,g5,g6,g7⟩|⟨g1,g2,g3,g4,g5,g6,g7⟩|⟨g1,g2,g3,g4,g5,g6,g7⟩|⟨g1,g2,g3,g4,g5,g6,g7⟩
    all_goals
     have hs:=za hx (za hy (za hlt (za hlt2 (za hw (za g1 (za g2 (za g3 (za g4 (za g5 (za g6 g7))))))))));repeat' first|(with_reducible first|refine zz ?_|refine zr ?_)|simp -dsimp[hs]|refine zp c6 ?_|refine zp c7 ?_|refine zp c8 ?_|refine zp c9 ?_|refine zp c10 ?_|refine zp c11 ?_|refine H7 (id:=7) (nt:=132) 13 [6,7,8,9,10] WO Qf mixed rfl (by kernel_rfl) ?_|with_reducible refine zE Qf ?_|refine i8 ?_ ?_<;>intro h<;>try exact h.elim
     all_goals try clear hs
    all_goals exact gA
  ·obtain rfl:k=c.pieces.length:=by omega
   have hA1:A=true:=by rw[hrest,List.drop_eq_nil_of_le (by rw[List.length_zip];omega)];rfl
   subst hA1;have hs:=hlt;repeat' first|(with_reducible first|refine zz ?_|refine zr ?_|refine zE Qf ?_)|simp -dsimp[hs]|refine i8 ?_ ?_<;>intro h<;>try exact h.elim
   all_goals try clear hs
theorem wH (c:Case) (hk:KC c):zP prog G 41 [l7 c] (iv (p9 c)):=by
 refine zf func41 ntmps41 ?_;try simp only[iv]
 have c1:=wE (G:=G) c.p hk.p;simp only[D7,p6] at c1;by_cases h0:u3 c.p=0
 ·have c2:=Dk (G:=G) c (A9 h0).2.2 hk;have hE:p9 c=if aM c=true then 0 else 100:=by unfold p9;rw[if_neg (by simp[h0])]
  rw[hE];rw[h0] at c1;simp only[l7,j4] at c2;generalize aM c=b at *;cases b
  ·have hs:=trivial;repeat' first|(with_reducible first|refine zz ?_|refine zr ?_|refine zE [0,1,2,3,8,12] ?_)|simp -dsimp[hs]|refine zp c1 ?_|refine zp c2 ?_|refine i8 ?_ ?_<;>intro h<;>try exact h.elim
  ·have hs:=trivial;repeat' first|(with_reducible first|refine zz ?_|refine zr ?_|refine zE [0,1,2,3,8,12] ?_)|simp -dsimp[hs]|refine zp c1 ?_|refine zp c2 ?_|refine i8 ?_ ?_<;>intro h<;>try exact h.elim
 ·have hE:p9 c=u3 c.p:=by unfold p9;rw[if_pos h0]
  rw[hE];have hs:=h0;repeat' first|(with_reducible first|refine zz ?_|refine zr ?_|refine zE [0,1,2,3,8,12] ?_)|simp -dsimp[hs]|refine zp c1 ?_|refine i8 ?_ ?_<;>intro h<;>try exact h.elim
def uP (c:Case):Prop:=Hv c.p/\c.loop.links.length<=16/\c.pieces.length<=16
def cu (c:Case):Bool:=gz c.p&&(decide (c.loop.links.length<=16)&&decide (c.pieces.length<=16))
theorem xA (c:Case):zP prog G 19 [l7 c] (bv (!cu c)):=by
 refine zf func19 ntmps19 ?_;try simp only[iv]
 have c1:=Bb (G:=G) c.p;simp only[D7,p6] at c1;unfold cu;generalize gz c.p=b at *;have hs:True:=trivial;by_cases h1:c.loop.links.length<=16
 ·have h1':¬ (16:Int)<c.loop.links.length:=by omega
  by_cases h2:c.pieces.length<=16
  ·have h2':¬ (16:Int)<c.pieces.length:=by omega
   cases b
   all_goals
    have hs:=za h1 (za h2 (za h1' h2'));repeat' first|(with_reducible first|refine zz ?_|refine zr ?_|refine zE [0,1,2] ?_)|simp -dsimp[hs]|refine zp c1 ?_
  ·have h2':(16:Int)<c.pieces.length:=by omega
   cases b
   all_goals
    have hs:=za h1 (za h2 (za h1' h2'));repeat' first|(with_reducible first|refine zz ?_|refine zr ?_|refine zE [0,1,2] ?_)|simp -dsimp[hs]|refine zp c1 ?_
 ·have h1':(16:Int)<c.loop.links.length:=by omega
  cases b
  all_goals
   have hs:=za h1 h1';repeat' first|(with_reducible first|refine zz ?_|refine zr ?_|refine zE [0,1,2] ?_)|simp -dsimp[hs]|refine zp c1 ?_
def wa (n:Notes):Prop:=(∀ x∈n.reg,0<=x.kind/\x.kind<=255)/\∀ x∈n.notes,0<=x.ways/\x.ways<=255/\0<=x.signed/\x.signed<=255
theorem Hy {n:Notes} (hk:wa n) (h:ct n=true):Cs n/\zb n:=by
 simp only[ct,Bool.and_eq_true,decide_eq_true_eq] at h;refine⟨h,⟨h.1.1,λx hx=>⟨(hk.1 x hx).1,(hk.1 x hx).2,h.1.2 x hx⟩⟩,h.2,hk.2⟩
def kK (x:Print):Prop:=0<=x.lost/\x.lost<=255
def ki (p:Prints):Prop:=wa p.n/\∀ x∈p.prints,kK x
theorem CE {c:Case} (hk:ki c.p) (h:cu c=true):uP c/\KC c:=by
 simp only[cu,gz,Bool.and_eq_true,decide_eq_true_eq,List.all_eq_true] at h;obtain⟨⟨h1,h2,h3,h4⟩,h5,h6⟩:=h;obtain⟨hN,hM⟩:=Hy hk.1 h1;have hr:=hM.1.1;have hnl:(nums c.p.n.reg).length<=c.p.n.reg.length:=s7 c.p.n.reg c.p.n.reg.length;exact⟨⟨⟨hN,h2,h3,h4⟩,h5,h6⟩,⟨⟨hM,⟨by omega,by omega,h2,h3,h4,hk.2⟩⟩,h5,h6⟩⟩
theorem li (d i w:Int) (l:List Print):(bj d i w l).length<=l.length+1:=by
 unfold bj;rw[List.length_drop];have h1:=aL (j8 (ar d i w l++[bF d i w l]));rw[N6,List.length_append,List.length_singleton] at h1;have h2:=lT d i w l;omega
theorem AH (c:Case) (n:Int):(kw c n).length<=c.p.prints.length+1:=by
 unfold kw;split
 ·unfold C6;split
  ·unfold P6;split
   ·exact li _ _ _ _
   ·simp
  ·simp
 ·simp
end Go.Proofs
