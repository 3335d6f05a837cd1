/- Part 19 of the proofs. -/
import Derived.Test.YtlmlkkoapahmjaaGreatDoorS09
import Derived.Test.YtlmlkkoapahmjaaGreatDoorS12
import Derived.Test.YtlmlkkoapahmjaaGreatDoorS14
import Derived.Test.YtlmlkkoapahmjaaGreatDoorS15
import Derived.Test.YtlmlkkoapahmjaaGreatDoorS16
import Derived.Test.YtlmlkkoapahmjaaGreatDoorS17
import Derived.Test.YtlmlkkoapahmjaaGreatDoorS18
set_option linter.all false
set_option maxHeartbeats 100000000
namespace Go.Proofs
open Go Go.Ab Tryz
variable {G:Hn}
def H9 (s:Int×Int) (q:Link×Piece):Int×Int:=if q.1.back=true then (s.1-q.2.hi,s.2-q.2.lo) else (s.1+q.2.lo,s.2+q.2.hi)
def P3 (l:List (Link×Piece)):Int×Int:=l.foldl H9 (0,0)
theorem tA {l:List (Link×Piece)} {k:Nat} (h:k<l.length):P3 (l.take (k+1))=H9 (P3 (l.take k)) l[k]:=by
 unfold P3;rw[List.take_succ_eq_append_getElem h,List.foldl_append];rfl
def U7 (x:Piece):Prop:=0<=x.lo/\x.lo<=x.hi/\x.hi<=1000000000
theorem tz (l:List (Link×Piece)):∀ s:Int×Int,s.1<=s.2->(∀ q∈l,U7 q.2)->(l.foldl H9 s).1<=(l.foldl H9 s).2/\s.1-1000000000*(l.length:Int)<=(l.foldl H9 s).1/\(l.foldl H9 s).2<=s.2+1000000000*(l.length:Int):=by
 induction l with
 | nil=>intro s h _;simp[h]
 | cons q l ih =>
   intro s h hq;have h1:=hq q List.mem_cons_self;unfold U7 at h1;have hst:(H9 s q).1<=(H9 s q).2/\s.1-1000000000<=(H9 s q).1/\(H9 s q).2<=s.2+1000000000:=by
    unfold H9;split<;>simp only<;>omega
   have:=ih (H9 s q) hst.1 (λy hy=>hq y (List.mem_cons_of_mem _ hy));rw[List.foldl_cons,List.length_cons];omega
theorem eM {l:List (Link×Piece)} (h:∀ q∈l,U7 q.2):(P3 l).1<=(P3 l).2/\- (1000000000*(l.length:Int))<=(P3 l).1/\(P3 l).2<=1000000000*(l.length:Int):=by
 have:=tz l (0,0) (Int.le_refl _) h;unfold P3;simp only at this;omega
structure CaseOk (c:Case):Prop where
 e:c.pieces.length=c.loop.links.length
 l:1<=c.loop.links.length/\c.loop.links.length<=8
 p:∀ q∈c.loop.links.zip c.pieces,U7 q.2
 g:-8000000000<=c.loop.lo/\c.loop.lo<=c.loop.hi/\c.loop.hi<=8000000000
theorem N4 {c:Case} (h:ah c=true):CaseOk c:=by
 rw[L6,cq] at h;simp only[Bool.and_eq_true,decide_eq_true_eq,ap,List.all_eq_true] at h;obtain⟨⟨_,_,h3,h4,h5⟩,h6⟩:=h;refine⟨h4,h3,λq hq=>?_,by omega⟩;have:=h6 q hq;simp only[H1,Bool.and_eq_true,ap,decide_eq_true_eq] at this;unfold U7;omega
noncomputable def R3 (c:Case):Int×Int:=if A4 c=0 then P3 (c.loop.links.zip c.pieces) else (0,0)
theorem mZ {c:Case} (h:CaseOk c) {k:Nat} (hk:k<=c.pieces.length):((c.loop.links.zip c.pieces).take k).length=k:=by
 rw[List.length_take,List.length_zip];have:=h.e;omega
theorem nj {c:Case} (h:CaseOk c) {k:Nat} (hk:k<=c.pieces.length):(P3 ((c.loop.links.zip c.pieces).take k)).1<=(P3 ((c.loop.links.zip c.pieces).take k)).2/\-8000000000<=(P3 ((c.loop.links.zip c.pieces).take k)).1/\(P3 ((c.loop.links.zip c.pieces).take k)).2<=8000000000:=by
 have h1:=eM (l:=(c.loop.links.zip c.pieces).take k) λq hq=>h.p q (List.mem_of_mem_take hq);rw[mZ h hk] at h1;have:=h.l;have:=h.e;omega
theorem od {c:Case} (h:CaseOk c) {k:Nat} (h1:k<c.pieces.length) (h2:k<c.loop.links.length):P3 ((c.loop.links.zip c.pieces).take (k+1))=H9 (P3 ((c.loop.links.zip c.pieces).take k)) (c.loop.links[k],c.pieces[k]):=by
 have h3:k<(c.loop.links.zip c.pieces).length:=by rw[List.length_zip];omega
 rw[tA h3,List.getElem_zip]
theorem nc {c:Case} (h:CaseOk c) {k:Nat} (h1:k<c.pieces.length):U7 c.pieces[k]:=by
 have h2:k<c.loop.links.length:=by have:=h.e;omega
 have h3:k<(c.loop.links.zip c.pieces).length:=by rw[List.length_zip];omega
 have:=h.p _ (List.getElem_mem h3);rw[List.getElem_zip] at this;exact this
@[simp] abbrev LN:List Nat:=[0,1,2,3,4,5,6,7,8,9,13,17,18,19,20,36]
theorem Do (c:Case) (hG:s9 G) (hN:N3 G) (hS:E7 G) (hR:E9 G) (hk:KC c):zP prog G 38 [n7 c] (.tup [B1 (R3 c).1 (R3 c).2,iv (A4 c)]):=by
 refine zf func38 ntmps38 ?_;try simp only[iv]
 have c1:=yz (G:=G) c hG hN hS hR hk;simp only[n7,j4] at c1;by_cases h0:A4 c=0
 ·have hok:=N4 (C1 h0).2;have hE:R3 c=P3 (c.loop.links.zip c.pieces):=by unfold R3;rw[if_pos h0]
  rw[hE];rw[h0] at c1 ⊢;have hlen:=hok.e;have hl8:=hok.l;have hs:=trivial;repeat' first|(with_reducible first|refine zz ?_|refine zE LN ?_)|simp -dsimp[hs]|refine zp c1 ?_|refine i7 ?_ ?_<;>intro h<;>try exact h.elim
  refine g9 (ι:={ k:Nat // k<=c.pieces.length }) (λq=>⟨52,[(1,.one (.ptr 0 0)),(2,.one (.ptr 1 0)),(5,.one (.ptr 2 0)),(17,.one (.im (.sl (c.pieces.map I7)))),(18,iv (c.pieces.length:Int)),(19,iv (q.1:Int))],[.row ((j4 c).map .im),.row [.im (rI 0),.im (rI 0)],.row [.im (rI (P3 ((c.loop.links.zip c.pieces).take q.1)).1),.im (rI (P3 ((c.loop.links.zip c.pieces).take q.1)).2)]]⟩) (λq=>c.pieces.length-q.1) ⟨0,by simp⟩ (zv [1,2,5,17,18,19] (by simp[P3])) ?_;rintro⟨k,hk1⟩;simp only[iv];by_cases hlt:k<c.pieces.length
  ·have hlt2:k<c.loop.links.length:=by omega
   have hw:=zk k;have hb1:=nj hok (Nat.le_of_lt hlt);have hb2:=nj hok (show k+1<=c.pieces.length by omega);have hst:=od hok hlt hlt2;have hp:=nc hok hlt;unfold U7 at hp;rw[hst] at hb2;generalize hx:c.pieces[k]=x at *;generalize hy:c.loop.links[k]=y at *;generalize P3 ((c.loop.links.zip c.pieces).take k)=s at *;unfold H9 at hst hb2;cases hbk:y.back
   ·rw[if_neg (by simp[hbk])] at hst hb2;simp only at hb2;have hw1:IntKind.i64.wrap (s.1+x.lo)=s.1+x.lo:=m9 (by omega) (by omega);have hw2:IntKind.i64.wrap (s.2+x.hi)=s.2+x.hi:=m9 (by omega) (by omega);have hs:=za hx (za hy (za hlt (za hlt2 (za hw (za hw1 (za hw2 hbk))))));repeat' first|with_reducible refine zz ?_|simp -dsimp[hs]|refine zM 8 52 8 LN ?_|with_reducible refine zE LN ?_|refine i7 ?_ ?_<;>intro h<;>try exact h.elim
    all_goals exact zn ⟨k+1,by omega⟩ (zw [1,2,5,17,18,19] 3 (by simp[hst]))
   ·rw[if_pos hbk] at hst hb2;simp only at hb2;have hw1:IntKind.i64.wrap (-x.hi)=-x.hi:=m9 (by omega) (by omega);have hw2:IntKind.i64.wrap (-x.lo)=-x.lo:=m9 (by omega) (by omega);have hw3:IntKind.i64.wrap (s.1 + -x.hi)=s.1-x.hi:=by rw[m9 (by omega) (by omega)];omega
    have hw4:IntKind.i64.wrap (s.2 + -x.lo)=s.2-x.lo:=by rw[m9 (by omega) (by omega)];omega
    have hs:=za hx (za hy (za hlt (za hlt2 (za hw (za hw1 (za hw2 (za hw3 (za hw4 hbk))))))));repeat' first|with_reducible refine zz ?_|simp -dsimp[hs]|refine zM 8 52 8 LN ?_|with_reducible refine zE LN ?_|refine i7 ?_ ?_<;>intro h<;>try exact h.elim
    all_goals exact zn ⟨k+1,by omega⟩ (zw [1,2,5,17,18,19] 3 (by simp[hst]))
  ·obtain rfl:k=c.pieces.length:=by omega
   have hall:(c.loop.links.zip c.pieces).take c.pieces.length=c.loop.links.zip c.pieces:=List.take_of_length_le (by rw[List.length_zip];omega);rw[hall];have hs:=hlt;repeat' first|(with_reducible first|refine zz ?_|refine zr ?_|refine zE LN ?_)|simp -dsimp[hs]|refine i7 ?_ ?_<;>intro h<;>try exact h.elim
 ·have hE:R3 c=(0,0):=by unfold R3;rw[if_neg h0]
  rw[hE];have hs:=h0;repeat' first|(with_reducible first|refine zz ?_|refine zr ?_|refine zE LN ?_)|simp -dsimp[hs]|refine zp c1 ?_|refine i7 ?_ ?_<;>intro h<;>try exact h.elim
def pn (c:Case) (s:Int×Int):Int:=if s.2<c.loop.lo\/s.1 > c.loop.hi then 0 else if c.loop.lo<=s.1/\s.2<=c.loop.hi then 2 else 1
noncomputable def aA (c:Case):Int:=if A4 c=0 then pn c (R3 c) else 0
theorem xR {c:Case} {s:Int×Int} (h:s.1<=s.2):ap s.1 s.2 c.loop.lo c.loop.hi=decide (c.loop.lo<=s.1/\s.2<=c.loop.hi):=by
 unfold ap;rw[decide_eq_decide];omega
@[simp] abbrev Kr:List Nat:=[0,1,2,3,4,5,6,15,33]
theorem Bf (c:Case) (hG:s9 G) (hN:N3 G) (hS:E7 G) (hR:E9 G) (hk:KC c):zP prog G 39 [n7 c] (.tup [DL (aA c),iv (A4 c)]):=by
 refine zf func39 ntmps39 ?_;try simp only[iv]
 have c1:=Do (G:=G) c hG hN hS hR hk;simp only[n7,j4,B1] at c1;by_cases h0:A4 c=0
 ·have hok:=N4 (C1 h0).2;have hE:aA c=pn c (R3 c):=by unfold aA;rw[if_pos h0]
  have hS:R3 c=P3 (c.loop.links.zip c.pieces):=by unfold R3;rw[if_pos h0]
  have hle:(R3 c).1<=(R3 c).2:=by rw[hS];exact(eM hok.p).1
  have c2:=gk (G:=G) (R3 c).1 (R3 c).2 c.loop.lo c.loop.hi;rw[xR (c:=c) (s:=R3 c) hle] at c2;rw[hE];rw[h0] at c1 ⊢;unfold pn;generalize R3 c=s at *;simp only[B1] at c2;by_cases h1:s.2<c.loop.lo\/s.1 > c.loop.hi
  ·rw[if_pos h1];by_cases h2:s.2<c.loop.lo
   ·have hs:=h2;repeat' first|(with_reducible first|refine zz ?_|refine zr ?_|refine zE Kr ?_)|simp -dsimp[hs]|refine zp c1 ?_|refine i7 ?_ ?_<;>intro h<;>try exact h.elim
   ·have h3:c.loop.hi<s.1:=by omega
    have hs:=za h2 h3;repeat' first|(with_reducible first|refine zz ?_|refine zr ?_|refine zE Kr ?_)|simp -dsimp[hs]|refine zp c1 ?_|refine i7 ?_ ?_<;>intro h<;>try exact h.elim
  ·rw[if_neg h1];have h2:¬ s.2<c.loop.lo:=by omega
   have h3:¬ c.loop.hi<s.1:=by omega
   by_cases h4:c.loop.lo<=s.1/\s.2<=c.loop.hi
   ·rw[if_pos h4];rw[decide_eq_true h4] at c2;have hs:=za h2 h3;repeat' first|(with_reducible first|refine zz ?_|refine zr ?_|refine zE Kr ?_)|simp -dsimp[hs]|refine zp c1 ?_|refine zp c2 ?_|refine i7 ?_ ?_<;>intro h<;>try exact h.elim
   ·rw[if_neg h4];rw[decide_eq_false h4] at c2;have hs:=za h2 h3;repeat' first|(with_reducible first|refine zz ?_|refine zr ?_|refine zE Kr ?_)|simp -dsimp[hs]|refine zp c1 ?_|refine zp c2 ?_|refine i7 ?_ ?_<;>intro h<;>try exact h.elim
 ·have hE:aA c=0:=by unfold aA;rw[if_neg h0]
  rw[hE];have hs:=h0;repeat' first|(with_reducible first|refine zz ?_|refine zr ?_|refine zE Kr ?_)|simp -dsimp[hs]|refine zp c1 ?_|refine i7 ?_ ?_<;>intro h<;>try exact h.elim
noncomputable def Z3 (c:Case) (k:Nat):List Int:=match c.pieces[k]?,c.loop.links[k]? with
 | some x,some y=>M8 c.p x.day x.holder y.drawing
 | _,_=>[]
theorem kB {c:Case} {k:Nat} (h1:k<c.pieces.length) (h2:k<c.loop.links.length):Z3 c k=M8 c.p c.pieces[k].day c.pieces[k].holder c.loop.links[k].drawing:=by
 unfold Z3;rw[List.getElem?_eq_getElem h1,List.getElem?_eq_getElem h2]
theorem CJ (c:Case) (k:Nat) (h1:k<c.pieces.length) (h2:k<c.loop.links.length) (hG:s9 G) (hN:N3 G) (hS:E7 G) (hR:E9 G) (hk:KC c):zP prog G 81 [n7 c,iv (k:Int)] (n9 (Z3 c k)):=by
 refine zf func81 ntmps81 ?_;try simp only[iv]
 rw[kB h1 h2];generalize hx:c.pieces[k]=x at *;generalize hy:c.loop.links[k]=y at *;have c1:=wK (G:=G) c.p x.day x.holder y.drawing hG hN hS hR hk.p;simp only[r9,m6] at c1;generalize M8 c.p x.day x.holder y.drawing=L at *;generalize G3 c.p x.day 1 x.holder y.drawing=e at *;have hs:=za hx (za hy (za h1 h2));repeat' first|(with_reducible first|refine zz ?_|refine zr ?_)|simp -dsimp[hs]|refine zq c1 ?_|refine zM 2 31 19 [0,1,2,4,5,6] ?_|with_reducible refine zE [0,1,2,4,5,6] ?_
theorem S6 (n lo hi:Int):zP prog G 232 [iv n,iv lo,iv hi] (bv (decide (lo<=n)&&decide (n<=hi))):=by
 refine zf func232 ntmps232 ?_;try simp only[iv,iv,iv]
 have hs:=trivial;repeat' first|(with_reducible first|refine zz ?_|refine zr ?_|refine zE [0,1,2,6] ?_)|simp -dsimp[hs]|with_reducible refine j0 ?_ ?_<;>intro h<;>have h0:=h<;>(try simp only[i6] at h)<;>have h2:=h<;>(try simp at h2)<;>replace hs:=za h0 (za h (za h2 hs))
 all_goals try clear hs
 all_goals simp[*]
theorem xH (l:List Int) (n:Int) (hl:l.length<1000000):zP prog G 233 [n9 l,iv n] (bv (decide (n∈l))):=by
 refine zf func233 ntmps233 ?_;try simp only[n9,iv]
 have hs:=trivial;repeat' first|(with_reducible first|refine zz ?_|refine zE [0,1,4,5,9,17] ?_)|simp -dsimp[hs]
 refine g9 (ι:={ k:Nat // k<=l.length/\decide (n∈l)=decide (n∈l.drop k) }) (λi=>⟨18,[(0,n9 l),(1,iv n),(5,iv (i.1:Int))],[]⟩) (λi=>l.length-i.1) ⟨0,by simp⟩ (zv [0,1,5]) ?_;rintro⟨i,hi,hno⟩;simp only[iv,n9];by_cases hlt:i<l.length
 ·have hw:=zk i;rw[List.drop_eq_getElem_cons hlt] at hno;generalize hx:l[i]=x at *;have hs:=za hx (za hw hlt);repeat' first|(with_reducible first|refine zz ?_|refine zr ?_|refine zE [0,1,4,5,9,17] ?_)|simp -dsimp[hs]|refine i7 ?_ ?_<;>intro h<;>try exact h.elim
  all_goals try clear hs
  ·exact of_decide_eq_true (by rw[hno];simp[*])
  ·exact zn ⟨i+1,by omega,by rw[hno,decide_eq_decide,List.mem_cons];exact or_iff_right (λe=>absurd e.symm (by assumption))⟩ (zv [0,1,5])
 ·rw[List.drop_eq_nil_of_le (by omega)] at hno;have hs:=hlt;repeat' first|(with_reducible first|refine zz ?_|refine zr ?_|refine zE [0,1,4,5,9,17] ?_)|simp -dsimp[hs]|refine i7 ?_ ?_<;>intro h<;>try exact h.elim
  exact λhm=>by simp[hm] at hno
theorem kN (p:Prints) (n:Int) (hl:p.holders.length<1000):zP prog G 138 [r9 p,iv n] (iv (I5 (λy=>decide (y.id=n)) p.holders)):=by
 refine zf func138 ntmps138 ?_;try simp only[iv]
 have hs:=trivial;repeat' first|(with_reducible first|refine zz ?_|refine zE [0,1,2,4,5,10,20] ?_)|simp -dsimp[hs]
 refine g9 (ι:={ k:Nat // k<=p.holders.length/\∀ (j:Nat) (x:Holder),j<k->p.holders[j]?=some x->decide (x.id=n)=false }) (λi=>⟨22,[(1,iv n),(2,.one (.ptr 0 0)),(5,iv (i.1:Int))],[.row ((m6 p).map .im)]⟩) (λi=>p.holders.length-i.1) ⟨0,by simp⟩ (zv [1,2,5]) ?_;rintro⟨i,hi,hno⟩;simp only[iv];by_cases hlt:i<p.holders.length
 ·have hw:=zk i;have hx0:p.holders[i]?=some p.holders[i]:=by simp[hlt]
  generalize hx:p.holders[i]=x at *;have hs:=za hx (za hw hlt);repeat' first|(with_reducible first|refine zz ?_|refine zr ?_|refine zE [0,1,2,4,5,10,20] ?_)|simp -dsimp[hs]|refine i7 ?_ ?_<;>intro h<;>try exact h.elim
  all_goals try clear hs
  ·exact(I4 hx0 (by simp[*]) hno).symm
  ·exact At.round ⟨i+1,by omega,λj z hj hjx=>by
    by_cases e:j=i
    ·subst e;rw[hx0] at hjx;cases hjx;simp[*]
    ·exact hno j z (by omega) hjx⟩ (by simp;omega) (zv [1,2,5])
 ·have hs:=hlt;repeat' first|(with_reducible first|refine zz ?_|refine zr ?_|refine zE [0,1,2,4,5,10,20] ?_)|simp -dsimp[hs]|refine i7 ?_ ?_<;>intro h<;>try exact h.elim
  exact(Q4 λj z hjx=>hno j z (by have:=e7 hjx;omega) hjx).symm
@[simp] abbrev LO:List Nat:=[0,1,2,4,5,6,7,51,60,88]
open Classical in
theorem tI (p:Prints) (k:Nat) (x:Holder) (hx0:p.holders[k]?=some x) (hsm:SmallP p):zP prog G 182 [r9 p,iv (k:Int)] (bv (decide (qc (nums p.n.reg) p.holders k x))):=by
 refine zf func182 ntmps182 ?_;try simp only[iv]
 have hlt:k<p.holders.length:=e7 hx0;have hx:p.holders[k]=x:=(List.getElem?_eq_some_iff.1 hx0).2;have hdl:x.draws.length<=20:=hsm.d x (by rw[<- hx];exact List.getElem_mem hlt);have hh:=hsm.h;have hr:=hsm.r;have hrl:=hsm.l;have c1:=S6 (G:=G) x.id 1 9999;have c2:=S6 (G:=G) x.frm 1 x.to;have c3:=H0 (G:=G) p.n.reg (by omega);have c4:=λd=>xH (G:=G) (nums p.n.reg) d (by omega);have hs:True:=trivial;by_cases hA:Gc p.holders k x
 ·obtain⟨a1,a3,a4,a6,a8,a9⟩:=id hA;rw[show (decide (1<=x.id)&&decide (x.id<=9999))=true by simp;omega] at c1;rw[show (decide (1<=x.frm)&&decide (x.frm<=x.to))=true by simp;omega] at c2;have a8':¬ (999:Int)<x.to:=by omega
  have a9':¬ (8:Int)<x.draws.length:=by omega
  have hcs:(¬ 0<k/\True/\∃ _:True,True)\/(0<k/\IntKind.i64.wrap ((k:Int)-1)=((k-1:Nat):Int)/\∃ h:k-1<p.holders.length,¬ x.id<=(p.holders[k-1]'h).id):=by
   rcases Nat.eq_zero_or_pos k with h0|h0
   ·exact .inl ⟨by omega,trivial,trivial,trivial⟩
   ·have h1:k-1<p.holders.length:=by omega
    exact .inr ⟨by omega,by rw[m9 (by omega) (by omega)];omega,h1,by have:=a3 h0 _ (List.getElem?_eq_getElem h1);omega⟩
  rcases hcs with⟨hk0,hwm,hi1,hlt1⟩|⟨hk0,hwm,hi1,hlt1⟩
  all_goals
   have hs:=za hx (za hlt (za a8' (za a9' (za hk0 (za hwm (za hi1 hlt1))))));repeat' first|with_reducible refine zz ?_|simp -dsimp[hs]|refine zq c1 ?_|refine zq c2 ?_|refine zp c3 ?_|refine zM 2 89 39 LO ?_|with_reducible refine zE LO ?_|refine i7 ?_ ?_<;>intro h<;>try exact h.elim
  all_goals
   refine g9 (ι:={ j:Nat // j<=x.draws.length/\∀ (i:Nat) (d:Int),i<j->x.draws[i]?=some d->AH (nums p.n.reg) x.draws i d }) (λq=>⟨89,[(5,.one (.ptr 2 0)),(6,n9 (nums p.n.reg)),(7,iv (q.1:Int))],[.row ((m6 p).map .im),.vec 0 [] 0 true,.row ((o8 x).map .im)]⟩) (λq=>x.draws.length-q.1) ⟨0,by simp⟩ (zv [5,6,7]) ?_;rintro⟨j,hj,hjok⟩;simp only[iv,n9];by_cases hlj:j<x.draws.length
   ·have hx1:x.draws[j]?=some x.draws[j]:=by simp[hlj]
    have hwj:=zk j;have c5:=c4 x.draws[j];have hcj:(¬ 0<j/\True/\∃ _:True,True)\/(0<j/\IntKind.i64.wrap ((j:Int)-1)=((j-1:Nat):Int)/\∃ h:j-1<x.draws.length,True):=by
     rcases Nat.eq_zero_or_pos j with h0|h0
     ·exact .inl ⟨by omega,trivial,trivial,trivial⟩
     ·exact .inr ⟨by omega,by rw[m9 (by omega) (by omega)];omega,by omega,trivial⟩
    have hbadj:¬ AH (nums p.n.reg) x.draws j x.draws[j]->decide (qc (nums p.n.reg) p.holders k x)=false:=λh=>decide_eq_false λh'=>h (h'.2 j _ hx1);have hstj:AH (nums p.n.reg) x.draws j x.draws[j]->∀ (i:Nat) (d:Int),i<j+1->x.draws[i]?=some d->AH (nums p.n.reg) x.draws i d:=λh i d hi hd=>by
     by_cases e:i=j
     ·subst e;rw[hx1] at hd;cases hd;exact h
     ·exact hjok i d (by omega) hd
    generalize decide (qc (nums p.n.reg) p.holders k x)=B at *;rcases hcj with⟨hj0,hwmj,hij,-⟩|⟨hj0,hwmj,hij,-⟩
    all_goals
     have hs:=za hx1 (za hlj (za hj0 (za hwmj (za hij hwj))));repeat' first|(with_reducible first|refine zz ?_|refine zr ?_)|simp -dsimp[hs]|refine zq c5 ?_|refine zM 8 89 26 LO ?_|with_reducible refine zE LO ?_|refine i7 ?_ ?_<;>intro h<;>try exact h.elim|with_reducible refine j0 ?_ ?_<;>intro h<;>have h0:=h<;>(try simp only[i6] at h)<;>have h2:=h<;>(try simp at h2)<;>replace hs:=za h0 (za h (za h2 hs))
     all_goals try clear hs
    all_goals first
     | exact zn ⟨j+1,by omega,hstj ⟨of_decide_eq_true (by assumption),λh1 e he=>by first|omega|(obtain⟨_,rfl⟩:=List.getElem?_eq_some_iff.1 he;omega)⟩⟩ (zv [5,6,7])
     | (refine hbadj λhh=>?_;have:=hh.1;simp_all;done)
     | (refine hbadj λhh=>?_;have:=hh.2 (by omega) _ (List.getElem?_eq_getElem hij);omega)
   ·have hyes:decide (qc (nums p.n.reg) p.holders k x)=true:=decide_eq_true ⟨hA,λi d hd=>hjok i d (by have:=e7 hd;omega) hd⟩;rw[hyes];have hs:=hlj;repeat' first|(with_reducible first|refine zz ?_|refine zr ?_|refine zE LO ?_)|simp -dsimp[hs]|refine i7 ?_ ?_<;>intro h<;>try exact h.elim
 ·have hno:decide (qc (nums p.n.reg) p.holders k x)=false:=decide_eq_false λh=>hA h.1;rw[hno];generalize hb1:(decide (1<=x.id)&&decide (x.id<=9999))=b1 at c1;generalize hb2:(decide (1<=x.frm)&&decide (x.frm<=x.to))=b2 at c2;have hcs:(¬ 0<k/\True/\∃ _:True,True)\/(0<k/\IntKind.i64.wrap ((k:Int)-1)=((k-1:Nat):Int)/\∃ h:k-1<p.holders.length,True):=by
   rcases Nat.eq_zero_or_pos k with h0|h0
   ·exact .inl ⟨by omega,trivial,trivial,trivial⟩
   ·exact .inr ⟨by omega,by rw[m9 (by omega) (by omega)];omega,by omega,trivial⟩
  rcases hcs with⟨hk0,hwm,hi1,-⟩|⟨hk0,hwm,hi1,-⟩<;>cases b1<;>cases b2
  all_goals
   have hs:=za hx (za hlt (za hk0 (za hwm hi1)));repeat' first|(with_reducible first|refine zz ?_|refine zr ?_)|simp -dsimp[hs]|refine zq c1 ?_|refine zq c2 ?_|refine zM 2 89 39 LO ?_|with_reducible refine zE LO ?_|refine i7 ?_ ?_<;>intro h<;>try exact h.elim|with_reducible refine j0 ?_ ?_<;>intro h<;>have h0:=h<;>(try simp only[i6] at h)<;>have h2:=h<;>(try simp at h2)<;>replace hs:=za h0 (za h (za h2 hs))
  ·refine absurd ?_ hA;simp at hb1 hb2;exact⟨by omega,λh1=>by omega,by omega,by omega,by omega,by omega⟩
  ·refine absurd ?_ hA;simp at hb1 hb2;exact⟨by omega,λh1 y hy=>by
    obtain⟨_,rfl⟩:=List.getElem?_eq_some_iff.1 hy
    simp_all<;>omega,by omega,by omega,by omega,by omega⟩
theorem wT (l:List Issue) (x:Print):(o2 l x.drawing x.letter).isSome=Co l x:=by
 unfold o2 Co;rw[Bool.eq_iff_iff,List.find?_isSome,List.any_eq_true];refine exists_congr λy=>and_congr_right λ_=>?_;simp only[Bool.and_eq_true,beq_iff_eq,decide_eq_true_eq];constructor<;>exact λ⟨h1,h2⟩=>⟨h1.symm,h2.symm⟩
theorem sM (p:Prints) (i:Nat) (x:Print):tW p i x↔(0<i->∀ y,p.prints[i-1]?=some y->y.number<x.number)/\Dx x=true/\Ej p.holders x=true/\Co p.n.reg x=true/\Cm x=true/\Dw x=true:=by
 refine and_congr_right λ_=>⟨λh=>⟨h 0 (by omega),h 1 (by omega),h 2 (by omega),h 3 (by omega),h 4 (by omega)⟩,λ⟨h1,h2,h3,h4,h5⟩ c hc=>?_⟩
 match c,hc with
 | 0,_=>exact h1
 | 1,_=>exact h2
 | 2,_=>exact h3
 | 3,_=>exact h4
 | 4,_=>exact h5
theorem wn {B b1 b2 b3 b4 b5:Bool} {O:Prop} {f l r:Int} (hf3:b3=true↔¬ f<0) (hP:B=true↔O/\(b1&&b2)=true/\b3=true/\b4=true/\decide (l<=2)=true/\(decide (r=-1)||b5&&decide (l=0))=true):(b1=false/\True/\True/\True/\True/\True/\True/\B=false)\/(¬ O/\B=false)\/(O/\((b1=true/\b2=false/\True/\True/\True/\True/\True/\B=false)\/(b1=true/\b2=true/\f<0/\True/\True/\True/\True/\B=false)\/(b1=true/\b2=true/\¬ f<0/\2<l/\True/\True/\True/\B=false)\/(b1=true/\b2=true/\¬ f<0/\¬ 2<l/\b4=false/\True/\True/\B=false)\/(b1=true/\b2=true/\¬ f<0/\¬ 2<l/\b4=true/\r=-1/\True/\B=true)\/(b1=true/\b2=true/\¬ f<0/\¬ 2<l/\b4=true/\¬ r=-1/\b5=false/\B=false)\/(b1=true/\b2=true/\¬ f<0/\¬ 2<l/\b4=true/\¬ r=-1/\b5=true/\B=decide (l=0)))):=by
 have hn:¬ (O/\(b1&&b2)=true/\b3=true/\b4=true/\decide (l<=2)=true/\(decide (r=-1)||b5&&decide (l=0))=true)->B=false:=λh=>Bool.eq_false_iff.2 λe=>h (hP.1 e);have t:=trivial;by_cases hO:O
 ·cases b1 with
  | false=>exact .inl ⟨rfl,t,t,t,t,t,t,hn λh=>by simpa using h.2.1⟩
  | true =>
    refine .inr (.inr ⟨hO,?_⟩);cases b2 with
    | false=>exact .inl ⟨rfl,rfl,t,t,t,t,t,hn λh=>by simpa using h.2.1⟩
    | true =>
      by_cases q2:f<0
      ·exact .inr (.inl ⟨rfl,rfl,q2,t,t,t,t,hn λh=>hf3.1 h.2.2.1 q2⟩)
      ·by_cases q3:2<l
       ·exact .inr (.inr (.inl ⟨rfl,rfl,q2,q3,t,t,t,hn λh=>by have:=of_decide_eq_true h.2.2.2.2.1;omega⟩))
       ·have h2:decide (l<=2)=true:=decide_eq_true (by omega);have hb3:b3=true:=hf3.2 q2;cases b4 with
        | false=>exact .inr (.inr (.inr (.inl ⟨rfl,rfl,q2,q3,rfl,t,t,hn λh=>Bool.noConfusion h.2.2.2.1⟩)))
        | true =>
          by_cases q4:r=-1
          ·exact .inr (.inr (.inr (.inr (.inl ⟨rfl,rfl,q2,q3,rfl,q4,t,hP.2 ⟨hO,rfl,hb3,rfl,h2,by rw[decide_eq_true q4];rfl⟩⟩))))
          ·cases b5 with
           | false=>exact .inr (.inr (.inr (.inr (.inr (.inl ⟨rfl,rfl,q2,q3,rfl,q4,rfl,hn λh=>by have:=h.2.2.2.2.2;rw[decide_eq_false q4] at this;simp at this⟩)))))
           | true =>
             refine .inr (.inr (.inr (.inr (.inr (.inr ⟨rfl,rfl,q2,q3,rfl,q4,rfl,?_⟩)))));by_cases q5:l=0
             ·rw[decide_eq_true q5];exact hP.2 ⟨hO,rfl,hb3,rfl,h2,by rw[decide_eq_true q5];simp⟩
             ·rw[decide_eq_false q5];exact hn λh=>by have:=h.2.2.2.2.2;rw[decide_eq_false q4,decide_eq_false q5] at this;simp at this
 ·exact .inr (.inl ⟨hO,hn λh=>hO h.1⟩)
@[simp] abbrev Kc:List Nat:=[0,1,2,4,5,7,50,61]
open Classical in
theorem wB (p:Prints) (k:Nat) (x:Print) (hx0:p.prints[k]?=some x) (hsm:SmallP p):zP prog G 183 [r9 p,iv (k:Int)] (bv (decide (tW p k x))):=by
 refine zf func183 ntmps183 ?_;try simp only[iv]
 have hlt:k<p.prints.length:=e7 hx0;have hx:p.prints[k]=x:=(List.getElem?_eq_some_iff.1 hx0).2;have hlo:=hsm.lo x (by rw[<- hx];exact List.getElem_mem hlt);have hh:=hsm.h;have hrl:=hsm.l;have hql:=hsm.q;have c1:=S6 (G:=G) x.number 1 9999;have c2:=S6 (G:=G) x.day 0 14610;have c3:=kN (G:=G) p x.holder (by omega);have c4:=kR (G:=G) p.n.reg x.drawing x.letter (by omega);have c5:=S6 (G:=G) x.back x.day 14610;have hf:=nF (λy:Holder=>decide (y.id=x.holder)) p.holders;have hP:=sM p k x;rw[<- wT,show Ej p.holders x=p.holders.any (λy=>decide (y.id=x.holder)) from rfl] at hP;simp only[B1] at c4;generalize I5 (λy:Holder=>decide (y.id=x.holder)) p.holders=f at *;generalize (p.holders.any λy=>decide (y.id=x.holder))=b3 at *;generalize (o2 p.n.reg x.drawing x.letter).isSome=b4 at *;generalize (o2 p.n.reg x.drawing x.letter).getD J1=z at *;generalize hB:decide (tW p k x)=B;have hP':B=true↔tW p k x:=by rw[<- hB,decide_eq_true_eq]
 rw[hP] at hP';clear hP hB;generalize hb1:(decide (1<=x.number)&&decide (x.number<=9999))=b1 at c1;generalize hb2:(decide (0<=x.day)&&decide (x.day<=14610))=b2 at c2;generalize hb5:(decide (x.day<=x.back)&&decide (x.back<=14610))=b5 at c5;have e1:Dx x=(b1&&b2):=by rw[<- hb1,<- hb2];rfl
 have e5:Dw x=(decide (x.back=-1)||b5&&decide (x.lost=0)):=by rw[<- hb5];rfl
 rw[e1,e5,show Cm x=decide (x.lost<=2) from rfl] at hP';clear e1 e5 hb1 hb2 hb5;have hf3:b3=true↔¬ f<0:=by cases b3<;>simpa using hf
 clear hf;have hs:True:=trivial;have hcs:(¬ 0<k/\True/\(∃ _:True,True)/\(0<k->∀ y,p.prints[k-1]?=some y->y.number<x.number))\/(0<k/\IntKind.i64.wrap ((k:Int)-1)=((k-1:Nat):Int)/\(∃ h:k-1<p.prints.length,¬ x.number<=(p.prints[k-1]'h).number)/\(0<k->∀ y,p.prints[k-1]?=some y->y.number<x.number))\/(0<k/\IntKind.i64.wrap ((k:Int)-1)=((k-1:Nat):Int)/\(∃ h:k-1<p.prints.length,x.number<=(p.prints[k-1]'h).number)/\¬ (0<k->∀ y,p.prints[k-1]?=some y->y.number<x.number)):=by
  rcases Nat.eq_zero_or_pos k with h0|h0
  ·exact .inl ⟨by omega,trivial,⟨trivial,trivial⟩,λh=>by omega⟩
  ·have h1:k-1<p.prints.length:=by omega
   have h2:=List.getElem?_eq_getElem h1;have hw:IntKind.i64.wrap ((k:Int)-1)=((k-1:Nat):Int):=by rw[m9 (by omega) (by omega)];omega
   by_cases h3:x.number<=(p.prints[k-1]'h1).number
   ·exact .inr (.inr ⟨h0,hw,⟨h1,h3⟩,λh=>by have:=h h0 _ h2;omega⟩)
   ·exact .inr (.inl ⟨h0,hw,⟨h1,h3⟩,λ_ y hy=>by rw[h2] at hy;cases hy;omega⟩)
 generalize (0<k->∀ y,p.prints[k-1]?=some y->y.number<x.number)=O at *;have hc2:=wn hf3 hP';rcases hc2 with⟨g1,g2,g3,g4,g5,g6,g7,gB⟩|⟨hO,gB⟩|⟨hO,hc2⟩
 ·clear hcs;have hs:=za hx (za hlt g1);repeat' first|(with_reducible first|refine zz ?_|refine zr ?_)|simp -dsimp[hs]|refine zq c1 ?_|refine zM 2 77 38 Kc ?_|with_reducible refine zE Kc ?_|refine i7 ?_ ?_<;>intro h<;>try exact h.elim
  all_goals try clear hs
  all_goals exact gB
 ·rcases hcs with⟨hk0,hwm,⟨hi1,hlt1⟩,hO1⟩|⟨hk0,hwm,⟨hi1,hlt1⟩,hO1⟩|⟨hk0,hwm,⟨hi1,hlt1⟩,hO1⟩
  ·exact absurd hO1 hO
  ·exact absurd hO1 hO
  ·cases b1
   all_goals
    have hs:=za hx (za hlt (za hk0 (za hwm (za hi1 hlt1))));repeat' first|(with_reducible first|refine zz ?_|refine zr ?_)|simp -dsimp[hs]|refine zq c1 ?_|refine zM 2 77 38 Kc ?_|with_reducible refine zE Kc ?_|refine i7 ?_ ?_<;>intro h<;>try exact h.elim
    all_goals try clear hs
   all_goals exact gB
 ·rcases hc2 with⟨g1,g2,g3,g4,g5,g6,g7,gB⟩|⟨g1,g2,g3,g4,g5,g6,g7,gB⟩|⟨g1,g2,g3,g4,g5,g6,g7,gB⟩|⟨g1,g2,g3,g4,g5,g6,g7,gB⟩|⟨g1,g2,g3,g4,g5,g6,g7,gB⟩|⟨g1,g2,g3,g4,g5,g6,g7,gB⟩|⟨g1,g2,g3,g4,g5,g6,g7,gB⟩<;>rcases hcs with⟨hk0,hwm,⟨hi1,hlt1⟩,hO1⟩|⟨hk0,hwm,⟨hi1,hlt1⟩,hO1⟩|⟨hk0,hwm,⟨hi1,hlt1⟩,hO1⟩
  all_goals first
   | exact absurd hO hO1
   | skip
  all_goals
   have hs:=za hx (za hlt (za hk0 (za hwm (za hi1 (za hlt1 (za g1 (za g2 (za g3 (za g4 (za g5 (za g6 g7)))))))))));repeat' first|(with_reducible first|refine zz ?_|refine zr ?_)|simp -dsimp[hs]|refine zq c1 ?_|refine zq c2 ?_|refine zq c3 ?_|refine zp c4 ?_|refine zp c5 ?_|refine zM 2 77 38 Kc ?_|with_reducible refine zE Kc ?_|refine i7 ?_ ?_<;>intro h<;>try exact h.elim
   all_goals try clear hs
  all_goals first
   | exact gB
   | exact gB.symm
   | trace_state
@[simp] abbrev Ly:List Nat:=[0,1,2,3,4,14,19,25,30,36]
open Classical in
theorem tK (p:Prints) (hsm:SmallP p):zP prog G 134 [r9 p] (bv (C3 p)):=by
 refine zf func134 ntmps134 ?_;try simp only[iv]
 have hh:=hsm.h;have hq:=hsm.q;by_cases h6:¬ p.holders.length<=6
 ·have h6':(6:Int)<p.holders.length:=by omega
  have hno:=K5 (p:=p) λh=>h6 h.hl;have hs:=h6';repeat' first|(with_reducible first|refine zz ?_|refine zr ?_|refine zE Ly ?_)|simp -dsimp[hs]|refine i7 ?_ ?_<;>intro h<;>try exact h.elim
  all_goals try clear hs
  all_goals simp[hno]
 replace h6:=Classical.not_not.1 h6;have h6':¬ (6:Int)<p.holders.length:=by omega
 by_cases h30:¬ p.prints.length<=30
 ·have h30':(30:Int)<p.prints.length:=by omega
  have hno:=K5 (p:=p) λh=>h30 h.pl;have hs:=za h6' h30';repeat' first|(with_reducible first|refine zz ?_|refine zr ?_|refine zE Ly ?_)|simp -dsimp[hs]|refine i7 ?_ ?_<;>intro h<;>try exact h.elim
  all_goals try clear hs
  all_goals simp[hno]
 replace h30:=Classical.not_not.1 h30;have h30':¬ (30:Int)<p.prints.length:=by omega
 have hs:=za h6' h30';repeat' first|(with_reducible first|refine zz ?_|refine zE Ly ?_)|simp -dsimp[hs]|refine i7 ?_ ?_<;>intro h<;>try exact h.elim
 all_goals try clear hs
 refine g9 (ι:={ k:Nat // k<=p.holders.length/\∀ (j:Nat) (x:Holder),j<k->p.holders[j]?=some x->qc (nums p.n.reg) p.holders j x }) (λq=>⟨37,[(1,.one (.ptr 0 0)),(3,iv (q.1:Int))],[.row ((m6 p).map .im)]⟩) (λq=>p.holders.length-q.1) ⟨0,by simp⟩ (zv [1,3]) ?_;rintro⟨k,hk,hok⟩;simp only[iv];by_cases hlt:k<p.holders.length
 ·have hx0:p.holders[k]?=some p.holders[k]:=by simp[hlt]
  have hw:=zk k;have c1:=tI (G:=G) p k _ hx0 hsm;generalize hx:p.holders[k]=x at *;have hstep:qc (nums p.n.reg) p.holders k x->∀ (j:Nat) (z:Holder),j<k+1->p.holders[j]?=some z->qc (nums p.n.reg) p.holders j z:=λh j z hj hz=>by
   by_cases e:j=k
   ·subst e;rw[hx0] at hz;cases hz;exact h
   ·exact hok j z (by omega) hz
  by_cases hB:qc (nums p.n.reg) p.holders k x
  ·rw[decide_eq_true hB] at c1;have hs:=za hlt hw;repeat' first|(with_reducible first|refine zz ?_|refine zE Ly ?_)|simp -dsimp[hs]|refine zp c1 ?_|refine i7 ?_ ?_<;>intro h<;>try exact h.elim
   all_goals try clear hs
   exact zn ⟨k+1,by omega,hstep hB⟩ (zv [1,3])
  ·rw[decide_eq_false hB] at c1;have hno:=K5 (p:=p) λh'=>hB (h'.h k x hx0);have hs:=za hlt hw;repeat' first|(with_reducible first|refine zz ?_|refine zr ?_|refine zE Ly ?_)|simp -dsimp[hs]|refine zp c1 ?_|refine i7 ?_ ?_<;>intro h<;>try exact h.elim
   all_goals try clear hs
   all_goals simp[hno]
 have hall:∀ i x,p.holders[i]?=some x->qc (nums p.n.reg) p.holders i x:=λi x hx=>hok i x (by have:=e7 hx;omega) hx;have hs:=hlt;repeat' first|(with_reducible first|refine zz ?_|refine zE Ly ?_)|simp -dsimp[hs]|refine i7 ?_ ?_<;>intro h<;>try exact h.elim
 all_goals try clear hs
 clear hlt hok hk;refine g9 (ι:={ k:Nat // k<=p.prints.length/\∀ (j:Nat) (x:Print),j<k->p.prints[j]?=some x->tW p j x }) (λq=>⟨37,[(1,.one (.ptr 0 0)),(4,iv (q.1:Int))],[.row ((m6 p).map .im)]⟩) (λq=>p.prints.length-q.1) ⟨0,by simp⟩ (zv [1,4]) ?_;rintro⟨k,hk,hok⟩;simp only[iv];by_cases hlt:k<p.prints.length
 ·have hx0:p.prints[k]?=some p.prints[k]:=by simp[hlt]
  have hw:=zk k;have c1:=wB (G:=G) p k _ hx0 hsm;generalize hx:p.prints[k]=x at *;have hstep:tW p k x->∀ (j:Nat) (z:Print),j<k+1->p.prints[j]?=some z->tW p j z:=λh j z hj hz=>by
   by_cases e:j=k
   ·subst e;rw[hx0] at hz;cases hz;exact h
   ·exact hok j z (by omega) hz
  by_cases hB:tW p k x
  ·rw[decide_eq_true hB] at c1;have hs:=za hlt hw;repeat' first|(with_reducible first|refine zz ?_|refine zE Ly ?_)|simp -dsimp[hs]|refine zp c1 ?_|refine i7 ?_ ?_<;>intro h<;>try exact h.elim
   all_goals try clear hs
   exact zn ⟨k+1,by omega,hstep hB⟩ (zv [1,4])
  ·rw[decide_eq_false hB] at c1;have hno:=K5 (p:=p) λh'=>hB (h'.q k x hx0);have hs:=za hlt hw;repeat' first|(with_reducible first|refine zz ?_|refine zr ?_|refine zE Ly ?_)|simp -dsimp[hs]|refine zp c1 ?_|refine i7 ?_ ?_<;>intro h<;>try exact h.elim
   all_goals try clear hs
   all_goals simp[hno]
 have hyes:C3 p=true:=iV ⟨h6,h30,hall,λi x hx=>hok i x (by have:=e7 hx;omega) hx⟩;rw[hyes];have hs:=hlt;repeat' first|(with_reducible first|refine zz ?_|refine zr ?_|refine zE Ly ?_)|simp -dsimp[hs]|refine i7 ?_ ?_<;>intro h<;>try exact h.elim
 all_goals try clear hs
theorem mi (p:Prints) (hk:KP p):zP prog G 83 [r9 p] (iv (p6 p)):=by
 refine zf func83 ntmps83 ?_;try simp only[iv]
 have c1:=pH (G:=G) p.n hk.n;have c2:=tK (G:=G) p hk.p;by_cases h0:r7 p.n=0
 ·simp only[h0] at c1;have hE:p6 p=if C3 p=true then 0 else 70:=by unfold p6;rw[if_neg (by simp[h0])]
  rw[hE];generalize C3 p=b at *;cases b
  ·have hs:=trivial;repeat' first|(with_reducible first|refine zz ?_|refine zr ?_|refine zE [0,1,2,3,8,12] ?_)|simp -dsimp[hs]|refine zp c1 ?_|refine zp c2 ?_|refine i7 ?_ ?_<;>intro h<;>try exact h.elim
  ·have hs:=trivial;repeat' first|(with_reducible first|refine zz ?_|refine zr ?_|refine zE [0,1,2,3,8,12] ?_)|simp -dsimp[hs]|refine zp c1 ?_|refine zp c2 ?_|refine i7 ?_ ?_<;>intro h<;>try exact h.elim
 ·have hE:p6 p=r7 p.n:=by unfold p6;rw[if_pos h0]
  rw[hE];have hs:=h0;repeat' first|(with_reducible first|refine zz ?_|refine zr ?_|refine zE [0,1,2,3,8,12] ?_)|simp -dsimp[hs]|refine zp c1 ?_|refine i7 ?_ ?_<;>intro h<;>try exact h.elim
theorem tM (p:Prints) (d m:Int) (hk:KP p):zP prog G 264 [r9 p,iv d,iv m] (iv (B5 p d m)):=by
 refine zf func264 ntmps264 ?_;try simp only[iv,iv]
 have c1:=mi (G:=G) p hk;have c2:=S6 (G:=G) d 0 14610;have c3:=S6 (G:=G) m 1 999;by_cases h0:p6 p=0
 ·have hE:B5 p d m=if rJ d m=true then 0 else 2:=by unfold B5;rw[if_neg (by simp[h0])]
  rw[hE];simp only[h0] at c1;unfold rJ;generalize (decide (0<=d)&&decide (d<=14610))=b1 at *;generalize (decide (1<=m)&&decide (m<=999))=b2 at *;cases b1<;>cases b2
  all_goals
   have hs:=trivial;repeat' first|(with_reducible first|refine zz ?_|refine zr ?_|refine zE [0,1,2,3,6,7,11,20] ?_)|simp -dsimp[hs]|refine zp c1 ?_|refine zp c2 ?_|refine zp c3 ?_|refine i7 ?_ ?_<;>intro h<;>try exact h.elim
 ·have hE:B5 p d m=p6 p:=by unfold B5;rw[if_pos h0]
  rw[hE];have hs:=h0;repeat' first|(with_reducible first|refine zz ?_|refine zr ?_|refine zE [0,1,2,3,6,7,11,20] ?_)|simp -dsimp[hs]|refine zp c1 ?_|refine i7 ?_ ?_<;>intro h<;>try exact h.elim
@[simp] abbrev KS:List Nat:=[0,1,2,3,4,5,10,11,17,31]
theorem tN (p:Prints) (d m i w:Int) (hk:KP p):zP prog G 224 [r9 p,iv d,iv m,iv i,iv w] (iv (G3 p d m i w)):=by
 refine zf func224 ntmps224 ?_;try simp only[iv,iv,iv,iv]
 have c1:=tM (G:=G) p d m hk;have hh:=hk.p.h;have hr:=hk.p.r;have hrl:=hk.p.l;have c2:=kN (G:=G) p i (by omega);have c3:=H0 (G:=G) p.n.reg (by omega);have c4:=xH (G:=G) (nums p.n.reg) w (by omega);have hf:=nF (λy:Holder=>decide (y.id=i)) p.holders;by_cases h0:B5 p d m=0
 ·have hE:G3 p d m i w=if (p.holders.any λy=>decide (y.id=i))=true/\w∈nums p.n.reg then 0 else 6:=by unfold G3;rw[if_neg (by simp[h0])]
  rw[hE];simp only[h0] at c1;generalize I5 (λy:Holder=>decide (y.id=i)) p.holders=f at *;generalize (p.holders.any λy=>decide (y.id=i))=b at *;cases b
  ·have hf':f<0:=by simpa using hf
   have hs:=hf';repeat' first|(with_reducible first|refine zz ?_|refine zr ?_|refine zE KS ?_)|simp -dsimp[hs]|refine zp c1 ?_|refine zp c2 ?_|refine i7 ?_ ?_<;>intro h<;>try exact h.elim
  ·have hf':¬ f<0:=by simpa using hf
   by_cases hw:w∈nums p.n.reg
   ·simp only[hw,decide_true] at c4;have hs:=za hf' hw;repeat' first|(with_reducible first|refine zz ?_|refine zr ?_|refine zE KS ?_)|simp -dsimp[hs]|refine zp c1 ?_|refine zp c2 ?_|refine zp c3 ?_|refine zp c4 ?_|refine i7 ?_ ?_<;>intro h<;>try exact h.elim
   ·simp only[hw,decide_false] at c4;have hs:=za hf' hw;repeat' first|(with_reducible first|refine zz ?_|refine zr ?_|refine zE KS ?_)|simp -dsimp[hs]|refine zp c1 ?_|refine zp c2 ?_|refine zp c3 ?_|refine zp c4 ?_|refine i7 ?_ ?_<;>intro h<;>try exact h.elim
 ·have hE:G3 p d m i w=B5 p d m:=by unfold G3;rw[if_pos h0]
  rw[hE];have hs:=h0;repeat' first|(with_reducible first|refine zz ?_|refine zr ?_|refine zE KS ?_)|simp -dsimp[hs]|refine zp c1 ?_|refine i7 ?_ ?_<;>intro h<;>try exact h.elim
theorem Cr (x:Print) (d:Int) (hl:0<=x.lost/\x.lost<=255):zP prog G 265 [bL x,iv d] (bv (oO x d)):=by
 refine zf func265 ntmps265 ?_;try simp only[iv]
 have hs:=trivial;repeat' first|(with_reducible first|refine zz ?_|refine zr ?_|refine zE [0,1,2,4] ?_)|simp -dsimp[hs]|with_reducible refine j0 ?_ ?_<;>intro h<;>have h0:=h<;>(try simp only[i6] at h)<;>have h2:=h<;>(try simp at h2)<;>replace hs:=za h0 (za h (za h2 hs))
 all_goals try clear hs
 all_goals simp_all [oO]
 all_goals omega
end Go.Proofs
namespace Go.Ab
open Go
def lexB:List Int->List Int->Bool
 | a :: x,b :: y=>if a=b then lexB x y else decide (a<b)
 | _,_=>false
theorem gi {l:List Int} (h:l.Nodup):(l4 l).Pairwise (· < ·):=by
 have h1:(l4 l).Nodup:=(List.mergeSort_perm l _).nodup_iff.2 h;have h2:=List.pairwise_mergeSort (le:=λx y:Int=>decide (x<=y)) (λa b c h1 h2=>by simp at *;omega) (λa b=>by simp;omega) l;rw[List.nodup_iff_pairwise_ne] at h1;refine(h1.and h2).imp ?_;rintro a b ⟨h3,h4⟩;simp at h4;omega
theorem bE:∀ (X Y:List Int),X.Pairwise (· < ·)->Y.Pairwise (· < ·)->(∀ x∈X,x∈Y)->X.Sublist Y
 | [],Y,_,_,_=>by simp
 | a :: x,[],_,_,h=>by have:=h a (by simp);simp at this
 | a :: x,b :: y,hX,hY,h=>by
   obtain⟨h1,h2⟩:=List.pairwise_cons.1 hX;obtain⟨h3,h4⟩:=List.pairwise_cons.1 hY;by_cases e:a=b
   ·subst e;refine List.Sublist.cons_cons a (bE x y h2 h4 λz hz=>?_);rcases List.mem_cons.1 (h z (by simp[hz])) with rfl|hm
    ·have:=h1 z hz;omega
    ·exact hm
   ·refine List.Sublist.cons b (bE (a :: x) y hX h4 λz hz=>?_);have hab:b<a:=by
     rcases List.mem_cons.1 (h a (by simp)) with rfl|hm
     ·exact absurd rfl e
     ·exact h3 a hm
    rcases List.mem_cons.1 (h z hz) with rfl|hm
    ·rcases List.mem_cons.1 hz with rfl|hz
     ·omega
     ·have:=h1 z hz;omega
    ·exact hm
theorem tB {X Y:List Int} (hX:X.Pairwise (· < ·)) (hY:Y.Pairwise (· < ·)) (h:∀ x,x∈X↔x∈Y):X=Y:=
 (bE X Y hX hY λx hx=>(h x).1 hx).eq_of_length_le (bE Y X hY hX λx hx=>(h x).2 hx).length_le
def R4 (N:List Int) (s:Nat) (k:Nat):List Int:=((List.range k).filter λi=>s.testBit i).map λi=>N.getD i 0
theorem dH (N:List Int) (s k:Nat):R4 N s (k+1)=R4 N s k++(if s.testBit k=true then [N.getD k 0] else []):=by
 unfold R4;rw[List.range_succ,List.filter_append,List.map_append]
 congr 1
 by_cases h:s.testBit k=true<;>simp[h]
end Go.Ab
namespace Go.Proofs
open Go Go.Ab
def qj (v:Int) (q:Int->Bool) (k:Nat):List Int:=((List.range k).map λ(x:Nat)=>v+1+(x:Int)).filter q
theorem vY (v:Int) (q:Int->Bool):qj v q 0=[]:=rfl
theorem vZ (v:Int) (q:Int->Bool) (k:Nat):qj v q (k+1)=qj v q k++(if q (v+1+(k:Int))=true then [v+1+(k:Int)] else []):=by
 unfold qj;rw[List.range_succ,List.map_append,List.filter_append]
 congr 1
 simp only[List.map_cons,List.map_nil,List.filter_cons,List.filter_nil]
theorem zj (v:Int) (q:Int->Bool) (k:Nat):(qj v q k).length<=k:=by
 unfold qj;refine Nat.le_trans (List.length_filter_le _ _) ?_;simp
theorem upL_mem {v:Int} {q:Int->Bool} {k:Nat} {x:Int}:x∈qj v q k↔(v+1<=x/\x<v+1+k)/\q x=true:=by
 unfold qj;rw[List.mem_filter,List.mem_map];refine and_congr_left λ_=>⟨λ⟨a,ha,e⟩=>?_,λ⟨h1,h2⟩=>⟨(x-v-1).toNat,?_,?_⟩⟩
 ·rw[List.mem_range] at ha;omega
 ·rw[List.mem_range];omega
 ·omega
theorem BP (v:Int) (q:Int->Bool) (k:Nat):(qj v q k).Pairwise (· < ·):=by
 unfold qj;refine List.Pairwise.filter _ ?_;rw[List.pairwise_map];exact List.pairwise_lt_range.imp λh=>by omega
def gS (d i w:Int) (l:List Print):List Int:=N1 d i w l :: qj (N1 d i w l) (λn=>decide (n∈P5 d i w l)) (8-N1 d i w l).toNat
theorem uK {D:List Int} {v:Int} (hs:D.Pairwise (· < ·)) (hv:v∈D):(D.drop (I5 (λx=>decide (v=x)) D).toNat).Pairwise (· < ·)/\∀ x,x∈D.drop (I5 (λx=>decide (v=x)) D).toNat↔x∈D/\v<=x:=by
 obtain⟨j,hj,hjv⟩:=List.mem_iff_getElem.1 hv;have hf:I5 (λx=>decide (v=x)) D=j:=by
  refine I4 (x:=v) (List.getElem?_eq_some_iff.2 ⟨hj,hjv⟩) (by simp) λa x ha hx=>?_;obtain⟨h1,rfl⟩:=List.getElem?_eq_some_iff.1 hx;have:=List.pairwise_iff_getElem.1 hs a j h1 hj ha;simp;omega
 rw[hf,Int.toNat_natCast];refine⟨hs.drop,λx=>⟨λhx=>?_,λ⟨hx,hvx⟩=>?_⟩⟩
 ·obtain⟨a,ha,rfl⟩:=List.mem_iff_getElem.1 hx;rw[List.length_drop] at ha;rw[List.getElem_drop];refine⟨List.getElem_mem _,?_⟩;rcases Nat.eq_zero_or_pos a with h0|h0
  ·subst h0;simp[hjv]
  ·have:=List.pairwise_iff_getElem.1 hs j (j+a) hj (by omega) (by omega);omega
 ·obtain⟨a,ha,rfl⟩:=List.mem_iff_getElem.1 hx;have hja:j<=a:=by
   refine Classical.byContradiction λh=>?_;have:=List.pairwise_iff_getElem.1 hs a j ha hj (by omega);omega
  refine List.mem_iff_getElem.2 ⟨a-j,by rw[List.length_drop];omega,?_⟩;rw[List.getElem_drop]
  congr 1;omega
theorem md (L:List Print):∀ a:Int,a<=L.foldl (λa x=>max a x.letter) a/\((∀ x∈L,x.letter<=8)->a<=8->L.foldl (λa x=>max a x.letter) a<=8):=by
 induction L with
 | nil=>intro a;exact⟨Int.le_refl _,λ_ h=>h⟩
 | cons x L ih =>
   intro a;rw[List.foldl_cons];obtain⟨h1,h2⟩:=ih (max a x.letter);refine⟨by omega,λh3 h4=>h2 (λy hy=>h3 y (List.mem_cons_of_mem _ hy)) ?_⟩;have:=h3 x List.mem_cons_self;omega
theorem vW {d i w:Int} {l:List Print} (h:∀ x∈l,ef d i w x=true->1<=x.letter/\x.letter<=8):aI d i w l=gS d i w l:=by
 have hv:=md (l.filter λx=>ef d i w x && !decide (x.lost=1)) 0;have hv0:0<=N1 d i w l:=hv.1;have hv8:N1 d i w l<=8:=hv.2 (λx hx=>by
  obtain⟨h1,h2⟩:=List.mem_filter.1 hx;rw[Bool.and_eq_true] at h2;exact(h x h1 h2.1).2) (by omega)
 have hq:∀ n∈P5 d i w l,1<=n/\n<=8:=λn hn=>by
  unfold P5 at hn;obtain⟨x,hx,rfl⟩:=List.mem_map.1 hn;obtain⟨h1,h2⟩:=List.mem_filter.1 hx;rw[Bool.and_eq_true] at h2;exact h x h1 h2.1
 unfold aI gS;generalize N1 d i w l=v at *;generalize P5 d i w l=Q at *;have hD:(p5 (l4 (Q++[v]))).Pairwise (· < ·):=mO _ (nA _);have hm:∀ x,x∈p5 (l4 (Q++[v]))↔x∈Q\/x=v:=λx=>by rw[ae,isort_mem];simp
 obtain⟨h1,h2⟩:=uK hD ((hm v).2 (.inr rfl));refine tB h1 ?_ λx=>?_
 ·refine List.pairwise_cons.2 ⟨λy hy=>?_,BP _ _ _⟩;have:=(upL_mem.1 hy).1;omega
 ·rw[h2,hm,List.mem_cons,upL_mem,decide_eq_true_eq];constructor
  ·rintro⟨h3|h3,h4⟩
   ·by_cases e:x=v
    ·exact .inl e
    ·have:=hq x h3;exact .inr ⟨by omega,h3⟩
   ·exact .inl h3
  ·rintro (rfl|⟨h3,h4⟩)
   ·exact⟨.inr rfl,Int.le_refl _⟩
   ·exact⟨.inl h4,by omega⟩
end Go.Proofs
namespace Go.Ab
open Go
theorem yo (s i:Nat):IntKind.i64.wrap ((BitVec.ofInt 64 ((s:Int).fdiv (2 ^ i)) &&& BitVec.ofInt 64 1).toNat:Int)=if s.testBit i=true then 1 else 0:=by
 have e1:(s:Int).fdiv (2 ^ i)=((s / 2 ^ i:Nat):Int):=by
  rw[Int.fdiv_eq_ediv_of_nonneg _ (by exact Int.pow_nonneg (by omega))];simp
 have e2:(BitVec.ofInt 64 ((s / 2 ^ i:Nat):Int) &&& BitVec.ofInt 64 1).toNat=(s / 2 ^ i) % 2:=by
  have h1:(BitVec.ofInt 64 1)=1#64:=by decide
  rw[h1,BitVec.ofInt_natCast,BitVec.toNat_and,BitVec.toNat_ofNat,BitVec.toNat_ofNat];rw[show (1 % 2 ^ 64:Nat)=1 by decide,Nat.and_one_is_mod];omega
 rw[e1,e2,Nat.testBit_eq_decide_div_mod_eq];rcases Nat.mod_two_eq_zero_or_one (s / 2 ^ i) with h|h
 ·rw[h];simp;decide
 ·rw[h];simp;decide
end Go.Ab
namespace Go.Proofs
open Go Go.Ab
variable {G:Hn}
theorem nB (l:List Int):(l4 l).length=l.length:=(List.mergeSort_perm l _).length_eq
theorem fL (N:List Int) (s k:Nat):(R4 N s k).length<=k:=by
 induction k with
 | zero=>simp[R4]
 | succ k ih =>
   rw[dH];split<;>simp<;>omega
open Go Go.Ab Tryz
def nI (l:List Int):List IC:=[.sl (l.map encI)]
def EL (L:List (List Int)):DV:=.one (.im (.sl (L.map nI)))
attribute [simp] nI EL
def jm (O:List Int) (k:Nat):List (List Int):=(List.range k).map λs=>R4 O s O.length
def E8 (O:List Int):List (List Int):=jm O (2 ^ O.length)
theorem jV (O:List Int) (k:Nat):(jm O k).length=k:=by simp[jm]
theorem cC (O:List Int):(E8 O).length=2 ^ O.length:=jV _ _
theorem lZ (O:List Int) (k:Nat):jm O (k+1)=jm O k++[R4 O k O.length]:=by
 simp[jm,List.range_succ]
theorem tv (O:List Int):jm O 0=[]:=rfl
@[simp] abbrev LP:List Nat:=[0,1,2,3,4,5,6,7,14,21,28]
theorem ie (n:Notes) (hs:ti n) (hok:gP n) (h5:(j7 n.notes).length<=5):zP prog G 43 [l6 n] (EL (E8 (l4 (j7 n.notes)))):=by
 refine zf func43 ntmps43 ?_;try simp only[l6]
 have c1:=sO (G:=G) n hs hok;have hn16:=hs.2.1;have hnu:=kr (n:=n);have hOl:(l4 (j7 n.notes)).length=(G4 n.notes).length:=by rw[<- hnu,List.length_map]
 have hO5:(l4 (j7 n.notes)).length<=5:=by rw[nB];exact h5
 have hIlt:∀ i∈G4 n.notes,i<n.notes.length:=λi hi=>oQ hi;have hJl:(M7 (G4 n.notes)).length=(l4 (j7 n.notes)).length:=by rw[hOl];simp[M7]
 have hJi:∀ i (h:i<(l4 (j7 n.notes)).length),∃ j,∃ hj:j<n.notes.length,(M7 (G4 n.notes))[i]?=some (j:Int)/\(l4 (j7 n.notes))[i]=n.notes[j].number:=λi h=>by
  have hi:i<(G4 n.notes).length:=by omega
  refine⟨(G4 n.notes)[i],hIlt _ (List.getElem_mem hi),by simp[M7,hi],?_⟩;have h1:((G4 n.notes).map (E1 n.notes))[i]?=(l4 (j7 n.notes))[i]?:=by rw[hnu]
  rw[List.getElem?_map,List.getElem?_eq_getElem hi,List.getElem?_eq_getElem h] at h1;simp only[Option.map_some,Option.some.injEq] at h1;rw[<- h1];simp[E1,hIlt _ (List.getElem_mem hi)]
 clear hnu hIlt hOl;generalize l4 (j7 n.notes)=O at *;generalize M7 (G4 n.notes)=J at *;have hPe:(2:Nat) ^ O.length<=2 ^ 5:=Nat.pow_le_pow_right (by omega) hO5;have hmin:min O.length 64=O.length:=by omega
 have hb64:IntKind.i64.bits=64:=rfl;have hlnn:¬ ((O.length:Int)<0):=by omega
 have hsh:IntKind.i64.wrap ((2:Int) ^ O.length)=((2 ^ O.length:Nat):Int):=by
  rw[show ((2:Int) ^ O.length)=((2 ^ O.length:Nat):Int) by simp];exact(λ(P:Nat) (h:P<=2 ^ 5)=>(m9 (by omega) (by omega):IntKind.i64.wrap (P:Int)=(P:Int))) _ hPe
 have hTz:E8 O=jm O (2 ^ O.length):=rfl;simp only[n9] at c1;have hs:=trivial;repeat' first|(with_reducible first|refine zz ?_|refine zE LP ?_)|simp -dsimp[hs]|refine zp c1 ?_
 all_goals try clear hs
 generalize hP:2 ^ O.length=P at *;refine g9 (ι:={ p:Nat×Nat×Bool // p.1<=P }) (λp=>⟨46,[(1,.one (.ptr 0 0)),(3,n9 J),(4,.one (.vec 2 p.1.2.1 0 p.1.1)),(5,iv (p.1.1:Int))],[.row ((m7 n).map .im),.vec 1 [] 0 true,.vec 1 (l8 ((jm O p.1.1).map nI)) p.1.2.1 p.1.2.2]⟩) (λp=>P-p.1.1) ⟨(0,0,true),by simp⟩ (zv [1,3,4,5] (by simp[tv])) ?_;rintro⟨⟨k,g,nl⟩,hk⟩;simp only at hk;simp only[iv,n9];have hkl:=jV O k;by_cases hlt:k<P
 ·have hw:=zk k;have htk:=lZ O k;have hz:R4 O k 0=[]:=by simp[R4]
  generalize jm O k=T at *;subst hkl;have hs:=za hJl (za hmin (za hb64 (za hsh (za hlnn hlt))));repeat' first|(with_reducible first|refine zz ?_|refine zE LP ?_)|simp -dsimp[hs]|refine i7 ?_ ?_<;>intro h<;>try exact h.elim
  all_goals try clear hs
  refine g9 (ι:={ p:Nat×Nat // p.1<=O.length }) (λp=>⟨46,[(1,.one (.ptr 0 0)),(3,n9 J),(4,.one (.vec 2 g 0 T.length)),(5,iv (T.length:Int)),(6,.one (.vec 3 p.1.2 0 (R4 O T.length p.1.1).length)),(7,iv (p.1.1:Int))],[.row ((m7 n).map .im),.vec 1 [] 0 true,.vec 1 (l8 (T.map nI)) g nl,.vec 1 (l8 ((R4 O T.length p.1.1).map encI)) p.1.2 false]⟩) (λp=>O.length-p.1.1) ⟨(0,0),by simp⟩ (zv [1,3,4,5,6,7] (by simp[hz])) ?_;rintro⟨⟨i,g2⟩,hi⟩;simp only at hi;simp only[iv,n9];by_cases hil:i<O.length
  ·have hwi:=zk i;have hi63:min i 64=i:=by omega
   have hin:¬ ((i:Int)<0):=by omega
   have hbit:=yo T.length i;have hSl:=fL O T.length i;obtain⟨j,hj,hJ,hOi⟩:=hJi i hil;have hJ2:J[i]'(by omega)=(j:Int):=(List.getElem?_eq_some_iff.1 hJ).2;have hsu:R4 O T.length (i+1)=R4 O T.length i++(if T.length.testBit i=true then [n.notes[j].number] else []):=by
    rw[dH,show O.getD i 0=n.notes[j].number by simp[hil,hOi]]
   have hji:(j:Int)<n.notes.length:=by omega
   generalize hx:n.notes[j]=x at *;generalize R4 O T.length i=S at *;cases hb:T.length.testBit i
   ·rw[hb] at hbit hsu;simp at hbit;rw[if_neg Bool.false_ne_true,List.append_nil] at hsu;have hs:=za hJl (za hil (za hwi (za hin (za hi63 (za hb64 hbit)))));repeat' first|(with_reducible first|refine zz ?_|refine zE LP ?_)|simp -dsimp[hs]|refine i7 ?_ ?_<;>intro h<;>try exact h.elim
    all_goals try clear hs
    all_goals exact zn ⟨(i+1,g2),by simp only;omega⟩ (zv [1,3,4,5,6,7] (by simp[hsu]))
   ·rw[hb] at hbit hsu;simp at hbit;rw[if_pos rfl] at hsu;have hs:=za hJl (za hil (za hwi (za hin (za hi63 (za hb64 (za hbit (za hJ (za hJ2 (za hx (za hj hji))))))))));repeat' first|(with_reducible first|refine zz ?_|refine And.intro (by omega) ?_)|simp -dsimp[hs]|refine zM 11 46 11 LP ?_|with_reducible refine zE LP ?_|refine i7 ?_ ?_<;>intro h<;>try exact h.elim
    all_goals try clear hs
    all_goals exact zn ⟨(i+1,g2+1),by simp only;omega⟩ (zw [1,3,4,5,6,7] 4 (by simp[hsu]))
  ·obtain rfl:i=O.length:=by omega
   generalize R4 O T.length O.length=S at *;have hs:=za hJl hw;repeat' first|(with_reducible first|refine zz ?_|refine And.intro (by omega) ?_|refine zE LP ?_)|simp -dsimp[hs]|refine i7 ?_ ?_<;>intro h<;>try exact h.elim
   all_goals try clear hs
   all_goals exact zn ⟨(T.length+1,g+1,false),by simp only;omega⟩ (zw [1,3,4,5] 3 (by simp[htk]))
 ·obtain rfl:k=P:=by omega
  rw[hTz];generalize jm O k=T at *;subst hkl;have hs:=za hJl (za hmin (za hb64 (za hsh hlnn)));repeat' first|(with_reducible first|refine zz ?_|refine zr ?_|refine zE LP ?_)|simp -dsimp[hs]|refine i7 ?_ ?_<;>intro h<;>try exact h.elim
  all_goals try clear hs
  all_goals simp
end Go.Proofs
namespace Go.Ab
open Go
structure Str where
 frm:Int
 to:Int
 letter:Int
 deriving DecidableEq
def xX (x:Str):List IC:=[rI x.frm,rI x.to,rI x.letter]
def FD (l:List Str):DV:=.one (.im (.sl (l.map xX)))
attribute [simp] xX FD
end Go.Ab
namespace Go.Proofs
open Go Go.Ab
variable {G:Hn}
attribute [simp] w0 fA w5 C7 nilV Q2 ZK
end Go.Proofs
namespace Go.Proofs
open Go Go.Ab
end Go.Proofs
namespace Go.Ab
open Go
def ep (L:List Bool):List DC:=L.map λb=>.im (.raw (.bool b))
theorem pJ (L:List Bool):(ep L).length=L.length:=by simp[ep]
theorem Be {L:List Bool} {k:Nat} {v:Bool} (h:L[k]?=some v):((ep L).drop k).take 1=[.im (.raw (.bool v))]:=by
 have hk:k<(ep L).length:=by rw[pJ];exact e7 h
 have h2:(ep L)[k]?=some (.im (.raw (.bool v))):=by simp[ep,h]
 rw[List.drop_eq_getElem_cons hk,(List.getElem?_eq_some_iff.1 h2).2];rfl
theorem yw {L:List Bool} {k:Nat} {v:Bool} (h:k<L.length):List.take k (ep L)++DC.im (IC.raw (Value.bool v)) :: List.drop (k+1) (ep L)=ep (L.set k v):=by
 simp only[ep,List.map_set];rw[List.set_eq_take_append_cons_drop,if_pos (by simpa using h)]
@[simp] theorem Fz (m:Nat) (O:List DObj) (L:List Bool):(ep L).map (fz m O)=ep L:=by
 simp only[ep,List.map_map];rfl
end Go.Ab
namespace Go.Proofs
open Go Go.Ab
variable {G:Hn}
end Go.Proofs
namespace Go.Proofs
open Go Go.Ab Tryz
variable {G:Hn}
@[simp] abbrev Lt:List Nat:=[0,1,2,3,4,8,9,10,11,12,13,14,19,43,46,61,66]
@[simp] abbrev Kd:List Nat:=[1,2,3,4,9,10,11]
theorem vX (p:Prints) (d i w:Int) (hsm:SmallP p) (hlt8:∀ x∈p.prints,ef d i w x=true->(1<=x.letter/\x.letter<=8)/\(x.lost=0\/x.lost=1)):zP prog G 225 [r9 p,iv d,iv i,iv w] (n9 (gS d i w p.prints)):=by
 refine zf func225 ntmps225 ?_;try simp only[iv,iv,iv]
 have hq:=hsm.q;have hs:=trivial;repeat' first|(with_reducible first|refine zz ?_|refine zE Lt ?_)|simp -dsimp[hs]
 all_goals try clear hs
 refine g9 (ι:={ q:Nat×List Bool // q.1<=p.prints.length/\q.2.length=9/\∀ x:Nat,x<9->q.2[x]?=some (decide ((x:Int)∈P5 d i w (p.prints.take q.1))) }) (λq=>⟨72,[(1,iv d),(2,iv i),(3,iv w),(4,.one (.ptr 0 0)),(9,iv (N1 d i w (p.prints.take q.1.1))),(10,.one (.ptr 2 0)),(11,iv (q.1.1:Int))],[.row ((m6 p).map .im),.vec 1 [] 0 true,.row (ep q.1.2)]⟩) (λq=>p.prints.length-q.1.1) ⟨(0,List.replicate 9 false),by simp,by simp,λx hx=>by rw[List.getElem?_replicate,if_pos hx];simp[P5]⟩ (zv Kd (by simp[ep,N1])) ?_;rintro⟨⟨k,B⟩,hk,hB9,hB⟩;simp only at hk hB9 hB;simp only[iv];have hbl:=pJ B;by_cases hlt:k<p.prints.length
 ·have hw:=zk k;have hst1:=ml d i w hlt;have hst2:=mc d i w hlt;have hl8:=hlt8 p.prints[k] (List.getElem_mem hlt);have hlo:=hsm.lo p.prints[k] (List.getElem_mem hlt);generalize hx:p.prints[k]=x at *;have c1:=Cr (G:=G) x d hlo;have hs:True:=trivial;cases hsel:ef d i w x
  ·rw[hsel] at hst1 hst2;simp only[Bool.false_and,Bool.false_eq_true,if_false,List.append_nil] at hst1 hst2;simp only[ef] at hsel;generalize oO x d=o at *;simp at hsel;rw[<- hst1] at hB;have hcs:¬ x.holder=i\/(x.holder=i/\¬ x.drawing=w)\/(x.holder=i/\x.drawing=w/\o=false):=by
    by_cases g1:x.holder=i<;>by_cases g2:x.drawing=w<;>cases o<;>simp_all
   clear hsel;rcases hcs with q4|⟨q4,q5⟩|⟨q4,q5,rfl⟩
   ·have hs:=za hx (za hlt (za hw q4));repeat' first|(with_reducible first|refine zz ?_|refine zE Lt ?_)|simp -dsimp[hs]|refine i7 ?_ ?_<;>intro h<;>try exact h.elim
    all_goals try clear hs
    all_goals exact zn ⟨(k+1,B),by simp only;omega,hB9,hB⟩ (zw Kd 3 (by simp[hst2]))
   ·have hs:=za hx (za hlt (za hw (za q4 q5)));repeat' first|(with_reducible first|refine zz ?_|refine zE Lt ?_)|simp -dsimp[hs]|refine i7 ?_ ?_<;>intro h<;>try exact h.elim
    all_goals try clear hs
    all_goals exact zn ⟨(k+1,B),by simp only;omega,hB9,hB⟩ (zw Kd 3 (by simp[hst2]))
   ·simp only[bL,A0,rI,q4,q5,List.map_cons,List.map_nil] at c1;have hs:=za hx (za hlt (za hw (za q4 q5)));repeat' first|(with_reducible first|refine zz ?_|refine zE Lt ?_)|simp -dsimp[hs]|refine zp c1 ?_|refine i7 ?_ ?_<;>intro h<;>try exact h.elim
    all_goals try clear hs
    all_goals exact zn ⟨(k+1,B),by simp only;omega,hB9,hB⟩ (zw Kd 3 (by simp[hst2]))
  ·obtain⟨⟨hl1,hl2⟩,hl01⟩:=hl8 hsel;rw[hsel] at hst1 hst2;simp only[Bool.true_and] at hst1 hst2;simp only[ef] at hsel;generalize oO x d=o at *;simp at hsel;obtain⟨rfl,q4,q5⟩:=hsel;simp only[bL,A0,rI,q4,q5,List.map_cons,List.map_nil] at c1;obtain⟨j,hj⟩:=Int.eq_ofNat_of_zero_le (show 0<=x.letter by omega);rcases hl01 with hl0|hl0
   ·simp only[hl0,show ¬ (0:Int)=1 by omega,decide_false,Bool.false_eq_true,if_false,List.append_nil,Bool.not_false,if_true] at hst1 hst2;rw[<- hst1] at hB;simp only[hl0] at c1;have hs:=za hx (za hlt (za hw (za q4 (za q5 hl0))));repeat' first|(with_reducible first|refine zz ?_|refine zE Lt ?_)|simp -dsimp[hs]|refine zp c1 ?_|refine i7 ?_ ?_<;>intro h<;>try exact h.elim
    all_goals try clear hs
    all_goals exact zn ⟨(k+1,B),by simp only;omega,hB9,hB⟩ (zw Kd 3 (by simp[hst2]))
   ·simp only[hl0,decide_true,if_true,Bool.not_true,Bool.false_eq_true,if_false] at hst1 hst2;have hjB:j<B.length:=by omega
    have hset:=yw (v:=true) hjB;have hB2:∀ y:Nat,y<9->(B.set j true)[y]?=some (decide ((y:Int)∈P5 d i w (p.prints.take (k+1)))):=λy hy9=>by
     rw[hst1,hj];by_cases e:j=y
     ·subst e;simp[hjB]
     ·rw[List.getElem?_set_ne e,hB y hy9];have:¬ (y:Int)=(j:Int):=by omega
      simp[this]
    have hj9:(j:Int)<9:=by omega
    have hj0:¬ (j:Int)<0:=by omega
    have hjn:j<9:=by omega
    have hj8:j<=8:=by omega
    have hl0':¬ (x.lost=0):=by omega
    simp only[hl0,hj] at c1;have hs:=za hx (za hlt (za hw (za q4 (za q5 (za hl0 (za hj (za hbl (za hB9 (za hj9 (za hj0 (za hjn (za hj8 hset))))))))))));repeat' first|(with_reducible first|refine zz ?_|refine zE Lt ?_)|simp -dsimp[hs]|refine zp c1 ?_|refine i7 ?_ ?_<;>intro h<;>try exact h.elim
    all_goals try clear hs
    all_goals exact zn ⟨(k+1,B.set j true),by simp only;omega,by simpa using hB9,hB2⟩ (zw Kd 3 (by simp[hset,hst2]))
 ·obtain rfl:k=p.prints.length:=by omega
  have hBn:=hB;simp only[List.take_length] at hBn ⊢;have hvv:=md (p.prints.filter λx=>ef d i w x && !decide (x.lost=1)) 0;have hv0:0<=N1 d i w p.prints:=hvv.1;have hv8:N1 d i w p.prints<=8:=hvv.2 (λx hx=>by
   obtain⟨h1,h2⟩:=List.mem_filter.1 hx;rw[Bool.and_eq_true] at h2;exact(hlt8 x h1 h2.1).1.2) (by omega)
  have hEK:gS d i w p.prints=N1 d i w p.prints :: qj (N1 d i w p.prints) (λn=>decide (n∈P5 d i w p.prints)) (8-N1 d i w p.prints).toNat:=rfl;generalize gS d i w p.prints=WK at *;generalize N1 d i w p.prints=v at *;generalize P5 d i w p.prints=Q at *;obtain⟨a,rfl⟩:=Int.eq_ofNat_of_zero_le hv0;rw[show ((8:Int)-(a:Int)).toNat=8-a by omega] at hEK;have ha8:a<=8:=by omega
  have hwa:IntKind.i64.wrap ((a:Int)+1)=(a:Int)+1:=m9 (by omega) (by omega);have hs:=za hlt hwa;repeat' first|(with_reducible first|refine zz ?_|refine zE Lt ?_)|simp -dsimp[hs]|refine i7 ?_ ?_<;>intro h<;>try exact h.elim
  all_goals try clear hs
  refine g9 (ι:={ q:Nat×Nat // q.1<=8-a }) (λq=>⟨72,[(10,.one (.ptr 2 0)),(13,.one (.vec 3 q.1.2 0 ((qj a (λn=>decide (n∈Q)) q.1.1).length+1))),(14,iv ((a:Int)+1+(q.1.1:Int)))],[.row ((m6 p).map .im),.vec 1 [] 0 true,.row (ep B),.vec 1 (l8 (((a:Int) :: qj a (λn=>decide (n∈Q)) q.1.1).map encI)) q.1.2 false]⟩) (λq=>8-a-q.1.1) ⟨(0,0),by simp⟩ (zv [10,13,14] (by simp[vY,l8])) ?_;rintro⟨⟨x,g⟩,hx8⟩;simp only at hx8;simp only[iv];by_cases hlx:x<8-a
  ·have hst:=vZ a (λn=>decide (n∈Q)) x;have hsl:=zj a (λn=>decide (n∈Q)) x;have hbx:=hBn (a+1+x) (by omega);have hci:((a+1+x:Nat):Int)=(a:Int)+1+(x:Int):=by omega
   rw[hci] at hbx;have hat:=Be hbx;have hw:IntKind.i64.wrap ((a:Int)+1+(x:Int)+1)=(a:Int)+1+((x+1:Nat):Int):=by rw[m9 (by omega) (by omega)];omega
   have hlxi:(a:Int)+1+(x:Int)<9:=by omega
   have hz0:(0:Int)<=(a:Int)+1+(x:Int):=by omega
   have hxn:a+1+x<9:=by omega
   have hx8n:a+1+x<=8:=by omega
   have hx8i:(a:Int)+1+(x:Int)<=8:=by omega
   have hto:((a:Int)+1+(x:Int)).toNat=a+1+x:=by omega
   generalize qj a (λn=>decide (n∈Q)) x=L at *;cases hv:decide ((a:Int)+1+(x:Int)∈Q)
   ·rw[hv] at hst hat;rw[if_neg Bool.false_ne_true,List.append_nil] at hst;have hs:=za hlxi (za hz0 (za hxn (za hw (za hbl (za hB9 (za hat (za hx8i (za hto hx8n))))))));repeat' first|(with_reducible first|refine zz ?_|refine zE Lt ?_)|simp -dsimp[hs]|refine i7 ?_ ?_<;>intro h<;>try exact h.elim
    all_goals try clear hs
    all_goals exact zn ⟨(x+1,g),by simp only;omega⟩ (zv [10,13,14] (by simp[hst]))
   ·rw[hv] at hst hat;rw[if_pos rfl] at hst;have hs:=za hlxi (za hz0 (za hxn (za hw (za hbl (za hB9 (za hat (za hx8i (za hto hx8n))))))));repeat' first|(with_reducible first|refine zz ?_|refine And.intro (by omega) ?_|refine zE Lt ?_)|simp -dsimp[hs]|refine i7 ?_ ?_<;>intro h<;>try exact h.elim
    all_goals try clear hs
    all_goals exact zn ⟨(x+1,g+1),by simp only;omega⟩ (zw [10,13,14] 4 (by simp[hst]))
  ·obtain rfl:x=8-a:=by omega
   have hlxi:¬ (a:Int)+1+((8-a:Nat):Int)<9:=by omega
   have hs:=za hlxi hEK;repeat' first|(with_reducible first|refine zz ?_|refine zr ?_|refine zE Lt ?_)|simp -dsimp[hs]|refine i7 ?_ ?_<;>intro h<;>try exact h.elim
   all_goals try clear hs
def rV (p:Prints):Prop:=nW p.n/\p.holders.length<=8/\p.prints.length<=40/\∀ x∈p.holders,x.draws.length<=20
def fI (p:Prints):Bool:=bF p.n&&(decide (p.holders.length<=8)&&(decide (p.prints.length<=40)&&p.holders.all λx=>decide (x.draws.length<=20)))
@[simp] abbrev LQ:List Nat:=[0,1,2,3,18,23,33]
theorem xI (p:Prints):zP prog G 66 [r9 p] (bv (!fI p)):=by
 refine zf func66 ntmps66 ?_;try simp only[iv]
 have c1:=xJ (G:=G) p.n;have hE:fI p=(bF p.n&&(decide (p.holders.length<=8)&&(decide (p.prints.length<=40)&&p.holders.all λx=>decide (x.draws.length<=20)))):=rfl;simp only[l6,m7] at c1;cases hS:bF p.n
 ·rw[hS,Bool.false_and] at hE;rw[hS] at c1;rw[hE];have hs:=trivial;repeat' first|(with_reducible first|refine zz ?_|refine zr ?_|refine zE LQ ?_)|simp -dsimp[hs]|refine zp c1 ?_|refine i7 ?_ ?_<;>intro h<;>try exact h.elim
 ·rw[hS,Bool.true_and] at hE;rw[hS] at c1;by_cases h8:p.holders.length<=8
  ·have h8':¬ (8:Int)<p.holders.length:=by omega
   rw[decide_eq_true h8,Bool.true_and] at hE;by_cases h40:p.prints.length<=40
   ·have h40':¬ (40:Int)<p.prints.length:=by omega
    rw[decide_eq_true h40,Bool.true_and] at hE;have hs:=za h8' h40';repeat' first|(with_reducible first|refine zz ?_|refine zE LQ ?_)|simp -dsimp[hs]|refine zp c1 ?_|refine i7 ?_ ?_<;>intro h<;>try exact h.elim
    refine g9 (ι:={ k:Nat // k<=p.holders.length/\(p.holders.all λx=>decide (x.draws.length<=20))=(p.holders.drop k).all λx=>decide (x.draws.length<=20) }) (λq=>⟨34,[(1,.one (.ptr 0 0)),(3,iv (q.1:Int))],[.row ((m6 p).map .im)]⟩) (λq=>p.holders.length-q.1) ⟨0,by simp⟩ (zv [1,3]) ?_;rintro⟨k,hk,hall⟩;simp only[iv];by_cases hlt:k<p.holders.length
    ·have hw:=zk k;have hst:=R0 hlt hall;generalize hx:p.holders[k]=x at *;by_cases h20:x.draws.length<=20
     ·have h20':¬ (20:Int)<x.draws.length:=by omega
      have hs:=za hx (za hlt (za hw h20'));repeat' first|(with_reducible first|refine zz ?_|refine zE LQ ?_)|simp -dsimp[hs]|refine i7 ?_ ?_<;>intro h<;>try exact h.elim
      exact zn ⟨k+1,by omega,C8 hst (by simpa using h20)⟩ (zv [1,3])
     ·have h20':(20:Int)<x.draws.length:=by omega
      have hs:=za hx (za hlt (za hw h20'));repeat' first|(with_reducible first|refine zz ?_|refine zr ?_|refine zE LQ ?_)|simp -dsimp[hs]|refine i7 ?_ ?_<;>intro h<;>try exact h.elim
      rw[hE,u3 hst (by simpa using h20)];try rfl
    ·have hok:(p.holders.all λx=>decide (x.draws.length<=20))=true:=by rw[hall,List.drop_eq_nil_of_le (by omega)];rfl
     have hs:=hlt;repeat' first|(with_reducible first|refine zz ?_|refine zr ?_|refine zE LQ ?_)|simp -dsimp[hs]|refine i7 ?_ ?_<;>intro h<;>try exact h.elim
     rw[hE,hok];try rfl
   ·have h40':(40:Int)<p.prints.length:=by omega
    rw[decide_eq_false h40,Bool.false_and] at hE;have hs:=za h8' h40';repeat' first|(with_reducible first|refine zz ?_|refine zr ?_|refine zE LQ ?_)|simp -dsimp[hs]|refine zp c1 ?_|refine i7 ?_ ?_<;>intro h<;>try exact h.elim
    rw[hE];try rfl
  ·have h8':(8:Int)<p.holders.length:=by omega
   rw[decide_eq_false h8,Bool.false_and] at hE;have hs:=h8';repeat' first|(with_reducible first|refine zz ?_|refine zr ?_|refine zE LQ ?_)|simp -dsimp[hs]|refine zp c1 ?_|refine i7 ?_ ?_<;>intro h<;>try exact h.elim
   rw[hE];try rfl
@[simp] abbrev LR:List Nat:=[0,1,2,3,4,5,6,7,8,32,37,76,81,94]
theorem zH (p:Prints) (hs:rV p):zP prog G 74 [r9 p,r9 p] (bv true):=by
 refine zf func74 ntmps74 ?_;try simp only[iv]
 have c1:=zI (G:=G) p.n hs.1;have hh:=hs.2.1;have hq:=hs.2.2.1;simp only[l6,m7] at c1;have hs:=trivial;repeat' first|(with_reducible first|refine zz ?_|refine zE LR ?_)|simp -dsimp[hs]|refine zp c1 ?_|refine i7 ?_ ?_<;>intro h<;>try exact h.elim
 all_goals try clear hs
 refine g9 (ι:={ k:Nat // k<=p.holders.length }) (λq=>⟨95,[(2,.one (.ptr 0 0)),(3,.one (.ptr 1 0)),(5,iv (q.1:Int))],[.row ((m6 p).map .im),.row ((m6 p).map .im)]⟩) (λq=>p.holders.length-q.1) ⟨0,by simp⟩ (zv [2,3,5]) ?_;rintro⟨k,hk⟩;simp only[iv];by_cases hlt:k<p.holders.length
 ·have hw:=zk k;have hd:=hs.2.2.2 p.holders[k] (List.getElem_mem hlt);generalize hx:p.holders[k]=x at *;have c2:=qv (G:=G) x.draws x.draws (by omega);simp only[decide_true] at c2;have hs:=za hx (za hlt hw);repeat' first|with_reducible refine zz ?_|simp -dsimp[hs]|refine zp c2 ?_|refine q8 (id:=6) (nt:=95) 12 [5,6,7,8,9] [0,1,2,3,4,5,6,7,8,32,37,40,41,42,43,44,76,81,94] LR mixed rfl (by kernel_rfl) ?_|with_reducible refine zE LR ?_|refine i7 ?_ ?_<;>intro h<;>try exact h.elim
  all_goals try clear hs
  exact zn ⟨k+1,by omega⟩ (zw [2,3,5] 2)
 have hs:=hlt;repeat' first|(with_reducible first|refine zz ?_|refine zE LR ?_)|simp -dsimp[hs]|refine i7 ?_ ?_<;>intro h<;>try exact h.elim
 all_goals try clear hs
 clear hlt hk;refine g9 (ι:={ k:Nat // k<=p.prints.length }) (λq=>⟨95,[(2,.one (.ptr 0 0)),(3,.one (.ptr 1 0)),(8,iv (q.1:Int))],[.row ((m6 p).map .im),.row ((m6 p).map .im)]⟩) (λq=>p.prints.length-q.1) ⟨0,by simp⟩ (zv [2,3,8]) ?_;rintro⟨k,hk⟩;simp only[iv];by_cases hlt:k<p.prints.length
 ·have hw:=zk k;generalize hx:p.prints[k]=x at *;have hs:=za hx (za hlt hw);repeat' first|with_reducible refine zz ?_|simp -dsimp[hs]|refine zM 12 95 11 LR ?_|with_reducible refine zE LR ?_|refine i7 ?_ ?_<;>intro h<;>try exact h.elim
  all_goals try clear hs
  exact zn ⟨k+1,by omega⟩ (zv [2,3,8])
 ·have hs:=hlt;repeat' first|(with_reducible first|refine zz ?_|refine zr ?_|refine zE LR ?_)|simp -dsimp[hs]|refine i7 ?_ ?_<;>intro h<;>try exact h.elim
  all_goals try clear hs
noncomputable def CM (p:Prints) (d i w:Int):Prop:=∀ x∈p.prints,ef d i w x=true->(1<=x.letter/\x.letter<=8)/\(x.lost=0\/x.lost=1)
theorem xn {p:Prints} (hs:SmallP p) (h0:j8 p.n.reg=0) (hp:C3 p=true) (d i w:Int):CM p d i w:=λx hx hsel=>by
 have hP:=(oJ p).1 hp;obtain⟨k,hk⟩:=List.mem_iff_getElem?.1 hx;have hB:=(sM p k x).1 (hP.q k x hk);obtain⟨_,_,_,h3,h4,_⟩:=hB;obtain⟨y,hy,hxy⟩:=List.any_eq_true.1 h3;simp only[decide_eq_true_eq] at hxy;have hok:=(I2 (F7 (D8 h0))).2.2.2.1 y hy;simp only[n4,vR,Bool.and_eq_true,decide_eq_true_eq] at hok;have hlo:=hs.lo x hx;simp only[Cm,decide_eq_true_eq] at h4;simp only[ef,oO,Bool.and_eq_true,Bool.not_eq_true',decide_eq_false_iff_not] at hsel;omega
theorem tL (p:Prints) (d i w:Int) (hk:KP p):zP prog G 173 [r9 p,iv d,iv i,iv w] (.tup [n9 (M8 p d i w),iv (G3 p d 1 i w)]):=by
 refine zf func173 ntmps173 ?_;try simp only[iv,iv,iv]
 have c1:=tN (G:=G) p d 1 i w hk;by_cases h0:G3 p d 1 i w=0
 ·have ha:B5 p d 1=0:=by
   refine Classical.byContradiction λh=>?_;unfold G3 at h0;rw[if_pos h] at h0;exact h h0
  have hp:p6 p=0:=by
   refine Classical.byContradiction λh=>?_;unfold B5 at ha;rw[if_pos h] at ha;exact h ha
  have hn:r7 p.n=0:=by
   refine Classical.byContradiction λh=>?_;unfold p6 at hp;rw[if_pos h] at hp;exact h hp
  have hr0:j8 p.n.reg=0:=by
   refine Classical.byContradiction λh=>?_;unfold r7 at hn;rw[if_pos h] at hn;exact h hn
  have hpb:C3 p=true:=by
   refine Classical.byContradiction λh=>?_;unfold p6 at hp;rw[if_neg (by simp[hn]),if_neg h] at hp;exact absurd hp (by decide)
  have hl8:=xn hk.p hr0 hpb d i w;have c2:=vX (G:=G) p d i w hk.p hl8;have hW:M8 p d i w=gS d i w p.prints:=by
   unfold M8;rw[if_pos h0];exact vW λx hx hsel=>(hl8 x hx hsel).1
  rw[hW,h0];simp only[h0] at c1;have hs:=trivial;repeat' first|(with_reducible first|refine zz ?_|refine zr ?_|refine zE [0,1,2,3,4,8,9,10,17] ?_)|simp -dsimp[hs]|refine zp c1 ?_|refine zp c2 ?_|refine i7 ?_ ?_<;>intro h<;>try exact h.elim
 ·have hW:M8 p d i w=[]:=by unfold M8;rw[if_neg h0]
  rw[hW];have hs:=h0;repeat' first|(with_reducible first|refine zz ?_|refine zr ?_|refine zE [0,1,2,3,4,8,9,10,17] ?_)|simp -dsimp[hs]|refine zp c1 ?_|refine i7 ?_ ?_<;>intro h<;>try exact h.elim
theorem K1 (n lo hi:Int):zP prog G 135 [iv n,iv lo,iv hi] (bv (decide (lo<=n)&&decide (n<=hi))):=by
 refine zf func135 ntmps135 ?_;try simp only[iv,iv,iv]
 have hs:=trivial;repeat' first|(with_reducible first|refine zz ?_|refine zr ?_|refine zE [0,1,2,6] ?_)|simp -dsimp[hs]|with_reducible refine j0 ?_ ?_<;>intro h<;>have h0:=h<;>(try simp only[i6] at h)<;>have h2:=h<;>(try simp at h2)<;>replace hs:=za h0 (za h (za h2 hs))
 all_goals try clear hs
 all_goals simp[*]
theorem kF {l:List Issue} (h:j8 l=0) {x:Issue} (hx:x∈l):1<=x.letter/\1<=x.kind:=by
 have:=(I2 (F7 (D8 h))).2.2.2.1 x hx;simp only[n4,vR,zb,Bool.and_eq_true,decide_eq_true_eq] at this;by_cases hk:x.kind=1
 ·omega
 ·rw[if_neg hk] at this;simp only[Bool.and_eq_true,decide_eq_true_eq] at this;omega
theorem qY {l:List Issue} (h0:j8 l=0) (d:Int):T2 l d=0↔d∉nums l:=by
 obtain⟨h1,h2,h3⟩:=cY d l 0;constructor
 ·intro h hd;obtain⟨x,hx,hxd⟩:=oR hd;have:=h2 x hx hxd;have:=(kF h0 hx).1;unfold T2 at h;omega
 ·intro hd;rcases h3 with h3|⟨x,hx,hxd,_⟩
  ·exact h3
  ·exact absurd (hxd ▸ (C0 h0).2 x hx) hd
theorem qz {c:Case} (h0:j8 c.p.n.reg=0) (l:Link) (x:Piece):H1 c l x=true↔(o2 c.p.n.reg l.drawing 1).isSome=true/\¬ ((o2 c.p.n.reg l.drawing 1).getD J1).kind<2/\(decide (0<=l.dim)&&decide (l.dim<=3))=true/\¬ I5 (λy=>decide (y.id=x.holder)) c.p.holders<0/\(decide (0<=x.day)&&decide (x.day<=14610))=true/\(decide (0<=x.lo)&&decide (x.lo<=1000000000))=true/\(decide (x.lo<=x.hi)&&decide (x.hi<=1000000000))=true:=by
 have hf:(c.p.holders.any λy=>decide (y.id=x.holder))=true↔¬ I5 (λy=>decide (y.id=x.holder)) c.p.holders<0:=by
  rw[<- w9,decide_eq_true_eq];omega
 unfold H1 ap;cases hfi:o2 c.p.n.reg l.drawing 1 with
 | none=>simp
 | some y =>
   have hk:=(kF h0 (List.mem_of_find?_eq_some hfi)).2;simp only[Option.isSome_some,Option.getD_some,Bool.and_eq_true,decide_eq_true_eq,Bool.not_eq_true',decide_eq_false_iff_not,hf,true_and];omega
@[simp] abbrev Lz:List Nat:=[0,1,2,3,4,5,6,7,8,61,66,131]
@[simp] abbrev Ju:List Nat:=[0,1,2,3,4,5,6,7,8,61,66,69,70,71,72,73,74,131]
theorem zT (c:Case) (h0:j8 c.p.n.reg=0) (hk:KC c):zP prog G 84 [n7 c] (bv (ah c)):=by
 refine zf func84 ntmps84 ?_;try simp only[iv]
 have hl:=hk.l;have hq:=hk.q;have hhl:=hk.p.p.h;have hrl:=hk.p.p.l;have c2:=pb (G:=G) c.p.n.reg c.of (by omega);have hLm:=qY h0 c.of;have c3:=K1 (G:=G) c.machine 1 999;have c4:=K1 (G:=G) (c.loop.links.length:Int) 1 8;have c5:=K1 (G:=G) c.loop.lo (-8000000000) 8000000000;have c6:=K1 (G:=G) c.loop.hi c.loop.lo 8000000000;simp only[A6] at c2;generalize T2 c.p.n.reg c.of=L at *;cases h5:cq c
 ·have hB:ah c=false:=by rw[L6,h5,Bool.false_and]
  rw[hB];simp only[cq,ap] at h5;generalize hb3:(decide (1<=c.machine)&&decide (c.machine<=999))=b3 at c3;generalize hb4:(decide (1<=(c.loop.links.length:Int))&&decide ((c.loop.links.length:Int)<=8))=b4 at c4;generalize hb5:(decide (-8000000000<=c.loop.lo)&&decide (c.loop.lo<=8000000000))=b5 at c5;generalize hb6:(decide (c.loop.lo<=c.loop.hi)&&decide (c.loop.hi<=8000000000))=b6 at c6;have hs:True:=trivial;by_cases hm:L=0
  ·cases b3
   all_goals
    have hs:=hm;repeat' first|(with_reducible first|refine zz ?_|refine zr ?_|refine zE Lz ?_)|simp -dsimp[hs]|refine zp c3 ?_|refine zp c2 ?_|refine i7 ?_ ?_<;>intro h<;>try exact h.elim
    all_goals try clear hs
  ·have hm':c.of∈nums c.p.n.reg:=Classical.byContradiction λh=>hm (hLm.2 h);by_cases hlen:c.pieces.length=c.loop.links.length
   ·cases b3<;>cases b4<;>cases b5<;>cases b6
    all_goals
     have hs:=za hlen hm;repeat' first|(with_reducible first|refine zz ?_|refine zr ?_|refine zE Lz ?_)|simp -dsimp[hs]|refine zp c3 ?_|refine zp c2 ?_|refine zp c4 ?_|refine zp c5 ?_|refine zp c6 ?_|refine i7 ?_ ?_<;>intro h<;>try exact h.elim
     all_goals try clear hs
    all_goals exfalso
    all_goals simp[hm',hlen] at h5 hb3 hb4 hb5 hb6
    all_goals omega
   ·have hlen':¬ (c.pieces.length:Int)=c.loop.links.length:=by omega
    cases b3<;>cases b4<;>cases b5<;>cases b6
    all_goals
     have hs:=za hlen (za hlen' hm);repeat' first|(with_reducible first|refine zz ?_|refine zr ?_|refine zE Lz ?_)|simp -dsimp[hs]|refine zp c3 ?_|refine zp c2 ?_|refine zp c4 ?_|refine zp c5 ?_|refine zp c6 ?_|refine i7 ?_ ?_<;>intro h<;>try exact h.elim
     all_goals try clear hs
 ·have hB:ah c=(c.loop.links.zip c.pieces).all λq=>H1 c q.1 q.2:=by rw[L6,h5,Bool.true_and]
  rw[hB];simp only[cq,Bool.and_eq_true,decide_eq_true_eq,ap] at h5;obtain⟨hm,⟨hm1,hm2⟩,⟨hl1,hl2⟩,hlen,hgap⟩:=h5;have hm':¬ L=0:=λh=>hLm.1 h hm;rw[show (decide (1<=c.machine)&&decide (c.machine<=999))=true by simp;omega] at c3;rw[show (decide (1<=(c.loop.links.length:Int))&&decide ((c.loop.links.length:Int)<=8))=true by simp;omega] at c4;rw[show (decide (-8000000000<=c.loop.lo)&&decide (c.loop.lo<=8000000000))=true by simp;omega] at c5;rw[show (decide (c.loop.lo<=c.loop.hi)&&decide (c.loop.hi<=8000000000))=true by simp;omega] at c6;have hs:=za hlen hm';repeat' first|(with_reducible first|refine zz ?_|refine zE Lz ?_)|simp -dsimp[hs]|refine zp c3 ?_|refine zp c2 ?_|refine zp c4 ?_|refine zp c5 ?_|refine zp c6 ?_|refine i7 ?_ ?_<;>intro h<;>try exact h.elim
  all_goals try clear hs
  have hno:((c.loop.links.zip c.pieces).all λq=>H1 c q.1 q.2)=((c.loop.links.zip c.pieces).drop 0).all λq=>H1 c q.1 q.2:=rfl;clear c2 c3 c4 c5 c6;generalize hA:((c.loop.links.zip c.pieces).all λq=>H1 c q.1 q.2)=A at *;refine g9 (ι:={ k:Nat // k<=c.pieces.length/\A=((c.loop.links.zip c.pieces).drop k).all λq=>H1 c q.1 q.2 }) (λq=>⟨132,[(1,.one (.ptr 0 0)),(3,.one (.ptr 2 0)),(4,iv (q.1:Int))],[.row ((j4 c).map .im),.vec 0 [] 0 true,.row [.im (.sl (c.p.n.reg.map e9))]]⟩) (λq=>c.pieces.length-q.1) ⟨0,by simp,hno⟩ (zv [1,3,4]) ?_;rintro⟨k,hk1,hrest⟩;simp only[iv];by_cases hlt:k<c.pieces.length
  ·have hlt2:k<c.loop.links.length:=by omega
   have hw:=zk k;have hst:=fC (f:=λq=>H1 c q.1 q.2) hlt2 hlt (hA.trans hrest);rw[hA] at hst;simp only at hst;rw[qz h0] at hst;clear hno;generalize hx:c.pieces[k]=x at *;generalize hy:c.loop.links[k]=y at *;have c6:=kR (G:=G) c.p.n.reg y.drawing 1 (by omega);have c7:=kN (G:=G) c.p x.holder (by omega);have c8:=K1 (G:=G) y.dim 0 3;have c9:=K1 (G:=G) x.day 0 14610;have c10:=K1 (G:=G) x.lo 0 1000000000;have c11:=K1 (G:=G) x.hi x.lo 1000000000;simp only[A6,B1] at c6;simp only[r9,m6,List.map_cons,List.map_nil] at c7;generalize I5 (λy=>decide (y.id=x.holder)) c.p.holders=f at *;generalize (decide (0<=y.dim)&&decide (y.dim<=3))=b1 at *;generalize (decide (0<=x.day)&&decide (x.day<=14610))=b3 at *;generalize (decide (0<=x.lo)&&decide (x.lo<=1000000000))=b4 at *;generalize (decide (x.lo<=x.hi)&&decide (x.hi<=1000000000))=b5 at *;generalize (o2 c.p.n.reg y.drawing 1).isSome=e at *;generalize (o2 c.p.n.reg y.drawing 1).getD J1=z at *;have hcs:(e=true/\¬ z.kind<2/\b1=true/\¬ f<0/\b3=true/\b4=true/\b5=true)\/(A=false/\((e=false/\True/\True/\True/\True/\True/\True)\/(e=true/\z.kind<2/\True/\True/\True/\True/\True)\/(e=true/\¬ z.kind<2/\b1=false/\True/\True/\True/\True)\/(e=true/\¬ z.kind<2/\b1=true/\f<0/\True/\True/\True)\/(e=true/\¬ z.kind<2/\b1=true/\¬ f<0/\b3=false/\True/\True)\/(e=true/\¬ z.kind<2/\b1=true/\¬ f<0/\b3=true/\b4=false/\True)\/(e=true/\¬ z.kind<2/\b1=true/\¬ f<0/\b3=true/\b4=true/\b5=false))):=by
    by_cases g2:z.kind<2<;>by_cases g4:f<0<;>cases e<;>cases b1<;>cases b3<;>cases b4<;>cases b5<;>simp_all
   have hs:True:=trivial;rcases hcs with⟨g1,g2,g3,g4,g5,g6,g7⟩|⟨gA,hcs⟩
   ·have hs:=za hx (za hy (za hlt (za hlt2 (za hw (za g1 (za g2 (za g3 (za g4 (za g5 (za g6 g7))))))))));repeat' first|with_reducible refine zz ?_|simp -dsimp[hs]|refine zp c6 ?_|refine zp c7 ?_|refine zp c8 ?_|refine zp c9 ?_|refine zp c10 ?_|refine zp c11 ?_|refine q8 (id:=7) (nt:=132) 13 [6,7,8,9,10] Ju Lz mixed rfl (by kernel_rfl) ?_|with_reducible refine zE Lz ?_|refine i7 ?_ ?_<;>intro h<;>try exact h.elim
    all_goals try clear hs
    all_goals exact zn ⟨k+1,by omega,by rw[Bool.eq_iff_iff];exact hst.trans ⟨λh=>h.2,λh=>⟨⟨g1,g2,g3,g4,g5,g6,g7⟩,h⟩⟩⟩ (zw [1,3,4] 3)
   ·rcases hcs with⟨g1,g2,g3,g4,g5,g6,g7⟩|⟨g1,g2,g3,g4,g5,g6,g7⟩|⟨g1,g2,g3,g4,g5,g6,g7⟩|⟨g1,g2,g3,g4,g5,g6,g7⟩|⟨g1,g2,g3,g4,g5,g6,g7⟩|⟨g1,g2,g3,g4,g5,g6,g7⟩|⟨g1,g2,g3,g4,g5,g6,g7⟩
    all_goals
     have hs:=za hx (za hy (za hlt (za hlt2 (za hw (za g1 (za g2 (za g3 (za g4 (za g5 (za g6 g7))))))))));repeat' first|(with_reducible first|refine zz ?_|refine zr ?_)|simp -dsimp[hs]|refine zp c6 ?_|refine zp c7 ?_|refine zp c8 ?_|refine zp c9 ?_|refine zp c10 ?_|refine zp c11 ?_|refine q8 (id:=7) (nt:=132) 13 [6,7,8,9,10] Ju Lz mixed rfl (by kernel_rfl) ?_|with_reducible refine zE Lz ?_|refine i7 ?_ ?_<;>intro h<;>try exact h.elim
     all_goals try clear hs
    all_goals exact gA
  ·obtain rfl:k=c.pieces.length:=by omega
   have hA1:A=true:=by rw[hrest,List.drop_eq_nil_of_le (by rw[List.length_zip];omega)];rfl
   subst hA1;have hs:=hlt;repeat' first|(with_reducible first|refine zz ?_|refine zr ?_|refine zE Lz ?_)|simp -dsimp[hs]|refine i7 ?_ ?_<;>intro h<;>try exact h.elim
   all_goals try clear hs
end Go.Proofs
