/- Part 18 of the proofs. -/
import Derived.Test.YtjodaihiogfkbaaGreatDoorU09
import Derived.Test.YtjodaihiogfkbaaGreatDoorU12
import Derived.Test.YtjodaihiogfkbaaGreatDoorU14
import Derived.Test.YtjodaihiogfkbaaGreatDoorU15
import Derived.Test.YtjodaihiogfkbaaGreatDoorU16
import Derived.Test.YtjodaihiogfkbaaGreatDoorU17
set_option linter.all false
set_option maxHeartbeats 100000000
namespace Go.Proofs
open Go Go.Ab Tryz
variable {G:MF}
noncomputable def N5 (c:Case) (k:Nat):List Int:=match c.pieces[k]?,c.loop.links[k]? with
 | some x,some y=>P1 c.p x.day x.holder y.drawing
 | _,_=>[]
theorem iH {c:Case} {k:Nat} (h1:k<c.pieces.length) (h2:k<c.loop.links.length):N5 c k=P1 c.p c.pieces[k].day c.pieces[k].holder c.loop.links[k].drawing:=by
 unfold N5;rw[List.getElem?_eq_getElem h1,List.getElem?_eq_getElem h2]
noncomputable def az (c:Case) (n:Int):Int:=if s6 c≠0 then s6 c else if 0<=n/\n<c.pieces.length then 0 else 2
noncomputable def kQ (c:Case) (n:Int):List Int:=if az c n=0 then N5 c n.toNat else []
theorem Bv (c:Case) (k:Nat) (h1:k<c.pieces.length) (h2:k<c.loop.links.length) (hG:p5 G) (hN:D5 G) (hS:u6 G) (hR:w8 G) (hk:KC c):zP prog G 113 [n5 c,iv (k:Int)] (v8 (N5 c k)):=by
 refine zf func113 ntmps113 ?_;try simp only[iv]
 rw[iH h1 h2];generalize hx:c.pieces[k]=x at *;generalize hy:c.loop.links[k]=y at *;have c1:=AS (G:=G) c.p x.day x.holder y.drawing hG hN hS hR hk.p;simp only[C7,r7] at c1;generalize P1 c.p x.day x.holder y.drawing=L at *;generalize P4 c.p x.day 1 x.holder y.drawing=e at *;have hs:=za hx (za hy (za h1 h2));repeat' first|(with_reducible first|refine zz ?_|refine zr ?_)|simp -dsimp[hs]|refine zq c1 ?_|refine zM 2 31 19 [0,1,2,4,5,6] ?_|with_reducible refine zE [0,1,2,4,5,6] ?_
@[simp] abbrev WN:List Nat:=[0,1,2,4,5,6,10,19]
theorem nf (c:Case) (n:Int) (hG:p5 G) (hN:D5 G) (hS:u6 G) (hR:w8 G) (hk:KC c):zP prog G 55 [n5 c,iv n] (.tup [v8 (kQ c n),iv (az c n)]):=by
 refine zf func55 ntmps55 ?_;try simp only[iv]
 have c1:=jm (G:=G) c hG hN hS hR hk;have hq:=hk.q;by_cases h0:s6 c=0
 ·have hok:=K2 (B8 h0).2;have hE:az c n=if 0<=n/\n<c.pieces.length then 0 else 2:=by unfold az;rw[if_neg (by simp[h0])]
  have hlen:=hok.e;have hl:=hok.l;have hw:IntKind.i64.wrap ((c.pieces.length:Int)-1)=(c.pieces.length:Int)-1:=p9 (by omega) (by omega);have c2:=P9 (G:=G) 0 ((c.pieces.length:Int)-1) [n] (by simp);unfold kQ;rw[hE];rw[h0] at c1;by_cases hn:0<=n/\n<c.pieces.length
  ·rw[if_pos hn,if_pos rfl];obtain⟨k,rfl⟩:=Int.eq_ofNat_of_zero_le hn.1;rw[Int.toNat_natCast];have c3:=Bv (G:=G) c k (by omega) (by omega) hG hN hS hR hk;rw[show ([(k:Int)].all λy=>decide (0<=y)&&decide (y<=(c.pieces.length:Int)-1))=true by simp;omega] at c2;generalize N5 c k=L at *;simp only[n5,j4] at c1 c3;have hs:=hw;repeat' first|(with_reducible first|refine zz ?_|refine zr ?_|refine zE WN ?_)|simp -dsimp[hs]|refine zp c1 ?_|refine zt c2 ?_ ?_ ?_;(focus simp;done);focus (simp;done)|refine zp c3 ?_|refine i9 ?_ ?_<;>intro h<;>try exact h.elim
  ·rw[if_neg hn,if_neg (by decide)];rw[show ([n].all λy=>decide (0<=y)&&decide (y<=(c.pieces.length:Int)-1))=false by simp;omega] at c2;simp only[n5,j4] at c1;have hs:=hw;repeat' first|(with_reducible first|refine zz ?_|refine zr ?_|refine zE WN ?_)|simp -dsimp[hs]|refine zp c1 ?_|refine zt c2 ?_ ?_ ?_;(focus simp;done);focus (simp;done)|refine i9 ?_ ?_<;>intro h<;>try exact h.elim
 ·have hE:az c n=s6 c:=by unfold az;rw[if_pos h0]
  have hO:kQ c n=[]:=by unfold kQ;rw[if_neg (by rw[hE];exact h0)]
  rw[hE,hO];simp only[n5,j4] at c1;have hs:=h0;repeat' first|(with_reducible first|refine zz ?_|refine zr ?_|refine zE WN ?_)|simp -dsimp[hs]|refine zp c1 ?_|refine i9 ?_ ?_<;>intro h<;>try exact h.elim
theorem ci (n lo hi:Int):zP prog G 268 [iv n,iv lo,iv hi] (bv (decide (lo<=n)&&decide (n<=hi))):=by
 refine zf func268 ntmps268 ?_;try simp only[iv,iv,iv]
 have hs:=trivial;repeat' first|(with_reducible first|refine zz ?_|refine zr ?_|refine zE [0,1,2,6] ?_)|simp -dsimp[hs]|with_reducible refine j0 ?_ ?_<;>intro h<;>have h0:=h<;>(try simp only[i7] at h)<;>have h2:=h<;>(try simp at h2)<;>replace hs:=za h0 (za h (za h2 hs))
 all_goals try clear hs
 all_goals simp[*]
theorem HF (l:List Int) (n:Int) (hl:l.length<1000000):zP prog G 269 [v8 l,iv n] (bv (decide (n∈l))):=by
 refine zf func269 ntmps269 ?_;try simp only[v8,iv]
 have hs:=trivial;repeat' first|(with_reducible first|refine zz ?_|refine zE [0,1,4,5,9,17] ?_)|simp -dsimp[hs]
 refine i6 (ι:={ k:Nat // k<=l.length/\decide (n∈l)=decide (n∈l.drop k) }) (λi=>⟨18,[(0,v8 l),(1,iv n),(5,iv (i.1:Int))],[]⟩) (λi=>l.length-i.1) ⟨0,by simp⟩ (zv [0,1,5]) ?_;rintro⟨i,hi,hno⟩;simp only[iv,v8];by_cases hlt:i<l.length
 ·have hw:=zk i;rw[List.drop_eq_getElem_cons hlt] at hno;generalize hx:l[i]=x at *;have hs:=za hx (za hw hlt);repeat' first|(with_reducible first|refine zz ?_|refine zr ?_|refine zE [0,1,4,5,9,17] ?_)|simp -dsimp[hs]|refine i9 ?_ ?_<;>intro h<;>try exact h.elim
  all_goals try clear hs
  ·exact of_decide_eq_true (by rw[hno];simp[*])
  ·exact zn ⟨i+1,by omega,by rw[hno,decide_eq_decide,List.mem_cons];exact or_iff_right (λe=>absurd e.symm (by assumption))⟩ (zv [0,1,5])
 ·rw[List.drop_eq_nil_of_le (by omega)] at hno;have hs:=hlt;repeat' first|(with_reducible first|refine zz ?_|refine zr ?_|refine zE [0,1,4,5,9,17] ?_)|simp -dsimp[hs]|refine i9 ?_ ?_<;>intro h<;>try exact h.elim
  exact λhm=>by simp[hm] at hno
theorem rU (p:Prints) (n:Int) (hl:p.holders.length<1000):zP prog G 172 [C7 p,iv n] (iv (H8 (λy=>decide (y.id=n)) p.holders)):=by
 refine zf func172 ntmps172 ?_;try simp only[iv]
 have hs:=trivial;repeat' first|(with_reducible first|refine zz ?_|refine zE [0,1,2,4,5,10,20] ?_)|simp -dsimp[hs]
 refine i6 (ι:={ k:Nat // k<=p.holders.length/\∀ (j:Nat) (x:Holder),j<k->p.holders[j]?=some x->decide (x.id=n)=false }) (λi=>⟨22,[(1,iv n),(2,.one (.ptr 0 0)),(5,iv (i.1:Int))],[.row ((r7 p).map .im)]⟩) (λi=>p.holders.length-i.1) ⟨0,by simp⟩ (zv [1,2,5]) ?_;rintro⟨i,hi,hno⟩;simp only[iv];by_cases hlt:i<p.holders.length
 ·have hw:=zk i;have hx0:p.holders[i]?=some p.holders[i]:=by simp[hlt]
  generalize hx:p.holders[i]=x at *;have hs:=za hx (za hw hlt);repeat' first|(with_reducible first|refine zz ?_|refine zr ?_|refine zE [0,1,2,4,5,10,20] ?_)|simp -dsimp[hs]|refine i9 ?_ ?_<;>intro h<;>try exact h.elim
  all_goals try clear hs
  ·exact(J7 hx0 (by simp[*]) hno).symm
  ·exact At.round ⟨i+1,by omega,λj z hj hjx=>by
    by_cases e:j=i
    ·subst e;rw[hx0] at hjx;cases hjx;simp[*]
    ·exact hno j z (by omega) hjx⟩ (by simp;omega) (zv [1,2,5])
 ·have hs:=hlt;repeat' first|(with_reducible first|refine zz ?_|refine zr ?_|refine zE [0,1,2,4,5,10,20] ?_)|simp -dsimp[hs]|refine i9 ?_ ?_<;>intro h<;>try exact h.elim
  exact(U6 λj z hjx=>hno j z (by have:=e7 hjx;omega) hjx).symm
@[simp] abbrev QG:List Nat:=[0,1,2,4,5,6,7,51,60,88]
open Classical in
theorem xj (p:Prints) (k:Nat) (x:Holder) (hx0:p.holders[k]?=some x) (hsm:SmallP p):zP prog G 219 [C7 p,iv (k:Int)] (bv (decide (tp (nums p.n.reg) p.holders k x))):=by
 refine zf func219 ntmps219 ?_;try simp only[iv]
 have hlt:k<p.holders.length:=e7 hx0;have hx:p.holders[k]=x:=(List.getElem?_eq_some_iff.1 hx0).2;have hdl:x.draws.length<=20:=hsm.d x (by rw[<- hx];exact List.getElem_mem hlt);have hh:=hsm.h;have hr:=hsm.r;have hrl:=hsm.l;have c1:=ci (G:=G) x.id 1 9999;have c2:=ci (G:=G) x.frm 1 x.to;have c3:=jB (G:=G) p.n.reg (by omega);have c4:=λd=>HF (G:=G) (nums p.n.reg) d (by omega);have hs:True:=trivial;by_cases hA:KG p.holders k x
 ·obtain⟨a1,a3,a4,a6,a8,a9⟩:=id hA;rw[show (decide (1<=x.id)&&decide (x.id<=9999))=true by simp;omega] at c1;rw[show (decide (1<=x.frm)&&decide (x.frm<=x.to))=true by simp;omega] at c2;have a8':¬ (999:Int)<x.to:=by omega
  have a9':¬ (8:Int)<x.draws.length:=by omega
  have hcs:(¬ 0<k/\True/\∃ _:True,True)\/(0<k/\IntKind.i64.wrap ((k:Int)-1)=((k-1:Nat):Int)/\∃ h:k-1<p.holders.length,¬ x.id<=(p.holders[k-1]'h).id):=by
   rcases Nat.eq_zero_or_pos k with h0|h0
   ·exact .inl ⟨by omega,trivial,trivial,trivial⟩
   ·have h1:k-1<p.holders.length:=by omega
    exact .inr ⟨by omega,by rw[p9 (by omega) (by omega)];omega,h1,by have:=a3 h0 _ (List.getElem?_eq_getElem h1);omega⟩
  rcases hcs with⟨hk0,hwm,hi1,hlt1⟩|⟨hk0,hwm,hi1,hlt1⟩
  all_goals
   have hs:=za hx (za hlt (za a8' (za a9' (za hk0 (za hwm (za hi1 hlt1))))));repeat' first|with_reducible refine zz ?_|simp -dsimp[hs]|refine zq c1 ?_|refine zq c2 ?_|refine zp c3 ?_|refine zM 2 89 39 QG ?_|with_reducible refine zE QG ?_|refine i9 ?_ ?_<;>intro h<;>try exact h.elim
  all_goals
   refine i6 (ι:={ j:Nat // j<=x.draws.length/\∀ (i:Nat) (d:Int),i<j->x.draws[i]?=some d->Fh (nums p.n.reg) x.draws i d }) (λq=>⟨89,[(5,.one (.ptr 2 0)),(6,v8 (nums p.n.reg)),(7,iv (q.1:Int))],[.row ((r7 p).map .im),.vec 0 [] 0 true,.row ((n4 x).map .im)]⟩) (λq=>x.draws.length-q.1) ⟨0,by simp⟩ (zv [5,6,7]) ?_;rintro⟨j,hj,hjok⟩;simp only[iv,v8];by_cases hlj:j<x.draws.length
   ·have hx1:x.draws[j]?=some x.draws[j]:=by simp[hlj]
    have hwj:=zk j;have c5:=c4 x.draws[j];have hcj:(¬ 0<j/\True/\∃ _:True,True)\/(0<j/\IntKind.i64.wrap ((j:Int)-1)=((j-1:Nat):Int)/\∃ h:j-1<x.draws.length,True):=by
     rcases Nat.eq_zero_or_pos j with h0|h0
     ·exact .inl ⟨by omega,trivial,trivial,trivial⟩
     ·exact .inr ⟨by omega,by rw[p9 (by omega) (by omega)];omega,by omega,trivial⟩
    have hbadj:¬ Fh (nums p.n.reg) x.draws j x.draws[j]->decide (tp (nums p.n.reg) p.holders k x)=false:=λh=>decide_eq_false λh'=>h (h'.2 j _ hx1);have hstj:Fh (nums p.n.reg) x.draws j x.draws[j]->∀ (i:Nat) (d:Int),i<j+1->x.draws[i]?=some d->Fh (nums p.n.reg) x.draws i d:=λh i d hi hd=>by
     by_cases e:i=j
     ·subst e;rw[hx1] at hd;cases hd;exact h
     ·exact hjok i d (by omega) hd
    generalize decide (tp (nums p.n.reg) p.holders k x)=B at *;rcases hcj with⟨hj0,hwmj,hij,-⟩|⟨hj0,hwmj,hij,-⟩
    all_goals
     have hs:=za hx1 (za hlj (za hj0 (za hwmj (za hij hwj))));repeat' first|(with_reducible first|refine zz ?_|refine zr ?_)|simp -dsimp[hs]|refine zq c5 ?_|refine zM 8 89 26 QG ?_|with_reducible refine zE QG ?_|refine i9 ?_ ?_<;>intro h<;>try exact h.elim|with_reducible refine j0 ?_ ?_<;>intro h<;>have h0:=h<;>(try simp only[i7] at h)<;>have h2:=h<;>(try simp at h2)<;>replace hs:=za h0 (za h (za h2 hs))
     all_goals try clear hs
    all_goals first
     | exact zn ⟨j+1,by omega,hstj ⟨of_decide_eq_true (by assumption),λh1 e he=>by first|omega|(obtain⟨_,rfl⟩:=List.getElem?_eq_some_iff.1 he;omega)⟩⟩ (zv [5,6,7])
     | (refine hbadj λhh=>?_;have:=hh.1;simp_all;done)
     | (refine hbadj λhh=>?_;have:=hh.2 (by omega) _ (List.getElem?_eq_getElem hij);omega)
   ·have hyes:decide (tp (nums p.n.reg) p.holders k x)=true:=decide_eq_true ⟨hA,λi d hd=>hjok i d (by have:=e7 hd;omega) hd⟩;rw[hyes];have hs:=hlj;repeat' first|(with_reducible first|refine zz ?_|refine zr ?_|refine zE QG ?_)|simp -dsimp[hs]|refine i9 ?_ ?_<;>intro h<;>try exact h.elim
 ·have hno:decide (tp (nums p.n.reg) p.holders k x)=false:=decide_eq_false λh=>hA h.1;rw[hno];generalize hb1:(decide (1<=x.id)&&decide (x.id<=9999))=b1 at c1;generalize hb2:(decide (1<=x.frm)&&decide (x.frm<=x.to))=b2 at c2;have hcs:(¬ 0<k/\True/\∃ _:True,True)\/(0<k/\IntKind.i64.wrap ((k:Int)-1)=((k-1:Nat):Int)/\∃ h:k-1<p.holders.length,True):=by
   rcases Nat.eq_zero_or_pos k with h0|h0
   ·exact .inl ⟨by omega,trivial,trivial,trivial⟩
   ·exact .inr ⟨by omega,by rw[p9 (by omega) (by omega)];omega,by omega,trivial⟩
  rcases hcs with⟨hk0,hwm,hi1,-⟩|⟨hk0,hwm,hi1,-⟩<;>cases b1<;>cases b2
  all_goals
   have hs:=za hx (za hlt (za hk0 (za hwm hi1)));repeat' first|(with_reducible first|refine zz ?_|refine zr ?_)|simp -dsimp[hs]|refine zq c1 ?_|refine zq c2 ?_|refine zM 2 89 39 QG ?_|with_reducible refine zE QG ?_|refine i9 ?_ ?_<;>intro h<;>try exact h.elim|with_reducible refine j0 ?_ ?_<;>intro h<;>have h0:=h<;>(try simp only[i7] at h)<;>have h2:=h<;>(try simp at h2)<;>replace hs:=za h0 (za h (za h2 hs))
  ·refine absurd ?_ hA;simp at hb1 hb2;exact⟨by omega,λh1=>by omega,by omega,by omega,by omega,by omega⟩
  ·refine absurd ?_ hA;simp at hb1 hb2;exact⟨by omega,λh1 y hy=>by
    obtain⟨_,rfl⟩:=List.getElem?_eq_some_iff.1 hy
    simp_all<;>omega,by omega,by omega,by omega,by omega⟩
theorem AZ (l:List Issue) (x:Print):(p6 l x.drawing x.letter).isSome=GX l x:=by
 unfold p6 GX;rw[Bool.eq_iff_iff,List.find?_isSome,List.any_eq_true];refine exists_congr λy=>and_congr_right λ_=>?_;simp only[Bool.and_eq_true,beq_iff_eq,decide_eq_true_eq];constructor<;>exact λ⟨h1,h2⟩=>⟨h1.symm,h2.symm⟩
theorem En (p:Prints) (i:Nat) (x:Print):xA p i x↔(0<i->∀ y,p.prints[i-1]?=some y->y.number<x.number)/\Iw x=true/\Ji p.holders x=true/\GX p.n.reg x=true/\Iv x=true/\Iu x=true:=by
 refine and_congr_right λ_=>⟨λh=>⟨h 0 (by omega),h 1 (by omega),h 2 (by omega),h 3 (by omega),h 4 (by omega)⟩,λ⟨h1,h2,h3,h4,h5⟩ c hc=>?_⟩
 match c,hc with
 | 0,_=>exact h1
 | 1,_=>exact h2
 | 2,_=>exact h3
 | 3,_=>exact h4
 | 4,_=>exact h5
theorem Ar {B b1 b2 b3 b4 b5:Bool} {O:Prop} {f l r:Int} (hf3:b3=true↔¬ f<0) (hP:B=true↔O/\(b1&&b2)=true/\b3=true/\b4=true/\decide (l<=2)=true/\(decide (r=-1)||b5&&decide (l=0))=true):(b1=false/\True/\True/\True/\True/\True/\True/\B=false)\/(¬ O/\B=false)\/(O/\((b1=true/\b2=false/\True/\True/\True/\True/\True/\B=false)\/(b1=true/\b2=true/\f<0/\True/\True/\True/\True/\B=false)\/(b1=true/\b2=true/\¬ f<0/\2<l/\True/\True/\True/\B=false)\/(b1=true/\b2=true/\¬ f<0/\¬ 2<l/\b4=false/\True/\True/\B=false)\/(b1=true/\b2=true/\¬ f<0/\¬ 2<l/\b4=true/\r=-1/\True/\B=true)\/(b1=true/\b2=true/\¬ f<0/\¬ 2<l/\b4=true/\¬ r=-1/\b5=false/\B=false)\/(b1=true/\b2=true/\¬ f<0/\¬ 2<l/\b4=true/\¬ r=-1/\b5=true/\B=decide (l=0)))):=by
 have hn:¬ (O/\(b1&&b2)=true/\b3=true/\b4=true/\decide (l<=2)=true/\(decide (r=-1)||b5&&decide (l=0))=true)->B=false:=λh=>Bool.eq_false_iff.2 λe=>h (hP.1 e);have t:=trivial;by_cases hO:O
 ·cases b1 with
  | false=>exact .inl ⟨rfl,t,t,t,t,t,t,hn λh=>by simpa using h.2.1⟩
  | true =>
    refine .inr (.inr ⟨hO,?_⟩);cases b2 with
    | false=>exact .inl ⟨rfl,rfl,t,t,t,t,t,hn λh=>by simpa using h.2.1⟩
    | true =>
      by_cases q2:f<0
      ·exact .inr (.inl ⟨rfl,rfl,q2,t,t,t,t,hn λh=>hf3.1 h.2.2.1 q2⟩)
      ·by_cases q3:2<l
       ·exact .inr (.inr (.inl ⟨rfl,rfl,q2,q3,t,t,t,hn λh=>by have:=of_decide_eq_true h.2.2.2.2.1;omega⟩))
       ·have h2:decide (l<=2)=true:=decide_eq_true (by omega);have hb3:b3=true:=hf3.2 q2;cases b4 with
        | false=>exact .inr (.inr (.inr (.inl ⟨rfl,rfl,q2,q3,rfl,t,t,hn λh=>Bool.noConfusion h.2.2.2.1⟩)))
        | true =>
          by_cases q4:r=-1
          ·exact .inr (.inr (.inr (.inr (.inl ⟨rfl,rfl,q2,q3,rfl,q4,t,hP.2 ⟨hO,rfl,hb3,rfl,h2,by rw[decide_eq_true q4];rfl⟩⟩))))
          ·cases b5 with
           | false=>exact .inr (.inr (.inr (.inr (.inr (.inl ⟨rfl,rfl,q2,q3,rfl,q4,rfl,hn λh=>by have:=h.2.2.2.2.2;rw[decide_eq_false q4] at this;simp at this⟩)))))
           | true =>
             refine .inr (.inr (.inr (.inr (.inr (.inr ⟨rfl,rfl,q2,q3,rfl,q4,rfl,?_⟩)))));by_cases q5:l=0
             ·rw[decide_eq_true q5];exact hP.2 ⟨hO,rfl,hb3,rfl,h2,by rw[decide_eq_true q5];simp⟩
             ·rw[decide_eq_false q5];exact hn λh=>by have:=h.2.2.2.2.2;rw[decide_eq_false q4,decide_eq_false q5] at this;simp at this
 ·exact .inr (.inl ⟨hO,hn λh=>hO h.1⟩)
@[simp] abbrev QS:List Nat:=[0,1,2,4,5,7,50,61]
open Classical in
theorem AH (p:Prints) (k:Nat) (x:Print) (hx0:p.prints[k]?=some x) (hsm:SmallP p):zP prog G 220 [C7 p,iv (k:Int)] (bv (decide (xA p k x))):=by
 refine zf func220 ntmps220 ?_;try simp only[iv]
 have hlt:k<p.prints.length:=e7 hx0;have hx:p.prints[k]=x:=(List.getElem?_eq_some_iff.1 hx0).2;have hlo:=hsm.lo x (by rw[<- hx];exact List.getElem_mem hlt);have hh:=hsm.h;have hrl:=hsm.l;have hql:=hsm.q;have c1:=ci (G:=G) x.number 1 9999;have c2:=ci (G:=G) x.day 0 14610;have c3:=rU (G:=G) p x.holder (by omega);have c4:=uG (G:=G) p.n.reg x.drawing x.letter (by omega);have c5:=ci (G:=G) x.back x.day 14610;have hf:=ws (λy:Holder=>decide (y.id=x.holder)) p.holders;have hP:=En p k x;rw[<- AZ,show Ji p.holders x=p.holders.any (λy=>decide (y.id=x.holder)) from rfl] at hP;simp only[E0] at c4;generalize H8 (λy:Holder=>decide (y.id=x.holder)) p.holders=f at *;generalize (p.holders.any λy=>decide (y.id=x.holder))=b3 at *;generalize (p6 p.n.reg x.drawing x.letter).isSome=b4 at *;generalize (p6 p.n.reg x.drawing x.letter).getD K4=z at *;generalize hB:decide (xA p k x)=B;have hP':B=true↔xA p k x:=by rw[<- hB,decide_eq_true_eq]
 rw[hP] at hP';clear hP hB;generalize hb1:(decide (1<=x.number)&&decide (x.number<=9999))=b1 at c1;generalize hb2:(decide (0<=x.day)&&decide (x.day<=14610))=b2 at c2;generalize hb5:(decide (x.day<=x.back)&&decide (x.back<=14610))=b5 at c5;have e1:Iw x=(b1&&b2):=by rw[<- hb1,<- hb2];rfl
 have e5:Iu x=(decide (x.back=-1)||b5&&decide (x.lost=0)):=by rw[<- hb5];rfl
 rw[e1,e5,show Iv x=decide (x.lost<=2) from rfl] at hP';clear e1 e5 hb1 hb2 hb5;have hf3:b3=true↔¬ f<0:=by cases b3<;>simpa using hf
 clear hf;have hs:True:=trivial;have hcs:(¬ 0<k/\True/\(∃ _:True,True)/\(0<k->∀ y,p.prints[k-1]?=some y->y.number<x.number))\/(0<k/\IntKind.i64.wrap ((k:Int)-1)=((k-1:Nat):Int)/\(∃ h:k-1<p.prints.length,¬ x.number<=(p.prints[k-1]'h).number)/\(0<k->∀ y,p.prints[k-1]?=some y->y.number<x.number))\/(0<k/\IntKind.i64.wrap ((k:Int)-1)=((k-1:Nat):Int)/\(∃ h:k-1<p.prints.length,x.number<=(p.prints[k-1]'h).number)/\¬ (0<k->∀ y,p.prints[k-1]?=some y->y.number<x.number)):=by
  rcases Nat.eq_zero_or_pos k with h0|h0
  ·exact .inl ⟨by omega,trivial,⟨trivial,trivial⟩,λh=>by omega⟩
  ·have h1:k-1<p.prints.length:=by omega
   have h2:=List.getElem?_eq_getElem h1;have hw:IntKind.i64.wrap ((k:Int)-1)=((k-1:Nat):Int):=by rw[p9 (by omega) (by omega)];omega
   by_cases h3:x.number<=(p.prints[k-1]'h1).number
   ·exact .inr (.inr ⟨h0,hw,⟨h1,h3⟩,λh=>by have:=h h0 _ h2;omega⟩)
   ·exact .inr (.inl ⟨h0,hw,⟨h1,h3⟩,λ_ y hy=>by rw[h2] at hy;cases hy;omega⟩)
 generalize (0<k->∀ y,p.prints[k-1]?=some y->y.number<x.number)=O at *;have hc2:=Ar hf3 hP';rcases hc2 with⟨g1,g2,g3,g4,g5,g6,g7,gB⟩|⟨hO,gB⟩|⟨hO,hc2⟩
 ·clear hcs;have hs:=za hx (za hlt g1);repeat' first|(with_reducible first|refine zz ?_|refine zr ?_)|simp -dsimp[hs]|refine zq c1 ?_|refine zM 2 77 38 QS ?_|with_reducible refine zE QS ?_|refine i9 ?_ ?_<;>intro h<;>try exact h.elim
  all_goals try clear hs
  all_goals exact gB
 ·rcases hcs with⟨hk0,hwm,⟨hi1,hlt1⟩,hO1⟩|⟨hk0,hwm,⟨hi1,hlt1⟩,hO1⟩|⟨hk0,hwm,⟨hi1,hlt1⟩,hO1⟩
  ·exact absurd hO1 hO
  ·exact absurd hO1 hO
  ·cases b1
   all_goals
    have hs:=za hx (za hlt (za hk0 (za hwm (za hi1 hlt1))));repeat' first|(with_reducible first|refine zz ?_|refine zr ?_)|simp -dsimp[hs]|refine zq c1 ?_|refine zM 2 77 38 QS ?_|with_reducible refine zE QS ?_|refine i9 ?_ ?_<;>intro h<;>try exact h.elim
    all_goals try clear hs
   all_goals exact gB
 ·rcases hc2 with⟨g1,g2,g3,g4,g5,g6,g7,gB⟩|⟨g1,g2,g3,g4,g5,g6,g7,gB⟩|⟨g1,g2,g3,g4,g5,g6,g7,gB⟩|⟨g1,g2,g3,g4,g5,g6,g7,gB⟩|⟨g1,g2,g3,g4,g5,g6,g7,gB⟩|⟨g1,g2,g3,g4,g5,g6,g7,gB⟩|⟨g1,g2,g3,g4,g5,g6,g7,gB⟩<;>rcases hcs with⟨hk0,hwm,⟨hi1,hlt1⟩,hO1⟩|⟨hk0,hwm,⟨hi1,hlt1⟩,hO1⟩|⟨hk0,hwm,⟨hi1,hlt1⟩,hO1⟩
  all_goals first
   | exact absurd hO hO1
   | skip
  all_goals
   have hs:=za hx (za hlt (za hk0 (za hwm (za hi1 (za hlt1 (za g1 (za g2 (za g3 (za g4 (za g5 (za g6 g7)))))))))));repeat' first|(with_reducible first|refine zz ?_|refine zr ?_)|simp -dsimp[hs]|refine zq c1 ?_|refine zq c2 ?_|refine zq c3 ?_|refine zp c4 ?_|refine zp c5 ?_|refine zM 2 77 38 QS ?_|with_reducible refine zE QS ?_|refine i9 ?_ ?_<;>intro h<;>try exact h.elim
   all_goals try clear hs
  all_goals first
   | exact gB
   | exact gB.symm
   | trace_state
@[simp] abbrev Qu:List Nat:=[0,1,2,3,4,14,19,25,30,36]
open Classical in
theorem xn (p:Prints) (hsm:SmallP p):zP prog G 170 [C7 p] (bv (D7 p)):=by
 refine zf func170 ntmps170 ?_;try simp only[iv]
 have hh:=hsm.h;have hq:=hsm.q;by_cases h6:¬ p.holders.length<=6
 ·have h6':(6:Int)<p.holders.length:=by omega
  have hno:=M9 (p:=p) λh=>h6 h.hl;have hs:=h6';repeat' first|(with_reducible first|refine zz ?_|refine zr ?_|refine zE Qu ?_)|simp -dsimp[hs]|refine i9 ?_ ?_<;>intro h<;>try exact h.elim
  all_goals try clear hs
  all_goals simp[hno]
 replace h6:=Classical.not_not.1 h6;have h6':¬ (6:Int)<p.holders.length:=by omega
 by_cases h30:¬ p.prints.length<=30
 ·have h30':(30:Int)<p.prints.length:=by omega
  have hno:=M9 (p:=p) λh=>h30 h.pl;have hs:=za h6' h30';repeat' first|(with_reducible first|refine zz ?_|refine zr ?_|refine zE Qu ?_)|simp -dsimp[hs]|refine i9 ?_ ?_<;>intro h<;>try exact h.elim
  all_goals try clear hs
  all_goals simp[hno]
 replace h30:=Classical.not_not.1 h30;have h30':¬ (30:Int)<p.prints.length:=by omega
 have hs:=za h6' h30';repeat' first|(with_reducible first|refine zz ?_|refine zE Qu ?_)|simp -dsimp[hs]|refine i9 ?_ ?_<;>intro h<;>try exact h.elim
 all_goals try clear hs
 refine i6 (ι:={ k:Nat // k<=p.holders.length/\∀ (j:Nat) (x:Holder),j<k->p.holders[j]?=some x->tp (nums p.n.reg) p.holders j x }) (λq=>⟨37,[(1,.one (.ptr 0 0)),(3,iv (q.1:Int))],[.row ((r7 p).map .im)]⟩) (λq=>p.holders.length-q.1) ⟨0,by simp⟩ (zv [1,3]) ?_;rintro⟨k,hk,hok⟩;simp only[iv];by_cases hlt:k<p.holders.length
 ·have hx0:p.holders[k]?=some p.holders[k]:=by simp[hlt]
  have hw:=zk k;have c1:=xj (G:=G) p k _ hx0 hsm;generalize hx:p.holders[k]=x at *;have hstep:tp (nums p.n.reg) p.holders k x->∀ (j:Nat) (z:Holder),j<k+1->p.holders[j]?=some z->tp (nums p.n.reg) p.holders j z:=λh j z hj hz=>by
   by_cases e:j=k
   ·subst e;rw[hx0] at hz;cases hz;exact h
   ·exact hok j z (by omega) hz
  by_cases hB:tp (nums p.n.reg) p.holders k x
  ·rw[decide_eq_true hB] at c1;have hs:=za hlt hw;repeat' first|(with_reducible first|refine zz ?_|refine zE Qu ?_)|simp -dsimp[hs]|refine zp c1 ?_|refine i9 ?_ ?_<;>intro h<;>try exact h.elim
   all_goals try clear hs
   exact zn ⟨k+1,by omega,hstep hB⟩ (zv [1,3])
  ·rw[decide_eq_false hB] at c1;have hno:=M9 (p:=p) λh'=>hB (h'.h k x hx0);have hs:=za hlt hw;repeat' first|(with_reducible first|refine zz ?_|refine zr ?_|refine zE Qu ?_)|simp -dsimp[hs]|refine zp c1 ?_|refine i9 ?_ ?_<;>intro h<;>try exact h.elim
   all_goals try clear hs
   all_goals simp[hno]
 have hall:∀ i x,p.holders[i]?=some x->tp (nums p.n.reg) p.holders i x:=λi x hx=>hok i x (by have:=e7 hx;omega) hx;have hs:=hlt;repeat' first|(with_reducible first|refine zz ?_|refine zE Qu ?_)|simp -dsimp[hs]|refine i9 ?_ ?_<;>intro h<;>try exact h.elim
 all_goals try clear hs
 clear hlt hok hk;refine i6 (ι:={ k:Nat // k<=p.prints.length/\∀ (j:Nat) (x:Print),j<k->p.prints[j]?=some x->xA p j x }) (λq=>⟨37,[(1,.one (.ptr 0 0)),(4,iv (q.1:Int))],[.row ((r7 p).map .im)]⟩) (λq=>p.prints.length-q.1) ⟨0,by simp⟩ (zv [1,4]) ?_;rintro⟨k,hk,hok⟩;simp only[iv];by_cases hlt:k<p.prints.length
 ·have hx0:p.prints[k]?=some p.prints[k]:=by simp[hlt]
  have hw:=zk k;have c1:=AH (G:=G) p k _ hx0 hsm;generalize hx:p.prints[k]=x at *;have hstep:xA p k x->∀ (j:Nat) (z:Print),j<k+1->p.prints[j]?=some z->xA p j z:=λh j z hj hz=>by
   by_cases e:j=k
   ·subst e;rw[hx0] at hz;cases hz;exact h
   ·exact hok j z (by omega) hz
  by_cases hB:xA p k x
  ·rw[decide_eq_true hB] at c1;have hs:=za hlt hw;repeat' first|(with_reducible first|refine zz ?_|refine zE Qu ?_)|simp -dsimp[hs]|refine zp c1 ?_|refine i9 ?_ ?_<;>intro h<;>try exact h.elim
   all_goals try clear hs
   exact zn ⟨k+1,by omega,hstep hB⟩ (zv [1,4])
  ·rw[decide_eq_false hB] at c1;have hno:=M9 (p:=p) λh'=>hB (h'.q k x hx0);have hs:=za hlt hw;repeat' first|(with_reducible first|refine zz ?_|refine zr ?_|refine zE Qu ?_)|simp -dsimp[hs]|refine zp c1 ?_|refine i9 ?_ ?_<;>intro h<;>try exact h.elim
   all_goals try clear hs
   all_goals simp[hno]
 have hyes:D7 p=true:=ef ⟨h6,h30,hall,λi x hx=>hok i x (by have:=e7 hx;omega) hx⟩;rw[hyes];have hs:=hlt;repeat' first|(with_reducible first|refine zz ?_|refine zr ?_|refine zE Qu ?_)|simp -dsimp[hs]|refine i9 ?_ ?_<;>intro h<;>try exact h.elim
 all_goals try clear hs
theorem xp (p:Prints) (hk:KP p):zP prog G 104 [C7 p] (iv (u4 p)):=by
 refine zf func104 ntmps104 ?_;try simp only[iv]
 have c1:=CE (G:=G) p.n hk.n;have c2:=xn (G:=G) p hk.p;by_cases h0:p7 p.n=0
 ·simp only[h0] at c1;have hE:u4 p=if D7 p=true then 0 else 70:=by unfold u4;rw[if_neg (by simp[h0])]
  rw[hE];generalize D7 p=b at *;cases b
  ·have hs:=trivial;repeat' first|(with_reducible first|refine zz ?_|refine zr ?_|refine zE [0,1,2,3,8,12] ?_)|simp -dsimp[hs]|refine zp c1 ?_|refine zp c2 ?_|refine i9 ?_ ?_<;>intro h<;>try exact h.elim
  ·have hs:=trivial;repeat' first|(with_reducible first|refine zz ?_|refine zr ?_|refine zE [0,1,2,3,8,12] ?_)|simp -dsimp[hs]|refine zp c1 ?_|refine zp c2 ?_|refine i9 ?_ ?_<;>intro h<;>try exact h.elim
 ·have hE:u4 p=p7 p.n:=by unfold u4;rw[if_pos h0]
  rw[hE];have hs:=h0;repeat' first|(with_reducible first|refine zz ?_|refine zr ?_|refine zE [0,1,2,3,8,12] ?_)|simp -dsimp[hs]|refine zp c1 ?_|refine i9 ?_ ?_<;>intro h<;>try exact h.elim
end Go.Proofs
namespace Go.Ab
open Go
def lexB:List Int->List Int->Bool
 | a :: x,b :: y=>if a=b then lexB x y else decide (a<b)
 | _,_=>false
theorem O8 {l:List Int} (h:l.Nodup):(l5 l).Pairwise (· < ·):=by
 have h1:(l5 l).Nodup:=(List.mergeSort_perm l _).nodup_iff.2 h;have h2:=List.pairwise_mergeSort (le:=λx y:Int=>decide (x<=y)) (λa b c h1 h2=>by simp at *;omega) (λa b=>by simp;omega) l;rw[List.nodup_iff_pairwise_ne] at h1;refine(h1.and h2).imp ?_;rintro a b ⟨h3,h4⟩;simp at h4;omega
theorem cT:∀ (X Y:List Int),X.Pairwise (· < ·)->Y.Pairwise (· < ·)->(∀ x∈X,x∈Y)->X.Sublist Y
 | [],Y,_,_,_=>by simp
 | a :: x,[],_,_,h=>by have:=h a (by simp);simp at this
 | a :: x,b :: y,hX,hY,h=>by
   obtain⟨h1,h2⟩:=List.pairwise_cons.1 hX;obtain⟨h3,h4⟩:=List.pairwise_cons.1 hY;by_cases e:a=b
   ·subst e;refine List.Sublist.cons_cons a (cT x y h2 h4 λz hz=>?_);rcases List.mem_cons.1 (h z (by simp[hz])) with rfl|hm
    ·have:=h1 z hz;omega
    ·exact hm
   ·refine List.Sublist.cons b (cT (a :: x) y hX h4 λz hz=>?_);have hab:b<a:=by
     rcases List.mem_cons.1 (h a (by simp)) with rfl|hm
     ·exact absurd rfl e
     ·exact h3 a hm
    rcases List.mem_cons.1 (h z hz) with rfl|hm
    ·rcases List.mem_cons.1 hz with rfl|hz
     ·omega
     ·have:=h1 z hz;omega
    ·exact hm
theorem nV {X Y:List Int} (hX:X.Pairwise (· < ·)) (hY:Y.Pairwise (· < ·)) (h:∀ x,x∈X↔x∈Y):X=Y:=
 (cT X Y hX hY λx hx=>(h x).1 hx).eq_of_length_le (cT Y X hY hX λx hx=>(h x).2 hx).length_le
theorem wj (f:Nat->Bool):∀ n:Nat,∃ s:Nat,s<2 ^ n/\∀ i<n,s.testBit i=f i
 | 0=>⟨0,by simp,λi hi=>by omega⟩
 | n+1=>by
   obtain⟨s,h1,h2⟩:=wj f n;cases hf:f n
   ·refine⟨s,by rw[Nat.pow_succ];omega,λi hi=>?_⟩;by_cases e:i=n
    ·subst e;rw[hf];exact Nat.testBit_lt_two_pow h1
    ·exact h2 i (by omega)
   ·refine⟨2 ^ n+s,by rw[Nat.pow_succ];omega,λi hi=>?_⟩;by_cases e:i=n
    ·subst e;rw[hf,Nat.testBit_two_pow_add_eq,Nat.testBit_lt_two_pow h1];rfl
    ·rw[Nat.testBit_two_pow_add_gt (by omega)];exact h2 i (by omega)
def Z9 (N:List Int) (s:Nat) (k:Nat):List Int:=((List.range k).filter λi=>s.testBit i).map λi=>N.getD i 0
theorem fd (N:List Int) (s k:Nat):Z9 N s (k+1)=Z9 N s k++(if s.testBit k=true then [N.getD k 0] else []):=by
 unfold Z9;rw[List.range_succ,List.filter_append,List.map_append]
 congr 1
 by_cases h:s.testBit k=true<;>simp[h]
theorem Ay {N:List Int} {s k:Nat} (hk:k<=N.length) {x:Int}:x∈Z9 N s k↔∃ i,i<k/\s.testBit i=true/\N[i]?=some x:=by
 simp only[Z9,List.mem_map,List.mem_filter,List.mem_range];constructor
 ·rintro⟨i,⟨h1,h2⟩,rfl⟩;have hi:i<N.length:=by omega
  exact⟨i,h1,h2,by simp[hi]⟩
 ·rintro⟨i,h1,h2,h3⟩;exact⟨i,⟨h1,h2⟩,by simp[h3]⟩
end Go.Ab
namespace Go.Proofs
open Go Go.Ab
end Go.Proofs
namespace Go.Ab
open Go
theorem Ik (s i:Nat):IntKind.i64.wrap ((BitVec.ofInt 64 ((s:Int).fdiv (2 ^ i)) &&& BitVec.ofInt 64 1).toNat:Int)=if s.testBit i=true then 1 else 0:=by
 have e1:(s:Int).fdiv (2 ^ i)=((s / 2 ^ i:Nat):Int):=by
  rw[Int.fdiv_eq_ediv_of_nonneg _ (by exact Int.pow_nonneg (by omega))];simp
 have e2:(BitVec.ofInt 64 ((s / 2 ^ i:Nat):Int) &&& BitVec.ofInt 64 1).toNat=(s / 2 ^ i) % 2:=by
  have h1:(BitVec.ofInt 64 1)=1#64:=by decide
  rw[h1,BitVec.ofInt_natCast,BitVec.toNat_and,BitVec.toNat_ofNat,BitVec.toNat_ofNat];rw[show (1 % 2 ^ 64:Nat)=1 by decide,Nat.and_one_is_mod];omega
 rw[e1,e2,Nat.testBit_eq_decide_div_mod_eq];rcases Nat.mod_two_eq_zero_or_one (s / 2 ^ i) with h|h
 ·rw[h];simp;decide
 ·rw[h];simp;decide
end Go.Ab
namespace Go.Proofs
open Go Go.Ab
variable {G:MF}
theorem jJ (l:List Int):(l5 l).length=l.length:=(List.mergeSort_perm l _).length_eq
theorem rj (N:List Int) (s k:Nat):(Z9 N s k).length<=k:=by
 induction k with
 | zero=>simp[Z9]
 | succ k ih =>
   rw[fd];split<;>simp<;>omega
def Ki (l:List Int):List IC:=[.sl (l.map encI)]
def Mj (L:List (List Int)):DV:=.one (.im (.sl (L.map Ki)))
attribute [simp] Ki Mj
def qV (O:List Int) (k:Nat):List (List Int):=(List.range k).map λs=>Z9 O s O.length
def ap (O:List Int):List (List Int):=qV O (2 ^ O.length)
theorem qU (O:List Int) (k:Nat):(qV O k).length=k:=by simp[qV]
theorem kj (O:List Int):(ap O).length=2 ^ O.length:=qU _ _
theorem wQ (O:List Int) (k:Nat):qV O (k+1)=qV O k++[Z9 O k O.length]:=by
 simp[qV,List.range_succ]
end Go.Proofs
namespace Go.Ab
open Go
structure Str where
 frm:Int
 to:Int
 letter:Int
 deriving DecidableEq
def Cq (x:Str):List IC:=[rI x.frm,rI x.to,rI x.letter]
def KN (l:List Str):DV:=.one (.im (.sl (l.map Cq)))
attribute [simp] Cq KN
end Go.Ab
namespace Go.Proofs
open Go Go.Ab
def ct (l:List Note):List Int:=1 :: l.flatMap λx=>[x.frm,x.to+1]
def aU (l:List Note):List Int:=(s9 (l5 (ct l))).filter λm=>decide (m<=999)
theorem xN (l:List Note):(aU l).length<=2*l.length+1:=by
 have h1:=List.length_filter_le (λm:Int=>decide (m<=999)) (s9 (l5 (ct l)));have h2:=bj (l5 (ct l));have h3:(ct l).length=2*l.length+1:=by
  unfold ct;have:∀ l:List Note,(l.flatMap λx=>[x.frm,x.to+1]).length=2*l.length:=λl=>by
   induction l with
   | nil=>rfl
   | cons a r ih=>rw[List.flatMap_cons,List.length_append,ih,List.length_cons,List.length_cons,List.length_cons,List.length_nil];omega
  rw[List.length_cons,this]
 rw[O9,h3] at h2;unfold aU;omega
theorem Hl {n:Notes} (hok:ak n) {x:Note} (hx:x∈n.notes):1<=x.frm/\x.frm<=x.to/\x.to<=999:=by
 obtain⟨i,hi,e⟩:=List.mem_iff_getElem.1 hx;have h:=hok i x (by rw[List.getElem?_eq_getElem hi,e]);simp only[tj,zY,Bool.and_eq_true,decide_eq_true_eq] at h;omega
def pY (n:Notes) (s:List Int) (d m:Int):Int:=de n.notes (L6 s [] m n.notes) d
def stepS (a b:List Int):List Int:=List.zipWith (λx y=>if y=x then x else 0) a b
variable {G:MF}
attribute [simp] s7 cN u9 A4 nilV J1 ZK
end Go.Proofs
namespace Go.Proofs
open Go Go.Ab
end Go.Proofs
namespace Go.Ab
open Go
def Il (L:List Bool):List DC:=L.map λb=>.im (.raw (.bool b))
@[simp] theorem KH (m:Nat) (O:List DObj) (L:List Bool):(Il L).map (fz m O)=Il L:=by
 simp only[Il,List.map_map];rfl
end Go.Ab
namespace Go.Proofs
open Go Go.Ab
variable {G:MF}
end Go.Proofs
namespace Go.Proofs
open Go Go.Ab
variable {G:MF}
open Go Go.Ab Tryz
def Dl (p:Prints):Prop:=kf p.n/\p.holders.length<=8/\p.prints.length<=40/\∀ x∈p.holders,x.draws.length<=20
def eZ (p:Prints):Bool:=U0 p.n&&(decide (p.holders.length<=8)&&(decide (p.prints.length<=40)&&p.holders.all λx=>decide (x.draws.length<=20)))
@[simp] abbrev QH:List Nat:=[0,1,2,3,18,23,33]
theorem BY (p:Prints):zP prog G 62 [C7 p] (bv (!eZ p)):=by
 refine zf func62 ntmps62 ?_;try simp only[iv]
 have c1:=BZ (G:=G) p.n;have hE:eZ p=(U0 p.n&&(decide (p.holders.length<=8)&&(decide (p.prints.length<=40)&&p.holders.all λx=>decide (x.draws.length<=20)))):=rfl;simp only[o8,u5] at c1;cases hS:U0 p.n
 ·rw[hS,Bool.false_and] at hE;rw[hS] at c1;rw[hE];have hs:=trivial;repeat' first|(with_reducible first|refine zz ?_|refine zr ?_|refine zE QH ?_)|simp -dsimp[hs]|refine zp c1 ?_|refine i9 ?_ ?_<;>intro h<;>try exact h.elim
 ·rw[hS,Bool.true_and] at hE;rw[hS] at c1;by_cases h8:p.holders.length<=8
  ·have h8':¬ (8:Int)<p.holders.length:=by omega
   rw[decide_eq_true h8,Bool.true_and] at hE;by_cases h40:p.prints.length<=40
   ·have h40':¬ (40:Int)<p.prints.length:=by omega
    rw[decide_eq_true h40,Bool.true_and] at hE;have hs:=za h8' h40';repeat' first|(with_reducible first|refine zz ?_|refine zE QH ?_)|simp -dsimp[hs]|refine zp c1 ?_|refine i9 ?_ ?_<;>intro h<;>try exact h.elim
    refine i6 (ι:={ k:Nat // k<=p.holders.length/\(p.holders.all λx=>decide (x.draws.length<=20))=(p.holders.drop k).all λx=>decide (x.draws.length<=20) }) (λq=>⟨34,[(1,.one (.ptr 0 0)),(3,iv (q.1:Int))],[.row ((r7 p).map .im)]⟩) (λq=>p.holders.length-q.1) ⟨0,by simp⟩ (zv [1,3]) ?_;rintro⟨k,hk,hall⟩;simp only[iv];by_cases hlt:k<p.holders.length
    ·have hw:=zk k;have hst:=cL hlt hall;generalize hx:p.holders[k]=x at *;by_cases h20:x.draws.length<=20
     ·have h20':¬ (20:Int)<x.draws.length:=by omega
      have hs:=za hx (za hlt (za hw h20'));repeat' first|(with_reducible first|refine zz ?_|refine zE QH ?_)|simp -dsimp[hs]|refine i9 ?_ ?_<;>intro h<;>try exact h.elim
      exact zn ⟨k+1,by omega,J2 hst (by simpa using h20)⟩ (zv [1,3])
     ·have h20':(20:Int)<x.draws.length:=by omega
      have hs:=za hx (za hlt (za hw h20'));repeat' first|(with_reducible first|refine zz ?_|refine zr ?_|refine zE QH ?_)|simp -dsimp[hs]|refine i9 ?_ ?_<;>intro h<;>try exact h.elim
      rw[hE,F8 hst (by simpa using h20)];try rfl
    ·have hok:(p.holders.all λx=>decide (x.draws.length<=20))=true:=by rw[hall,List.drop_eq_nil_of_le (by omega)];rfl
     have hs:=hlt;repeat' first|(with_reducible first|refine zz ?_|refine zr ?_|refine zE QH ?_)|simp -dsimp[hs]|refine i9 ?_ ?_<;>intro h<;>try exact h.elim
     rw[hE,hok];try rfl
   ·have h40':(40:Int)<p.prints.length:=by omega
    rw[decide_eq_false h40,Bool.false_and] at hE;have hs:=za h8' h40';repeat' first|(with_reducible first|refine zz ?_|refine zr ?_|refine zE QH ?_)|simp -dsimp[hs]|refine zp c1 ?_|refine i9 ?_ ?_<;>intro h<;>try exact h.elim
    rw[hE];try rfl
  ·have h8':(8:Int)<p.holders.length:=by omega
   rw[decide_eq_false h8,Bool.false_and] at hE;have hs:=h8';repeat' first|(with_reducible first|refine zz ?_|refine zr ?_|refine zE QH ?_)|simp -dsimp[hs]|refine zp c1 ?_|refine i9 ?_ ?_<;>intro h<;>try exact h.elim
   rw[hE];try rfl
theorem L8 (n lo hi:Int):zP prog G 94 [iv n,iv lo,iv hi] (bv (decide (lo<=n)&&decide (n<=hi))):=by
 refine zf func94 ntmps94 ?_;try simp only[iv,iv,iv]
 have hs:=trivial;repeat' first|(with_reducible first|refine zz ?_|refine zr ?_|refine zE [0,1,2,6] ?_)|simp -dsimp[hs]|with_reducible refine j0 ?_ ?_<;>intro h<;>have h0:=h<;>(try simp only[i7] at h)<;>have h2:=h<;>(try simp at h2)<;>replace hs:=za h0 (za h (za h2 hs))
 all_goals try clear hs
 all_goals simp[*]
theorem my {l:List Issue} (h:l6 l=0) {x:Issue} (hx:x∈l):1<=x.letter/\1<=x.kind:=by
 have:=(P6 (N6 (J3 h))).2.2.2.1 x hx;simp only[o7,CB,DD,Bool.and_eq_true,decide_eq_true_eq] at this;by_cases hk:x.kind=1
 ·omega
 ·rw[if_neg hk] at this;simp only[Bool.and_eq_true,decide_eq_true_eq] at this;omega
theorem up {l:List Issue} (h0:l6 l=0) (d:Int):aW l d=0↔d∉nums l:=by
 obtain⟨h1,h2,h3⟩:=ep d l 0;constructor
 ·intro h hd;obtain⟨x,hx,hxd⟩:=rz hd;have:=h2 x hx hxd;have:=(my h0 hx).1;unfold aW at h;omega
 ·intro hd;rcases h3 with h3|⟨x,hx,hxd,_⟩
  ·exact h3
  ·exact absurd (hxd ▸ (E4 h0).2 x hx) hd
theorem tM {c:Case} (h0:l6 c.p.n.reg=0) (l:Link) (x:Piece):I2 c l x=true↔(p6 c.p.n.reg l.drawing 1).isSome=true/\¬ ((p6 c.p.n.reg l.drawing 1).getD K4).kind<2/\(decide (0<=l.dim)&&decide (l.dim<=3))=true/\¬ H8 (λy=>decide (y.id=x.holder)) c.p.holders<0/\(decide (0<=x.day)&&decide (x.day<=14610))=true/\(decide (0<=x.lo)&&decide (x.lo<=1000000000))=true/\(decide (x.lo<=x.hi)&&decide (x.hi<=1000000000))=true:=by
 have hf:(c.p.holders.any λy=>decide (y.id=x.holder))=true↔¬ H8 (λy=>decide (y.id=x.holder)) c.p.holders<0:=by
  rw[<- B0,decide_eq_true_eq];omega
 unfold I2 W7;cases hfi:p6 c.p.n.reg l.drawing 1 with
 | none=>simp
 | some y =>
   have hk:=(my h0 (List.mem_of_find?_eq_some hfi)).2;simp only[Option.isSome_some,Option.getD_some,Bool.and_eq_true,decide_eq_true_eq,Bool.not_eq_true',decide_eq_false_iff_not,hf,true_and];omega
@[simp] abbrev Qv:List Nat:=[0,1,2,3,4,5,6,7,8,61,66,131]
@[simp] abbrev Yc:List Nat:=[0,1,2,3,4,5,6,7,8,61,66,69,70,71,72,73,74,131]
theorem Ek (c:Case) (h0:l6 c.p.n.reg=0) (hk:KC c):zP prog G 105 [n5 c] (bv (aj c)):=by
 refine zf func105 ntmps105 ?_;try simp only[iv]
 have hl:=hk.l;have hq:=hk.q;have hhl:=hk.p.p.h;have hrl:=hk.p.p.l;have c2:=BE (G:=G) c.p.n.reg c.of (by omega);have hLm:=up h0 c.of;have c3:=L8 (G:=G) c.machine 1 999;have c4:=L8 (G:=G) (c.loop.links.length:Int) 1 8;have c5:=L8 (G:=G) c.loop.lo (-8000000000) 8000000000;have c6:=L8 (G:=G) c.loop.hi c.loop.lo 8000000000;simp only[H0] at c2;generalize aW c.p.n.reg c.of=L at *;cases h5:gc c
 ·have hB:aj c=false:=by rw[Q1,h5,Bool.false_and]
  rw[hB];simp only[gc,W7] at h5;generalize hb3:(decide (1<=c.machine)&&decide (c.machine<=999))=b3 at c3;generalize hb4:(decide (1<=(c.loop.links.length:Int))&&decide ((c.loop.links.length:Int)<=8))=b4 at c4;generalize hb5:(decide (-8000000000<=c.loop.lo)&&decide (c.loop.lo<=8000000000))=b5 at c5;generalize hb6:(decide (c.loop.lo<=c.loop.hi)&&decide (c.loop.hi<=8000000000))=b6 at c6;have hs:True:=trivial;by_cases hm:L=0
  ·cases b3
   all_goals
    have hs:=hm;repeat' first|(with_reducible first|refine zz ?_|refine zr ?_|refine zE Qv ?_)|simp -dsimp[hs]|refine zp c3 ?_|refine zp c2 ?_|refine i9 ?_ ?_<;>intro h<;>try exact h.elim
    all_goals try clear hs
  ·have hm':c.of∈nums c.p.n.reg:=Classical.byContradiction λh=>hm (hLm.2 h);by_cases hlen:c.pieces.length=c.loop.links.length
   ·cases b3<;>cases b4<;>cases b5<;>cases b6
    all_goals
     have hs:=za hlen hm;repeat' first|(with_reducible first|refine zz ?_|refine zr ?_|refine zE Qv ?_)|simp -dsimp[hs]|refine zp c3 ?_|refine zp c2 ?_|refine zp c4 ?_|refine zp c5 ?_|refine zp c6 ?_|refine i9 ?_ ?_<;>intro h<;>try exact h.elim
     all_goals try clear hs
    all_goals exfalso
    all_goals simp[hm',hlen] at h5 hb3 hb4 hb5 hb6
    all_goals omega
   ·have hlen':¬ (c.pieces.length:Int)=c.loop.links.length:=by omega
    cases b3<;>cases b4<;>cases b5<;>cases b6
    all_goals
     have hs:=za hlen (za hlen' hm);repeat' first|(with_reducible first|refine zz ?_|refine zr ?_|refine zE Qv ?_)|simp -dsimp[hs]|refine zp c3 ?_|refine zp c2 ?_|refine zp c4 ?_|refine zp c5 ?_|refine zp c6 ?_|refine i9 ?_ ?_<;>intro h<;>try exact h.elim
     all_goals try clear hs
 ·have hB:aj c=(c.loop.links.zip c.pieces).all λq=>I2 c q.1 q.2:=by rw[Q1,h5,Bool.true_and]
  rw[hB];simp only[gc,Bool.and_eq_true,decide_eq_true_eq,W7] at h5;obtain⟨hm,⟨hm1,hm2⟩,⟨hl1,hl2⟩,hlen,hgap⟩:=h5;have hm':¬ L=0:=λh=>hLm.1 h hm;rw[show (decide (1<=c.machine)&&decide (c.machine<=999))=true by simp;omega] at c3;rw[show (decide (1<=(c.loop.links.length:Int))&&decide ((c.loop.links.length:Int)<=8))=true by simp;omega] at c4;rw[show (decide (-8000000000<=c.loop.lo)&&decide (c.loop.lo<=8000000000))=true by simp;omega] at c5;rw[show (decide (c.loop.lo<=c.loop.hi)&&decide (c.loop.hi<=8000000000))=true by simp;omega] at c6;have hs:=za hlen hm';repeat' first|(with_reducible first|refine zz ?_|refine zE Qv ?_)|simp -dsimp[hs]|refine zp c3 ?_|refine zp c2 ?_|refine zp c4 ?_|refine zp c5 ?_|refine zp c6 ?_|refine i9 ?_ ?_<;>intro h<;>try exact h.elim
  all_goals try clear hs
  have hno:((c.loop.links.zip c.pieces).all λq=>I2 c q.1 q.2)=((c.loop.links.zip c.pieces).drop 0).all λq=>I2 c q.1 q.2:=rfl;clear c2 c3 c4 c5 c6;generalize hA:((c.loop.links.zip c.pieces).all λq=>I2 c q.1 q.2)=A at *;refine i6 (ι:={ k:Nat // k<=c.pieces.length/\A=((c.loop.links.zip c.pieces).drop k).all λq=>I2 c q.1 q.2 }) (λq=>⟨132,[(1,.one (.ptr 0 0)),(3,.one (.ptr 2 0)),(4,iv (q.1:Int))],[.row ((j4 c).map .im),.vec 0 [] 0 true,.row [.im (.sl (c.p.n.reg.map e8))]]⟩) (λq=>c.pieces.length-q.1) ⟨0,by simp,hno⟩ (zv [1,3,4]) ?_;rintro⟨k,hk1,hrest⟩;simp only[iv];by_cases hlt:k<c.pieces.length
  ·have hlt2:k<c.loop.links.length:=by omega
   have hw:=zk k;have hst:=gV (f:=λq=>I2 c q.1 q.2) hlt2 hlt (hA.trans hrest);rw[hA] at hst;simp only at hst;rw[tM h0] at hst;clear hno;generalize hx:c.pieces[k]=x at *;generalize hy:c.loop.links[k]=y at *;have c6:=uG (G:=G) c.p.n.reg y.drawing 1 (by omega);have c7:=rU (G:=G) c.p x.holder (by omega);have c8:=L8 (G:=G) y.dim 0 3;have c9:=L8 (G:=G) x.day 0 14610;have c10:=L8 (G:=G) x.lo 0 1000000000;have c11:=L8 (G:=G) x.hi x.lo 1000000000;simp only[H0,E0] at c6;simp only[C7,r7,List.map_cons,List.map_nil] at c7;generalize H8 (λy=>decide (y.id=x.holder)) c.p.holders=f at *;generalize (decide (0<=y.dim)&&decide (y.dim<=3))=b1 at *;generalize (decide (0<=x.day)&&decide (x.day<=14610))=b3 at *;generalize (decide (0<=x.lo)&&decide (x.lo<=1000000000))=b4 at *;generalize (decide (x.lo<=x.hi)&&decide (x.hi<=1000000000))=b5 at *;generalize (p6 c.p.n.reg y.drawing 1).isSome=e at *;generalize (p6 c.p.n.reg y.drawing 1).getD K4=z at *;have hcs:(e=true/\¬ z.kind<2/\b1=true/\¬ f<0/\b3=true/\b4=true/\b5=true)\/(A=false/\((e=false/\True/\True/\True/\True/\True/\True)\/(e=true/\z.kind<2/\True/\True/\True/\True/\True)\/(e=true/\¬ z.kind<2/\b1=false/\True/\True/\True/\True)\/(e=true/\¬ z.kind<2/\b1=true/\f<0/\True/\True/\True)\/(e=true/\¬ z.kind<2/\b1=true/\¬ f<0/\b3=false/\True/\True)\/(e=true/\¬ z.kind<2/\b1=true/\¬ f<0/\b3=true/\b4=false/\True)\/(e=true/\¬ z.kind<2/\b1=true/\¬ f<0/\b3=true/\b4=true/\b5=false))):=by
    by_cases g2:z.kind<2<;>by_cases g4:f<0<;>cases e<;>cases b1<;>cases b3<;>cases b4<;>cases b5<;>simp_all
   have hs:True:=trivial;rcases hcs with⟨g1,g2,g3,g4,g5,g6,g7⟩|⟨gA,hcs⟩
   ·have hs:=za hx (za hy (za hlt (za hlt2 (za hw (za g1 (za g2 (za g3 (za g4 (za g5 (za g6 g7))))))))));repeat' first|with_reducible refine zz ?_|simp -dsimp[hs]|refine zp c6 ?_|refine zp c7 ?_|refine zp c8 ?_|refine zp c9 ?_|refine zp c10 ?_|refine zp c11 ?_|refine F9 (id:=7) (nt:=132) 13 [6,7,8,9,10] Yc Qv mixed rfl (by kernel_rfl) ?_|with_reducible refine zE Qv ?_|refine i9 ?_ ?_<;>intro h<;>try exact h.elim
    all_goals try clear hs
    all_goals exact zn ⟨k+1,by omega,by rw[Bool.eq_iff_iff];exact hst.trans ⟨λh=>h.2,λh=>⟨⟨g1,g2,g3,g4,g5,g6,g7⟩,h⟩⟩⟩ (zw [1,3,4] 3)
   ·rcases hcs with⟨g1,g2,g3,g4,g5,g6,g7⟩|⟨g1,g2,g3,g4,g5,g6,g7⟩|⟨g1,g2,g3,g4,g5,g6,g7⟩|⟨g1,g2,g3,g4,g5,g6,g7⟩|⟨g1,g2,g3,g4,g5,g6,g7⟩|⟨g1,g2,g3,g4,g5,g6,g7⟩|⟨g1,g2,g3,g4,g5,g6,g7⟩
    all_goals
     have hs:=za hx (za hy (za hlt (za hlt2 (za hw (za g1 (za g2 (za g3 (za g4 (za g5 (za g6 g7))))))))));repeat' first|(with_reducible first|refine zz ?_|refine zr ?_)|simp -dsimp[hs]|refine zp c6 ?_|refine zp c7 ?_|refine zp c8 ?_|refine zp c9 ?_|refine zp c10 ?_|refine zp c11 ?_|refine F9 (id:=7) (nt:=132) 13 [6,7,8,9,10] Yc Qv mixed rfl (by kernel_rfl) ?_|with_reducible refine zE Qv ?_|refine i9 ?_ ?_<;>intro h<;>try exact h.elim
     all_goals try clear hs
    all_goals exact gA
  ·obtain rfl:k=c.pieces.length:=by omega
   have hA1:A=true:=by rw[hrest,List.drop_eq_nil_of_le (by rw[List.length_zip];omega)];rfl
   subst hA1;have hs:=hlt;repeat' first|(with_reducible first|refine zz ?_|refine zr ?_|refine zE Qv ?_)|simp -dsimp[hs]|refine i9 ?_ ?_<;>intro h<;>try exact h.elim
   all_goals try clear hs
theorem xt (c:Case) (hk:KC c):zP prog G 50 [n5 c] (iv (s6 c)):=by
 refine zf func50 ntmps50 ?_;try simp only[iv]
 have c1:=xp (G:=G) c.p hk.p;simp only[C7,r7] at c1;by_cases h0:u4 c.p=0
 ·have c2:=Ek (G:=G) c (D9 h0).2.2 hk;have hE:s6 c=if aj c=true then 0 else 100:=by unfold s6;rw[if_neg (by simp[h0])]
  rw[hE];rw[h0] at c1;simp only[n5,j4] at c2;generalize aj c=b at *;cases b
  ·have hs:=trivial;repeat' first|(with_reducible first|refine zz ?_|refine zr ?_|refine zE [0,1,2,3,8,12] ?_)|simp -dsimp[hs]|refine zp c1 ?_|refine zp c2 ?_|refine i9 ?_ ?_<;>intro h<;>try exact h.elim
  ·have hs:=trivial;repeat' first|(with_reducible first|refine zz ?_|refine zr ?_|refine zE [0,1,2,3,8,12] ?_)|simp -dsimp[hs]|refine zp c1 ?_|refine zp c2 ?_|refine i9 ?_ ?_<;>intro h<;>try exact h.elim
 ·have hE:s6 c=u4 c.p:=by unfold s6;rw[if_pos h0]
  rw[hE];have hs:=h0;repeat' first|(with_reducible first|refine zz ?_|refine zr ?_|refine zE [0,1,2,3,8,12] ?_)|simp -dsimp[hs]|refine zp c1 ?_|refine i9 ?_ ?_<;>intro h<;>try exact h.elim
@[simp] abbrev Ww:List Nat:=[0,1,2,3,4,5,18]
theorem DL (p:Prints) (hs:Dl p):zP prog G 63 [C7 p] (C7 p):=by
 refine zf func63 ntmps63 ?_;try simp only[iv]
 have c1:=DM (G:=G) p.n hs.1;have hl:=hs.2.1;have hl2:=hs.2.2.1;simp only[o8,u5] at c1;have hs:=trivial;repeat' first|(with_reducible first|refine zz ?_|refine And.intro (by omega) ?_)|simp -dsimp[hs]|refine zq c1 ?_|refine tf (id:=1) (nt:=38) 9 [] [0,1,2,3,4,5,6,7,8,9,10,11,12,13,18] Ww mixed rfl (by kernel_rfl) ?_|with_reducible refine zE Ww ?_
 all_goals try clear hs
 refine qL (Weak.nilCell 6 2 rfl rfl) ?_;refine i6 (ι:={ q:Nat×Nat×Nat×Bool // q.1<=p.holders.length/\(q.2.2.1=4\/q.2.2.2=true) }) (λq=>⟨38,[(1,.one (.ptr 0 0)),(2,.one (.ptr 5 0)),(3,.one (.ptr 6 0)),(4,iv (q.1.1:Int))],[.row ((r7 p).map .im),.vec 0 [] 0 true,.vec 0 [] 0 true,.vec 0 [] 0 true,.vec 0 [] 0 true,.row [.vec 1 0 0 0,.vec 2 0 0 0,.vec 3 0 0 0,.vec 4 0 0 0],.row [.im (.sl (p.n.reg.map e8)),.im (.sl (p.n.notes.map j9)),.vec 7 q.1.2.1 0 q.1.1,.im (.sl (p.prints.map A0))],.vec q.1.2.2.1 (l7 ((p.holders.take q.1.1).map n4)) q.1.2.1 q.1.2.2.2]⟩) (λq=>p.holders.length-q.1.1) ⟨(0,0,0,true),by simp⟩ (zv [1,2,3,4]) ?_;rintro⟨⟨k,g,sz,nl⟩,hk,hz⟩;simp only at hk hz;simp only[iv];have htk:(l7 ((p.holders.map n4).take k)).take k=l7 ((p.holders.map n4).take k):=List.take_of_length_le (by simp[q8];omega);by_cases hlt:k<p.holders.length
 ·have hx:p.holders[k]?=some p.holders[k]:=by simp[hlt]
  have hw:=zk k;have hmin:min k p.holders.length=k:=Nat.min_eq_left (by omega);have hln:=hs.2.2.2 p.holders[k] (List.getElem_mem hlt);have hsn:(p.holders.map n4).take (k+1)=(p.holders.map n4).take k++[n4 p.holders[k]]:=by
   rw[List.take_succ];simp[hx]
  have hs:=za hx (za hw (za hlt (za hz hmin)));repeat' first|(with_reducible first|refine zz ?_|refine And.intro (by omega) ?_|refine zE Ww ?_)|simp -dsimp[hs]|refine i9 ?_ ?_<;>intro h<;>try exact h.elim
  all_goals try clear hs
  all_goals try omega
  exact zn ⟨(k+1,g+1,4,false),by simp;omega⟩ (zw [1,2,3,4] 8 (by simp[hsn,htk,W9]))
 ·have hkl:k=p.holders.length:=by omega
  subst hkl;have hall:(p.holders.map n4).take p.holders.length=p.holders.map n4:=List.take_of_length_le (by simp);rw[hall] at htk;have hs:=za hall htk;repeat' first|(with_reducible first|refine zz ?_|refine zr ?_|refine zE Ww ?_)|simp -dsimp[hs]|refine i9 ?_ ?_<;>intro h<;>try exact h.elim
  all_goals try clear hs
def no (c:Case):Prop:=Dl c.p/\c.loop.links.length<=16/\c.pieces.length<=16
def Q5 (c:Case):Bool:=eZ c.p&&(decide (c.loop.links.length<=16)&&decide (c.pieces.length<=16))
theorem yj (c:Case):zP prog G 15 [n5 c] (bv (!Q5 c)):=by
 refine zf func15 ntmps15 ?_;try simp only[iv]
 have c1:=BY (G:=G) c.p;simp only[C7,r7] at c1;unfold Q5;generalize eZ c.p=b at *;have hs:True:=trivial;by_cases h1:c.loop.links.length<=16
 ·have h1':¬ (16:Int)<c.loop.links.length:=by omega
  by_cases h2:c.pieces.length<=16
  ·have h2':¬ (16:Int)<c.pieces.length:=by omega
   cases b
   all_goals
    have hs:=za h1 (za h2 (za h1' h2'));repeat' first|(with_reducible first|refine zz ?_|refine zr ?_|refine zE [0,1,2] ?_)|simp -dsimp[hs]|refine zp c1 ?_
  ·have h2':(16:Int)<c.pieces.length:=by omega
   cases b
   all_goals
    have hs:=za h1 (za h2 (za h1' h2'));repeat' first|(with_reducible first|refine zz ?_|refine zr ?_|refine zE [0,1,2] ?_)|simp -dsimp[hs]|refine zp c1 ?_
 ·have h1':(16:Int)<c.loop.links.length:=by omega
  cases b
  all_goals
   have hs:=za h1 h1';repeat' first|(with_reducible first|refine zz ?_|refine zr ?_|refine zE [0,1,2] ?_)|simp -dsimp[hs]|refine zp c1 ?_
theorem Af (c:Case) (hs:no c):zP prog G 16 [n5 c] (n5 c):=by
 refine zf func16 ntmps16 ?_;try simp only[iv]
 have c1:=DL (G:=G) c.p hs.1;have hl:=hs.2.1;have hq:=hs.2.2;simp only[C7,r7] at c1;have hs:=trivial;repeat' first|(with_reducible first|refine zz ?_|refine And.intro (by omega) ?_|refine zr ?_)|simp -dsimp[hs]|refine zp c1 ?_|refine zM 2 20 11 [0,1,2] ?_|with_reducible refine zE [0,1,2] ?_
 all_goals try clear hs
def NKind (n:Notes):Prop:=(∀ x∈n.reg,0<=x.kind/\x.kind<=255)/\∀ x∈n.notes,0<=x.ways/\x.ways<=255/\0<=x.signed/\x.signed<=255
theorem Ir {n:Notes} (hk:NKind n) (h:U0 n=true):kf n/\wG n:=by
 simp only[U0,Bool.and_eq_true,decide_eq_true_eq] at h;refine⟨h,⟨h.1.1,λx hx=>⟨(hk.1 x hx).1,(hk.1 x hx).2,h.1.2 x hx⟩⟩,h.2,hk.2⟩
def lg (x:Print):Prop:=0<=x.lost/\x.lost<=255
def W0 (p:Prints):Prop:=NKind p.n/\∀ x∈p.prints,lg x
theorem Dx {c:Case} (hk:W0 c.p) (h:Q5 c=true):no c/\KC c:=by
 simp only[Q5,eZ,Bool.and_eq_true,decide_eq_true_eq,List.all_eq_true] at h;obtain⟨⟨h1,h2,h3,h4⟩,h5,h6⟩:=h;obtain⟨hN,hM⟩:=Ir hk.1 h1;have hr:=hM.1.1;have hnl:(nums c.p.n.reg).length<=c.p.n.reg.length:=w5 c.p.n.reg c.p.n.reg.length;exact⟨⟨⟨hN,h2,h3,h4⟩,h5,h6⟩,⟨⟨hM,⟨by omega,by omega,h2,h3,h4,hk.2⟩⟩,h5,h6⟩⟩
theorem lJ (d i w:Int) (l:List Print):(bL d i w l).length<=l.length+1:=by
 unfold bL;rw[List.length_drop];have h1:=bj (l5 (aP d i w l++[cj d i w l]));rw[O9,List.length_append,List.length_singleton] at h1;have h2:=mf d i w l;omega
theorem BB (c:Case) (n:Int):(kQ c n).length<=c.p.prints.length+1:=by
 unfold kQ;split
 ·unfold N5;split
  ·unfold P1;split
   ·exact lJ _ _ _ _
   ·simp
  ·simp
 ·simp
end Go.Proofs
