/- Part 18 of the proofs. -/
import Derived.Test.YtlmlkkoapahmjaaGreatDoorR08
import Derived.Test.YtlmlkkoapahmjaaGreatDoorR09
import Derived.Test.YtlmlkkoapahmjaaGreatDoorR12
import Derived.Test.YtlmlkkoapahmjaaGreatDoorR14
import Derived.Test.YtlmlkkoapahmjaaGreatDoorR15
import Derived.Test.YtlmlkkoapahmjaaGreatDoorR16
import Derived.Test.YtlmlkkoapahmjaaGreatDoorR17
set_option linter.all false
set_option maxHeartbeats 100000000
namespace Go.Proofs
open Go Go.Ab Tryz
variable {G:LY}
noncomputable def I6 (c:Case) (k:Nat):List Int:=match c.pieces[k]?,c.loop.links[k]? with
 | some x,some y=>O4 c.p x.day x.holder y.drawing
 | _,_=>[]
theorem rm {c:Case} {k:Nat} (h1:k<c.pieces.length) (h2:k<c.loop.links.length):I6 c k=O4 c.p c.pieces[k].day c.pieces[k].holder c.loop.links[k].drawing:=by
 unfold I6;rw[List.getElem?_eq_getElem h1,List.getElem?_eq_getElem h2]
noncomputable def V8 (c:Case) (n:Int):Int:=if s9 c≠0 then s9 c else if 0<=n/\n<c.pieces.length then 0 else 2
noncomputable def ij (c:Case) (n:Int):List Int:=if V8 c n=0 then I6 c n.toNat else []
theorem AO (c:Case) (k:Nat) (h1:k<c.pieces.length) (h2:k<c.loop.links.length) (hG:p8 G) (hN:E5 G) (hS:v8 G) (hR:A0 G) (hk:KC c):zP prog G 81 [n4 c,iv (k:Int)] (v6 (I6 c k)):=by
 refine zf func81 ntmps81 ?_;try simp only[iv]
 rw[rm h1 h2];generalize hx:c.pieces[k]=x at *;generalize hy:c.loop.links[k]=y at *;have c1:=Am (G:=G) c.p x.day x.holder y.drawing hG hN hS hR hk.p;simp only[C9,o8] at c1;generalize O4 c.p x.day x.holder y.drawing=L at *;generalize U2 c.p x.day 1 x.holder y.drawing=e at *;have hs:=za hx (za hy (za h1 h2));repeat' first|(with_reducible first|refine zz ?_|refine zr ?_)|simp -dsimp[hs]|refine zq c1 ?_|refine zM 2 31 19 [0,1,2,4,5,6] ?_|with_reducible refine zE [0,1,2,4,5,6] ?_
@[simp] abbrev WP:List Nat:=[0,1,2,4,5,6,10,19]
theorem mK (c:Case) (n:Int) (hG:p8 G) (hN:E5 G) (hS:v8 G) (hR:A0 G) (hk:KC c):zP prog G 35 [n4 c,iv n] (.tup [v6 (ij c n),iv (V8 c n)]):=by
 refine zf func35 ntmps35 ?_;try simp only[iv]
 have c1:=jb (G:=G) c hG hN hS hR hk;have hq:=hk.q;by_cases h0:s9 c=0
 ·have hok:=F5 (C2 h0).2;have hE:V8 c n=if 0<=n/\n<c.pieces.length then 0 else 2:=by unfold V8;rw[if_neg (by simp[h0])]
  have hlen:=hok.e;have hl:=hok.l;have hw:IntKind.i64.wrap ((c.pieces.length:Int)-1)=(c.pieces.length:Int)-1:=o7 (by omega) (by omega);have c2:=P2 (G:=G) 0 ((c.pieces.length:Int)-1) [n] (by simp);unfold ij;rw[hE];rw[h0] at c1;by_cases hn:0<=n/\n<c.pieces.length
  ·rw[if_pos hn,if_pos rfl];obtain⟨k,rfl⟩:=Int.eq_ofNat_of_zero_le hn.1;rw[Int.toNat_natCast];have c3:=AO (G:=G) c k (by omega) (by omega) hG hN hS hR hk;rw[show ([(k:Int)].all λy=>decide (0<=y)&&decide (y<=(c.pieces.length:Int)-1))=true by simp;omega] at c2;generalize I6 c k=L at *;simp only[n4,j4] at c1 c3;have hs:=hw;repeat' first|(with_reducible first|refine zz ?_|refine zr ?_|refine zE WP ?_)|simp -dsimp[hs]|refine zp c1 ?_|refine zt c2 ?_ ?_ ?_;(focus simp;done);focus (simp;done)|refine zp c3 ?_|refine i8 ?_ ?_<;>intro h<;>try exact h.elim
  ·rw[if_neg hn,if_neg (by decide)];rw[show ([n].all λy=>decide (0<=y)&&decide (y<=(c.pieces.length:Int)-1))=false by simp;omega] at c2;simp only[n4,j4] at c1;have hs:=hw;repeat' first|(with_reducible first|refine zz ?_|refine zr ?_|refine zE WP ?_)|simp -dsimp[hs]|refine zp c1 ?_|refine zt c2 ?_ ?_ ?_;(focus simp;done);focus (simp;done)|refine i8 ?_ ?_<;>intro h<;>try exact h.elim
 ·have hE:V8 c n=s9 c:=by unfold V8;rw[if_pos h0]
  have hO:ij c n=[]:=by unfold ij;rw[if_neg (by rw[hE];exact h0)]
  rw[hE,hO];simp only[n4,j4] at c1;have hs:=h0;repeat' first|(with_reducible first|refine zz ?_|refine zr ?_|refine zE WP ?_)|simp -dsimp[hs]|refine zp c1 ?_|refine i8 ?_ ?_<;>intro h<;>try exact h.elim
theorem bM (n lo hi:Int):zP prog G 232 [iv n,iv lo,iv hi] (bv (decide (lo<=n)&&decide (n<=hi))):=by
 refine zf func232 ntmps232 ?_;try simp only[iv,iv,iv]
 have hs:=trivial;repeat' first|(with_reducible first|refine zz ?_|refine zr ?_|refine zE [0,1,2,6] ?_)|simp -dsimp[hs]|with_reducible refine j0 ?_ ?_<;>intro h<;>have h0:=h<;>(try simp only[i7] at h)<;>have h2:=h<;>(try simp at h2)<;>replace hs:=za h0 (za h (za h2 hs))
 all_goals try clear hs
 all_goals simp[*]
theorem Hb (l:List Int) (n:Int) (hl:l.length<1000000):zP prog G 233 [v6 l,iv n] (bv (decide (n∈l))):=by
 refine zf func233 ntmps233 ?_;try simp only[v6,iv]
 have hs:=trivial;repeat' first|(with_reducible first|refine zz ?_|refine zE [0,1,4,5,9,17] ?_)|simp -dsimp[hs]
 refine i6 (ι:={ k:Nat // k<=l.length/\decide (n∈l)=decide (n∈l.drop k) }) (λi=>⟨18,[(0,v6 l),(1,iv n),(5,iv (i.1:Int))],[]⟩) (λi=>l.length-i.1) ⟨0,by simp⟩ (zv [0,1,5]) ?_;rintro⟨i,hi,hno⟩;simp only[iv,v6];by_cases hlt:i<l.length
 ·have hw:=zk i;rw[List.drop_eq_getElem_cons hlt] at hno;generalize hx:l[i]=x at *;have hs:=za hx (za hw hlt);repeat' first|(with_reducible first|refine zz ?_|refine zr ?_|refine zE [0,1,4,5,9,17] ?_)|simp -dsimp[hs]|refine i8 ?_ ?_<;>intro h<;>try exact h.elim
  all_goals try clear hs
  ·exact of_decide_eq_true (by rw[hno];simp[*])
  ·exact zn ⟨i+1,by omega,by rw[hno,decide_eq_decide,List.mem_cons];exact or_iff_right (λe=>absurd e.symm (by assumption))⟩ (zv [0,1,5])
 ·rw[List.drop_eq_nil_of_le (by omega)] at hno;have hs:=hlt;repeat' first|(with_reducible first|refine zz ?_|refine zr ?_|refine zE [0,1,4,5,9,17] ?_)|simp -dsimp[hs]|refine i8 ?_ ?_<;>intro h<;>try exact h.elim
  exact λhm=>by simp[hm] at hno
theorem rH (p:Prints) (n:Int) (hl:p.holders.length<1000):zP prog G 138 [C9 p,iv n] (iv (J1 (λy=>decide (y.id=n)) p.holders)):=by
 refine zf func138 ntmps138 ?_;try simp only[iv]
 have hs:=trivial;repeat' first|(with_reducible first|refine zz ?_|refine zE [0,1,2,4,5,10,20] ?_)|simp -dsimp[hs]
 refine i6 (ι:={ k:Nat // k<=p.holders.length/\∀ (j:Nat) (x:Holder),j<k->p.holders[j]?=some x->decide (x.id=n)=false }) (λi=>⟨22,[(1,iv n),(2,.one (.ptr 0 0)),(5,iv (i.1:Int))],[.row ((o8 p).map .im)]⟩) (λi=>p.holders.length-i.1) ⟨0,by simp⟩ (zv [1,2,5]) ?_;rintro⟨i,hi,hno⟩;simp only[iv];by_cases hlt:i<p.holders.length
 ·have hw:=zk i;have hx0:p.holders[i]?=some p.holders[i]:=by simp[hlt]
  generalize hx:p.holders[i]=x at *;have hs:=za hx (za hw hlt);repeat' first|(with_reducible first|refine zz ?_|refine zr ?_|refine zE [0,1,2,4,5,10,20] ?_)|simp -dsimp[hs]|refine i8 ?_ ?_<;>intro h<;>try exact h.elim
  all_goals try clear hs
  ·exact(N4 hx0 (by simp[*]) hno).symm
  ·exact At.round ⟨i+1,by omega,λj z hj hjx=>by
    by_cases e:j=i
    ·subst e;rw[hx0] at hjx;cases hjx;simp[*]
    ·exact hno j z (by omega) hjx⟩ (by simp;omega) (zv [1,2,5])
 ·have hs:=hlt;repeat' first|(with_reducible first|refine zz ?_|refine zr ?_|refine zE [0,1,2,4,5,10,20] ?_)|simp -dsimp[hs]|refine i8 ?_ ?_<;>intro h<;>try exact h.elim
  exact(T5 λj z hjx=>hno j z (by have:=e7 hjx;omega) hjx).symm
@[simp] abbrev QE:List Nat:=[0,1,2,4,5,6,7,51,60,88]
open Classical in
theorem wD (p:Prints) (k:Nat) (x:Holder) (hx0:p.holders[k]?=some x) (hsm:SmallP p):zP prog G 182 [C9 p,iv (k:Int)] (bv (decide (sX (nums p.n.reg) p.holders k x))):=by
 refine zf func182 ntmps182 ?_;try simp only[iv]
 have hlt:k<p.holders.length:=e7 hx0;have hx:p.holders[k]=x:=(List.getElem?_eq_some_iff.1 hx0).2;have hdl:x.draws.length<=20:=hsm.d x (by rw[<- hx];exact List.getElem_mem hlt);have hh:=hsm.h;have hr:=hsm.r;have hrl:=hsm.l;have c1:=bM (G:=G) x.id 1 9999;have c2:=bM (G:=G) x.frm 1 x.to;have c3:=ju (G:=G) p.n.reg (by omega);have c4:=λd=>Hb (G:=G) (nums p.n.reg) d (by omega);have hs:True:=trivial;by_cases hA:Kf p.holders k x
 ·obtain⟨a1,a3,a4,a6,a8,a9⟩:=id hA;rw[show (decide (1<=x.id)&&decide (x.id<=9999))=true by simp;omega] at c1;rw[show (decide (1<=x.frm)&&decide (x.frm<=x.to))=true by simp;omega] at c2;have a8':¬ (999:Int)<x.to:=by omega
  have a9':¬ (8:Int)<x.draws.length:=by omega
  have hcs:(¬ 0<k/\True/\∃ _:True,True)\/(0<k/\IntKind.i64.wrap ((k:Int)-1)=((k-1:Nat):Int)/\∃ h:k-1<p.holders.length,¬ x.id<=(p.holders[k-1]'h).id):=by
   rcases Nat.eq_zero_or_pos k with h0|h0
   ·exact .inl ⟨by omega,trivial,trivial,trivial⟩
   ·have h1:k-1<p.holders.length:=by omega
    exact .inr ⟨by omega,by rw[o7 (by omega) (by omega)];omega,h1,by have:=a3 h0 _ (List.getElem?_eq_getElem h1);omega⟩
  rcases hcs with⟨hk0,hwm,hi1,hlt1⟩|⟨hk0,hwm,hi1,hlt1⟩
  all_goals
   have hs:=za hx (za hlt (za a8' (za a9' (za hk0 (za hwm (za hi1 hlt1))))));repeat' first|with_reducible refine zz ?_|simp -dsimp[hs]|refine zq c1 ?_|refine zq c2 ?_|refine zp c3 ?_|refine zM 2 89 39 QE ?_|with_reducible refine zE QE ?_|refine i8 ?_ ?_<;>intro h<;>try exact h.elim
  all_goals
   refine i6 (ι:={ j:Nat // j<=x.draws.length/\∀ (i:Nat) (d:Int),i<j->x.draws[i]?=some d->Ew (nums p.n.reg) x.draws i d }) (λq=>⟨89,[(5,.one (.ptr 2 0)),(6,v6 (nums p.n.reg)),(7,iv (q.1:Int))],[.row ((o8 p).map .im),.vec 0 [] 0 true,.row ((p7 x).map .im)]⟩) (λq=>x.draws.length-q.1) ⟨0,by simp⟩ (zv [5,6,7]) ?_;rintro⟨j,hj,hjok⟩;simp only[iv,v6];by_cases hlj:j<x.draws.length
   ·have hx1:x.draws[j]?=some x.draws[j]:=by simp[hlj]
    have hwj:=zk j;have c5:=c4 x.draws[j];have hcj:(¬ 0<j/\True/\∃ _:True,True)\/(0<j/\IntKind.i64.wrap ((j:Int)-1)=((j-1:Nat):Int)/\∃ h:j-1<x.draws.length,True):=by
     rcases Nat.eq_zero_or_pos j with h0|h0
     ·exact .inl ⟨by omega,trivial,trivial,trivial⟩
     ·exact .inr ⟨by omega,by rw[o7 (by omega) (by omega)];omega,by omega,trivial⟩
    have hbadj:¬ Ew (nums p.n.reg) x.draws j x.draws[j]->decide (sX (nums p.n.reg) p.holders k x)=false:=λh=>decide_eq_false λh'=>h (h'.2 j _ hx1);have hstj:Ew (nums p.n.reg) x.draws j x.draws[j]->∀ (i:Nat) (d:Int),i<j+1->x.draws[i]?=some d->Ew (nums p.n.reg) x.draws i d:=λh i d hi hd=>by
     by_cases e:i=j
     ·subst e;rw[hx1] at hd;cases hd;exact h
     ·exact hjok i d (by omega) hd
    generalize decide (sX (nums p.n.reg) p.holders k x)=B at *;rcases hcj with⟨hj0,hwmj,hij,-⟩|⟨hj0,hwmj,hij,-⟩
    all_goals
     have hs:=za hx1 (za hlj (za hj0 (za hwmj (za hij hwj))));repeat' first|(with_reducible first|refine zz ?_|refine zr ?_)|simp -dsimp[hs]|refine zq c5 ?_|refine zM 8 89 26 QE ?_|with_reducible refine zE QE ?_|refine i8 ?_ ?_<;>intro h<;>try exact h.elim|with_reducible refine j0 ?_ ?_<;>intro h<;>have h0:=h<;>(try simp only[i7] at h)<;>have h2:=h<;>(try simp at h2)<;>replace hs:=za h0 (za h (za h2 hs))
     all_goals try clear hs
    all_goals first
     | exact zn ⟨j+1,by omega,hstj ⟨of_decide_eq_true (by assumption),λh1 e he=>by first|omega|(obtain⟨_,rfl⟩:=List.getElem?_eq_some_iff.1 he;omega)⟩⟩ (zv [5,6,7])
     | (refine hbadj λhh=>?_;have:=hh.1;simp_all;done)
     | (refine hbadj λhh=>?_;have:=hh.2 (by omega) _ (List.getElem?_eq_getElem hij);omega)
   ·have hyes:decide (sX (nums p.n.reg) p.holders k x)=true:=decide_eq_true ⟨hA,λi d hd=>hjok i d (by have:=e7 hd;omega) hd⟩;rw[hyes];have hs:=hlj;repeat' first|(with_reducible first|refine zz ?_|refine zr ?_|refine zE QE ?_)|simp -dsimp[hs]|refine i8 ?_ ?_<;>intro h<;>try exact h.elim
 ·have hno:decide (sX (nums p.n.reg) p.holders k x)=false:=decide_eq_false λh=>hA h.1;rw[hno];generalize hb1:(decide (1<=x.id)&&decide (x.id<=9999))=b1 at c1;generalize hb2:(decide (1<=x.frm)&&decide (x.frm<=x.to))=b2 at c2;have hcs:(¬ 0<k/\True/\∃ _:True,True)\/(0<k/\IntKind.i64.wrap ((k:Int)-1)=((k-1:Nat):Int)/\∃ h:k-1<p.holders.length,True):=by
   rcases Nat.eq_zero_or_pos k with h0|h0
   ·exact .inl ⟨by omega,trivial,trivial,trivial⟩
   ·exact .inr ⟨by omega,by rw[o7 (by omega) (by omega)];omega,by omega,trivial⟩
  rcases hcs with⟨hk0,hwm,hi1,-⟩|⟨hk0,hwm,hi1,-⟩<;>cases b1<;>cases b2
  all_goals
   have hs:=za hx (za hlt (za hk0 (za hwm hi1)));repeat' first|(with_reducible first|refine zz ?_|refine zr ?_)|simp -dsimp[hs]|refine zq c1 ?_|refine zq c2 ?_|refine zM 2 89 39 QE ?_|with_reducible refine zE QE ?_|refine i8 ?_ ?_<;>intro h<;>try exact h.elim|with_reducible refine j0 ?_ ?_<;>intro h<;>have h0:=h<;>(try simp only[i7] at h)<;>have h2:=h<;>(try simp at h2)<;>replace hs:=za h0 (za h (za h2 hs))
  ·refine absurd ?_ hA;simp at hb1 hb2;exact⟨by omega,λh1=>by omega,by omega,by omega,by omega,by omega⟩
  ·refine absurd ?_ hA;simp at hb1 hb2;exact⟨by omega,λh1 y hy=>by
    obtain⟨_,rfl⟩:=List.getElem?_eq_some_iff.1 hy
    simp_all<;>omega,by omega,by omega,by omega,by omega⟩
theorem Au (l:List Issue) (x:Print):(p6 l x.drawing x.letter).isSome=Gr l x:=by
 unfold p6 Gr;rw[Bool.eq_iff_iff,List.find?_isSome,List.any_eq_true];refine exists_congr λy=>and_congr_right λ_=>?_;simp only[Bool.and_eq_true,beq_iff_eq,decide_eq_true_eq];constructor<;>exact λ⟨h1,h2⟩=>⟨h1.symm,h2.symm⟩
theorem DB (p:Prints) (i:Nat) (x:Print):wR p i x↔(0<i->∀ y,p.prints[i-1]?=some y->y.number<x.number)/\HT x=true/\IB p.holders x=true/\Gr p.n.reg x=true/\HS x=true/\HR x=true:=by
 refine and_congr_right λ_=>⟨λh=>⟨h 0 (by omega),h 1 (by omega),h 2 (by omega),h 3 (by omega),h 4 (by omega)⟩,λ⟨h1,h2,h3,h4,h5⟩ c hc=>?_⟩
 match c,hc with
 | 0,_=>exact h1
 | 1,_=>exact h2
 | 2,_=>exact h3
 | 3,_=>exact h4
 | 4,_=>exact h5
theorem zK {B b1 b2 b3 b4 b5:Bool} {O:Prop} {f l r:Int} (hf3:b3=true↔¬ f<0) (hP:B=true↔O/\(b1&&b2)=true/\b3=true/\b4=true/\decide (l<=2)=true/\(decide (r=-1)||b5&&decide (l=0))=true):(b1=false/\True/\True/\True/\True/\True/\True/\B=false)\/(¬ O/\B=false)\/(O/\((b1=true/\b2=false/\True/\True/\True/\True/\True/\B=false)\/(b1=true/\b2=true/\f<0/\True/\True/\True/\True/\B=false)\/(b1=true/\b2=true/\¬ f<0/\2<l/\True/\True/\True/\B=false)\/(b1=true/\b2=true/\¬ f<0/\¬ 2<l/\b4=false/\True/\True/\B=false)\/(b1=true/\b2=true/\¬ f<0/\¬ 2<l/\b4=true/\r=-1/\True/\B=true)\/(b1=true/\b2=true/\¬ f<0/\¬ 2<l/\b4=true/\¬ r=-1/\b5=false/\B=false)\/(b1=true/\b2=true/\¬ f<0/\¬ 2<l/\b4=true/\¬ r=-1/\b5=true/\B=decide (l=0)))):=by
 have hn:¬ (O/\(b1&&b2)=true/\b3=true/\b4=true/\decide (l<=2)=true/\(decide (r=-1)||b5&&decide (l=0))=true)->B=false:=λh=>Bool.eq_false_iff.2 λe=>h (hP.1 e);have t:=trivial;by_cases hO:O
 ·cases b1 with
  | false=>exact .inl ⟨rfl,t,t,t,t,t,t,hn λh=>by simpa using h.2.1⟩
  | true =>
    refine .inr (.inr ⟨hO,?_⟩);cases b2 with
    | false=>exact .inl ⟨rfl,rfl,t,t,t,t,t,hn λh=>by simpa using h.2.1⟩
    | true =>
      by_cases q2:f<0
      ·exact .inr (.inl ⟨rfl,rfl,q2,t,t,t,t,hn λh=>hf3.1 h.2.2.1 q2⟩)
      ·by_cases q3:2<l
       ·exact .inr (.inr (.inl ⟨rfl,rfl,q2,q3,t,t,t,hn λh=>by have:=of_decide_eq_true h.2.2.2.2.1;omega⟩))
       ·have h2:decide (l<=2)=true:=decide_eq_true (by omega);have hb3:b3=true:=hf3.2 q2;cases b4 with
        | false=>exact .inr (.inr (.inr (.inl ⟨rfl,rfl,q2,q3,rfl,t,t,hn λh=>Bool.noConfusion h.2.2.2.1⟩)))
        | true =>
          by_cases q4:r=-1
          ·exact .inr (.inr (.inr (.inr (.inl ⟨rfl,rfl,q2,q3,rfl,q4,t,hP.2 ⟨hO,rfl,hb3,rfl,h2,by rw[decide_eq_true q4];rfl⟩⟩))))
          ·cases b5 with
           | false=>exact .inr (.inr (.inr (.inr (.inr (.inl ⟨rfl,rfl,q2,q3,rfl,q4,rfl,hn λh=>by have:=h.2.2.2.2.2;rw[decide_eq_false q4] at this;simp at this⟩)))))
           | true =>
             refine .inr (.inr (.inr (.inr (.inr (.inr ⟨rfl,rfl,q2,q3,rfl,q4,rfl,?_⟩)))));by_cases q5:l=0
             ·rw[decide_eq_true q5];exact hP.2 ⟨hO,rfl,hb3,rfl,h2,by rw[decide_eq_true q5];simp⟩
             ·rw[decide_eq_false q5];exact hn λh=>by have:=h.2.2.2.2.2;rw[decide_eq_false q4,decide_eq_false q5] at this;simp at this
 ·exact .inr (.inl ⟨hO,hn λh=>hO h.1⟩)
@[simp] abbrev QR:List Nat:=[0,1,2,4,5,7,50,61]
open Classical in
theorem zZ (p:Prints) (k:Nat) (x:Print) (hx0:p.prints[k]?=some x) (hsm:SmallP p):zP prog G 183 [C9 p,iv (k:Int)] (bv (decide (wR p k x))):=by
 refine zf func183 ntmps183 ?_;try simp only[iv]
 have hlt:k<p.prints.length:=e7 hx0;have hx:p.prints[k]=x:=(List.getElem?_eq_some_iff.1 hx0).2;have hlo:=hsm.lo x (by rw[<- hx];exact List.getElem_mem hlt);have hh:=hsm.h;have hrl:=hsm.l;have hql:=hsm.q;have c1:=bM (G:=G) x.number 1 9999;have c2:=bM (G:=G) x.day 0 14610;have c3:=rH (G:=G) p x.holder (by omega);have c4:=uh (G:=G) p.n.reg x.drawing x.letter (by omega);have c5:=bM (G:=G) x.back x.day 14610;have hf:=vS (λy:Holder=>decide (y.id=x.holder)) p.holders;have hP:=DB p k x;rw[<- Au,show IB p.holders x=p.holders.any (λy=>decide (y.id=x.holder)) from rfl] at hP;simp only[E0] at c4;generalize J1 (λy:Holder=>decide (y.id=x.holder)) p.holders=f at *;generalize (p.holders.any λy=>decide (y.id=x.holder))=b3 at *;generalize (p6 p.n.reg x.drawing x.letter).isSome=b4 at *;generalize (p6 p.n.reg x.drawing x.letter).getD K1=z at *;generalize hB:decide (wR p k x)=B;have hP':B=true↔wR p k x:=by rw[<- hB,decide_eq_true_eq]
 rw[hP] at hP';clear hP hB;generalize hb1:(decide (1<=x.number)&&decide (x.number<=9999))=b1 at c1;generalize hb2:(decide (0<=x.day)&&decide (x.day<=14610))=b2 at c2;generalize hb5:(decide (x.day<=x.back)&&decide (x.back<=14610))=b5 at c5;have e1:HT x=(b1&&b2):=by rw[<- hb1,<- hb2];rfl
 have e5:HR x=(decide (x.back=-1)||b5&&decide (x.lost=0)):=by rw[<- hb5];rfl
 rw[e1,e5,show HS x=decide (x.lost<=2) from rfl] at hP';clear e1 e5 hb1 hb2 hb5;have hf3:b3=true↔¬ f<0:=by cases b3<;>simpa using hf
 clear hf;have hs:True:=trivial;have hcs:(¬ 0<k/\True/\(∃ _:True,True)/\(0<k->∀ y,p.prints[k-1]?=some y->y.number<x.number))\/(0<k/\IntKind.i64.wrap ((k:Int)-1)=((k-1:Nat):Int)/\(∃ h:k-1<p.prints.length,¬ x.number<=(p.prints[k-1]'h).number)/\(0<k->∀ y,p.prints[k-1]?=some y->y.number<x.number))\/(0<k/\IntKind.i64.wrap ((k:Int)-1)=((k-1:Nat):Int)/\(∃ h:k-1<p.prints.length,x.number<=(p.prints[k-1]'h).number)/\¬ (0<k->∀ y,p.prints[k-1]?=some y->y.number<x.number)):=by
  rcases Nat.eq_zero_or_pos k with h0|h0
  ·exact .inl ⟨by omega,trivial,⟨trivial,trivial⟩,λh=>by omega⟩
  ·have h1:k-1<p.prints.length:=by omega
   have h2:=List.getElem?_eq_getElem h1;have hw:IntKind.i64.wrap ((k:Int)-1)=((k-1:Nat):Int):=by rw[o7 (by omega) (by omega)];omega
   by_cases h3:x.number<=(p.prints[k-1]'h1).number
   ·exact .inr (.inr ⟨h0,hw,⟨h1,h3⟩,λh=>by have:=h h0 _ h2;omega⟩)
   ·exact .inr (.inl ⟨h0,hw,⟨h1,h3⟩,λ_ y hy=>by rw[h2] at hy;cases hy;omega⟩)
 generalize (0<k->∀ y,p.prints[k-1]?=some y->y.number<x.number)=O at *;have hc2:=zK hf3 hP';rcases hc2 with⟨g1,g2,g3,g4,g5,g6,g7,gB⟩|⟨hO,gB⟩|⟨hO,hc2⟩
 ·clear hcs;have hs:=za hx (za hlt g1);repeat' first|(with_reducible first|refine zz ?_|refine zr ?_)|simp -dsimp[hs]|refine zq c1 ?_|refine zM 2 77 38 QR ?_|with_reducible refine zE QR ?_|refine i8 ?_ ?_<;>intro h<;>try exact h.elim
  all_goals try clear hs
  all_goals exact gB
 ·rcases hcs with⟨hk0,hwm,⟨hi1,hlt1⟩,hO1⟩|⟨hk0,hwm,⟨hi1,hlt1⟩,hO1⟩|⟨hk0,hwm,⟨hi1,hlt1⟩,hO1⟩
  ·exact absurd hO1 hO
  ·exact absurd hO1 hO
  ·cases b1
   all_goals
    have hs:=za hx (za hlt (za hk0 (za hwm (za hi1 hlt1))));repeat' first|(with_reducible first|refine zz ?_|refine zr ?_)|simp -dsimp[hs]|refine zq c1 ?_|refine zM 2 77 38 QR ?_|with_reducible refine zE QR ?_|refine i8 ?_ ?_<;>intro h<;>try exact h.elim
    all_goals try clear hs
   all_goals exact gB
 ·rcases hc2 with⟨g1,g2,g3,g4,g5,g6,g7,gB⟩|⟨g1,g2,g3,g4,g5,g6,g7,gB⟩|⟨g1,g2,g3,g4,g5,g6,g7,gB⟩|⟨g1,g2,g3,g4,g5,g6,g7,gB⟩|⟨g1,g2,g3,g4,g5,g6,g7,gB⟩|⟨g1,g2,g3,g4,g5,g6,g7,gB⟩|⟨g1,g2,g3,g4,g5,g6,g7,gB⟩<;>rcases hcs with⟨hk0,hwm,⟨hi1,hlt1⟩,hO1⟩|⟨hk0,hwm,⟨hi1,hlt1⟩,hO1⟩|⟨hk0,hwm,⟨hi1,hlt1⟩,hO1⟩
  all_goals first
   | exact absurd hO hO1
   | skip
  all_goals
   have hs:=za hx (za hlt (za hk0 (za hwm (za hi1 (za hlt1 (za g1 (za g2 (za g3 (za g4 (za g5 (za g6 g7)))))))))));repeat' first|(with_reducible first|refine zz ?_|refine zr ?_)|simp -dsimp[hs]|refine zq c1 ?_|refine zq c2 ?_|refine zq c3 ?_|refine zp c4 ?_|refine zp c5 ?_|refine zM 2 77 38 QR ?_|with_reducible refine zE QR ?_|refine i8 ?_ ?_<;>intro h<;>try exact h.elim
   all_goals try clear hs
  all_goals first
   | exact gB
   | exact gB.symm
   | trace_state
@[simp] abbrev Qu:List Nat:=[0,1,2,3,4,14,19,25,30,36]
open Classical in
theorem wH (p:Prints) (hsm:SmallP p):zP prog G 134 [C9 p] (bv (G9 p)):=by
 refine zf func134 ntmps134 ?_;try simp only[iv]
 have hh:=hsm.h;have hq:=hsm.q;by_cases h6:¬ p.holders.length<=6
 ·have h6':(6:Int)<p.holders.length:=by omega
  have hno:=L8 (p:=p) λh=>h6 h.hl;have hs:=h6';repeat' first|(with_reducible first|refine zz ?_|refine zr ?_|refine zE Qu ?_)|simp -dsimp[hs]|refine i8 ?_ ?_<;>intro h<;>try exact h.elim
  all_goals try clear hs
  all_goals simp[hno]
 replace h6:=Classical.not_not.1 h6;have h6':¬ (6:Int)<p.holders.length:=by omega
 by_cases h30:¬ p.prints.length<=30
 ·have h30':(30:Int)<p.prints.length:=by omega
  have hno:=L8 (p:=p) λh=>h30 h.pl;have hs:=za h6' h30';repeat' first|(with_reducible first|refine zz ?_|refine zr ?_|refine zE Qu ?_)|simp -dsimp[hs]|refine i8 ?_ ?_<;>intro h<;>try exact h.elim
  all_goals try clear hs
  all_goals simp[hno]
 replace h30:=Classical.not_not.1 h30;have h30':¬ (30:Int)<p.prints.length:=by omega
 have hs:=za h6' h30';repeat' first|(with_reducible first|refine zz ?_|refine zE Qu ?_)|simp -dsimp[hs]|refine i8 ?_ ?_<;>intro h<;>try exact h.elim
 all_goals try clear hs
 refine i6 (ι:={ k:Nat // k<=p.holders.length/\∀ (j:Nat) (x:Holder),j<k->p.holders[j]?=some x->sX (nums p.n.reg) p.holders j x }) (λq=>⟨37,[(1,.one (.ptr 0 0)),(3,iv (q.1:Int))],[.row ((o8 p).map .im)]⟩) (λq=>p.holders.length-q.1) ⟨0,by simp⟩ (zv [1,3]) ?_;rintro⟨k,hk,hok⟩;simp only[iv];by_cases hlt:k<p.holders.length
 ·have hx0:p.holders[k]?=some p.holders[k]:=by simp[hlt]
  have hw:=zk k;have c1:=wD (G:=G) p k _ hx0 hsm;generalize hx:p.holders[k]=x at *;have hstep:sX (nums p.n.reg) p.holders k x->∀ (j:Nat) (z:Holder),j<k+1->p.holders[j]?=some z->sX (nums p.n.reg) p.holders j z:=λh j z hj hz=>by
   by_cases e:j=k
   ·subst e;rw[hx0] at hz;cases hz;exact h
   ·exact hok j z (by omega) hz
  by_cases hB:sX (nums p.n.reg) p.holders k x
  ·rw[decide_eq_true hB] at c1;have hs:=za hlt hw;repeat' first|(with_reducible first|refine zz ?_|refine zE Qu ?_)|simp -dsimp[hs]|refine zp c1 ?_|refine i8 ?_ ?_<;>intro h<;>try exact h.elim
   all_goals try clear hs
   exact zn ⟨k+1,by omega,hstep hB⟩ (zv [1,3])
  ·rw[decide_eq_false hB] at c1;have hno:=L8 (p:=p) λh'=>hB (h'.h k x hx0);have hs:=za hlt hw;repeat' first|(with_reducible first|refine zz ?_|refine zr ?_|refine zE Qu ?_)|simp -dsimp[hs]|refine zp c1 ?_|refine i8 ?_ ?_<;>intro h<;>try exact h.elim
   all_goals try clear hs
   all_goals simp[hno]
 have hall:∀ i x,p.holders[i]?=some x->sX (nums p.n.reg) p.holders i x:=λi x hx=>hok i x (by have:=e7 hx;omega) hx;have hs:=hlt;repeat' first|(with_reducible first|refine zz ?_|refine zE Qu ?_)|simp -dsimp[hs]|refine i8 ?_ ?_<;>intro h<;>try exact h.elim
 all_goals try clear hs
 clear hlt hok hk;refine i6 (ι:={ k:Nat // k<=p.prints.length/\∀ (j:Nat) (x:Print),j<k->p.prints[j]?=some x->wR p j x }) (λq=>⟨37,[(1,.one (.ptr 0 0)),(4,iv (q.1:Int))],[.row ((o8 p).map .im)]⟩) (λq=>p.prints.length-q.1) ⟨0,by simp⟩ (zv [1,4]) ?_;rintro⟨k,hk,hok⟩;simp only[iv];by_cases hlt:k<p.prints.length
 ·have hx0:p.prints[k]?=some p.prints[k]:=by simp[hlt]
  have hw:=zk k;have c1:=zZ (G:=G) p k _ hx0 hsm;generalize hx:p.prints[k]=x at *;have hstep:wR p k x->∀ (j:Nat) (z:Print),j<k+1->p.prints[j]?=some z->wR p j z:=λh j z hj hz=>by
   by_cases e:j=k
   ·subst e;rw[hx0] at hz;cases hz;exact h
   ·exact hok j z (by omega) hz
  by_cases hB:wR p k x
  ·rw[decide_eq_true hB] at c1;have hs:=za hlt hw;repeat' first|(with_reducible first|refine zz ?_|refine zE Qu ?_)|simp -dsimp[hs]|refine zp c1 ?_|refine i8 ?_ ?_<;>intro h<;>try exact h.elim
   all_goals try clear hs
   exact zn ⟨k+1,by omega,hstep hB⟩ (zv [1,4])
  ·rw[decide_eq_false hB] at c1;have hno:=L8 (p:=p) λh'=>hB (h'.q k x hx0);have hs:=za hlt hw;repeat' first|(with_reducible first|refine zz ?_|refine zr ?_|refine zE Qu ?_)|simp -dsimp[hs]|refine zp c1 ?_|refine i8 ?_ ?_<;>intro h<;>try exact h.elim
   all_goals try clear hs
   all_goals simp[hno]
 have hyes:G9 p=true:=dP ⟨h6,h30,hall,λi x hx=>hok i x (by have:=e7 hx;omega) hx⟩;rw[hyes];have hs:=hlt;repeat' first|(with_reducible first|refine zz ?_|refine zr ?_|refine zE Qu ?_)|simp -dsimp[hs]|refine i8 ?_ ?_<;>intro h<;>try exact h.elim
 all_goals try clear hs
theorem wI (p:Prints) (hk:KP p):zP prog G 83 [C9 p] (iv (u3 p)):=by
 refine zf func83 ntmps83 ?_;try simp only[iv]
 have c1:=BU (G:=G) p.n hk.n;have c2:=wH (G:=G) p hk.p;by_cases h0:v7 p.n=0
 ·simp only[h0] at c1;have hE:u3 p=if G9 p=true then 0 else 70:=by unfold u3;rw[if_neg (by simp[h0])]
  rw[hE];generalize G9 p=b at *;cases b
  ·have hs:=trivial;repeat' first|(with_reducible first|refine zz ?_|refine zr ?_|refine zE [0,1,2,3,8,12] ?_)|simp -dsimp[hs]|refine zp c1 ?_|refine zp c2 ?_|refine i8 ?_ ?_<;>intro h<;>try exact h.elim
  ·have hs:=trivial;repeat' first|(with_reducible first|refine zz ?_|refine zr ?_|refine zE [0,1,2,3,8,12] ?_)|simp -dsimp[hs]|refine zp c1 ?_|refine zp c2 ?_|refine i8 ?_ ?_<;>intro h<;>try exact h.elim
 ·have hE:u3 p=v7 p.n:=by unfold u3;rw[if_pos h0]
  rw[hE];have hs:=h0;repeat' first|(with_reducible first|refine zz ?_|refine zr ?_|refine zE [0,1,2,3,8,12] ?_)|simp -dsimp[hs]|refine zp c1 ?_|refine i8 ?_ ?_<;>intro h<;>try exact h.elim
end Go.Proofs
namespace Go.Ab
open Go
def lexB:List Int->List Int->Bool
 | a :: x,b :: y=>if a=b then lexB x y else decide (a<b)
 | _,_=>false
theorem pI {l:List Int} (h:l.Nodup):(l6 l).Pairwise (· < ·):=by
 have h1:(l6 l).Nodup:=(List.mergeSort_perm l _).nodup_iff.2 h;have h2:=List.pairwise_mergeSort (le:=λx y:Int=>decide (x<=y)) (λa b c h1 h2=>by simp at *;omega) (λa b=>by simp;omega) l;rw[List.nodup_iff_pairwise_ne] at h1;refine(h1.and h2).imp ?_;rintro a b ⟨h3,h4⟩;simp at h4;omega
def bT (N:List Int) (s:Nat) (k:Nat):List Int:=((List.range k).filter λi=>s.testBit i).map λi=>N.getD i 0
theorem jj (N:List Int) (s k:Nat):bT N s (k+1)=bT N s k++(if s.testBit k=true then [N.getD k 0] else []):=by
 unfold bT;rw[List.range_succ,List.filter_append,List.map_append]
 congr 1
 by_cases h:s.testBit k=true<;>simp[h]
end Go.Ab
namespace Go.Proofs
open Go Go.Ab
end Go.Proofs
namespace Go.Ab
open Go
theorem HG (s i:Nat):IntKind.i64.wrap ((BitVec.ofInt 64 ((s:Int).fdiv (2 ^ i)) &&& BitVec.ofInt 64 1).toNat:Int)=if s.testBit i=true then 1 else 0:=by
 have e1:(s:Int).fdiv (2 ^ i)=((s / 2 ^ i:Nat):Int):=by
  rw[Int.fdiv_eq_ediv_of_nonneg _ (by exact Int.pow_nonneg (by omega))];simp
 have e2:(BitVec.ofInt 64 ((s / 2 ^ i:Nat):Int) &&& BitVec.ofInt 64 1).toNat=(s / 2 ^ i) % 2:=by
  have h1:(BitVec.ofInt 64 1)=1#64:=by decide
  rw[h1,BitVec.ofInt_natCast,BitVec.toNat_and,BitVec.toNat_ofNat,BitVec.toNat_ofNat];rw[show (1 % 2 ^ 64:Nat)=1 by decide,Nat.and_one_is_mod];omega
 rw[e1,e2,Nat.testBit_eq_decide_div_mod_eq];rcases Nat.mod_two_eq_zero_or_one (s / 2 ^ i) with h|h
 ·rw[h];simp;decide
 ·rw[h];simp;decide
end Go.Ab
namespace Go.Proofs
open Go Go.Ab
variable {G:LY}
theorem Bb (l:List Int):(l6 l).length=l.length:=(List.mergeSort_perm l _).length_eq
theorem qN (N:List Int) (s k:Nat):(bT N s k).length<=k:=by
 induction k with
 | zero=>simp[bT]
 | succ k ih =>
   rw[jj];split<;>simp<;>omega
def JF (l:List Int):List IC:=[.sl (l.map encI)]
def LE (L:List (List Int)):DV:=.one (.im (.sl (L.map JF)))
attribute [simp] JF LE
def td (O:List Int) (k:Nat):List (List Int):=(List.range k).map λs=>bT O s O.length
def pc (O:List Int):List (List Int):=td O (2 ^ O.length)
theorem qC (O:List Int) (k:Nat):(td O k).length=k:=by simp[td]
theorem qz (O:List Int):(pc O).length=2 ^ O.length:=qC _ _
theorem wt (O:List Int) (k:Nat):td O (k+1)=td O k++[bT O k O.length]:=by
 simp[td,List.range_succ]
end Go.Proofs
namespace Go.Ab
open Go
structure Str where
 frm:Int
 to:Int
 letter:Int
 deriving DecidableEq
def BH (x:Str):List IC:=[rI x.frm,rI x.to,rI x.letter]
def Kk (l:List Str):DV:=.one (.im (.sl (l.map BH)))
attribute [simp] BH Kk
end Go.Ab
namespace Go.Proofs
open Go Go.Ab
def bW (l:List Note):List Int:=1 :: l.flatMap λx=>[x.frm,x.to+1]
def aD (l:List Note):List Int:=(s7 (l6 (bW l))).filter λm=>decide (m<=999)
theorem xf (l:List Note):(aD l).length<=2*l.length+1:=by
 have h1:=List.length_filter_le (λm:Int=>decide (m<=999)) (s7 (l6 (bW l)));have h2:=aR (l6 (bW l));have h3:(bW l).length=2*l.length+1:=by
  unfold bW;have:∀ l:List Note,(l.flatMap λx=>[x.frm,x.to+1]).length=2*l.length:=λl=>by
   induction l with
   | nil=>rfl
   | cons a r ih=>rw[List.flatMap_cons,List.length_append,ih,List.length_cons,List.length_cons,List.length_cons,List.length_nil];omega
  rw[List.length_cons,this]
 rw[O1,h3] at h2;unfold aD;omega
theorem GG {n:Notes} (hok:mN n) {x:Note} (hx:x∈n.notes):1<=x.frm/\x.frm<=x.to/\x.to<=999:=by
 obtain⟨i,hi,e⟩:=List.mem_iff_getElem.1 hx;have h:=hok i x (by rw[List.getElem?_eq_getElem hi,e]);simp only[vF,FE,Bool.and_eq_true,decide_eq_true_eq] at h;omega
def stepS (a b:List Int):List Int:=List.zipWith (λx y=>if y=x then x else 0) a b
variable {G:LY}
attribute [simp] p5 cw u6 A5 nilV J0 ZK
end Go.Proofs
namespace Go.Proofs
open Go Go.Ab
end Go.Proofs
namespace Go.Ab
open Go
def HH (L:List Bool):List DC:=L.map λb=>.im (.raw (.bool b))
@[simp] theorem Kg (m:Nat) (O:List DObj) (L:List Bool):(HH L).map (fz m O)=HH L:=by
 simp only[HH,List.map_map];rfl
end Go.Ab
namespace Go.Proofs
open Go Go.Ab
variable {G:LY}
end Go.Proofs
namespace Go.Proofs
open Go Go.Ab
variable {G:LY}
open Go Go.Ab Tryz
def CC (p:Prints):Prop:=uS p.n/\p.holders.length<=8/\p.prints.length<=40/\∀ x∈p.holders,x.draws.length<=20
def gK (p:Prints):Bool:=cD p.n&&(decide (p.holders.length<=8)&&(decide (p.prints.length<=40)&&p.holders.all λx=>decide (x.draws.length<=20)))
@[simp] abbrev QF:List Nat:=[0,1,2,3,18,23,33]
theorem Bq (p:Prints):zP prog G 66 [C9 p] (bv (!gK p)):=by
 refine zf func66 ntmps66 ?_;try simp only[iv]
 have c1:=Br (G:=G) p.n;have hE:gK p=(cD p.n&&(decide (p.holders.length<=8)&&(decide (p.prints.length<=40)&&p.holders.all λx=>decide (x.draws.length<=20)))):=rfl;simp only[r5,u5] at c1;cases hS:cD p.n
 ·rw[hS,Bool.false_and] at hE;rw[hS] at c1;rw[hE];have hs:=trivial;repeat' first|(with_reducible first|refine zz ?_|refine zr ?_|refine zE QF ?_)|simp -dsimp[hs]|refine zp c1 ?_|refine i8 ?_ ?_<;>intro h<;>try exact h.elim
 ·rw[hS,Bool.true_and] at hE;rw[hS] at c1;by_cases h8:p.holders.length<=8
  ·have h8':¬ (8:Int)<p.holders.length:=by omega
   rw[decide_eq_true h8,Bool.true_and] at hE;by_cases h40:p.prints.length<=40
   ·have h40':¬ (40:Int)<p.prints.length:=by omega
    rw[decide_eq_true h40,Bool.true_and] at hE;have hs:=za h8' h40';repeat' first|(with_reducible first|refine zz ?_|refine zE QF ?_)|simp -dsimp[hs]|refine zp c1 ?_|refine i8 ?_ ?_<;>intro h<;>try exact h.elim
    refine i6 (ι:={ k:Nat // k<=p.holders.length/\(p.holders.all λx=>decide (x.draws.length<=20))=(p.holders.drop k).all λx=>decide (x.draws.length<=20) }) (λq=>⟨34,[(1,.one (.ptr 0 0)),(3,iv (q.1:Int))],[.row ((o8 p).map .im)]⟩) (λq=>p.holders.length-q.1) ⟨0,by simp⟩ (zv [1,3]) ?_;rintro⟨k,hk,hall⟩;simp only[iv];by_cases hlt:k<p.holders.length
    ·have hw:=zk k;have hst:=cu hlt hall;generalize hx:p.holders[k]=x at *;by_cases h20:x.draws.length<=20
     ·have h20':¬ (20:Int)<x.draws.length:=by omega
      have hs:=za hx (za hlt (za hw h20'));repeat' first|(with_reducible first|refine zz ?_|refine zE QF ?_)|simp -dsimp[hs]|refine i8 ?_ ?_<;>intro h<;>try exact h.elim
      exact zn ⟨k+1,by omega,J2 hst (by simpa using h20)⟩ (zv [1,3])
     ·have h20':(20:Int)<x.draws.length:=by omega
      have hs:=za hx (za hlt (za hw h20'));repeat' first|(with_reducible first|refine zz ?_|refine zr ?_|refine zE QF ?_)|simp -dsimp[hs]|refine i8 ?_ ?_<;>intro h<;>try exact h.elim
      rw[hE,F4 hst (by simpa using h20)];try rfl
    ·have hok:(p.holders.all λx=>decide (x.draws.length<=20))=true:=by rw[hall,List.drop_eq_nil_of_le (by omega)];rfl
     have hs:=hlt;repeat' first|(with_reducible first|refine zz ?_|refine zr ?_|refine zE QF ?_)|simp -dsimp[hs]|refine i8 ?_ ?_<;>intro h<;>try exact h.elim
     rw[hE,hok];try rfl
   ·have h40':(40:Int)<p.prints.length:=by omega
    rw[decide_eq_false h40,Bool.false_and] at hE;have hs:=za h8' h40';repeat' first|(with_reducible first|refine zz ?_|refine zr ?_|refine zE QF ?_)|simp -dsimp[hs]|refine zp c1 ?_|refine i8 ?_ ?_<;>intro h<;>try exact h.elim
    rw[hE];try rfl
  ·have h8':(8:Int)<p.holders.length:=by omega
   rw[decide_eq_false h8,Bool.false_and] at hE;have hs:=h8';repeat' first|(with_reducible first|refine zz ?_|refine zr ?_|refine zE QF ?_)|simp -dsimp[hs]|refine zp c1 ?_|refine i8 ?_ ?_<;>intro h<;>try exact h.elim
   rw[hE];try rfl
@[simp] abbrev QG:List Nat:=[0,1,2,3,4,5,6,7,8,32,37,76,81,94]
theorem Dn (p:Prints) (hs:CC p):zP prog G 74 [C9 p,C9 p] (bv true):=by
 refine zf func74 ntmps74 ?_;try simp only[iv]
 have c1:=Do (G:=G) p.n hs.1;have hh:=hs.2.1;have hq:=hs.2.2.1;simp only[r5,u5] at c1;have hs:=trivial;repeat' first|(with_reducible first|refine zz ?_|refine zE QG ?_)|simp -dsimp[hs]|refine zp c1 ?_|refine i8 ?_ ?_<;>intro h<;>try exact h.elim
 all_goals try clear hs
 refine i6 (ι:={ k:Nat // k<=p.holders.length }) (λq=>⟨95,[(2,.one (.ptr 0 0)),(3,.one (.ptr 1 0)),(5,iv (q.1:Int))],[.row ((o8 p).map .im),.row ((o8 p).map .im)]⟩) (λq=>p.holders.length-q.1) ⟨0,by simp⟩ (zv [2,3,5]) ?_;rintro⟨k,hk⟩;simp only[iv];by_cases hlt:k<p.holders.length
 ·have hw:=zk k;have hd:=hs.2.2.2 p.holders[k] (List.getElem_mem hlt);generalize hx:p.holders[k]=x at *;have c2:=lE (G:=G) x.draws x.draws (by omega);simp only[decide_true] at c2;have hs:=za hx (za hlt hw);repeat' first|with_reducible refine zz ?_|simp -dsimp[hs]|refine zp c2 ?_|refine F8 (id:=6) (nt:=95) 12 [5,6,7,8,9] [0,1,2,3,4,5,6,7,8,32,37,40,41,42,43,44,76,81,94] QG mixed rfl (by kernel_rfl) ?_|with_reducible refine zE QG ?_|refine i8 ?_ ?_<;>intro h<;>try exact h.elim
  all_goals try clear hs
  exact zn ⟨k+1,by omega⟩ (zw [2,3,5] 2)
 have hs:=hlt;repeat' first|(with_reducible first|refine zz ?_|refine zE QG ?_)|simp -dsimp[hs]|refine i8 ?_ ?_<;>intro h<;>try exact h.elim
 all_goals try clear hs
 clear hlt hk;refine i6 (ι:={ k:Nat // k<=p.prints.length }) (λq=>⟨95,[(2,.one (.ptr 0 0)),(3,.one (.ptr 1 0)),(8,iv (q.1:Int))],[.row ((o8 p).map .im),.row ((o8 p).map .im)]⟩) (λq=>p.prints.length-q.1) ⟨0,by simp⟩ (zv [2,3,8]) ?_;rintro⟨k,hk⟩;simp only[iv];by_cases hlt:k<p.prints.length
 ·have hw:=zk k;generalize hx:p.prints[k]=x at *;have hs:=za hx (za hlt hw);repeat' first|with_reducible refine zz ?_|simp -dsimp[hs]|refine zM 12 95 11 QG ?_|with_reducible refine zE QG ?_|refine i8 ?_ ?_<;>intro h<;>try exact h.elim
  all_goals try clear hs
  exact zn ⟨k+1,by omega⟩ (zv [2,3,8])
 ·have hs:=hlt;repeat' first|(with_reducible first|refine zz ?_|refine zr ?_|refine zE QG ?_)|simp -dsimp[hs]|refine i8 ?_ ?_<;>intro h<;>try exact h.elim
  all_goals try clear hs
theorem L3 (n lo hi:Int):zP prog G 135 [iv n,iv lo,iv hi] (bv (decide (lo<=n)&&decide (n<=hi))):=by
 refine zf func135 ntmps135 ?_;try simp only[iv,iv,iv]
 have hs:=trivial;repeat' first|(with_reducible first|refine zz ?_|refine zr ?_|refine zE [0,1,2,6] ?_)|simp -dsimp[hs]|with_reducible refine j0 ?_ ?_<;>intro h<;>have h0:=h<;>(try simp only[i7] at h)<;>have h2:=h<;>(try simp at h2)<;>replace hs:=za h0 (za h (za h2 hs))
 all_goals try clear hs
 all_goals simp[*]
theorem lZ {l:List Issue} (h:j8 l=0) {x:Issue} (hx:x∈l):1<=x.letter/\1<=x.kind:=by
 have:=(P0 (M9 (J3 h))).2.2.2.1 x hx;simp only[o5,BR,CT,Bool.and_eq_true,decide_eq_true_eq] at this;by_cases hk:x.kind=1
 ·omega
 ·rw[if_neg hk] at this;simp only[Bool.and_eq_true,decide_eq_true_eq] at this;omega
theorem tR {l:List Issue} (h0:j8 l=0) (d:Int):aF l d=0↔d∉nums l:=by
 obtain⟨h1,h2,h3⟩:=dV d l 0;constructor
 ·intro h hd;obtain⟨x,hx,hxd⟩:=rb hd;have:=h2 x hx hxd;have:=(lZ h0 hx).1;unfold aF at h;omega
 ·intro hd;rcases h3 with h3|⟨x,hx,hxd,_⟩
  ·exact h3
  ·exact absurd (hxd ▸ (E1 h0).2 x hx) hd
theorem tu {c:Case} (h0:j8 c.p.n.reg=0) (l:Link) (x:Piece):H7 c l x=true↔(p6 c.p.n.reg l.drawing 1).isSome=true/\¬ ((p6 c.p.n.reg l.drawing 1).getD K1).kind<2/\(decide (0<=l.dim)&&decide (l.dim<=3))=true/\¬ J1 (λy=>decide (y.id=x.holder)) c.p.holders<0/\(decide (0<=x.day)&&decide (x.day<=14610))=true/\(decide (0<=x.lo)&&decide (x.lo<=1000000000))=true/\(decide (x.lo<=x.hi)&&decide (x.hi<=1000000000))=true:=by
 have hf:(c.p.holders.any λy=>decide (y.id=x.holder))=true↔¬ J1 (λy=>decide (y.id=x.holder)) c.p.holders<0:=by
  rw[<- B6,decide_eq_true_eq];omega
 unfold H7 O6;cases hfi:p6 c.p.n.reg l.drawing 1 with
 | none=>simp
 | some y =>
   have hk:=(lZ h0 (List.mem_of_find?_eq_some hfi)).2;simp only[Option.isSome_some,Option.getD_some,Bool.and_eq_true,decide_eq_true_eq,Bool.not_eq_true',decide_eq_false_iff_not,hf,true_and];omega
@[simp] abbrev Qv:List Nat:=[0,1,2,3,4,5,6,7,8,61,66,131]
@[simp] abbrev Yd:List Nat:=[0,1,2,3,4,5,6,7,8,61,66,69,70,71,72,73,74,131]
theorem Dy (c:Case) (h0:j8 c.p.n.reg=0) (hk:KC c):zP prog G 84 [n4 c] (bv (Z3 c)):=by
 refine zf func84 ntmps84 ?_;try simp only[iv]
 have hl:=hk.l;have hq:=hk.q;have hhl:=hk.p.p.h;have hrl:=hk.p.p.l;have c2:=AW (G:=G) c.p.n.reg c.of (by omega);have hLm:=tR h0 c.of;have c3:=L3 (G:=G) c.machine 1 999;have c4:=L3 (G:=G) (c.loop.links.length:Int) 1 8;have c5:=L3 (G:=G) c.loop.lo (-8000000000) 8000000000;have c6:=L3 (G:=G) c.loop.hi c.loop.lo 8000000000;simp only[G8] at c2;generalize aF c.p.n.reg c.of=L at *;cases h5:fI c
 ·have hB:Z3 c=false:=by rw[T9,h5,Bool.false_and]
  rw[hB];simp only[fI,O6] at h5;generalize hb3:(decide (1<=c.machine)&&decide (c.machine<=999))=b3 at c3;generalize hb4:(decide (1<=(c.loop.links.length:Int))&&decide ((c.loop.links.length:Int)<=8))=b4 at c4;generalize hb5:(decide (-8000000000<=c.loop.lo)&&decide (c.loop.lo<=8000000000))=b5 at c5;generalize hb6:(decide (c.loop.lo<=c.loop.hi)&&decide (c.loop.hi<=8000000000))=b6 at c6;have hs:True:=trivial;by_cases hm:L=0
  ·cases b3
   all_goals
    have hs:=hm;repeat' first|(with_reducible first|refine zz ?_|refine zr ?_|refine zE Qv ?_)|simp -dsimp[hs]|refine zp c3 ?_|refine zp c2 ?_|refine i8 ?_ ?_<;>intro h<;>try exact h.elim
    all_goals try clear hs
  ·have hm':c.of∈nums c.p.n.reg:=Classical.byContradiction λh=>hm (hLm.2 h);by_cases hlen:c.pieces.length=c.loop.links.length
   ·cases b3<;>cases b4<;>cases b5<;>cases b6
    all_goals
     have hs:=za hlen hm;repeat' first|(with_reducible first|refine zz ?_|refine zr ?_|refine zE Qv ?_)|simp -dsimp[hs]|refine zp c3 ?_|refine zp c2 ?_|refine zp c4 ?_|refine zp c5 ?_|refine zp c6 ?_|refine i8 ?_ ?_<;>intro h<;>try exact h.elim
     all_goals try clear hs
    all_goals exfalso
    all_goals simp[hm',hlen] at h5 hb3 hb4 hb5 hb6
    all_goals omega
   ·have hlen':¬ (c.pieces.length:Int)=c.loop.links.length:=by omega
    cases b3<;>cases b4<;>cases b5<;>cases b6
    all_goals
     have hs:=za hlen (za hlen' hm);repeat' first|(with_reducible first|refine zz ?_|refine zr ?_|refine zE Qv ?_)|simp -dsimp[hs]|refine zp c3 ?_|refine zp c2 ?_|refine zp c4 ?_|refine zp c5 ?_|refine zp c6 ?_|refine i8 ?_ ?_<;>intro h<;>try exact h.elim
     all_goals try clear hs
 ·have hB:Z3 c=(c.loop.links.zip c.pieces).all λq=>H7 c q.1 q.2:=by rw[T9,h5,Bool.true_and]
  rw[hB];simp only[fI,Bool.and_eq_true,decide_eq_true_eq,O6] at h5;obtain⟨hm,⟨hm1,hm2⟩,⟨hl1,hl2⟩,hlen,hgap⟩:=h5;have hm':¬ L=0:=λh=>hLm.1 h hm;rw[show (decide (1<=c.machine)&&decide (c.machine<=999))=true by simp;omega] at c3;rw[show (decide (1<=(c.loop.links.length:Int))&&decide ((c.loop.links.length:Int)<=8))=true by simp;omega] at c4;rw[show (decide (-8000000000<=c.loop.lo)&&decide (c.loop.lo<=8000000000))=true by simp;omega] at c5;rw[show (decide (c.loop.lo<=c.loop.hi)&&decide (c.loop.hi<=8000000000))=true by simp;omega] at c6;have hs:=za hlen hm';repeat' first|(with_reducible first|refine zz ?_|refine zE Qv ?_)|simp -dsimp[hs]|refine zp c3 ?_|refine zp c2 ?_|refine zp c4 ?_|refine zp c5 ?_|refine zp c6 ?_|refine i8 ?_ ?_<;>intro h<;>try exact h.elim
  all_goals try clear hs
  have hno:((c.loop.links.zip c.pieces).all λq=>H7 c q.1 q.2)=((c.loop.links.zip c.pieces).drop 0).all λq=>H7 c q.1 q.2:=rfl;clear c2 c3 c4 c5 c6;generalize hA:((c.loop.links.zip c.pieces).all λq=>H7 c q.1 q.2)=A at *;refine i6 (ι:={ k:Nat // k<=c.pieces.length/\A=((c.loop.links.zip c.pieces).drop k).all λq=>H7 c q.1 q.2 }) (λq=>⟨132,[(1,.one (.ptr 0 0)),(3,.one (.ptr 2 0)),(4,iv (q.1:Int))],[.row ((j4 c).map .im),.vec 0 [] 0 true,.row [.im (.sl (c.p.n.reg.map e9))]]⟩) (λq=>c.pieces.length-q.1) ⟨0,by simp,hno⟩ (zv [1,3,4]) ?_;rintro⟨k,hk1,hrest⟩;simp only[iv];by_cases hlt:k<c.pieces.length
  ·have hlt2:k<c.loop.links.length:=by omega
   have hw:=zk k;have hst:=gC (f:=λq=>H7 c q.1 q.2) hlt2 hlt (hA.trans hrest);rw[hA] at hst;simp only at hst;rw[tu h0] at hst;clear hno;generalize hx:c.pieces[k]=x at *;generalize hy:c.loop.links[k]=y at *;have c6:=uh (G:=G) c.p.n.reg y.drawing 1 (by omega);have c7:=rH (G:=G) c.p x.holder (by omega);have c8:=L3 (G:=G) y.dim 0 3;have c9:=L3 (G:=G) x.day 0 14610;have c10:=L3 (G:=G) x.lo 0 1000000000;have c11:=L3 (G:=G) x.hi x.lo 1000000000;simp only[G8,E0] at c6;simp only[C9,o8,List.map_cons,List.map_nil] at c7;generalize J1 (λy=>decide (y.id=x.holder)) c.p.holders=f at *;generalize (decide (0<=y.dim)&&decide (y.dim<=3))=b1 at *;generalize (decide (0<=x.day)&&decide (x.day<=14610))=b3 at *;generalize (decide (0<=x.lo)&&decide (x.lo<=1000000000))=b4 at *;generalize (decide (x.lo<=x.hi)&&decide (x.hi<=1000000000))=b5 at *;generalize (p6 c.p.n.reg y.drawing 1).isSome=e at *;generalize (p6 c.p.n.reg y.drawing 1).getD K1=z at *;have hcs:(e=true/\¬ z.kind<2/\b1=true/\¬ f<0/\b3=true/\b4=true/\b5=true)\/(A=false/\((e=false/\True/\True/\True/\True/\True/\True)\/(e=true/\z.kind<2/\True/\True/\True/\True/\True)\/(e=true/\¬ z.kind<2/\b1=false/\True/\True/\True/\True)\/(e=true/\¬ z.kind<2/\b1=true/\f<0/\True/\True/\True)\/(e=true/\¬ z.kind<2/\b1=true/\¬ f<0/\b3=false/\True/\True)\/(e=true/\¬ z.kind<2/\b1=true/\¬ f<0/\b3=true/\b4=false/\True)\/(e=true/\¬ z.kind<2/\b1=true/\¬ f<0/\b3=true/\b4=true/\b5=false))):=by
    by_cases g2:z.kind<2<;>by_cases g4:f<0<;>cases e<;>cases b1<;>cases b3<;>cases b4<;>cases b5<;>simp_all
   have hs:True:=trivial;rcases hcs with⟨g1,g2,g3,g4,g5,g6,g7⟩|⟨gA,hcs⟩
   ·have hs:=za hx (za hy (za hlt (za hlt2 (za hw (za g1 (za g2 (za g3 (za g4 (za g5 (za g6 g7))))))))));repeat' first|with_reducible refine zz ?_|simp -dsimp[hs]|refine zp c6 ?_|refine zp c7 ?_|refine zp c8 ?_|refine zp c9 ?_|refine zp c10 ?_|refine zp c11 ?_|refine F8 (id:=7) (nt:=132) 13 [6,7,8,9,10] Yd Qv mixed rfl (by kernel_rfl) ?_|with_reducible refine zE Qv ?_|refine i8 ?_ ?_<;>intro h<;>try exact h.elim
    all_goals try clear hs
    all_goals exact zn ⟨k+1,by omega,by rw[Bool.eq_iff_iff];exact hst.trans ⟨λh=>h.2,λh=>⟨⟨g1,g2,g3,g4,g5,g6,g7⟩,h⟩⟩⟩ (zw [1,3,4] 3)
   ·rcases hcs with⟨g1,g2,g3,g4,g5,g6,g7⟩|⟨g1,g2,g3,g4,g5,g6,g7⟩|⟨g1,g2,g3,g4,g5,g6,g7⟩|⟨g1,g2,g3,g4,g5,g6,g7⟩|⟨g1,g2,g3,g4,g5,g6,g7⟩|⟨g1,g2,g3,g4,g5,g6,g7⟩|⟨g1,g2,g3,g4,g5,g6,g7⟩
    all_goals
     have hs:=za hx (za hy (za hlt (za hlt2 (za hw (za g1 (za g2 (za g3 (za g4 (za g5 (za g6 g7))))))))));repeat' first|(with_reducible first|refine zz ?_|refine zr ?_)|simp -dsimp[hs]|refine zp c6 ?_|refine zp c7 ?_|refine zp c8 ?_|refine zp c9 ?_|refine zp c10 ?_|refine zp c11 ?_|refine F8 (id:=7) (nt:=132) 13 [6,7,8,9,10] Yd Qv mixed rfl (by kernel_rfl) ?_|with_reducible refine zE Qv ?_|refine i8 ?_ ?_<;>intro h<;>try exact h.elim
     all_goals try clear hs
    all_goals exact gA
  ·obtain rfl:k=c.pieces.length:=by omega
   have hA1:A=true:=by rw[hrest,List.drop_eq_nil_of_le (by rw[List.length_zip];omega)];rfl
   subst hA1;have hs:=hlt;repeat' first|(with_reducible first|refine zz ?_|refine zr ?_|refine zE Qv ?_)|simp -dsimp[hs]|refine i8 ?_ ?_<;>intro h<;>try exact h.elim
   all_goals try clear hs
theorem wL (c:Case) (hk:KC c):zP prog G 41 [n4 c] (iv (s9 c)):=by
 refine zf func41 ntmps41 ?_;try simp only[iv]
 have c1:=wI (G:=G) c.p hk.p;simp only[C9,o8] at c1;by_cases h0:u3 c.p=0
 ·have c2:=Dy (G:=G) c (I9 h0).2.2 hk;have hE:s9 c=if Z3 c=true then 0 else 100:=by unfold s9;rw[if_neg (by simp[h0])]
  rw[hE];rw[h0] at c1;simp only[n4,j4] at c2;generalize Z3 c=b at *;cases b
  ·have hs:=trivial;repeat' first|(with_reducible first|refine zz ?_|refine zr ?_|refine zE [0,1,2,3,8,12] ?_)|simp -dsimp[hs]|refine zp c1 ?_|refine zp c2 ?_|refine i8 ?_ ?_<;>intro h<;>try exact h.elim
  ·have hs:=trivial;repeat' first|(with_reducible first|refine zz ?_|refine zr ?_|refine zE [0,1,2,3,8,12] ?_)|simp -dsimp[hs]|refine zp c1 ?_|refine zp c2 ?_|refine i8 ?_ ?_<;>intro h<;>try exact h.elim
 ·have hE:s9 c=u3 c.p:=by unfold s9;rw[if_pos h0]
  rw[hE];have hs:=h0;repeat' first|(with_reducible first|refine zz ?_|refine zr ?_|refine zE [0,1,2,3,8,12] ?_)|simp -dsimp[hs]|refine zp c1 ?_|refine i8 ?_ ?_<;>intro h<;>try exact h.elim
def ql (c:Case):Prop:=CC c.p/\c.loop.links.length<=16/\c.pieces.length<=16
def S7 (c:Case):Bool:=gK c.p&&(decide (c.loop.links.length<=16)&&decide (c.pieces.length<=16))
theorem xG (c:Case):zP prog G 19 [n4 c] (bv (!S7 c)):=by
 refine zf func19 ntmps19 ?_;try simp only[iv]
 have c1:=Bq (G:=G) c.p;simp only[C9,o8] at c1;unfold S7;generalize gK c.p=b at *;have hs:True:=trivial;by_cases h1:c.loop.links.length<=16
 ·have h1':¬ (16:Int)<c.loop.links.length:=by omega
  by_cases h2:c.pieces.length<=16
  ·have h2':¬ (16:Int)<c.pieces.length:=by omega
   cases b
   all_goals
    have hs:=za h1 (za h2 (za h1' h2'));repeat' first|(with_reducible first|refine zz ?_|refine zr ?_|refine zE [0,1,2] ?_)|simp -dsimp[hs]|refine zp c1 ?_
  ·have h2':(16:Int)<c.pieces.length:=by omega
   cases b
   all_goals
    have hs:=za h1 (za h2 (za h1' h2'));repeat' first|(with_reducible first|refine zz ?_|refine zr ?_|refine zE [0,1,2] ?_)|simp -dsimp[hs]|refine zp c1 ?_
 ·have h1':(16:Int)<c.loop.links.length:=by omega
  cases b
  all_goals
   have hs:=za h1 h1';repeat' first|(with_reducible first|refine zz ?_|refine zr ?_|refine zE [0,1,2] ?_)|simp -dsimp[hs]|refine zp c1 ?_
@[simp] abbrev QH:List Nat:=[0,1,2,3,4,5,6,55,61,76,81,94]
theorem zV (c:Case) (hs:ql c):zP prog G 25 [n4 c,n4 c] (bv true):=by
 refine zf func25 ntmps25 ?_;try simp only[iv]
 have c1:=Dn (G:=G) c.p hs.1;have hl:=hs.2.1;have hq:=hs.2.2;simp only[C9,o8] at c1;have hs:=trivial;repeat' first|(with_reducible first|refine zz ?_|refine zE QH ?_)|simp -dsimp[hs]|refine zp c1 ?_|refine i8 ?_ ?_<;>intro h<;>try exact h.elim
 all_goals try clear hs
 refine i6 (ι:={ k:Nat // k<=c.loop.links.length }) (λq=>⟨95,[(2,.one (.ptr 0 0)),(3,.one (.ptr 1 0)),(5,iv (q.1:Int))],[.row ((j4 c).map .im),.row ((j4 c).map .im)]⟩) (λq=>c.loop.links.length-q.1) ⟨0,by simp⟩ (zv [2,3,5]) ?_;rintro⟨k,hk⟩;simp only[iv];by_cases hlt:k<c.loop.links.length
 ·have hw:=zk k;generalize hx:c.loop.links[k]=x at *;have hs:=za hx (za hlt hw);repeat' first|with_reducible refine zz ?_|simp -dsimp[hs]|refine zM 6 95 13 QH ?_|with_reducible refine zE QH ?_|refine i8 ?_ ?_<;>intro h<;>try exact h.elim
  all_goals try clear hs
  exact zn ⟨k+1,by omega⟩ (zv [2,3,5])
 have hs:=hlt;repeat' first|(with_reducible first|refine zz ?_|refine zE QH ?_)|simp -dsimp[hs]|refine i8 ?_ ?_<;>intro h<;>try exact h.elim
 all_goals try clear hs
 clear hlt hk;refine i6 (ι:={ k:Nat // k<=c.pieces.length }) (λq=>⟨95,[(2,.one (.ptr 0 0)),(3,.one (.ptr 1 0)),(6,iv (q.1:Int))],[.row ((j4 c).map .im),.row ((j4 c).map .im)]⟩) (λq=>c.pieces.length-q.1) ⟨0,by simp⟩ (zv [2,3,6]) ?_;rintro⟨k,hk⟩;simp only[iv];by_cases hlt:k<c.pieces.length
 ·have hw:=zk k;generalize hx:c.pieces[k]=x at *;have hs:=za hx (za hlt hw);repeat' first|with_reducible refine zz ?_|simp -dsimp[hs]|refine zM 11 95 11 QH ?_|with_reducible refine zE QH ?_|refine i8 ?_ ?_<;>intro h<;>try exact h.elim
  all_goals try clear hs
  exact zn ⟨k+1,by omega⟩ (zv [2,3,6])
 ·have hs:=hlt;repeat' first|(with_reducible first|refine zz ?_|refine zr ?_|refine zE QH ?_)|simp -dsimp[hs]|refine i8 ?_ ?_<;>intro h<;>try exact h.elim
  all_goals try clear hs
def wh (n:Notes):Prop:=(∀ x∈n.reg,0<=x.kind/\x.kind<=255)/\∀ x∈n.notes,0<=x.ways/\x.ways<=255/\0<=x.signed/\x.signed<=255
theorem HO {n:Notes} (hk:wh n) (h:cD n=true):uS n/\CW n:=by
 simp only[cD,Bool.and_eq_true,decide_eq_true_eq] at h;refine⟨h,⟨h.1.1,λx hx=>⟨(hk.1 x hx).1,(hk.1 x hx).2,h.1.2 x hx⟩⟩,h.2,hk.2⟩
def kJ (x:Print):Prop:=0<=x.lost/\x.lost<=255
def eF (p:Prints):Prop:=wh p.n/\∀ x∈p.prints,kJ x
theorem CO {c:Case} (hk:eF c.p) (h:S7 c=true):ql c/\KC c:=by
 simp only[S7,gK,Bool.and_eq_true,decide_eq_true_eq,List.all_eq_true] at h;obtain⟨⟨h1,h2,h3,h4⟩,h5,h6⟩:=h;obtain⟨hN,hM⟩:=HO hk.1 h1;have hr:=hM.1.1;have hnl:(nums c.p.n.reg).length<=c.p.n.reg.length:=A7 c.p.n.reg c.p.n.reg.length;exact⟨⟨⟨hN,h2,h3,h4⟩,h5,h6⟩,⟨⟨hM,⟨by omega,by omega,h2,h3,h4,hk.2⟩⟩,h5,h6⟩⟩
theorem lf (d i w:Int) (l:List Print):(bp d i w l).length<=l.length+1:=by
 unfold bp;rw[List.length_drop];have h1:=aR (l6 (az d i w l++[bP d i w l]));rw[O1,List.length_append,List.length_singleton] at h1;have h2:=lL d i w l;omega
theorem AU (c:Case) (n:Int):(ij c n).length<=c.p.prints.length+1:=by
 unfold ij;split
 ·unfold I6;split
  ·unfold O4;split
   ·exact lf _ _ _ _
   ·simp
  ·simp
 ·simp
end Go.Proofs
