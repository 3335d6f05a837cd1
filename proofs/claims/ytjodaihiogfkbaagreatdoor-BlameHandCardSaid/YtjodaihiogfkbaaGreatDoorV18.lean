/- Part 18 of the proofs. -/
import Derived.Test.YtjodaihiogfkbaaGreatDoorV08
import Derived.Test.YtjodaihiogfkbaaGreatDoorV09
import Derived.Test.YtjodaihiogfkbaaGreatDoorV12
import Derived.Test.YtjodaihiogfkbaaGreatDoorV14
import Derived.Test.YtjodaihiogfkbaaGreatDoorV15
import Derived.Test.YtjodaihiogfkbaaGreatDoorV16
import Derived.Test.YtjodaihiogfkbaaGreatDoorV17
set_option linter.all false
set_option linter.deprecated false
set_option maxHeartbeats 100000000
namespace Go.Proofs
open Go Go.Ab Tryz
variable {G:JO}
noncomputable def F5 (c:Case) (k:Nat):List Int:=match c.pieces[k]?,c.loop.links[k]? with
 | some x,some y=>N8 c.p x.day x.holder y.drawing
 | _,_=>[]
theorem pA {c:Case} {k:Nat} (h1:k<c.pieces.length) (h2:k<c.loop.links.length):F5 c k=N8 c.p c.pieces[k].day c.pieces[k].holder c.loop.links[k].drawing:=by
 unfold F5
 rw[List.getElem?_eq_getElem h1,List.getElem?_eq_getElem h2]
noncomputable def T3 (c:Case) (n:Int):Int:=if s8 c≠0 then s8 c else if 0≤n∧n<c.pieces.length then 0 else 2
noncomputable def fU (c:Case) (n:Int):List Int:=if T3 c n=0 then F5 c n.toNat else []
theorem yu (c:Case) (k:Nat) (h1:k<c.pieces.length) (h2:k<c.loop.links.length) (hG:o5 G) (hN:D7 G) (hS:u9 G) (hR:v7 G) (hk:KC c):zP prog G 113 [n3 c,iv (k:Int)] (s6 (F5 c k)):=by
 refine zf func113 ntmps113 ?_
 try simp only[iv]
 rw[pA h1 h2]
 generalize hx:c.pieces[k]=x at *
 generalize hy:c.loop.links[k]=y at *
 have c1:=xU (G:=G) c.p x.day x.holder y.drawing hG hN hS hR hk.p
 simp only[D3,p7] at c1
 generalize N8 c.p x.day x.holder y.drawing=L at *
 generalize R6 c.p x.day 1 x.holder y.drawing=e at *
 have hs:=za hx (za hy (za h1 h2))
 repeat' first|(with_reducible first|refine zz ?_|refine zr ?_)|simp -dsimp[hs]|refine zq c1 ?_|refine zM 2 31 19 [0,1,2,4,5,6] ?_|with_reducible refine zE [0,1,2,4,5,6] ?_
theorem fj (c:Case) (n:Int) (hG:o5 G) (hN:D7 G) (hS:u9 G) (hR:v7 G) (hk:KC c):zP prog G 55 [n3 c,iv n] (.tup [s6 (fU c n),iv (T3 c n)]):=by
 refine zf func55 ntmps55 ?_
 try simp only[iv]
 have c1:=gF (G:=G) c hG hN hS hR hk
 have hq:=hk.q
 by_cases h0:s8 c=0
 ·have hok:=N0 (F1 h0).2
  have hE:T3 c n=if 0≤n∧n<c.pieces.length then 0 else 2:=by unfold T3;rw[if_neg (by simp[h0])]
  have hlen:=hok.e
  have hl:=hok.l
  have hw:IntKind.i64.wrap ((c.pieces.length:Int)-1)=(c.pieces.length:Int)-1:=o3 (by omega) (by omega)
  have c2:=M8 (G:=G) 0 ((c.pieces.length:Int)-1) [n] (by simp)
  unfold fU
  rw[hE]
  rw[h0] at c1
  by_cases hn:0≤n∧n<c.pieces.length
  ·rw[if_pos hn,if_pos rfl]
   obtain⟨k,rfl⟩:=Int.eq_ofNat_of_zero_le hn.1
   rw[Int.toNat_natCast]
   have c3:=yu (G:=G) c k (by omega) (by omega) hG hN hS hR hk
   rw[show ([(k:Int)].all fun y=>decide (0≤y)&&decide (y≤(c.pieces.length:Int)-1))=true by simp;omega] at c2
   generalize F5 c k=L at *
   simp only[n3,j4] at c1 c3
   have hs:=hw
   repeat' first|(with_reducible first|refine zz ?_|refine zr ?_|refine zE [0,1,2,4,5,6,10,19] ?_)|simp -dsimp[hs]|refine zp c1 ?_|refine zt c2 ?_ ?_ ?_;(focus simp;done);focus (simp;done)|refine zp c3 ?_|refine i9 ?_ ?_<;>intro h<;>try simp only[i7] at h
  ·rw[if_neg hn,if_neg (by decide)]
   rw[show ([n].all fun y=>decide (0≤y)&&decide (y≤(c.pieces.length:Int)-1))=false by simp;omega] at c2
   simp only[n3,j4] at c1
   have hs:=hw
   repeat' first|(with_reducible first|refine zz ?_|refine zr ?_|refine zE [0,1,2,4,5,6,10,19] ?_)|simp -dsimp[hs]|refine zp c1 ?_|refine zt c2 ?_ ?_ ?_;(focus simp;done);focus (simp;done)|refine i9 ?_ ?_<;>intro h<;>try simp only[i7] at h
 ·have hE:T3 c n=s8 c:=by unfold T3;rw[if_pos h0]
  have hO:fU c n=[]:=by unfold fU;rw[if_neg (by rw[hE];exact h0)]
  rw[hE,hO]
  simp only[n3,j4] at c1
  have hs:=h0
  repeat' first|(with_reducible first|refine zz ?_|refine zr ?_|refine zE [0,1,2,4,5,6,10,19] ?_)|simp -dsimp[hs]|refine zp c1 ?_|refine i9 ?_ ?_<;>intro h<;>try simp only[i7] at h
theorem aP (n lo hi:Int):zP prog G 268 [iv n,iv lo,iv hi] (bv (decide (lo≤n)&&decide (n≤hi))):=by
 refine zf func268 ntmps268 ?_
 try simp only[iv,iv,iv]
 have hs:=trivial
 repeat' first|(with_reducible first|refine zz ?_|refine zr ?_|refine zE [0,1,2,6] ?_)|simp -dsimp[hs]|with_reducible refine j0 ?_ ?_<;>intro h<;>have h0:=h<;>(try simp only[i7] at h)<;>have h2:=h<;>(try simp at h2)<;>replace hs:=za h0 (za h (za h2 hs))
 all_goals try clear hs
 all_goals simp[*]
theorem EU (l:List Int) (n:Int) (hl:l.length<1000000):zP prog G 269 [s6 l,iv n] (bv (decide (n∈l))):=by
 refine zf func269 ntmps269 ?_
 try simp only[s6,iv]
 have hs:=trivial
 repeat' first|(with_reducible first|refine zz ?_|refine zE [0,1,4,5,9,17] ?_)|simp -dsimp[hs]
 refine i6 (ι:={ k:Nat // k≤l.length∧decide (n∈l)=decide (n∈l.drop k) }) (fun i=>⟨18,[(0,s6 l),(1,iv n),(5,iv (i.1:Int))],[]⟩) (fun i=>l.length-i.1) ⟨0,by simp⟩ (zv [0,1,5]) ?_
 rintro⟨i,hi,hno⟩
 simp only[iv,s6]
 by_cases hlt:i<l.length
 ·have hw:=zk i
  rw[List.drop_eq_getElem_cons hlt] at hno
  generalize hx:l[i]=x at *
  have hs:=za hx (za hw hlt)
  repeat' first|(with_reducible first|refine zz ?_|refine zr ?_|refine zE [0,1,4,5,9,17] ?_)|simp -dsimp[hs]|refine i9 ?_ ?_<;>intro h<;>try simp only[i7] at h
  all_goals try clear hs
  ·exact of_decide_eq_true (by rw[hno];simp[*])
  ·exact zn ⟨i+1,by omega,by rw[hno,decide_eq_decide,List.mem_cons];exact or_iff_right (fun e=>absurd e.symm (by assumption))⟩ (zv [0,1,5])
 ·rw[List.drop_eq_nil_of_le (by omega)] at hno
  have hs:=hlt
  repeat' first|(with_reducible first|refine zz ?_|refine zr ?_|refine zE [0,1,4,5,9,17] ?_)|simp -dsimp[hs]|refine i9 ?_ ?_<;>intro h<;>try simp only[i7] at h
  exact fun hm=>by simp[hm] at hno
theorem pK (p:Prints) (n:Int) (hl:p.holders.length<1000):zP prog G 172 [D3 p,iv n] (iv (H9 (fun y=>decide (y.id=n)) p.holders)):=by
 refine zf func172 ntmps172 ?_
 try simp only[iv]
 have hs:=trivial
 repeat' first|(with_reducible first|refine zz ?_|refine zE [0,1,2,4,5,10,20] ?_)|simp -dsimp[hs]
 refine i6 (ι:={ k:Nat // k≤p.holders.length∧∀ (j:Nat) (x:Holder),j<k→p.holders[j]?=some x→decide (x.id=n)=false }) (fun i=>⟨22,[(1,iv n),(2,.one (.ptr 0 0)),(5,iv (i.1:Int))],[.row ((p7 p).map .im)]⟩) (fun i=>p.holders.length-i.1) ⟨0,by simp⟩ (zv [1,2,5]) ?_
 rintro⟨i,hi,hno⟩
 simp only[iv]
 by_cases hlt:i<p.holders.length
 ·have hw:=zk i
  have hx0:p.holders[i]?=some p.holders[i]:=by simp[hlt]
  generalize hx:p.holders[i]=x at *
  have hs:=za hx (za hw hlt)
  repeat' first|(with_reducible first|refine zz ?_|refine zr ?_|refine zE [0,1,2,4,5,10,20] ?_)|simp -dsimp[hs]|refine i9 ?_ ?_<;>intro h<;>try simp only[i7] at h
  all_goals try clear hs
  ·exact(K8 hx0 (by simp[*]) hno).symm
  ·exact At.round ⟨i+1,by omega,fun j z hj hjx=>by
    by_cases e:j=i
    ·subst e;rw[hx0] at hjx;cases hjx;simp[*]
    ·exact hno j z (by omega) hjx⟩ (by simp;omega) (zv [1,2,5])
 ·have hs:=hlt
  repeat' first|(with_reducible first|refine zz ?_|refine zr ?_|refine zE [0,1,2,4,5,10,20] ?_)|simp -dsimp[hs]|refine i9 ?_ ?_<;>intro h<;>try simp only[i7] at h
  exact(Q8 fun j z hjx=>hno j z (by have:=e7 hjx;omega) hjx).symm
open Classical in
theorem uR (p:Prints) (k:Nat) (x:Holder) (hx0:p.holders[k]?=some x) (hsm:SmallP p):zP prog G 219 [D3 p,iv (k:Int)] (bv (decide (qQ (nums p.n.reg) p.holders k x))):=by
 refine zf func219 ntmps219 ?_
 try simp only[iv]
 have hlt:k<p.holders.length:=e7 hx0
 have hx:p.holders[k]=x:=(List.getElem?_eq_some_iff.1 hx0).2
 have hdl:x.draws.length≤20:=hsm.d x (by rw[← hx];exact List.getElem_mem hlt)
 have hh:=hsm.h
 have hr:=hsm.r
 have hrl:=hsm.l
 have c1:=aP (G:=G) x.id 1 9999
 have c2:=aP (G:=G) x.frm 1 x.to
 have c3:=gX (G:=G) p.n.reg (by omega)
 have c4:=fun d=>EU (G:=G) (nums p.n.reg) d (by omega)
 have hs:True:=trivial
 by_cases hA:HW p.holders k x
 ·obtain⟨a1,a3,a4,a6,a8,a9⟩:=id hA
  rw[show (decide (1≤x.id)&&decide (x.id≤9999))=true by simp;omega] at c1
  rw[show (decide (1≤x.frm)&&decide (x.frm≤x.to))=true by simp;omega] at c2
  have a8':¬ (999:Int)<x.to:=by omega
  have a9':¬ (8:Int)<x.draws.length:=by omega
  have hcs:(¬ 0<k∧True∧∃ _:True,True)∨(0<k∧IntKind.i64.wrap ((k:Int)-1)=((k-1:Nat):Int)∧∃ h:k-1<p.holders.length,¬ x.id≤(p.holders[k-1]'h).id):=by
   rcases Nat.eq_zero_or_pos k with h0|h0
   ·exact .inl ⟨by omega,trivial,trivial,trivial⟩
   ·have h1:k-1<p.holders.length:=by omega
    exact .inr ⟨by omega,by rw[o3 (by omega) (by omega)];omega,h1,by have:=a3 h0 _ (List.getElem?_eq_getElem h1);omega⟩
  rcases hcs with⟨hk0,hwm,hi1,hlt1⟩|⟨hk0,hwm,hi1,hlt1⟩
  all_goals
   have hs:=za hx (za hlt (za a8' (za a9' (za hk0 (za hwm (za hi1 hlt1))))))
   repeat' first|with_reducible refine zz ?_|simp -dsimp[hs]|refine zq c1 ?_|refine zq c2 ?_|refine zp c3 ?_|refine zM 2 89 39 [0,1,2,4,5,6,7,51,60,88] ?_|with_reducible refine zE [0,1,2,4,5,6,7,51,60,88] ?_|refine i9 ?_ ?_<;>intro h<;>try simp only[i7] at h
  all_goals
   refine i6 (ι:={ j:Nat // j≤x.draws.length∧∀ (i:Nat) (d:Int),i<j→x.draws[i]?=some d→Cw (nums p.n.reg) x.draws i d }) (fun q=>⟨89,[(5,.one (.ptr 2 0)),(6,s6 (nums p.n.reg)),(7,iv (q.1:Int))],[.row ((p7 p).map .im),.vec 0 [] 0 true,.row ((o2 x).map .im)]⟩) (fun q=>x.draws.length-q.1) ⟨0,by simp⟩ (zv [5,6,7]) ?_
   rintro⟨j,hj,hjok⟩
   simp only[iv,s6]
   by_cases hlj:j<x.draws.length
   ·have hx1:x.draws[j]?=some x.draws[j]:=by simp[hlj]
    have hwj:=zk j
    have c5:=c4 x.draws[j]
    have hcj:(¬ 0<j∧True∧∃ _:True,True)∨(0<j∧IntKind.i64.wrap ((j:Int)-1)=((j-1:Nat):Int)∧∃ h:j-1<x.draws.length,True):=by
     rcases Nat.eq_zero_or_pos j with h0|h0
     ·exact .inl ⟨by omega,trivial,trivial,trivial⟩
     ·exact .inr ⟨by omega,by rw[o3 (by omega) (by omega)];omega,by omega,trivial⟩
    have hbadj:¬ Cw (nums p.n.reg) x.draws j x.draws[j]→decide (qQ (nums p.n.reg) p.holders k x)=false:=fun h=>decide_eq_false fun h'=>h (h'.2 j _ hx1)
    have hstj:Cw (nums p.n.reg) x.draws j x.draws[j]→∀ (i:Nat) (d:Int),i<j+1→x.draws[i]?=some d→Cw (nums p.n.reg) x.draws i d:=fun h i d hi hd=>by
     by_cases e:i=j
     ·subst e;rw[hx1] at hd;cases hd;exact h
     ·exact hjok i d (by omega) hd
    generalize decide (qQ (nums p.n.reg) p.holders k x)=B at *
    rcases hcj with⟨hj0,hwmj,hij,-⟩|⟨hj0,hwmj,hij,-⟩
    all_goals
     have hs:=za hx1 (za hlj (za hj0 (za hwmj (za hij hwj))))
     repeat' first|(with_reducible first|refine zz ?_|refine zr ?_)|simp -dsimp[hs]|refine zq c5 ?_|refine zM 8 89 26 [0,1,2,4,5,6,7,51,60,88] ?_|with_reducible refine zE [0,1,2,4,5,6,7,51,60,88] ?_|refine i9 ?_ ?_<;>intro h<;>try simp only[i7] at h|with_reducible refine j0 ?_ ?_<;>intro h<;>have h0:=h<;>(try simp only[i7] at h)<;>have h2:=h<;>(try simp at h2)<;>replace hs:=za h0 (za h (za h2 hs))
     all_goals try clear hs
    all_goals first
     | exact zn ⟨j+1,by omega,hstj ⟨of_decide_eq_true (by assumption),fun h1 e he=>by first|omega|(obtain⟨_,rfl⟩:=List.getElem?_eq_some_iff.1 he;omega)⟩⟩ (zv [5,6,7])
     | (refine hbadj fun hh=>?_;have:=hh.1;simp_all;done)
     | (refine hbadj fun hh=>?_;have:=hh.2 (by omega) _ (List.getElem?_eq_getElem hij);omega)
   ·have hyes:decide (qQ (nums p.n.reg) p.holders k x)=true:=decide_eq_true ⟨hA,fun i d hd=>hjok i d (by have:=e7 hd;omega) hd⟩
    rw[hyes]
    have hs:=hlj
    repeat' first|(with_reducible first|refine zz ?_|refine zr ?_|refine zE [0,1,2,4,5,6,7,51,60,88] ?_)|simp -dsimp[hs]|refine i9 ?_ ?_<;>intro h<;>try simp only[i7] at h
 ·have hno:decide (qQ (nums p.n.reg) p.holders k x)=false:=decide_eq_false fun h=>hA h.1
  rw[hno]
  generalize hb1:(decide (1≤x.id)&&decide (x.id≤9999))=b1 at c1
  generalize hb2:(decide (1≤x.frm)&&decide (x.frm≤x.to))=b2 at c2
  have hcs:(¬ 0<k∧True∧∃ _:True,True)∨(0<k∧IntKind.i64.wrap ((k:Int)-1)=((k-1:Nat):Int)∧∃ h:k-1<p.holders.length,True):=by
   rcases Nat.eq_zero_or_pos k with h0|h0
   ·exact .inl ⟨by omega,trivial,trivial,trivial⟩
   ·exact .inr ⟨by omega,by rw[o3 (by omega) (by omega)];omega,by omega,trivial⟩
  rcases hcs with⟨hk0,hwm,hi1,-⟩|⟨hk0,hwm,hi1,-⟩<;>cases b1<;>cases b2
  all_goals
   have hs:=za hx (za hlt (za hk0 (za hwm hi1)))
   repeat' first|(with_reducible first|refine zz ?_|refine zr ?_)|simp -dsimp[hs]|refine zq c1 ?_|refine zq c2 ?_|refine zM 2 89 39 [0,1,2,4,5,6,7,51,60,88] ?_|with_reducible refine zE [0,1,2,4,5,6,7,51,60,88] ?_|refine i9 ?_ ?_<;>intro h<;>try simp only[i7] at h|with_reducible refine j0 ?_ ?_<;>intro h<;>have h0:=h<;>(try simp only[i7] at h)<;>have h2:=h<;>(try simp at h2)<;>replace hs:=za h0 (za h (za h2 hs))
  ·refine absurd ?_ hA
   simp at hb1 hb2
   exact⟨by omega,fun h1=>by omega,by omega,by omega,by omega,by omega⟩
  ·refine absurd ?_ hA
   simp at hb1 hb2
   exact⟨by omega,fun h1 y hy=>by
    obtain⟨_,rfl⟩:=List.getElem?_eq_some_iff.1 hy
    simp_all<;>omega,by omega,by omega,by omega,by omega⟩
theorem yb (l:List Issue) (x:Print):(n8 l x.drawing x.letter).isSome=Em l x:=by
 unfold n8 Em
 rw[Bool.eq_iff_iff,List.find?_isSome,List.any_eq_true]
 refine exists_congr fun y=>and_congr_right fun _=>?_
 simp only[Bool.and_eq_true,beq_iff_eq,decide_eq_true_eq]
 constructor<;>exact fun ⟨h1,h2⟩=>⟨h1.symm,h2.symm⟩
theorem BJ (p:Prints) (i:Nat) (x:Print):vf p i x↔(0<i→∀ y,p.prints[i-1]?=some y→y.number<x.number)∧FN x=true∧Gy p.holders x=true∧Em p.n.reg x=true∧FM x=true∧FL x=true:=by
 refine and_congr_right fun _=>⟨fun h=>⟨h 0 (by omega),h 1 (by omega),h 2 (by omega),h 3 (by omega),h 4 (by omega)⟩,fun ⟨h1,h2,h3,h4,h5⟩ c hc=>?_⟩
 match c,hc with
 | 0,_=>exact h1
 | 1,_=>exact h2
 | 2,_=>exact h3
 | 3,_=>exact h4
 | 4,_=>exact h5
theorem xA {B b1 b2 b3 b4 b5:Bool} {O:Prop} {f l r:Int} (hf3:b3=true↔¬ f<0) (hP:B=true↔O∧(b1&&b2)=true∧b3=true∧b4=true∧decide (l≤2)=true∧(decide (r=-1)||b5&&decide (l=0))=true):(b1=false∧True∧True∧True∧True∧True∧True∧B=false)∨(¬ O∧B=false)∨(O∧((b1=true∧b2=false∧True∧True∧True∧True∧True∧B=false)∨(b1=true∧b2=true∧f<0∧True∧True∧True∧True∧B=false)∨(b1=true∧b2=true∧¬ f<0∧2<l∧True∧True∧True∧B=false)∨(b1=true∧b2=true∧¬ f<0∧¬ 2<l∧b4=false∧True∧True∧B=false)∨(b1=true∧b2=true∧¬ f<0∧¬ 2<l∧b4=true∧r=-1∧True∧B=true)∨(b1=true∧b2=true∧¬ f<0∧¬ 2<l∧b4=true∧¬ r=-1∧b5=false∧B=false)∨(b1=true∧b2=true∧¬ f<0∧¬ 2<l∧b4=true∧¬ r=-1∧b5=true∧B=decide (l=0)))):=by
 have hn:¬ (O∧(b1&&b2)=true∧b3=true∧b4=true∧decide (l≤2)=true∧(decide (r=-1)||b5&&decide (l=0))=true)→B=false:=fun h=>Bool.eq_false_iff.2 fun e=>h (hP.1 e)
 have t:=trivial
 by_cases hO:O
 ·cases b1 with
  | false=>exact .inl ⟨rfl,t,t,t,t,t,t,hn fun h=>by simpa using h.2.1⟩
  | true =>
    refine .inr (.inr ⟨hO,?_⟩)
    cases b2 with
    | false=>exact .inl ⟨rfl,rfl,t,t,t,t,t,hn fun h=>by simpa using h.2.1⟩
    | true =>
      by_cases q2:f<0
      ·exact .inr (.inl ⟨rfl,rfl,q2,t,t,t,t,hn fun h=>hf3.1 h.2.2.1 q2⟩)
      ·by_cases q3:2<l
       ·exact .inr (.inr (.inl ⟨rfl,rfl,q2,q3,t,t,t,hn fun h=>by have:=of_decide_eq_true h.2.2.2.2.1;omega⟩))
       ·have h2:decide (l≤2)=true:=decide_eq_true (by omega)
        have hb3:b3=true:=hf3.2 q2
        cases b4 with
        | false=>exact .inr (.inr (.inr (.inl ⟨rfl,rfl,q2,q3,rfl,t,t,hn fun h=>Bool.noConfusion h.2.2.2.1⟩)))
        | true =>
          by_cases q4:r=-1
          ·exact .inr (.inr (.inr (.inr (.inl ⟨rfl,rfl,q2,q3,rfl,q4,t,hP.2 ⟨hO,rfl,hb3,rfl,h2,by rw[decide_eq_true q4];rfl⟩⟩))))
          ·cases b5 with
           | false=>exact .inr (.inr (.inr (.inr (.inr (.inl ⟨rfl,rfl,q2,q3,rfl,q4,rfl,hn fun h=>by have:=h.2.2.2.2.2;rw[decide_eq_false q4] at this;simp at this⟩)))))
           | true =>
             refine .inr (.inr (.inr (.inr (.inr (.inr ⟨rfl,rfl,q2,q3,rfl,q4,rfl,?_⟩)))))
             by_cases q5:l=0
             ·rw[decide_eq_true q5];exact hP.2 ⟨hO,rfl,hb3,rfl,h2,by rw[decide_eq_true q5];simp⟩
             ·rw[decide_eq_false q5];exact hn fun h=>by have:=h.2.2.2.2.2;rw[decide_eq_false q4,decide_eq_false q5] at this;simp at this
 ·exact .inr (.inl ⟨hO,hn fun h=>hO h.1⟩)
open Classical in
theorem xK (p:Prints) (k:Nat) (x:Print) (hx0:p.prints[k]?=some x) (hsm:SmallP p):zP prog G 220 [D3 p,iv (k:Int)] (bv (decide (vf p k x))):=by
 refine zf func220 ntmps220 ?_
 try simp only[iv]
 have hlt:k<p.prints.length:=e7 hx0
 have hx:p.prints[k]=x:=(List.getElem?_eq_some_iff.1 hx0).2
 have hlo:=hsm.lo x (by rw[← hx];exact List.getElem_mem hlt)
 have hh:=hsm.h
 have hrl:=hsm.l
 have hql:=hsm.q
 have c1:=aP (G:=G) x.number 1 9999
 have c2:=aP (G:=G) x.day 0 14610
 have c3:=pK (G:=G) p x.holder (by omega)
 have c4:=ss (G:=G) p.n.reg x.drawing x.letter (by omega)
 have c5:=aP (G:=G) x.back x.day 14610
 have hf:=uf (fun y:Holder=>decide (y.id=x.holder)) p.holders
 have hP:=BJ p k x
 rw[← yb,show Gy p.holders x=p.holders.any (fun y=>decide (y.id=x.holder)) from rfl] at hP
 simp only[C3] at c4
 generalize H9 (fun y:Holder=>decide (y.id=x.holder)) p.holders=f at *
 generalize (p.holders.any fun y=>decide (y.id=x.holder))=b3 at *
 generalize (n8 p.n.reg x.drawing x.letter).isSome=b4 at *
 generalize (n8 p.n.reg x.drawing x.letter).getD J7=z at *
 generalize hB:decide (vf p k x)=B
 have hP':B=true↔vf p k x:=by rw[← hB,decide_eq_true_eq]
 rw[hP] at hP'
 clear hP hB
 generalize hb1:(decide (1≤x.number)&&decide (x.number≤9999))=b1 at c1
 generalize hb2:(decide (0≤x.day)&&decide (x.day≤14610))=b2 at c2
 generalize hb5:(decide (x.day≤x.back)&&decide (x.back≤14610))=b5 at c5
 have e1:FN x=(b1&&b2):=by rw[← hb1,← hb2];rfl
 have e5:FL x=(decide (x.back=-1)||b5&&decide (x.lost=0)):=by rw[← hb5];rfl
 rw[e1,e5,show FM x=decide (x.lost≤2) from rfl] at hP'
 clear e1 e5 hb1 hb2 hb5
 have hf3:b3=true↔¬ f<0:=by cases b3<;>simpa using hf
 clear hf
 have hs:True:=trivial
 have hcs:(¬ 0<k∧True∧(∃ _:True,True)∧(0<k→∀ y,p.prints[k-1]?=some y→y.number<x.number))∨(0<k∧IntKind.i64.wrap ((k:Int)-1)=((k-1:Nat):Int)∧(∃ h:k-1<p.prints.length,¬ x.number≤(p.prints[k-1]'h).number)∧(0<k→∀ y,p.prints[k-1]?=some y→y.number<x.number))∨(0<k∧IntKind.i64.wrap ((k:Int)-1)=((k-1:Nat):Int)∧(∃ h:k-1<p.prints.length,x.number≤(p.prints[k-1]'h).number)∧¬ (0<k→∀ y,p.prints[k-1]?=some y→y.number<x.number)):=by
  rcases Nat.eq_zero_or_pos k with h0|h0
  ·exact .inl ⟨by omega,trivial,⟨trivial,trivial⟩,fun h=>by omega⟩
  ·have h1:k-1<p.prints.length:=by omega
   have h2:=List.getElem?_eq_getElem h1
   have hw:IntKind.i64.wrap ((k:Int)-1)=((k-1:Nat):Int):=by rw[o3 (by omega) (by omega)];omega
   by_cases h3:x.number≤(p.prints[k-1]'h1).number
   ·exact .inr (.inr ⟨h0,hw,⟨h1,h3⟩,fun h=>by have:=h h0 _ h2;omega⟩)
   ·exact .inr (.inl ⟨h0,hw,⟨h1,h3⟩,fun _ y hy=>by rw[h2] at hy;cases hy;omega⟩)
 generalize (0<k→∀ y,p.prints[k-1]?=some y→y.number<x.number)=O at *
 have hc2:=xA hf3 hP'
 rcases hc2 with⟨g1,g2,g3,g4,g5,g6,g7,gB⟩|⟨hO,gB⟩|⟨hO,hc2⟩
 ·clear hcs
  have hs:=za hx (za hlt g1)
  repeat' first|(with_reducible first|refine zz ?_|refine zr ?_)|simp -dsimp[hs]|refine zq c1 ?_|refine zM 2 77 38 [0,1,2,4,5,7,50,61] ?_|with_reducible refine zE [0,1,2,4,5,7,50,61] ?_|refine i9 ?_ ?_<;>intro h<;>try simp only[i7] at h
  all_goals try clear hs
  all_goals exact gB
 ·rcases hcs with⟨hk0,hwm,⟨hi1,hlt1⟩,hO1⟩|⟨hk0,hwm,⟨hi1,hlt1⟩,hO1⟩|⟨hk0,hwm,⟨hi1,hlt1⟩,hO1⟩
  ·exact absurd hO1 hO
  ·exact absurd hO1 hO
  ·cases b1
   all_goals
    have hs:=za hx (za hlt (za hk0 (za hwm (za hi1 hlt1))))
    repeat' first|(with_reducible first|refine zz ?_|refine zr ?_)|simp -dsimp[hs]|refine zq c1 ?_|refine zM 2 77 38 [0,1,2,4,5,7,50,61] ?_|with_reducible refine zE [0,1,2,4,5,7,50,61] ?_|refine i9 ?_ ?_<;>intro h<;>try simp only[i7] at h
    all_goals try clear hs
   all_goals exact gB
 ·rcases hc2 with⟨g1,g2,g3,g4,g5,g6,g7,gB⟩|⟨g1,g2,g3,g4,g5,g6,g7,gB⟩|⟨g1,g2,g3,g4,g5,g6,g7,gB⟩|⟨g1,g2,g3,g4,g5,g6,g7,gB⟩|⟨g1,g2,g3,g4,g5,g6,g7,gB⟩|⟨g1,g2,g3,g4,g5,g6,g7,gB⟩|⟨g1,g2,g3,g4,g5,g6,g7,gB⟩<;>rcases hcs with⟨hk0,hwm,⟨hi1,hlt1⟩,hO1⟩|⟨hk0,hwm,⟨hi1,hlt1⟩,hO1⟩|⟨hk0,hwm,⟨hi1,hlt1⟩,hO1⟩
  all_goals first
   | exact absurd hO hO1
   | skip
  all_goals
   have hs:=za hx (za hlt (za hk0 (za hwm (za hi1 (za hlt1 (za g1 (za g2 (za g3 (za g4 (za g5 (za g6 g7)))))))))))
   repeat' first|(with_reducible first|refine zz ?_|refine zr ?_)|simp -dsimp[hs]|refine zq c1 ?_|refine zq c2 ?_|refine zq c3 ?_|refine zp c4 ?_|refine zp c5 ?_|refine zM 2 77 38 [0,1,2,4,5,7,50,61] ?_|with_reducible refine zE [0,1,2,4,5,7,50,61] ?_|refine i9 ?_ ?_<;>intro h<;>try simp only[i7] at h
   all_goals try clear hs
  all_goals first
   | exact gB
   | exact gB.symm
   | trace_state
open Classical in
theorem uV (p:Prints) (hsm:SmallP p):zP prog G 170 [D3 p] (bv (F4 p)):=by
 refine zf func170 ntmps170 ?_
 try simp only[iv]
 have hh:=hsm.h
 have hq:=hsm.q
 by_cases h6:¬ p.holders.length≤6
 ·have h6':(6:Int)<p.holders.length:=by omega
  have hno:=K3 (p:=p) fun h=>h6 h.hl
  have hs:=h6'
  repeat' first|(with_reducible first|refine zz ?_|refine zr ?_|refine zE [0,1,2,3,4,14,19,25,30,36] ?_)|simp -dsimp[hs]|refine i9 ?_ ?_<;>intro h<;>try simp only[i7] at h
  all_goals try clear hs
  all_goals simp[hno]
 replace h6:=Classical.not_not.1 h6
 have h6':¬ (6:Int)<p.holders.length:=by omega
 by_cases h30:¬ p.prints.length≤30
 ·have h30':(30:Int)<p.prints.length:=by omega
  have hno:=K3 (p:=p) fun h=>h30 h.pl
  have hs:=za h6' h30'
  repeat' first|(with_reducible first|refine zz ?_|refine zr ?_|refine zE [0,1,2,3,4,14,19,25,30,36] ?_)|simp -dsimp[hs]|refine i9 ?_ ?_<;>intro h<;>try simp only[i7] at h
  all_goals try clear hs
  all_goals simp[hno]
 replace h30:=Classical.not_not.1 h30
 have h30':¬ (30:Int)<p.prints.length:=by omega
 have hs:=za h6' h30'
 repeat' first|(with_reducible first|refine zz ?_|refine zE [0,1,2,3,4,14,19,25,30,36] ?_)|simp -dsimp[hs]|refine i9 ?_ ?_<;>intro h<;>try simp only[i7] at h
 all_goals try clear hs
 refine i6 (ι:={ k:Nat // k≤p.holders.length∧∀ (j:Nat) (x:Holder),j<k→p.holders[j]?=some x→qQ (nums p.n.reg) p.holders j x }) (fun q=>⟨37,[(1,.one (.ptr 0 0)),(3,iv (q.1:Int))],[.row ((p7 p).map .im)]⟩) (fun q=>p.holders.length-q.1) ⟨0,by simp⟩ (zv [1,3]) ?_
 rintro⟨k,hk,hok⟩
 simp only[iv]
 by_cases hlt:k<p.holders.length
 ·have hx0:p.holders[k]?=some p.holders[k]:=by simp[hlt]
  have hw:=zk k
  have c1:=uR (G:=G) p k _ hx0 hsm
  generalize hx:p.holders[k]=x at *
  have hstep:qQ (nums p.n.reg) p.holders k x→∀ (j:Nat) (z:Holder),j<k+1→p.holders[j]?=some z→qQ (nums p.n.reg) p.holders j z:=fun h j z hj hz=>by
   by_cases e:j=k
   ·subst e;rw[hx0] at hz;cases hz;exact h
   ·exact hok j z (by omega) hz
  by_cases hB:qQ (nums p.n.reg) p.holders k x
  ·rw[decide_eq_true hB] at c1
   have hs:=za hlt hw
   repeat' first|(with_reducible first|refine zz ?_|refine zE [0,1,2,3,4,14,19,25,30,36] ?_)|simp -dsimp[hs]|refine zp c1 ?_|refine i9 ?_ ?_<;>intro h<;>try simp only[i7] at h
   all_goals try clear hs
   exact zn ⟨k+1,by omega,hstep hB⟩ (zv [1,3])
  ·rw[decide_eq_false hB] at c1
   have hno:=K3 (p:=p) fun h'=>hB (h'.h k x hx0)
   have hs:=za hlt hw
   repeat' first|(with_reducible first|refine zz ?_|refine zr ?_|refine zE [0,1,2,3,4,14,19,25,30,36] ?_)|simp -dsimp[hs]|refine zp c1 ?_|refine i9 ?_ ?_<;>intro h<;>try simp only[i7] at h
   all_goals try clear hs
   all_goals simp[hno]
 have hall:∀ i x,p.holders[i]?=some x→qQ (nums p.n.reg) p.holders i x:=fun i x hx=>hok i x (by have:=e7 hx;omega) hx
 have hs:=hlt
 repeat' first|(with_reducible first|refine zz ?_|refine zE [0,1,2,3,4,14,19,25,30,36] ?_)|simp -dsimp[hs]|refine i9 ?_ ?_<;>intro h<;>try simp only[i7] at h
 all_goals try clear hs
 clear hlt hok hk
 refine i6 (ι:={ k:Nat // k≤p.prints.length∧∀ (j:Nat) (x:Print),j<k→p.prints[j]?=some x→vf p j x }) (fun q=>⟨37,[(1,.one (.ptr 0 0)),(4,iv (q.1:Int))],[.row ((p7 p).map .im)]⟩) (fun q=>p.prints.length-q.1) ⟨0,by simp⟩ (zv [1,4]) ?_
 rintro⟨k,hk,hok⟩
 simp only[iv]
 by_cases hlt:k<p.prints.length
 ·have hx0:p.prints[k]?=some p.prints[k]:=by simp[hlt]
  have hw:=zk k
  have c1:=xK (G:=G) p k _ hx0 hsm
  generalize hx:p.prints[k]=x at *
  have hstep:vf p k x→∀ (j:Nat) (z:Print),j<k+1→p.prints[j]?=some z→vf p j z:=fun h j z hj hz=>by
   by_cases e:j=k
   ·subst e;rw[hx0] at hz;cases hz;exact h
   ·exact hok j z (by omega) hz
  by_cases hB:vf p k x
  ·rw[decide_eq_true hB] at c1
   have hs:=za hlt hw
   repeat' first|(with_reducible first|refine zz ?_|refine zE [0,1,2,3,4,14,19,25,30,36] ?_)|simp -dsimp[hs]|refine zp c1 ?_|refine i9 ?_ ?_<;>intro h<;>try simp only[i7] at h
   all_goals try clear hs
   exact zn ⟨k+1,by omega,hstep hB⟩ (zv [1,4])
  ·rw[decide_eq_false hB] at c1
   have hno:=K3 (p:=p) fun h'=>hB (h'.q k x hx0)
   have hs:=za hlt hw
   repeat' first|(with_reducible first|refine zz ?_|refine zr ?_|refine zE [0,1,2,3,4,14,19,25,30,36] ?_)|simp -dsimp[hs]|refine zp c1 ?_|refine i9 ?_ ?_<;>intro h<;>try simp only[i7] at h
   all_goals try clear hs
   all_goals simp[hno]
 have hyes:F4 p=true:=cQ ⟨h6,h30,hall,fun i x hx=>hok i x (by have:=e7 hx;omega) hx⟩
 rw[hyes]
 have hs:=hlt
 repeat' first|(with_reducible first|refine zz ?_|refine zr ?_|refine zE [0,1,2,3,4,14,19,25,30,36] ?_)|simp -dsimp[hs]|refine i9 ?_ ?_<;>intro h<;>try simp only[i7] at h
 all_goals try clear hs
theorem uW (p:Prints) (hk:KP p):zP prog G 104 [D3 p] (iv (r8 p)):=by
 refine zf func104 ntmps104 ?_
 try simp only[iv]
 have c1:=Aa (G:=G) p.n hk.n
 have c2:=uV (G:=G) p hk.p
 by_cases h0:u3 p.n=0
 ·simp only[h0] at c1
  have hE:r8 p=if F4 p=true then 0 else 70:=by unfold r8;rw[if_neg (by simp[h0])]
  rw[hE]
  generalize F4 p=b at *
  cases b
  ·have hs:=trivial
   repeat' first|(with_reducible first|refine zz ?_|refine zr ?_|refine zE [0,1,2,3,8,12] ?_)|simp -dsimp[hs]|refine zp c1 ?_|refine zp c2 ?_|refine i9 ?_ ?_<;>intro h<;>try simp only[i7] at h
  ·have hs:=trivial
   repeat' first|(with_reducible first|refine zz ?_|refine zr ?_|refine zE [0,1,2,3,8,12] ?_)|simp -dsimp[hs]|refine zp c1 ?_|refine zp c2 ?_|refine i9 ?_ ?_<;>intro h<;>try simp only[i7] at h
 ·have hE:r8 p=u3 p.n:=by unfold r8;rw[if_pos h0]
  rw[hE]
  have hs:=h0
  repeat' first|(with_reducible first|refine zz ?_|refine zr ?_|refine zE [0,1,2,3,8,12] ?_)|simp -dsimp[hs]|refine zp c1 ?_|refine i9 ?_ ?_<;>intro h<;>try simp only[i7] at h
end Go.Proofs
namespace Go.Ab
open Go
def lexB:List Int→List Int→Bool
 | a :: x,b :: y=>if a=b then lexB x y else decide (a<b)
 | _,_=>false
theorem nS {l:List Int} (h:l.Nodup):(l4 l).Pairwise (· < ·):=by
 have h1:(l4 l).Nodup:=(List.mergeSort_perm l _).nodup_iff.2 h
 have h2:=List.pairwise_mergeSort (le:=fun x y:Int=>decide (x≤y)) (fun a b c h1 h2=>by simp at *;omega) (fun a b=>by simp;omega) l
 rw[List.nodup_iff_pairwise_ne] at h1
 refine(h1.and h2).imp ?_
 rintro a b ⟨h3,h4⟩
 simp at h4;omega
def aU (N:List Int) (s:Nat) (k:Nat):List Int:=((List.range k).filter fun i=>s.testBit i).map fun i=>N.getD i 0
theorem gL (N:List Int) (s k:Nat):aU N s (k+1)=aU N s k++(if s.testBit k=true then [N.getD k 0] else []):=by
 unfold aU
 rw[List.range_succ,List.filter_append,List.map_append]
 congr 1
 by_cases h:s.testBit k=true<;>simp[h]
end Go.Ab
namespace Go.Proofs
open Go Go.Ab
end Go.Proofs
namespace Go.Ab
open Go
theorem FA (s i:Nat):IntKind.i64.wrap ((BitVec.ofInt 64 ((s:Int).fdiv (2 ^ i)) &&& BitVec.ofInt 64 1).toNat:Int)=if s.testBit i=true then 1 else 0:=by
 have e1:(s:Int).fdiv (2 ^ i)=((s / 2 ^ i:Nat):Int):=by
  rw[Int.fdiv_eq_ediv_of_nonneg _ (by exact Int.pow_nonneg (by omega))]
  simp
 have e2:(BitVec.ofInt 64 ((s / 2 ^ i:Nat):Int) &&& BitVec.ofInt 64 1).toNat=(s / 2 ^ i) % 2:=by
  have h1:(BitVec.ofInt 64 1)=1#64:=by decide
  rw[h1,BitVec.ofInt_natCast,BitVec.toNat_and,BitVec.toNat_ofNat,BitVec.toNat_ofNat]
  rw[show (1 % 2 ^ 64:Nat)=1 by decide,Nat.and_one_is_mod]
  omega
 rw[e1,e2,Nat.testBit_eq_decide_div_mod_eq]
 rcases Nat.mod_two_eq_zero_or_one (s / 2 ^ i) with h|h
 ·rw[h];simp;decide
 ·rw[h];simp;decide
end Go.Ab
namespace Go.Proofs
open Go Go.Ab
variable {G:JO}
theorem yK (l:List Int):(l4 l).length=l.length:=(List.mergeSort_perm l _).length_eq
theorem pc (N:List Int) (s k:Nat):(aU N s k).length≤k:=by
 induction k with
 | zero=>simp[aU]
 | succ k ih =>
   rw[gL]
   split<;>simp<;>omega
def Hw (l:List Int):List IC:=[.sl (l.map encI)]
def Jt (L:List (List Int)):DV:=.one (.im (.sl (L.map Hw)))
attribute [simp] Hw Jt
def qZ (O:List Int) (k:Nat):List (List Int):=(List.range k).map fun s=>aU O s O.length
def jx (O:List Int):List (List Int):=qZ O (2 ^ O.length)
theorem oS (O:List Int) (k:Nat):(qZ O k).length=k:=by simp[qZ]
theorem iN (O:List Int):(jx O).length=2 ^ O.length:=oS _ _
theorem uF (O:List Int) (k:Nat):qZ O (k+1)=qZ O k++[aU O k O.length]:=by
 simp[qZ,List.range_succ]
end Go.Proofs
namespace Go.Ab
open Go
structure Str where
 frm:Int
 to:Int
 letter:Int
 deriving DecidableEq
def zK (x:Str):List IC:=[rI x.frm,rI x.to,rI x.letter]
def Ic (l:List Str):DV:=.one (.im (.sl (l.map zK)))
attribute [simp] zK Ic
end Go.Ab
namespace Go.Proofs
open Go Go.Ab
def aX (l:List Note):List Int:=1 :: l.flatMap fun x=>[x.frm,x.to+1]
def Y8 (l:List Note):List Int:=(p9 (l4 (aX l))).filter fun m=>decide (m≤999)
theorem vt (l:List Note):(Y8 l).length≤2*l.length+1:=by
 have h1:=List.length_filter_le (fun m:Int=>decide (m≤999)) (p9 (l4 (aX l)))
 have h2:=ab (l4 (aX l))
 have h3:(aX l).length=2*l.length+1:=by
  unfold aX
  have:∀ l:List Note,(l.flatMap fun x=>[x.frm,x.to+1]).length=2*l.length:=fun l=>by
   induction l with
   | nil=>rfl
   | cons a r ih=>rw[List.flatMap_cons,List.length_append,ih,List.length_cons,List.length_cons,List.length_cons,List.length_nil];omega
  rw[List.length_cons,this]
 rw[L7,h3] at h2
 unfold Y8;omega
theorem EC {n:Notes} (hok:ln n) {x:Note} (hx:x∈n.notes):1≤x.frm∧x.frm≤x.to∧x.to≤999:=by
 obtain⟨i,hi,e⟩:=List.mem_iff_getElem.1 hx
 have h:=hok i x (by rw[List.getElem?_eq_getElem hi,e])
 simp only[tT,DD,Bool.and_eq_true,decide_eq_true_eq] at h
 omega
def stepS (a b:List Int):List Int:=List.zipWith (fun x y=>if y=x then x else 0) a b
variable {G:JO}
attribute [simp] p5 bw r9 v8 nilV H8 ZK
end Go.Proofs
namespace Go.Proofs
open Go Go.Ab
end Go.Proofs
namespace Go.Ab
open Go
def FB (L:List Bool):List DC:=L.map fun b=>.im (.raw (.bool b))
@[simp] theorem HY (m:Nat) (O:List DObj) (L:List Bool):(FB L).map (fz m O)=FB L:=by
 simp only[FB,List.map_map];rfl
end Go.Ab
namespace Go.Proofs
open Go Go.Ab
variable {G:JO}
end Go.Proofs
namespace Go.Proofs
open Go Go.Ab
variable {G:JO}
open Go Go.Ab Tryz
def FF (p:Prints):Prop:=AN p.n∧p.holders.length≤8∧p.prints.length≤40∧∀ x∈p.holders,x.draws.length≤20
def fy (p:Prints):Bool:=bE p.n&&(decide (p.holders.length≤8)&&(decide (p.prints.length≤40)&&p.holders.all fun x=>decide (x.draws.length≤20)))
theorem zb (p:Prints):zP prog G 62 [D3 p] (bv (!fy p)):=by
 refine zf func62 ntmps62 ?_
 try simp only[iv]
 have c1:=zd (G:=G) p.n
 have hE:fy p=(bE p.n&&(decide (p.holders.length≤8)&&(decide (p.prints.length≤40)&&p.holders.all fun x=>decide (x.draws.length≤20)))):=rfl
 simp only[q9,w7] at c1
 cases hS:bE p.n
 ·rw[hS,Bool.false_and] at hE
  rw[hS] at c1
  rw[hE]
  have hs:=trivial
  repeat' first|(with_reducible first|refine zz ?_|refine zr ?_|refine zE [0,1,2,3,18,23,33] ?_)|simp -dsimp[hs]|refine zp c1 ?_|refine i9 ?_ ?_<;>intro h<;>try simp only[i7] at h
 ·rw[hS,Bool.true_and] at hE
  rw[hS] at c1
  by_cases h8:p.holders.length≤8
  ·have h8':¬ (8:Int)<p.holders.length:=by omega
   rw[decide_eq_true h8,Bool.true_and] at hE
   by_cases h40:p.prints.length≤40
   ·have h40':¬ (40:Int)<p.prints.length:=by omega
    rw[decide_eq_true h40,Bool.true_and] at hE
    have hs:=za h8' h40'
    repeat' first|(with_reducible first|refine zz ?_|refine zE [0,1,2,3,18,23,33] ?_)|simp -dsimp[hs]|refine zp c1 ?_|refine i9 ?_ ?_<;>intro h<;>try simp only[i7] at h
    refine i6 (ι:={ k:Nat // k≤p.holders.length∧(p.holders.all fun x=>decide (x.draws.length≤20))=(p.holders.drop k).all fun x=>decide (x.draws.length≤20) }) (fun q=>⟨34,[(1,.one (.ptr 0 0)),(3,iv (q.1:Int))],[.row ((p7 p).map .im)]⟩) (fun q=>p.holders.length-q.1) ⟨0,by simp⟩ (zv [1,3]) ?_
    rintro⟨k,hk,hall⟩
    simp only[iv]
    by_cases hlt:k<p.holders.length
    ·have hw:=zk k
     have hst:=bt hlt hall
     generalize hx:p.holders[k]=x at *
     by_cases h20:x.draws.length≤20
     ·have h20':¬ (20:Int)<x.draws.length:=by omega
      have hs:=za hx (za hlt (za hw h20'))
      repeat' first|(with_reducible first|refine zz ?_|refine zE [0,1,2,3,18,23,33] ?_)|simp -dsimp[hs]|refine i9 ?_ ?_<;>intro h<;>try simp only[i7] at h
      exact zn ⟨k+1,by omega,I0 hst (by simpa using h20)⟩ (zv [1,3])
     ·have h20':(20:Int)<x.draws.length:=by omega
      have hs:=za hx (za hlt (za hw h20'))
      repeat' first|(with_reducible first|refine zz ?_|refine zr ?_|refine zE [0,1,2,3,18,23,33] ?_)|simp -dsimp[hs]|refine i9 ?_ ?_<;>intro h<;>try simp only[i7] at h
      rw[hE,E0 hst (by simpa using h20)];try rfl
    ·have hok:(p.holders.all fun x=>decide (x.draws.length≤20))=true:=by rw[hall,List.drop_eq_nil_of_le (by omega)];rfl
     have hs:=hlt
     repeat' first|(with_reducible first|refine zz ?_|refine zr ?_|refine zE [0,1,2,3,18,23,33] ?_)|simp -dsimp[hs]|refine i9 ?_ ?_<;>intro h<;>try simp only[i7] at h
     rw[hE,hok];try rfl
   ·have h40':(40:Int)<p.prints.length:=by omega
    rw[decide_eq_false h40,Bool.false_and] at hE
    have hs:=za h8' h40'
    repeat' first|(with_reducible first|refine zz ?_|refine zr ?_|refine zE [0,1,2,3,18,23,33] ?_)|simp -dsimp[hs]|refine zp c1 ?_|refine i9 ?_ ?_<;>intro h<;>try simp only[i7] at h
    rw[hE];try rfl
  ·have h8':(8:Int)<p.holders.length:=by omega
   rw[decide_eq_false h8,Bool.false_and] at hE
   have hs:=h8'
   repeat' first|(with_reducible first|refine zz ?_|refine zr ?_|refine zE [0,1,2,3,18,23,33] ?_)|simp -dsimp[hs]|refine zp c1 ?_|refine i9 ?_ ?_<;>intro h<;>try simp only[i7] at h
   rw[hE];try rfl
theorem J8 (n lo hi:Int):zP prog G 94 [iv n,iv lo,iv hi] (bv (decide (lo≤n)&&decide (n≤hi))):=by
 refine zf func94 ntmps94 ?_
 try simp only[iv,iv,iv]
 have hs:=trivial
 repeat' first|(with_reducible first|refine zz ?_|refine zr ?_|refine zE [0,1,2,6] ?_)|simp -dsimp[hs]|with_reducible refine j0 ?_ ?_<;>intro h<;>have h0:=h<;>(try simp only[i7] at h)<;>have h2:=h<;>(try simp at h2)<;>replace hs:=za h0 (za h (za h2 hs))
 all_goals try clear hs
 all_goals simp[*]
theorem kH {l:List Issue} (h:j7 l=0) {x:Issue} (hx:x∈l):1≤x.letter∧1≤x.kind:=by
 have:=(K0 (H5 (G0 h))).2.2.2.1 x hx
 simp only[n4,zX,Bg,Bool.and_eq_true,decide_eq_true_eq] at this
 by_cases hk:x.kind=1
 ·omega
 ·rw[if_neg hk] at this
  simp only[Bool.and_eq_true,decide_eq_true_eq] at this
  omega
theorem rX {l:List Issue} (h0:j7 l=0) (d:Int):Z0 l d=0↔d∉nums l:=by
 obtain⟨h1,h2,h3⟩:=cV d l 0
 constructor
 ·intro h hd
  obtain⟨x,hx,hxd⟩:=pp hd
  have:=h2 x hx hxd
  have:=(kH h0 hx).1
  unfold Z0 at h
  omega
 ·intro hd
  rcases h3 with h3|⟨x,hx,hxd,_⟩
  ·exact h3
  ·exact absurd (hxd ▸ (E1 h0).2 x hx) hd
theorem rp {c:Case} (h0:j7 c.p.n.reg=0) (l:Link) (x:Piece):H1 c l x=true↔(n8 c.p.n.reg l.drawing 1).isSome=true∧¬ ((n8 c.p.n.reg l.drawing 1).getD J7).kind<2∧(decide (0≤l.dim)&&decide (l.dim≤3))=true∧¬ H9 (fun y=>decide (y.id=x.holder)) c.p.holders<0∧(decide (0≤x.day)&&decide (x.day≤14610))=true∧(decide (0≤x.lo)&&decide (x.lo≤1000000000))=true∧(decide (x.lo≤x.hi)&&decide (x.hi≤1000000000))=true:=by
 have hf:(c.p.holders.any fun y=>decide (y.id=x.holder))=true↔¬ H9 (fun y=>decide (y.id=x.holder)) c.p.holders<0:=by
  rw[← A3,decide_eq_true_eq];omega
 unfold H1 O1
 cases hfi:n8 c.p.n.reg l.drawing 1 with
 | none=>simp
 | some y =>
   have hk:=(kH h0 (List.mem_of_find?_eq_some hfi)).2
   simp only[Option.isSome_some,Option.getD_some,Bool.and_eq_true,decide_eq_true_eq,Bool.not_eq_true',decide_eq_false_iff_not,hf,true_and]
   omega
theorem BG (c:Case) (h0:j7 c.p.n.reg=0) (hk:KC c):zP prog G 105 [n3 c] (bv (ac c)):=by
 refine zf func105 ntmps105 ?_
 try simp only[iv]
 have hl:=hk.l
 have hq:=hk.q
 have hhl:=hk.p.p.h
 have hrl:=hk.p.p.l
 have c2:=yF (G:=G) c.p.n.reg c.of (by omega)
 have hLm:=rX h0 c.of
 have c3:=J8 (G:=G) c.machine 1 999
 have c4:=J8 (G:=G) (c.loop.links.length:Int) 1 8
 have c5:=J8 (G:=G) c.loop.lo (-8000000000) 8000000000
 have c6:=J8 (G:=G) c.loop.hi c.loop.lo 8000000000
 simp only[G7] at c2
 generalize Z0 c.p.n.reg c.of=L at *
 cases h5:eC c
 ·have hB:ac c=false:=by rw[R3,h5,Bool.false_and]
  rw[hB]
  simp only[eC,O1] at h5
  generalize hb3:(decide (1≤c.machine)&&decide (c.machine≤999))=b3 at c3
  generalize hb4:(decide (1≤(c.loop.links.length:Int))&&decide ((c.loop.links.length:Int)≤8))=b4 at c4
  generalize hb5:(decide (-8000000000≤c.loop.lo)&&decide (c.loop.lo≤8000000000))=b5 at c5
  generalize hb6:(decide (c.loop.lo≤c.loop.hi)&&decide (c.loop.hi≤8000000000))=b6 at c6
  have hs:True:=trivial
  by_cases hm:L=0
  ·cases b3
   all_goals
    have hs:=hm
    repeat' first|(with_reducible first|refine zz ?_|refine zr ?_|refine zE [0,1,2,3,4,5,6,7,8,61,66,131] ?_)|simp -dsimp[hs]|refine zp c3 ?_|refine zp c2 ?_|refine i9 ?_ ?_<;>intro h<;>try simp only[i7] at h
    all_goals try clear hs
  ·have hm':c.of∈nums c.p.n.reg:=Classical.byContradiction fun h=>hm (hLm.2 h)
   by_cases hlen:c.pieces.length=c.loop.links.length
   ·cases b3<;>cases b4<;>cases b5<;>cases b6
    all_goals
     have hs:=za hlen hm
     repeat' first|(with_reducible first|refine zz ?_|refine zr ?_|refine zE [0,1,2,3,4,5,6,7,8,61,66,131] ?_)|simp -dsimp[hs]|refine zp c3 ?_|refine zp c2 ?_|refine zp c4 ?_|refine zp c5 ?_|refine zp c6 ?_|refine i9 ?_ ?_<;>intro h<;>try simp only[i7] at h
     all_goals try clear hs
    all_goals exfalso
    all_goals simp[hm',hlen] at h5 hb3 hb4 hb5 hb6
    all_goals omega
   ·have hlen':¬ (c.pieces.length:Int)=c.loop.links.length:=by omega
    cases b3<;>cases b4<;>cases b5<;>cases b6
    all_goals
     have hs:=za hlen (za hlen' hm)
     repeat' first|(with_reducible first|refine zz ?_|refine zr ?_|refine zE [0,1,2,3,4,5,6,7,8,61,66,131] ?_)|simp -dsimp[hs]|refine zp c3 ?_|refine zp c2 ?_|refine zp c4 ?_|refine zp c5 ?_|refine zp c6 ?_|refine i9 ?_ ?_<;>intro h<;>try simp only[i7] at h
     all_goals try clear hs
 ·have hB:ac c=(c.loop.links.zip c.pieces).all fun q=>H1 c q.1 q.2:=by rw[R3,h5,Bool.true_and]
  rw[hB]
  simp only[eC,Bool.and_eq_true,decide_eq_true_eq,O1] at h5
  obtain⟨hm,⟨hm1,hm2⟩,⟨hl1,hl2⟩,hlen,hgap⟩:=h5
  have hm':¬ L=0:=fun h=>hLm.1 h hm
  rw[show (decide (1≤c.machine)&&decide (c.machine≤999))=true by simp;omega] at c3
  rw[show (decide (1≤(c.loop.links.length:Int))&&decide ((c.loop.links.length:Int)≤8))=true by simp;omega] at c4
  rw[show (decide (-8000000000≤c.loop.lo)&&decide (c.loop.lo≤8000000000))=true by simp;omega] at c5
  rw[show (decide (c.loop.lo≤c.loop.hi)&&decide (c.loop.hi≤8000000000))=true by simp;omega] at c6
  have hs:=za hlen hm'
  repeat' first|(with_reducible first|refine zz ?_|refine zE [0,1,2,3,4,5,6,7,8,61,66,131] ?_)|simp -dsimp[hs]|refine zp c3 ?_|refine zp c2 ?_|refine zp c4 ?_|refine zp c5 ?_|refine zp c6 ?_|refine i9 ?_ ?_<;>intro h<;>try simp only[i7] at h
  all_goals try clear hs
  have hno:((c.loop.links.zip c.pieces).all fun q=>H1 c q.1 q.2)=((c.loop.links.zip c.pieces).drop 0).all fun q=>H1 c q.1 q.2:=rfl
  clear c2 c3 c4 c5 c6
  generalize hA:((c.loop.links.zip c.pieces).all fun q=>H1 c q.1 q.2)=A at *
  refine i6 (ι:={ k:Nat // k≤c.pieces.length∧A=((c.loop.links.zip c.pieces).drop k).all fun q=>H1 c q.1 q.2 }) (fun q=>⟨132,[(1,.one (.ptr 0 0)),(3,.one (.ptr 2 0)),(4,iv (q.1:Int))],[.row ((j4 c).map .im),.vec 0 [] 0 true,.row [.im (.sl (c.p.n.reg.map g9))]]⟩) (fun q=>c.pieces.length-q.1) ⟨0,by simp,hno⟩ (zv [1,3,4]) ?_
  rintro⟨k,hk1,hrest⟩
  simp only[iv]
  by_cases hlt:k<c.pieces.length
  ·have hlt2:k<c.loop.links.length:=by omega
   have hw:=zk k
   have hst:=fp (f:=fun q=>H1 c q.1 q.2) hlt2 hlt (hA.trans hrest)
   rw[hA] at hst
   simp only at hst
   rw[rp h0] at hst
   clear hno
   generalize hx:c.pieces[k]=x at *
   generalize hy:c.loop.links[k]=y at *
   have c6:=ss (G:=G) c.p.n.reg y.drawing 1 (by omega)
   have c7:=pK (G:=G) c.p x.holder (by omega)
   have c8:=J8 (G:=G) y.dim 0 3
   have c9:=J8 (G:=G) x.day 0 14610
   have c10:=J8 (G:=G) x.lo 0 1000000000
   have c11:=J8 (G:=G) x.hi x.lo 1000000000
   simp only[G7,C3] at c6
   simp only[D3,p7,List.map_cons,List.map_nil] at c7
   generalize H9 (fun y=>decide (y.id=x.holder)) c.p.holders=f at *
   generalize (decide (0≤y.dim)&&decide (y.dim≤3))=b1 at *
   generalize (decide (0≤x.day)&&decide (x.day≤14610))=b3 at *
   generalize (decide (0≤x.lo)&&decide (x.lo≤1000000000))=b4 at *
   generalize (decide (x.lo≤x.hi)&&decide (x.hi≤1000000000))=b5 at *
   generalize (n8 c.p.n.reg y.drawing 1).isSome=e at *
   generalize (n8 c.p.n.reg y.drawing 1).getD J7=z at *
   have hcs:(e=true∧¬ z.kind<2∧b1=true∧¬ f<0∧b3=true∧b4=true∧b5=true)∨(A=false∧((e=false∧True∧True∧True∧True∧True∧True)∨(e=true∧z.kind<2∧True∧True∧True∧True∧True)∨(e=true∧¬ z.kind<2∧b1=false∧True∧True∧True∧True)∨(e=true∧¬ z.kind<2∧b1=true∧f<0∧True∧True∧True)∨(e=true∧¬ z.kind<2∧b1=true∧¬ f<0∧b3=false∧True∧True)∨(e=true∧¬ z.kind<2∧b1=true∧¬ f<0∧b3=true∧b4=false∧True)∨(e=true∧¬ z.kind<2∧b1=true∧¬ f<0∧b3=true∧b4=true∧b5=false))):=by
    by_cases g2:z.kind<2<;>by_cases g4:f<0<;>cases e<;>cases b1<;>cases b3<;>cases b4<;>cases b5<;>simp_all
   have hs:True:=trivial
   rcases hcs with⟨g1,g2,g3,g4,g5,g6,g7⟩|⟨gA,hcs⟩
   ·have hs:=za hx (za hy (za hlt (za hlt2 (za hw (za g1 (za g2 (za g3 (za g4 (za g5 (za g6 g7))))))))))
    repeat' first|with_reducible refine zz ?_|simp -dsimp[hs]|refine zp c6 ?_|refine zp c7 ?_|refine zp c8 ?_|refine zp c9 ?_|refine zp c10 ?_|refine zp c11 ?_|refine C1 (id:=7) (nt:=132) 13 [6,7,8,9,10] [0,1,2,3,4,5,6,7,8,61,66,69,70,71,72,73,74,131] [0,1,2,3,4,5,6,7,8,61,66,131] mixed rfl (by kernel_rfl) ?_|with_reducible refine zE [0,1,2,3,4,5,6,7,8,61,66,131] ?_|refine i9 ?_ ?_<;>intro h<;>try simp only[i7] at h
    all_goals try clear hs
    all_goals exact zn ⟨k+1,by omega,by rw[Bool.eq_iff_iff];exact hst.trans ⟨fun h=>h.2,fun h=>⟨⟨g1,g2,g3,g4,g5,g6,g7⟩,h⟩⟩⟩ (zw [1,3,4] 3)
   ·rcases hcs with⟨g1,g2,g3,g4,g5,g6,g7⟩|⟨g1,g2,g3,g4,g5,g6,g7⟩|⟨g1,g2,g3,g4,g5,g6,g7⟩|⟨g1,g2,g3,g4,g5,g6,g7⟩|⟨g1,g2,g3,g4,g5,g6,g7⟩|⟨g1,g2,g3,g4,g5,g6,g7⟩|⟨g1,g2,g3,g4,g5,g6,g7⟩
    all_goals
     have hs:=za hx (za hy (za hlt (za hlt2 (za hw (za g1 (za g2 (za g3 (za g4 (za g5 (za g6 g7))))))))))
     repeat' first|(with_reducible first|refine zz ?_|refine zr ?_)|simp -dsimp[hs]|refine zp c6 ?_|refine zp c7 ?_|refine zp c8 ?_|refine zp c9 ?_|refine zp c10 ?_|refine zp c11 ?_|refine C1 (id:=7) (nt:=132) 13 [6,7,8,9,10] [0,1,2,3,4,5,6,7,8,61,66,69,70,71,72,73,74,131] [0,1,2,3,4,5,6,7,8,61,66,131] mixed rfl (by kernel_rfl) ?_|with_reducible refine zE [0,1,2,3,4,5,6,7,8,61,66,131] ?_|refine i9 ?_ ?_<;>intro h<;>try simp only[i7] at h
     all_goals try clear hs
    all_goals exact gA
  ·obtain rfl:k=c.pieces.length:=by omega
   have hA1:A=true:=by rw[hrest,List.drop_eq_nil_of_le (by rw[List.length_zip];omega)];rfl
   subst hA1
   have hs:=hlt
   repeat' first|(with_reducible first|refine zz ?_|refine zr ?_|refine zE [0,1,2,3,4,5,6,7,8,61,66,131] ?_)|simp -dsimp[hs]|refine i9 ?_ ?_<;>intro h<;>try simp only[i7] at h
   all_goals try clear hs
theorem uX (c:Case) (hk:KC c):zP prog G 50 [n3 c] (iv (s8 c)):=by
 refine zf func50 ntmps50 ?_
 try simp only[iv]
 have c1:=uW (G:=G) c.p hk.p
 simp only[D3,p7] at c1
 by_cases h0:r8 c.p=0
 ·have c2:=BG (G:=G) c (F3 h0).2.2 hk
  have hE:s8 c=if ac c=true then 0 else 100:=by unfold s8;rw[if_neg (by simp[h0])]
  rw[hE]
  rw[h0] at c1
  simp only[n3,j4] at c2
  generalize ac c=b at *
  cases b
  ·have hs:=trivial
   repeat' first|(with_reducible first|refine zz ?_|refine zr ?_|refine zE [0,1,2,3,8,12] ?_)|simp -dsimp[hs]|refine zp c1 ?_|refine zp c2 ?_|refine i9 ?_ ?_<;>intro h<;>try simp only[i7] at h
  ·have hs:=trivial
   repeat' first|(with_reducible first|refine zz ?_|refine zr ?_|refine zE [0,1,2,3,8,12] ?_)|simp -dsimp[hs]|refine zp c1 ?_|refine zp c2 ?_|refine i9 ?_ ?_<;>intro h<;>try simp only[i7] at h
 ·have hE:s8 c=r8 c.p:=by unfold s8;rw[if_pos h0]
  rw[hE]
  have hs:=h0
  repeat' first|(with_reducible first|refine zz ?_|refine zr ?_|refine zE [0,1,2,3,8,12] ?_)|simp -dsimp[hs]|refine zp c1 ?_|refine i9 ?_ ?_<;>intro h<;>try simp only[i7] at h
def tj (c:Case):Prop:=FF c.p∧c.loop.links.length≤16∧c.pieces.length≤16
def bF (c:Case):Bool:=fy c.p&&(decide (c.loop.links.length≤16)&&decide (c.pieces.length≤16))
theorem vR (c:Case):zP prog G 15 [n3 c] (bv (!bF c)):=by
 refine zf func15 ntmps15 ?_
 try simp only[iv]
 have c1:=zb (G:=G) c.p
 simp only[D3,p7] at c1
 unfold bF
 generalize fy c.p=b at *
 have hs:True:=trivial
 by_cases h1:c.loop.links.length≤16
 ·have h1':¬ (16:Int)<c.loop.links.length:=by omega
  by_cases h2:c.pieces.length≤16
  ·have h2':¬ (16:Int)<c.pieces.length:=by omega
   cases b
   all_goals
    have hs:=za h1 (za h2 (za h1' h2'))
    repeat' first|(with_reducible first|refine zz ?_|refine zr ?_|refine zE [0,1,2] ?_)|simp -dsimp[hs]|refine zp c1 ?_
  ·have h2':(16:Int)<c.pieces.length:=by omega
   cases b
   all_goals
    have hs:=za h1 (za h2 (za h1' h2'))
    repeat' first|(with_reducible first|refine zz ?_|refine zr ?_|refine zE [0,1,2] ?_)|simp -dsimp[hs]|refine zp c1 ?_
 ·have h1':(16:Int)<c.loop.links.length:=by omega
  cases b
  all_goals
   have hs:=za h1 h1'
   repeat' first|(with_reducible first|refine zz ?_|refine zr ?_|refine zE [0,1,2] ?_)|simp -dsimp[hs]|refine zp c1 ?_
def uu (n:Notes):Prop:=(∀ x∈n.reg,0≤x.kind∧x.kind≤255)∧∀ x∈n.notes,0≤x.ways∧x.ways≤255∧0≤x.signed∧x.signed≤255
theorem FI {n:Notes} (hk:uu n) (h:bE n=true):AN n∧Bi n:=by
 simp only[bE,Bool.and_eq_true,decide_eq_true_eq] at h
 refine⟨h,⟨h.1.1,fun x hx=>⟨(hk.1 x hx).1,(hk.1 x hx).2,h.1.2 x hx⟩⟩,h.2,hk.2⟩
def jB (x:Print):Prop:=0≤x.lost∧x.lost≤255
def gI (p:Prints):Prop:=uu p.n∧∀ x∈p.prints,jB x
theorem AY {c:Case} (hk:gI c.p) (h:bF c=true):tj c∧KC c:=by
 simp only[bF,fy,Bool.and_eq_true,decide_eq_true_eq,List.all_eq_true] at h
 obtain⟨⟨h1,h2,h3,h4⟩,h5,h6⟩:=h
 obtain⟨hN,hM⟩:=FI hk.1 h1
 have hr:=hM.1.1
 have hnl:(nums c.p.n.reg).length≤c.p.n.reg.length:=w8 c.p.n.reg c.p.n.reg.length
 exact⟨⟨⟨hN,h2,h3,h4⟩,h5,h6⟩,⟨⟨hM,⟨by omega,by omega,h2,h3,h4,hk.2⟩⟩,h5,h6⟩⟩
theorem jS (d i w:Int) (l:List Print):(aA d i w l).length≤l.length+1:=by
 unfold aA
 rw[List.length_drop]
 have h1:=ab (l4 (Y6 d i w l++[aR d i w l]))
 rw[L7,List.length_append,List.length_singleton] at h1
 have h2:=kq d i w l
 omega
theorem yD (c:Case) (n:Int):(fU c n).length≤c.p.prints.length+1:=by
 unfold fU
 split
 ·unfold F5
  split
  ·unfold N8
   split
   ·exact jS _ _ _ _
   ·simp
  ·simp
 ·simp
end Go.Proofs
