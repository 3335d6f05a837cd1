/- Part 18 of the proofs. -/
import Derived.Test.YtjodaihiogfkbaaGreatDoorT08
import Derived.Test.YtjodaihiogfkbaaGreatDoorT09
import Derived.Test.YtjodaihiogfkbaaGreatDoorT12
import Derived.Test.YtjodaihiogfkbaaGreatDoorT14
import Derived.Test.YtjodaihiogfkbaaGreatDoorT15
import Derived.Test.YtjodaihiogfkbaaGreatDoorT16
import Derived.Test.YtjodaihiogfkbaaGreatDoorT17
set_option linter.all false
set_option linter.deprecated false
set_option maxHeartbeats 100000000
namespace Go.Proofs
open Go Go.Ab Tryz
variable {G:Kc}
noncomputable def E0 (c:Case) (k:Nat):List Int:=match c.pieces[k]?,c.loop.links[k]? with
 | some x,some y=>N1 c.p x.day x.holder y.drawing
 | _,_=>[]
theorem gk {c:Case} {k:Nat} (h1:k<c.pieces.length) (h2:k<c.loop.links.length):E0 c k=N1 c.p c.pieces[k].day c.pieces[k].holder c.loop.links[k].drawing:=by
 unfold E0
 rw[List.getElem?_eq_getElem h1,List.getElem?_eq_getElem h2]
noncomputable def T6 (c:Case) (n:Int):Int:=if r9 c≠0 then r9 c else if 0≤n∧n<c.pieces.length then 0 else 2
noncomputable def gr (c:Case) (n:Int):List Int:=if T6 c n=0 then E0 c n.toNat else []
theorem yN (c:Case) (k:Nat) (h1:k<c.pieces.length) (h2:k<c.loop.links.length) (hG:o3 G) (hN:C7 G) (hS:u3 G) (hR:v6 G) (hk:KC c):zP prog G 113 [n5 c,iv (k:Int)] (r7 (E0 c k)):=by
 refine zf func113 ntmps113 ?_
 try simp only[iv]
 rw[gk h1 h2]
 generalize hx:c.pieces[k]=x at *
 generalize hy:c.loop.links[k]=y at *
 have c1:=pw (G:=G) c.p x.day x.holder y.drawing hG hN hS hR hk.p
 simp only[C1,o5] at c1
 generalize N1 c.p x.day x.holder y.drawing=L at *
 generalize I3 c.p x.day 1 x.holder y.drawing=e at *
 have hs:=za hx (za hy (za h1 h2))
 repeat' first|(with_reducible first|refine zz ?_|refine zr ?_)|simp -dsimp[hs]|refine zq c1 ?_|refine zM 2 31 19 [0,1,2,4,5,6] ?_|with_reducible refine zE [0,1,2,4,5,6] ?_
theorem fB (c:Case) (n:Int) (hG:o3 G) (hN:C7 G) (hS:u3 G) (hR:v6 G) (hk:KC c):zP prog G 55 [n5 c,iv n] (.tup [r7 (gr c n),iv (T6 c n)]):=by
 refine zf func55 ntmps55 ?_
 try simp only[iv]
 have c1:=gY (G:=G) c hG hN hS hR hk
 have hq:=hk.q
 by_cases h0:r9 c=0
 ·have hok:=L7 (B8 h0).2
  have hE:T6 c n=if 0≤n∧n<c.pieces.length then 0 else 2:=by unfold T6;rw[if_neg (by simp[h0])]
  have hlen:=hok.e
  have hl:=hok.l
  have hw:IntKind.i64.wrap ((c.pieces.length:Int)-1)=(c.pieces.length:Int)-1:=o4 (by omega) (by omega)
  have c2:=N7 (G:=G) 0 ((c.pieces.length:Int)-1) [n] (by simp)
  unfold gr
  rw[hE]
  rw[h0] at c1
  by_cases hn:0≤n∧n<c.pieces.length
  ·rw[if_pos hn,if_pos rfl]
   obtain⟨k,rfl⟩:=Int.eq_ofNat_of_zero_le hn.1
   rw[Int.toNat_natCast]
   have c3:=yN (G:=G) c k (by omega) (by omega) hG hN hS hR hk
   rw[show ([(k:Int)].all fun y=>decide (0≤y)&&decide (y≤(c.pieces.length:Int)-1))=true by simp;omega] at c2
   generalize E0 c k=L at *
   simp only[n5,j4] at c1 c3
   have hs:=hw
   repeat' first|(with_reducible first|refine zz ?_|refine zr ?_|refine zE [0,1,2,4,5,6,10,19] ?_)|simp -dsimp[hs]|refine zp c1 ?_|refine zt c2 ?_ ?_ ?_;(focus simp;done);focus (simp;done)|refine zp c3 ?_|refine i9 ?_ ?_<;>intro h<;>try simp only[i7] at h
  ·rw[if_neg hn,if_neg (by decide)]
   rw[show ([n].all fun y=>decide (0≤y)&&decide (y≤(c.pieces.length:Int)-1))=false by simp;omega] at c2
   simp only[n5,j4] at c1
   have hs:=hw
   repeat' first|(with_reducible first|refine zz ?_|refine zr ?_|refine zE [0,1,2,4,5,6,10,19] ?_)|simp -dsimp[hs]|refine zp c1 ?_|refine zt c2 ?_ ?_ ?_;(focus simp;done);focus (simp;done)|refine i9 ?_ ?_<;>intro h<;>try simp only[i7] at h
 ·have hE:T6 c n=r9 c:=by unfold T6;rw[if_pos h0]
  have hO:gr c n=[]:=by unfold gr;rw[if_neg (by rw[hE];exact h0)]
  rw[hE,hO]
  simp only[n5,j4] at c1
  have hs:=h0
  repeat' first|(with_reducible first|refine zz ?_|refine zr ?_|refine zE [0,1,2,4,5,6,10,19] ?_)|simp -dsimp[hs]|refine zp c1 ?_|refine i9 ?_ ?_<;>intro h<;>try simp only[i7] at h
theorem aT (n lo hi:Int):zP prog G 268 [iv n,iv lo,iv hi] (bv (decide (lo≤n)&&decide (n≤hi))):=by
 refine zf func268 ntmps268 ?_
 try simp only[iv,iv,iv]
 have hs:=trivial
 repeat' first|(with_reducible first|refine zz ?_|refine zr ?_|refine zE [0,1,2,6] ?_)|simp -dsimp[hs]|with_reducible refine j0 ?_ ?_<;>intro h<;>have h0:=h<;>(try simp only[i7] at h)<;>have h2:=h<;>(try simp at h2)<;>replace hs:=za h0 (za h (za h2 hs))
 all_goals try clear hs
 all_goals simp[*]
theorem Fl (l:List Int) (n:Int) (hl:l.length<1000000):zP prog G 269 [r7 l,iv n] (bv (decide (n∈l))):=by
 refine zf func269 ntmps269 ?_
 try simp only[r7,iv]
 have hs:=trivial
 repeat' first|(with_reducible first|refine zz ?_|refine zE [0,1,4,5,9,17] ?_)|simp -dsimp[hs]
 refine i6 (ι:={ k:Nat // k≤l.length∧decide (n∈l)=decide (n∈l.drop k) }) (fun i=>⟨18,[(0,r7 l),(1,iv n),(5,iv (i.1:Int))],[]⟩) (fun i=>l.length-i.1) ⟨0,by simp⟩ (zv [0,1,5]) ?_
 rintro⟨i,hi,hno⟩
 simp only[iv,r7]
 by_cases hlt:i<l.length
 ·have hw:=zk i
  rw[List.drop_eq_getElem_cons hlt] at hno
  generalize hx:l[i]=x at *
  have hs:=za hx (za hw hlt)
  repeat' first|(with_reducible first|refine zz ?_|refine zr ?_|refine zE [0,1,4,5,9,17] ?_)|simp -dsimp[hs]|refine i9 ?_ ?_<;>intro h<;>try simp only[i7] at h
  all_goals try clear hs
  ·exact of_decide_eq_true (by rw[hno];simp[*])
  ·exact zn ⟨i+1,by omega,by rw[hno,decide_eq_decide,List.mem_cons];exact or_iff_right (fun e=>absurd e.symm (by assumption))⟩ (zv [0,1,5])
 ·rw[List.drop_eq_nil_of_le (by omega)] at hno
  have hs:=hlt
  repeat' first|(with_reducible first|refine zz ?_|refine zr ?_|refine zE [0,1,4,5,9,17] ?_)|simp -dsimp[hs]|refine i9 ?_ ?_<;>intro h<;>try simp only[i7] at h
  exact fun hm=>by simp[hm] at hno
theorem pZ (p:Prints) (n:Int) (hl:p.holders.length<1000):zP prog G 172 [C1 p,iv n] (iv (H9 (fun y=>decide (y.id=n)) p.holders)):=by
 refine zf func172 ntmps172 ?_
 try simp only[iv]
 have hs:=trivial
 repeat' first|(with_reducible first|refine zz ?_|refine zE [0,1,2,4,5,10,20] ?_)|simp -dsimp[hs]
 refine i6 (ι:={ k:Nat // k≤p.holders.length∧∀ (j:Nat) (x:Holder),j<k→p.holders[j]?=some x→decide (x.id=n)=false }) (fun i=>⟨22,[(1,iv n),(2,.one (.ptr 0 0)),(5,iv (i.1:Int))],[.row ((o5 p).map .im)]⟩) (fun i=>p.holders.length-i.1) ⟨0,by simp⟩ (zv [1,2,5]) ?_
 rintro⟨i,hi,hno⟩
 simp only[iv]
 by_cases hlt:i<p.holders.length
 ·have hw:=zk i
  have hx0:p.holders[i]?=some p.holders[i]:=by simp[hlt]
  generalize hx:p.holders[i]=x at *
  have hs:=za hx (za hw hlt)
  repeat' first|(with_reducible first|refine zz ?_|refine zr ?_|refine zE [0,1,2,4,5,10,20] ?_)|simp -dsimp[hs]|refine i9 ?_ ?_<;>intro h<;>try simp only[i7] at h
  all_goals try clear hs
  ·exact(L0 hx0 (by simp[*]) hno).symm
  ·exact At.round ⟨i+1,by omega,fun j z hj hjx=>by
    by_cases e:j=i
    ·subst e;rw[hx0] at hjx;cases hjx;simp[*]
    ·exact hno j z (by omega) hjx⟩ (by simp;omega) (zv [1,2,5])
 ·have hs:=hlt
  repeat' first|(with_reducible first|refine zz ?_|refine zr ?_|refine zE [0,1,2,4,5,10,20] ?_)|simp -dsimp[hs]|refine i9 ?_ ?_<;>intro h<;>try simp only[i7] at h
  exact(R4 fun j z hjx=>hno j z (by have:=e7 hjx;omega) hjx).symm
open Classical in
theorem vh (p:Prints) (k:Nat) (x:Holder) (hx0:p.holders[k]?=some x) (hsm:SmallP p):zP prog G 219 [C1 p,iv (k:Int)] (bv (decide (rh (nums p.n.reg) p.holders k x))):=by
 refine zf func219 ntmps219 ?_
 try simp only[iv]
 have hlt:k<p.holders.length:=e7 hx0
 have hx:p.holders[k]=x:=(List.getElem?_eq_some_iff.1 hx0).2
 have hdl:x.draws.length≤20:=hsm.d x (by rw[← hx];exact List.getElem_mem hlt)
 have hh:=hsm.h
 have hr:=hsm.r
 have hrl:=hsm.l
 have c1:=aT (G:=G) x.id 1 9999
 have c2:=aT (G:=G) x.frm 1 x.to
 have c3:=iC (G:=G) p.n.reg (by omega)
 have c4:=fun d=>Fl (G:=G) (nums p.n.reg) d (by omega)
 have hs:True:=trivial
 by_cases hA:Il p.holders k x
 ·obtain⟨a1,a3,a4,a6,a8,a9⟩:=id hA
  rw[show (decide (1≤x.id)&&decide (x.id≤9999))=true by simp;omega] at c1
  rw[show (decide (1≤x.frm)&&decide (x.frm≤x.to))=true by simp;omega] at c2
  have a8':¬ (999:Int)<x.to:=by omega
  have a9':¬ (8:Int)<x.draws.length:=by omega
  have hcs:(¬ 0<k∧True∧∃ _:True,True)∨(0<k∧IntKind.i64.wrap ((k:Int)-1)=((k-1:Nat):Int)∧∃ h:k-1<p.holders.length,¬ x.id≤(p.holders[k-1]'h).id):=by
   rcases Nat.eq_zero_or_pos k with h0|h0
   ·exact .inl ⟨by omega,trivial,trivial,trivial⟩
   ·have h1:k-1<p.holders.length:=by omega
    exact .inr ⟨by omega,by rw[o4 (by omega) (by omega)];omega,h1,by have:=a3 h0 _ (List.getElem?_eq_getElem h1);omega⟩
  rcases hcs with⟨hk0,hwm,hi1,hlt1⟩|⟨hk0,hwm,hi1,hlt1⟩
  all_goals
   have hs:=za hx (za hlt (za a8' (za a9' (za hk0 (za hwm (za hi1 hlt1))))))
   repeat' first|with_reducible refine zz ?_|simp -dsimp[hs]|refine zq c1 ?_|refine zq c2 ?_|refine zp c3 ?_|refine zM 2 89 39 [0,1,2,4,5,6,7,51,60,88] ?_|with_reducible refine zE [0,1,2,4,5,6,7,51,60,88] ?_|refine i9 ?_ ?_<;>intro h<;>try simp only[i7] at h
  all_goals
   refine i6 (ι:={ j:Nat // j≤x.draws.length∧∀ (i:Nat) (d:Int),i<j→x.draws[i]?=some d→CH (nums p.n.reg) x.draws i d }) (fun q=>⟨89,[(5,.one (.ptr 2 0)),(6,r7 (nums p.n.reg)),(7,iv (q.1:Int))],[.row ((o5 p).map .im),.vec 0 [] 0 true,.row ((o6 x).map .im)]⟩) (fun q=>x.draws.length-q.1) ⟨0,by simp⟩ (zv [5,6,7]) ?_
   rintro⟨j,hj,hjok⟩
   simp only[iv,r7]
   by_cases hlj:j<x.draws.length
   ·have hx1:x.draws[j]?=some x.draws[j]:=by simp[hlj]
    have hwj:=zk j
    have c5:=c4 x.draws[j]
    have hcj:(¬ 0<j∧True∧∃ _:True,True)∨(0<j∧IntKind.i64.wrap ((j:Int)-1)=((j-1:Nat):Int)∧∃ h:j-1<x.draws.length,True):=by
     rcases Nat.eq_zero_or_pos j with h0|h0
     ·exact .inl ⟨by omega,trivial,trivial,trivial⟩
     ·exact .inr ⟨by omega,by rw[o4 (by omega) (by omega)];omega,by omega,trivial⟩
    have hbadj:¬ CH (nums p.n.reg) x.draws j x.draws[j]→decide (rh (nums p.n.reg) p.holders k x)=false:=fun h=>decide_eq_false fun h'=>h (h'.2 j _ hx1)
    have hstj:CH (nums p.n.reg) x.draws j x.draws[j]→∀ (i:Nat) (d:Int),i<j+1→x.draws[i]?=some d→CH (nums p.n.reg) x.draws i d:=fun h i d hi hd=>by
     by_cases e:i=j
     ·subst e;rw[hx1] at hd;cases hd;exact h
     ·exact hjok i d (by omega) hd
    generalize decide (rh (nums p.n.reg) p.holders k x)=B at *
    rcases hcj with⟨hj0,hwmj,hij,-⟩|⟨hj0,hwmj,hij,-⟩
    all_goals
     have hs:=za hx1 (za hlj (za hj0 (za hwmj (za hij hwj))))
     repeat' first|(with_reducible first|refine zz ?_|refine zr ?_)|simp -dsimp[hs]|refine zq c5 ?_|refine zM 8 89 26 [0,1,2,4,5,6,7,51,60,88] ?_|with_reducible refine zE [0,1,2,4,5,6,7,51,60,88] ?_|refine i9 ?_ ?_<;>intro h<;>try simp only[i7] at h|with_reducible refine j0 ?_ ?_<;>intro h<;>have h0:=h<;>(try simp only[i7] at h)<;>have h2:=h<;>(try simp at h2)<;>replace hs:=za h0 (za h (za h2 hs))
     all_goals try clear hs
    all_goals first
     | exact zn ⟨j+1,by omega,hstj ⟨of_decide_eq_true (by assumption),fun h1 e he=>by first|omega|(obtain⟨_,rfl⟩:=List.getElem?_eq_some_iff.1 he;omega)⟩⟩ (zv [5,6,7])
     | (refine hbadj fun hh=>?_;have:=hh.1;simp_all;done)
     | (refine hbadj fun hh=>?_;have:=hh.2 (by omega) _ (List.getElem?_eq_getElem hij);omega)
   ·have hyes:decide (rh (nums p.n.reg) p.holders k x)=true:=decide_eq_true ⟨hA,fun i d hd=>hjok i d (by have:=e7 hd;omega) hd⟩
    rw[hyes]
    have hs:=hlj
    repeat' first|(with_reducible first|refine zz ?_|refine zr ?_|refine zE [0,1,2,4,5,6,7,51,60,88] ?_)|simp -dsimp[hs]|refine i9 ?_ ?_<;>intro h<;>try simp only[i7] at h
 ·have hno:decide (rh (nums p.n.reg) p.holders k x)=false:=decide_eq_false fun h=>hA h.1
  rw[hno]
  generalize hb1:(decide (1≤x.id)&&decide (x.id≤9999))=b1 at c1
  generalize hb2:(decide (1≤x.frm)&&decide (x.frm≤x.to))=b2 at c2
  have hcs:(¬ 0<k∧True∧∃ _:True,True)∨(0<k∧IntKind.i64.wrap ((k:Int)-1)=((k-1:Nat):Int)∧∃ h:k-1<p.holders.length,True):=by
   rcases Nat.eq_zero_or_pos k with h0|h0
   ·exact .inl ⟨by omega,trivial,trivial,trivial⟩
   ·exact .inr ⟨by omega,by rw[o4 (by omega) (by omega)];omega,by omega,trivial⟩
  rcases hcs with⟨hk0,hwm,hi1,-⟩|⟨hk0,hwm,hi1,-⟩<;>cases b1<;>cases b2
  all_goals
   have hs:=za hx (za hlt (za hk0 (za hwm hi1)))
   repeat' first|(with_reducible first|refine zz ?_|refine zr ?_)|simp -dsimp[hs]|refine zq c1 ?_|refine zq c2 ?_|refine zM 2 89 39 [0,1,2,4,5,6,7,51,60,88] ?_|with_reducible refine zE [0,1,2,4,5,6,7,51,60,88] ?_|refine i9 ?_ ?_<;>intro h<;>try simp only[i7] at h|with_reducible refine j0 ?_ ?_<;>intro h<;>have h0:=h<;>(try simp only[i7] at h)<;>have h2:=h<;>(try simp at h2)<;>replace hs:=za h0 (za h (za h2 hs))
  ·refine absurd ?_ hA
   simp at hb1 hb2
   exact⟨by omega,fun h1=>by omega,by omega,by omega,by omega,by omega⟩
  ·refine absurd ?_ hA
   simp at hb1 hb2
   exact⟨by omega,fun h1 y hy=>by
    obtain⟨_,rfl⟩:=List.getElem?_eq_some_iff.1 hy
    simp_all<;>omega,by omega,by omega,by omega,by omega⟩
theorem yt (l:List Issue) (x:Print):(o7 l x.drawing x.letter).isSome=EE l x:=by
 unfold o7 EE
 rw[Bool.eq_iff_iff,List.find?_isSome,List.any_eq_true]
 refine exists_congr fun y=>and_congr_right fun _=>?_
 simp only[Bool.and_eq_true,beq_iff_eq,decide_eq_true_eq]
 constructor<;>exact fun ⟨h1,h2⟩=>⟨h1.symm,h2.symm⟩
theorem BU (p:Prints) (i:Nat) (x:Print):vA p i x↔(0<i→∀ y,p.prints[i-1]?=some y→y.number<x.number)∧Gc x=true∧GL p.holders x=true∧EE p.n.reg x=true∧Gb x=true∧Ga x=true:=by
 refine and_congr_right fun _=>⟨fun h=>⟨h 0 (by omega),h 1 (by omega),h 2 (by omega),h 3 (by omega),h 4 (by omega)⟩,fun ⟨h1,h2,h3,h4,h5⟩ c hc=>?_⟩
 match c,hc with
 | 0,_=>exact h1
 | 1,_=>exact h2
 | 2,_=>exact h3
 | 3,_=>exact h4
 | 4,_=>exact h5
theorem xR {B b1 b2 b3 b4 b5:Bool} {O:Prop} {f l r:Int} (hf3:b3=true↔¬ f<0) (hP:B=true↔O∧(b1&&b2)=true∧b3=true∧b4=true∧decide (l≤2)=true∧(decide (r=-1)||b5&&decide (l=0))=true):(b1=false∧True∧True∧True∧True∧True∧True∧B=false)∨(¬ O∧B=false)∨(O∧((b1=true∧b2=false∧True∧True∧True∧True∧True∧B=false)∨(b1=true∧b2=true∧f<0∧True∧True∧True∧True∧B=false)∨(b1=true∧b2=true∧¬ f<0∧2<l∧True∧True∧True∧B=false)∨(b1=true∧b2=true∧¬ f<0∧¬ 2<l∧b4=false∧True∧True∧B=false)∨(b1=true∧b2=true∧¬ f<0∧¬ 2<l∧b4=true∧r=-1∧True∧B=true)∨(b1=true∧b2=true∧¬ f<0∧¬ 2<l∧b4=true∧¬ r=-1∧b5=false∧B=false)∨(b1=true∧b2=true∧¬ f<0∧¬ 2<l∧b4=true∧¬ r=-1∧b5=true∧B=decide (l=0)))):=by
 have hn:¬ (O∧(b1&&b2)=true∧b3=true∧b4=true∧decide (l≤2)=true∧(decide (r=-1)||b5&&decide (l=0))=true)→B=false:=fun h=>Bool.eq_false_iff.2 fun e=>h (hP.1 e)
 have t:=trivial
 by_cases hO:O
 ·cases b1 with
  | false=>exact .inl ⟨rfl,t,t,t,t,t,t,hn fun h=>by simpa using h.2.1⟩
  | true =>
    refine .inr (.inr ⟨hO,?_⟩)
    cases b2 with
    | false=>exact .inl ⟨rfl,rfl,t,t,t,t,t,hn fun h=>by simpa using h.2.1⟩
    | true =>
      by_cases q2:f<0
      ·exact .inr (.inl ⟨rfl,rfl,q2,t,t,t,t,hn fun h=>hf3.1 h.2.2.1 q2⟩)
      ·by_cases q3:2<l
       ·exact .inr (.inr (.inl ⟨rfl,rfl,q2,q3,t,t,t,hn fun h=>by have:=of_decide_eq_true h.2.2.2.2.1;omega⟩))
       ·have h2:decide (l≤2)=true:=decide_eq_true (by omega)
        have hb3:b3=true:=hf3.2 q2
        cases b4 with
        | false=>exact .inr (.inr (.inr (.inl ⟨rfl,rfl,q2,q3,rfl,t,t,hn fun h=>Bool.noConfusion h.2.2.2.1⟩)))
        | true =>
          by_cases q4:r=-1
          ·exact .inr (.inr (.inr (.inr (.inl ⟨rfl,rfl,q2,q3,rfl,q4,t,hP.2 ⟨hO,rfl,hb3,rfl,h2,by rw[decide_eq_true q4];rfl⟩⟩))))
          ·cases b5 with
           | false=>exact .inr (.inr (.inr (.inr (.inr (.inl ⟨rfl,rfl,q2,q3,rfl,q4,rfl,hn fun h=>by have:=h.2.2.2.2.2;rw[decide_eq_false q4] at this;simp at this⟩)))))
           | true =>
             refine .inr (.inr (.inr (.inr (.inr (.inr ⟨rfl,rfl,q2,q3,rfl,q4,rfl,?_⟩)))))
             by_cases q5:l=0
             ·rw[decide_eq_true q5];exact hP.2 ⟨hO,rfl,hb3,rfl,h2,by rw[decide_eq_true q5];simp⟩
             ·rw[decide_eq_false q5];exact hn fun h=>by have:=h.2.2.2.2.2;rw[decide_eq_false q4,decide_eq_false q5] at this;simp at this
 ·exact .inr (.inl ⟨hO,hn fun h=>hO h.1⟩)
open Classical in
theorem yb (p:Prints) (k:Nat) (x:Print) (hx0:p.prints[k]?=some x) (hsm:SmallP p):zP prog G 220 [C1 p,iv (k:Int)] (bv (decide (vA p k x))):=by
 refine zf func220 ntmps220 ?_
 try simp only[iv]
 have hlt:k<p.prints.length:=e7 hx0
 have hx:p.prints[k]=x:=(List.getElem?_eq_some_iff.1 hx0).2
 have hlo:=hsm.lo x (by rw[← hx];exact List.getElem_mem hlt)
 have hh:=hsm.h
 have hrl:=hsm.l
 have hql:=hsm.q
 have c1:=aT (G:=G) x.number 1 9999
 have c2:=aT (G:=G) x.day 0 14610
 have c3:=pZ (G:=G) p x.holder (by omega)
 have c4:=sM (G:=G) p.n.reg x.drawing x.letter (by omega)
 have c5:=aT (G:=G) x.back x.day 14610
 have hf:=uw (fun y:Holder=>decide (y.id=x.holder)) p.holders
 have hP:=BU p k x
 rw[← yt,show GL p.holders x=p.holders.any (fun y=>decide (y.id=x.holder)) from rfl] at hP
 simp only[D3] at c4
 generalize H9 (fun y:Holder=>decide (y.id=x.holder)) p.holders=f at *
 generalize (p.holders.any fun y=>decide (y.id=x.holder))=b3 at *
 generalize (o7 p.n.reg x.drawing x.letter).isSome=b4 at *
 generalize (o7 p.n.reg x.drawing x.letter).getD M9=z at *
 generalize hB:decide (vA p k x)=B
 have hP':B=true↔vA p k x:=by rw[← hB,decide_eq_true_eq]
 rw[hP] at hP'
 clear hP hB
 generalize hb1:(decide (1≤x.number)&&decide (x.number≤9999))=b1 at c1
 generalize hb2:(decide (0≤x.day)&&decide (x.day≤14610))=b2 at c2
 generalize hb5:(decide (x.day≤x.back)&&decide (x.back≤14610))=b5 at c5
 have e1:Gc x=(b1&&b2):=by rw[← hb1,← hb2];rfl
 have e5:Ga x=(decide (x.back=-1)||b5&&decide (x.lost=0)):=by rw[← hb5];rfl
 rw[e1,e5,show Gb x=decide (x.lost≤2) from rfl] at hP'
 clear e1 e5 hb1 hb2 hb5
 have hf3:b3=true↔¬ f<0:=by cases b3<;>simpa using hf
 clear hf
 have hs:True:=trivial
 have hcs:(¬ 0<k∧True∧(∃ _:True,True)∧(0<k→∀ y,p.prints[k-1]?=some y→y.number<x.number))∨(0<k∧IntKind.i64.wrap ((k:Int)-1)=((k-1:Nat):Int)∧(∃ h:k-1<p.prints.length,¬ x.number≤(p.prints[k-1]'h).number)∧(0<k→∀ y,p.prints[k-1]?=some y→y.number<x.number))∨(0<k∧IntKind.i64.wrap ((k:Int)-1)=((k-1:Nat):Int)∧(∃ h:k-1<p.prints.length,x.number≤(p.prints[k-1]'h).number)∧¬ (0<k→∀ y,p.prints[k-1]?=some y→y.number<x.number)):=by
  rcases Nat.eq_zero_or_pos k with h0|h0
  ·exact .inl ⟨by omega,trivial,⟨trivial,trivial⟩,fun h=>by omega⟩
  ·have h1:k-1<p.prints.length:=by omega
   have h2:=List.getElem?_eq_getElem h1
   have hw:IntKind.i64.wrap ((k:Int)-1)=((k-1:Nat):Int):=by rw[o4 (by omega) (by omega)];omega
   by_cases h3:x.number≤(p.prints[k-1]'h1).number
   ·exact .inr (.inr ⟨h0,hw,⟨h1,h3⟩,fun h=>by have:=h h0 _ h2;omega⟩)
   ·exact .inr (.inl ⟨h0,hw,⟨h1,h3⟩,fun _ y hy=>by rw[h2] at hy;cases hy;omega⟩)
 generalize (0<k→∀ y,p.prints[k-1]?=some y→y.number<x.number)=O at *
 have hc2:=xR hf3 hP'
 rcases hc2 with⟨g1,g2,g3,g4,g5,g6,g7,gB⟩|⟨hO,gB⟩|⟨hO,hc2⟩
 ·clear hcs
  have hs:=za hx (za hlt g1)
  repeat' first|(with_reducible first|refine zz ?_|refine zr ?_)|simp -dsimp[hs]|refine zq c1 ?_|refine zM 2 77 38 [0,1,2,4,5,7,50,61] ?_|with_reducible refine zE [0,1,2,4,5,7,50,61] ?_|refine i9 ?_ ?_<;>intro h<;>try simp only[i7] at h
  all_goals try clear hs
  all_goals exact gB
 ·rcases hcs with⟨hk0,hwm,⟨hi1,hlt1⟩,hO1⟩|⟨hk0,hwm,⟨hi1,hlt1⟩,hO1⟩|⟨hk0,hwm,⟨hi1,hlt1⟩,hO1⟩
  ·exact absurd hO1 hO
  ·exact absurd hO1 hO
  ·cases b1
   all_goals
    have hs:=za hx (za hlt (za hk0 (za hwm (za hi1 hlt1))))
    repeat' first|(with_reducible first|refine zz ?_|refine zr ?_)|simp -dsimp[hs]|refine zq c1 ?_|refine zM 2 77 38 [0,1,2,4,5,7,50,61] ?_|with_reducible refine zE [0,1,2,4,5,7,50,61] ?_|refine i9 ?_ ?_<;>intro h<;>try simp only[i7] at h
    all_goals try clear hs
   all_goals exact gB
 ·rcases hc2 with⟨g1,g2,g3,g4,g5,g6,g7,gB⟩|⟨g1,g2,g3,g4,g5,g6,g7,gB⟩|⟨g1,g2,g3,g4,g5,g6,g7,gB⟩|⟨g1,g2,g3,g4,g5,g6,g7,gB⟩|⟨g1,g2,g3,g4,g5,g6,g7,gB⟩|⟨g1,g2,g3,g4,g5,g6,g7,gB⟩|⟨g1,g2,g3,g4,g5,g6,g7,gB⟩<;>rcases hcs with⟨hk0,hwm,⟨hi1,hlt1⟩,hO1⟩|⟨hk0,hwm,⟨hi1,hlt1⟩,hO1⟩|⟨hk0,hwm,⟨hi1,hlt1⟩,hO1⟩
  all_goals first
   | exact absurd hO hO1
   | skip
  all_goals
   have hs:=za hx (za hlt (za hk0 (za hwm (za hi1 (za hlt1 (za g1 (za g2 (za g3 (za g4 (za g5 (za g6 g7)))))))))))
   repeat' first|(with_reducible first|refine zz ?_|refine zr ?_)|simp -dsimp[hs]|refine zq c1 ?_|refine zq c2 ?_|refine zq c3 ?_|refine zp c4 ?_|refine zp c5 ?_|refine zM 2 77 38 [0,1,2,4,5,7,50,61] ?_|with_reducible refine zE [0,1,2,4,5,7,50,61] ?_|refine i9 ?_ ?_<;>intro h<;>try simp only[i7] at h
   all_goals try clear hs
  all_goals first
   | exact gB
   | exact gB.symm
   | trace_state
open Classical in
theorem vm (p:Prints) (hsm:SmallP p):zP prog G 170 [C1 p] (bv (F6 p)):=by
 refine zf func170 ntmps170 ?_
 try simp only[iv]
 have hh:=hsm.h
 have hq:=hsm.q
 by_cases h6:¬ p.holders.length≤6
 ·have h6':(6:Int)<p.holders.length:=by omega
  have hno:=K4 (p:=p) fun h=>h6 h.hl
  have hs:=h6'
  repeat' first|(with_reducible first|refine zz ?_|refine zr ?_|refine zE [0,1,2,3,4,14,19,25,30,36] ?_)|simp -dsimp[hs]|refine i9 ?_ ?_<;>intro h<;>try simp only[i7] at h
  all_goals try clear hs
  all_goals simp[hno]
 replace h6:=Classical.not_not.1 h6
 have h6':¬ (6:Int)<p.holders.length:=by omega
 by_cases h30:¬ p.prints.length≤30
 ·have h30':(30:Int)<p.prints.length:=by omega
  have hno:=K4 (p:=p) fun h=>h30 h.pl
  have hs:=za h6' h30'
  repeat' first|(with_reducible first|refine zz ?_|refine zr ?_|refine zE [0,1,2,3,4,14,19,25,30,36] ?_)|simp -dsimp[hs]|refine i9 ?_ ?_<;>intro h<;>try simp only[i7] at h
  all_goals try clear hs
  all_goals simp[hno]
 replace h30:=Classical.not_not.1 h30
 have h30':¬ (30:Int)<p.prints.length:=by omega
 have hs:=za h6' h30'
 repeat' first|(with_reducible first|refine zz ?_|refine zE [0,1,2,3,4,14,19,25,30,36] ?_)|simp -dsimp[hs]|refine i9 ?_ ?_<;>intro h<;>try simp only[i7] at h
 all_goals try clear hs
 refine i6 (ι:={ k:Nat // k≤p.holders.length∧∀ (j:Nat) (x:Holder),j<k→p.holders[j]?=some x→rh (nums p.n.reg) p.holders j x }) (fun q=>⟨37,[(1,.one (.ptr 0 0)),(3,iv (q.1:Int))],[.row ((o5 p).map .im)]⟩) (fun q=>p.holders.length-q.1) ⟨0,by simp⟩ (zv [1,3]) ?_
 rintro⟨k,hk,hok⟩
 simp only[iv]
 by_cases hlt:k<p.holders.length
 ·have hx0:p.holders[k]?=some p.holders[k]:=by simp[hlt]
  have hw:=zk k
  have c1:=vh (G:=G) p k _ hx0 hsm
  generalize hx:p.holders[k]=x at *
  have hstep:rh (nums p.n.reg) p.holders k x→∀ (j:Nat) (z:Holder),j<k+1→p.holders[j]?=some z→rh (nums p.n.reg) p.holders j z:=fun h j z hj hz=>by
   by_cases e:j=k
   ·subst e;rw[hx0] at hz;cases hz;exact h
   ·exact hok j z (by omega) hz
  by_cases hB:rh (nums p.n.reg) p.holders k x
  ·rw[decide_eq_true hB] at c1
   have hs:=za hlt hw
   repeat' first|(with_reducible first|refine zz ?_|refine zE [0,1,2,3,4,14,19,25,30,36] ?_)|simp -dsimp[hs]|refine zp c1 ?_|refine i9 ?_ ?_<;>intro h<;>try simp only[i7] at h
   all_goals try clear hs
   exact zn ⟨k+1,by omega,hstep hB⟩ (zv [1,3])
  ·rw[decide_eq_false hB] at c1
   have hno:=K4 (p:=p) fun h'=>hB (h'.h k x hx0)
   have hs:=za hlt hw
   repeat' first|(with_reducible first|refine zz ?_|refine zr ?_|refine zE [0,1,2,3,4,14,19,25,30,36] ?_)|simp -dsimp[hs]|refine zp c1 ?_|refine i9 ?_ ?_<;>intro h<;>try simp only[i7] at h
   all_goals try clear hs
   all_goals simp[hno]
 have hall:∀ i x,p.holders[i]?=some x→rh (nums p.n.reg) p.holders i x:=fun i x hx=>hok i x (by have:=e7 hx;omega) hx
 have hs:=hlt
 repeat' first|(with_reducible first|refine zz ?_|refine zE [0,1,2,3,4,14,19,25,30,36] ?_)|simp -dsimp[hs]|refine i9 ?_ ?_<;>intro h<;>try simp only[i7] at h
 all_goals try clear hs
 clear hlt hok hk
 refine i6 (ι:={ k:Nat // k≤p.prints.length∧∀ (j:Nat) (x:Print),j<k→p.prints[j]?=some x→vA p j x }) (fun q=>⟨37,[(1,.one (.ptr 0 0)),(4,iv (q.1:Int))],[.row ((o5 p).map .im)]⟩) (fun q=>p.prints.length-q.1) ⟨0,by simp⟩ (zv [1,4]) ?_
 rintro⟨k,hk,hok⟩
 simp only[iv]
 by_cases hlt:k<p.prints.length
 ·have hx0:p.prints[k]?=some p.prints[k]:=by simp[hlt]
  have hw:=zk k
  have c1:=yb (G:=G) p k _ hx0 hsm
  generalize hx:p.prints[k]=x at *
  have hstep:vA p k x→∀ (j:Nat) (z:Print),j<k+1→p.prints[j]?=some z→vA p j z:=fun h j z hj hz=>by
   by_cases e:j=k
   ·subst e;rw[hx0] at hz;cases hz;exact h
   ·exact hok j z (by omega) hz
  by_cases hB:vA p k x
  ·rw[decide_eq_true hB] at c1
   have hs:=za hlt hw
   repeat' first|(with_reducible first|refine zz ?_|refine zE [0,1,2,3,4,14,19,25,30,36] ?_)|simp -dsimp[hs]|refine zp c1 ?_|refine i9 ?_ ?_<;>intro h<;>try simp only[i7] at h
   all_goals try clear hs
   exact zn ⟨k+1,by omega,hstep hB⟩ (zv [1,4])
  ·rw[decide_eq_false hB] at c1
   have hno:=K4 (p:=p) fun h'=>hB (h'.q k x hx0)
   have hs:=za hlt hw
   repeat' first|(with_reducible first|refine zz ?_|refine zr ?_|refine zE [0,1,2,3,4,14,19,25,30,36] ?_)|simp -dsimp[hs]|refine zp c1 ?_|refine i9 ?_ ?_<;>intro h<;>try simp only[i7] at h
   all_goals try clear hs
   all_goals simp[hno]
 have hyes:F6 p=true:=cZ ⟨h6,h30,hall,fun i x hx=>hok i x (by have:=e7 hx;omega) hx⟩
 rw[hyes]
 have hs:=hlt
 repeat' first|(with_reducible first|refine zz ?_|refine zr ?_|refine zE [0,1,2,3,4,14,19,25,30,36] ?_)|simp -dsimp[hs]|refine i9 ?_ ?_<;>intro h<;>try simp only[i7] at h
 all_goals try clear hs
theorem vn (p:Prints) (hk:KP p):zP prog G 104 [C1 p] (iv (s9 p)):=by
 refine zf func104 ntmps104 ?_
 try simp only[iv]
 have c1:=Ao (G:=G) p.n hk.n
 have c2:=vm (G:=G) p hk.p
 by_cases h0:s6 p.n=0
 ·simp only[h0] at c1
  have hE:s9 p=if F6 p=true then 0 else 70:=by unfold s9;rw[if_neg (by simp[h0])]
  rw[hE]
  generalize F6 p=b at *
  cases b
  ·have hs:=trivial
   repeat' first|(with_reducible first|refine zz ?_|refine zr ?_|refine zE [0,1,2,3,8,12] ?_)|simp -dsimp[hs]|refine zp c1 ?_|refine zp c2 ?_|refine i9 ?_ ?_<;>intro h<;>try simp only[i7] at h
  ·have hs:=trivial
   repeat' first|(with_reducible first|refine zz ?_|refine zr ?_|refine zE [0,1,2,3,8,12] ?_)|simp -dsimp[hs]|refine zp c1 ?_|refine zp c2 ?_|refine i9 ?_ ?_<;>intro h<;>try simp only[i7] at h
 ·have hE:s9 p=s6 p.n:=by unfold s9;rw[if_pos h0]
  rw[hE]
  have hs:=h0
  repeat' first|(with_reducible first|refine zz ?_|refine zr ?_|refine zE [0,1,2,3,8,12] ?_)|simp -dsimp[hs]|refine zp c1 ?_|refine i9 ?_ ?_<;>intro h<;>try simp only[i7] at h
end Go.Proofs
namespace Go.Ab
open Go
def lexB:List Int→List Int→Bool
 | a :: x,b :: y=>if a=b then lexB x y else decide (a<b)
 | _,_=>false
theorem ol {l:List Int} (h:l.Nodup):(j6 l).Pairwise (· < ·):=by
 have h1:(j6 l).Nodup:=(List.mergeSort_perm l _).nodup_iff.2 h
 have h2:=List.pairwise_mergeSort (le:=fun x y:Int=>decide (x≤y)) (fun a b c h1 h2=>by simp at *;omega) (fun a b=>by simp;omega) l
 rw[List.nodup_iff_pairwise_ne] at h1
 refine(h1.and h2).imp ?_
 rintro a b ⟨h3,h4⟩
 simp at h4;omega
def O6 (N:List Int) (s:Nat) (k:Nat):List Int:=((List.range k).filter fun i=>s.testBit i).map fun i=>N.getD i 0
theorem dO (N:List Int) (s k:Nat):O6 N s (k+1)=O6 N s k++(if s.testBit k=true then [N.getD k 0] else []):=by
 unfold O6
 rw[List.range_succ,List.filter_append,List.map_append]
 congr 1
 by_cases h:s.testBit k=true<;>simp[h]
end Go.Ab
namespace Go.Proofs
open Go Go.Ab
end Go.Proofs
namespace Go.Ab
open Go
theorem Az (s i:Nat):IntKind.i64.wrap ((BitVec.ofInt 64 ((s:Int).fdiv (2 ^ i)) &&& BitVec.ofInt 64 1).toNat:Int)=if s.testBit i=true then 1 else 0:=by
 have e1:(s:Int).fdiv (2 ^ i)=((s / 2 ^ i:Nat):Int):=by
  rw[Int.fdiv_eq_ediv_of_nonneg _ (by exact Int.pow_nonneg (by omega))]
  simp
 have e2:(BitVec.ofInt 64 ((s / 2 ^ i:Nat):Int) &&& BitVec.ofInt 64 1).toNat=(s / 2 ^ i) % 2:=by
  have h1:(BitVec.ofInt 64 1)=1#64:=by decide
  rw[h1,BitVec.ofInt_natCast,BitVec.toNat_and,BitVec.toNat_ofNat,BitVec.toNat_ofNat]
  rw[show (1 % 2 ^ 64:Nat)=1 by decide,Nat.and_one_is_mod]
  omega
 rw[e1,e2,Nat.testBit_eq_decide_div_mod_eq]
 rcases Nat.mod_two_eq_zero_or_one (s / 2 ^ i) with h|h
 ·rw[h];simp;decide
 ·rw[h];simp;decide
end Go.Ab
namespace Go.Proofs
open Go Go.Ab Tryz
variable {G:Kc}
theorem om (l:List Int):(j6 l).length=l.length:=(List.mergeSort_perm l _).length_eq
theorem fQ (N:List Int) (s k:Nat):(O6 N s k).length≤k:=by
 induction k with
 | zero=>simp[O6]
 | succ k ih =>
   rw[dO]
   split<;>simp<;>omega
theorem Eo (l:List Int) (s:Nat) (hl:l.length≤60):zP prog G 233 [r7 l,iv (s:Int)] (r7 (O6 l s l.length)):=by
 refine zf func233 ntmps233 ?_
 try simp only[r7,iv]
 have hs0:(0:Int)≤(s:Int):=by omega
 have hz:O6 l s 0=[]:=by simp[O6]
 have hs:=trivial
 repeat' first|(with_reducible first|refine zz ?_|refine zE [0,1,4,5,6,7,8,9,10,11,19] ?_)|simp -dsimp[hs]
 refine i6 (ι:={ p:Nat×Nat×Bool // p.1≤l.length }) (fun p=>⟨26,[(1,iv (s:Int)),(5,.one (.vec 1 p.1.2.1 0 (O6 l s p.1.1).length)),(8,r7 l),(9,iv (l.length:Int)),(10,iv (p.1.1:Int))],[.vec 1 [] 0 true,.vec 1 (l7 ((O6 l s p.1.1).map encI)) p.1.2.1 p.1.2.2]⟩) (fun p=>l.length-p.1.1) ⟨(0,0,true),by simp⟩ (zv [1,5,8,9,10] (by simp[hz])) ?_
 rintro⟨⟨i,g,nl⟩,hi⟩
 simp only at hi
 simp only[iv,r7]
 by_cases hlt:i<l.length
 ·have hw:=zk i
  have hi63:min i 64=i:=by omega
  have hin:¬ ((i:Int)<0):=by omega
  have hb64:IntKind.i64.bits=64:=rfl
  have hbit:=Az s i
  have hSl:=fQ l s i
  have hsu:O6 l s (i+1)=O6 l s i++(if s.testBit i=true then [l[i]] else []):=by
   rw[dO,show l.getD i 0=l[i] by simp[hlt]]
  generalize hx:l[i]=x at *
  generalize O6 l s i=S at *
  cases hb:s.testBit i
  ·rw[hb] at hbit hsu
   simp at hbit
   rw[if_neg Bool.false_ne_true,List.append_nil] at hsu
   have hs:=za hx (za hlt (za hw (za hin (za hi63 (za hb64 hbit)))))
   repeat' first|(with_reducible first|refine zz ?_|refine zE [0,1,4,5,6,7,8,9,10,11,19] ?_)|simp -dsimp[hs]|refine i9 ?_ ?_<;>intro h<;>try simp only[i7] at h
   all_goals exact zn ⟨(i+1,g,nl),by simp only;omega⟩ (zv [1,5,8,9,10] (by simp[hsu]))
  ·rw[hb] at hbit hsu
   simp at hbit
   rw[if_pos rfl] at hsu
   have hs:=za hx (za hlt (za hw (za hin (za hi63 (za hb64 hbit)))))
   repeat' first|(with_reducible first|refine zz ?_|refine And.intro (by omega) ?_|refine zE [0,1,4,5,6,7,8,9,10,11,19] ?_)|simp -dsimp[hs]|refine i9 ?_ ?_<;>intro h<;>try simp only[i7] at h
   all_goals exact zn ⟨(i+1,g+1,false),by simp only;omega⟩ (zw [1,5,8,9,10] 2 (by simp[hsu]))
 ·obtain rfl:i=l.length:=by omega
  have hs:=hlt
  repeat' first|(with_reducible first|refine zz ?_|refine zr ?_|refine zE [0,1,4,5,6,7,8,9,10,11,19] ?_)|simp -dsimp[hs]|refine i9 ?_ ?_<;>intro h<;>try simp only[i7] at h
open Go Go.Ab
def HJ (l:List Int):List IC:=[.sl (l.map encI)]
def JH (L:List (List Int)):DV:=.one (.im (.sl (L.map HJ)))
attribute [simp] HJ JH
def pi (O:List Int) (k:Nat):List (List Int):=(List.range k).map fun s=>O6 O s O.length
def N9 (O:List Int):List (List Int):=pi O (2 ^ O.length)
theorem kq (O:List Int) (k:Nat):(pi O k).length=k:=by simp[pi]
theorem cL (O:List Int):(N9 O).length=2 ^ O.length:=kq _ _
theorem mA (O:List Int) (k:Nat):pi O (k+1)=pi O k++[O6 O k O.length]:=by
 simp[pi,List.range_succ]
end Go.Proofs
namespace Go.Ab
open Go
structure Str where
 frm:Int
 to:Int
 letter:Int
 deriving DecidableEq
def zZ (x:Str):List IC:=[rI x.frm,rI x.to,rI x.letter]
def Ir (l:List Str):DV:=.one (.im (.sl (l.map zZ)))
attribute [simp] zZ Ir
end Go.Ab
namespace Go.Proofs
open Go Go.Ab
def ba (l:List Note):List Int:=1 :: l.flatMap fun x=>[x.frm,x.to+1]
def Z3 (l:List Note):List Int:=(o2 (j6 (ba l))).filter fun m=>decide (m≤999)
theorem vM (l:List Note):(Z3 l).length≤2*l.length+1:=by
 have h1:=List.length_filter_le (fun m:Int=>decide (m≤999)) (o2 (j6 (ba l)))
 have h2:=O9 (j6 (ba l))
 have h3:(ba l).length=2*l.length+1:=by
  unfold ba
  have:∀ l:List Note,(l.flatMap fun x=>[x.frm,x.to+1]).length=2*l.length:=fun l=>by
   induction l with
   | nil=>rfl
   | cons a r ih=>rw[List.flatMap_cons,List.length_append,ih,List.length_cons,List.length_cons,List.length_cons,List.length_nil];omega
  rw[List.length_cons,this]
 rw[H3,h3] at h2
 unfold Z3;omega
theorem ET {n:Notes} (hok:lK n) {x:Note} (hx:x∈n.notes):1≤x.frm∧x.frm≤x.to∧x.to≤999:=by
 obtain⟨i,hi,e⟩:=List.mem_iff_getElem.1 hx
 have h:=hok i x (by rw[List.getElem?_eq_getElem hi,e])
 simp only[uj,DR,Bool.and_eq_true,decide_eq_true_eq] at h
 omega
def bi (n:Notes) (s:List Int) (d m:Int):Int:=gq n.notes (T9 s [] m n.notes) d
theorem Di (n:Notes) (s:List Int) (m d:Int):(uE n s [] m d n.notes.length).letter=bi n s d m:=by
 rw[As]
 unfold bi gq
 rw[bq]
 split
 ·rfl
 ·rename_i h
  have hl:=uD (Nat.le_refl _) h
  rw[List.getElem?_eq_getElem hl];rfl
def stepS (a b:List Int):List Int:=List.zipWith (fun x y=>if y=x then x else 0) a b
open Go Go.Ab Tryz
variable {G:Kc}
attribute [simp] q8 bF r5 w7 nilV H8 ZK
theorem uU (f:IC):zP prog G 185 [.one (.im f)] (.one (.im (.fn (.func 232) [.ip [f]]))):=by
 refine zf func185 ntmps185 ?_
 try simp only[iv]
 repeat' first|(with_reducible first|refine zz ?_|refine zx ?_|refine zE [0,1,2] ?_)|simp -dsimp
theorem BE (X:List (List IC)) (m:Nat):(l7 X).take m=l7 (X.take m):=by simp[l7,List.map_take]
def eD (n:Notes) (d m:Int) (O:List Int) (k:Nat):List Int:=(pi O k).map fun t=>bi n t d m
theorem vz (n:Notes) (d m:Int) (O:List Int) (k:Nat):(eD n d m O k).length=k:=by simp[eD,kq]
theorem rP (n:Notes) (d m:Int) (O:List Int) (k:Nat):eD n d m O (k+1)=eD n d m O k++[bi n (O6 O k O.length) d m]:=by simp[eD,mA]
theorem rO (n:Notes) (d m:Int) (O:List Int):eD n d m O 0=[]:=rfl
theorem pJ (n:Notes) (d m:Int) (hG:o3 G) (hN:C7 G) (hS:u3 G) (hs:xF n):zP prog G 120 [p7 n,iv d,iv m] (.tup [r7 (if U0 n [] m d=0 then o2 (j6 ((N9 (j6 (j8 n.notes))).map fun t=>bi n t d m)) else []),iv (U0 n [] m d)]):=by
 refine zf func120 ntmps120 ?_
 try simp only[p7,iv,iv]
 have c1:=CY n [] m d hG hN hS hs (by simp)
 by_cases h0:U0 n [] m d=0
 ·rw[h0,show aO n [] m d=.one (.im (C8 n)) by unfold aO;rw[if_pos h0]] at c1
  have ha0:C0 n [] m=0:=by
   unfold U0 at h0
   split at h0
   ·contradiction
   ·simpa using ‹¬ C0 n [] m≠0›
  have hnk:=bc (qM ha0).1
  have hn12:=hnk.2.1
  have hO5:(j6 (j8 n.notes)).length≤5:=by rw[om];exact hnk.2.2.2
  have c2:=uU (G:=G) (C8 n)
  rw[if_pos h0]
  simp only[C8,r7,iv,List.map_nil] at c1 c2
  have hs:=trivial
  repeat' first|(with_reducible first|refine zz ?_|refine zE [0,1,2,3,4,5,6,7,8,9,10,12,21,24,26] ?_)|simp -dsimp[hs]|refine zp c1 ?_|refine zp c2 ?_|refine i9 ?_ ?_<;>intro h<;>try simp only[i7] at h
  all_goals try clear hs
  refine M8 (f:=232) (by simp;exact rfl) (by rfl) call232 ?_
  generalize hR:LoopD.mk _ _ _ _ _ _ _=R
  have hR1:R.st=.ready:=by rw[← hR]
  have hR2:R.pend=none:=by rw[← hR]
  have hR3:R.at .ready none=R:=by rw[← hR];rfl
  have hR4:=(congrArg LoopD.nt hR).symm
  have hR5:=(congrArg LoopD.tm hR).symm
  have hR6:=(congrArg LoopD.ps hR).symm
  have hR7:=(congrArg LoopD.asg hR).symm
  have hR8:=(congrArg LoopD.body hR).symm
  dsimp only at hR4 hR5 hR6 hR7 hR8
  clear hR
  refine g9 func232 rfl ntmps232 (by simp) rfl ?_
  have hR9:∀ objs:List DObj,(R.tm.map fun x=>(x.1,eO 8 objs x.2))=R.tm:=by intro objs;rw[hR5];simp
  have hE:((N9 (j6 (j8 n.notes))).map fun t=>bi n t d m)=eD n d m (j6 (j8 n.notes)) (2 ^ (j6 (j8 n.notes)).length):=rfl
  rw[hE]
  clear hE
  generalize hO:j6 (j8 n.notes)=O at *
  have hPe:(2:Nat) ^ O.length≤2 ^ 5:=Nat.pow_le_pow_right (by omega) hO5
  have hP1:1≤(2:Nat) ^ O.length:=Nat.one_le_two_pow
  have hmin:min O.length 64=O.length:=by omega
  have hb64:IntKind.i64.bits=64:=rfl
  have hlnn:¬ ((O.length:Int)<0):=by omega
  have hsh:IntKind.i64.wrap ((2:Int) ^ O.length)=((2 ^ O.length:Nat):Int):=by
   rw[show ((2:Int) ^ O.length)=((2 ^ O.length:Nat):Int) by simp]
   exact(fun (P:Nat) (h:P≤2 ^ 5)=>(o4 (by omega) (by omega):IntKind.i64.wrap (P:Int)=(P:Int))) _ hPe
  generalize hP:2 ^ O.length=P at *
  have hs:=za hR1 (za hR2 (za hR3 (za hmin (za hb64 (za hlnn hsh)))))
  repeat' first|(with_reducible first|refine zz ?_|refine zE [0,1,2,3,4,5,6,7,8,9,10,11,12,21,22,24,26] ?_)|simp -dsimp[hs]
  all_goals try clear hs
  refine i6 (ι:={ p:Nat×Nat×Nat×Bool // p.1≤P∧((p.2.2.1=1∧p.2.2.2=false)∨(p.2.2.1=0∧p.2.2.2=true∧p.1=0)) }) (fun p=>⟨24,[(0,.one (.yld 7)),(1,.one (.im (.ip [.ip [.sl (n.reg.map e9),.sl (n.notes.map l5),.sl ((nums n.reg).map encI),.sl (O.map encI)]]))),(9,iv (P:Int)),(10,iv (p.1.1:Int))],[.row ((u5 n).map .im),.row [.im (rI d)],.row [.im (rI m)],.vec 1 [] 0 true,.row [.im (.ip [.sl (n.reg.map e9),.sl (n.notes.map l5),.sl ((nums n.reg).map encI),.sl (O.map encI)])],.vec p.1.2.2.1 (l7 ((eD n d m O p.1.1).map encI)) p.1.2.1 p.1.2.2.2,.row [.vec 5 p.1.2.1 0 p.1.1],.loop R]⟩) (fun p=>P-p.1.1) ⟨(0,0,0,true),by simp⟩ (zv [0,1,9,10] (by simp[rO])) ?_
  rintro⟨⟨k,g,sz,nl⟩,hk,hz⟩
  simp only at hk hz
  simp only[iv]
  have hkl:=vz n d m O k
  by_cases hlt:k<P
  ·have hw:=zk k
   have hst:=rP n d m O k
   have c3:=Eo (G:=G) O k (by omega)
   have htl:=fQ O k O.length
   have hbl:=Di n (O6 O k O.length) m d
   generalize O6 O k O.length=t at *
   have c4:=oy (G:=G) n t [] m
   have c5:=HV (G:=G) n t [] m d (by omega) (by omega) (by simp) [] (ConsM.nil n t [] m)
   simp only[M7,frcCaps,C8,iv,r7,bv,rI,List.map_cons,List.map_nil,F1,hO] at c3 c4 c5
   generalize eD n d m O k=L at *
   rcases hz with⟨rfl,rfl⟩|⟨rfl,rfl,rfl⟩
   ·subst hkl
    have hs:=za hR1 (za hR2 (za hR3 (za hlt (za hw hbl))))
    repeat' first|(with_reducible first|refine zz ?_|refine And.intro (by omega) ?_)|simp -dsimp[hs]|with_reducible refine At.yield_end ?_;simp -dsimp[hs]|refine V5 ?_ ?_<;>simp -dsimp[hs]|refine J1 ?_;simp -dsimp[N4,hR4,hR5,hR6,hR7,hR8,hs]|refine zp c3 ?_|refine CallE.embed [] (c4) ?_ ?_ ?_ ?_ ?_ ?_;(focus simp[p8];done);(focus simp;done);(focus simp;done);(focus simp;done);(focus refine n3 ?_;simp[p8,n8];done);try simp -dsimp[l9,p8,hs]|refine CallE.embed_ex [8,9,10,11,12,13,14] (c5) ?_ ?_ ?_ ?_ ?_ ?_;(focus simp[p8];done);(focus simp;done);(focus simp;done);(focus simp;done);(focus refine n3 ?_;simp[p8,n8];done);intro mm hmm;try simp -dsimp[l9,p8,hs]|refine fF (id:=7) (nt:=42) [0,1,2,3,4,6,5,7,8,9,10,11] 6 [([0,1,5],[0,1,2,3,4,5,6,7,8,9,10,12,21,24,26,29,30,31]),([0],[0,1,2,3,4,5,6,7,8,9,10,12,21,24,26,28,32,33]),([0],[0,1,2,3,4,5,6,7,8,9,10,12,21,24,26,34]),([0],[0,1,2,3,4,5,6,7,8,9,10,12,21,24,26,35])] [0,1,2,3,4,5,6,7,8,9,10,12,21,24,26] mixed rfl (by kernel_rfl) (by kernel_rfl) ?_|with_reducible refine zE [0,1,2,3,4,5,6,7,8,9,10,11,12,21,22,24,26] ?_|refine i9 ?_ ?_<;>intro h<;>try simp only[i7] at h
    all_goals try clear hs
    all_goals exact zn ⟨(L.length+1,g+1,1,false),by omega,.inl ⟨rfl,rfl⟩⟩ (zw [0,1,9,10] 8 (by simp[hst,hR9]))
   ·obtain rfl:=List.eq_nil_of_length_eq_zero hkl
    have hw1:IntKind.i64.wrap 1=1:=o4 (by omega) (by omega)
    have hs:=za hR1 (za hR2 (za hR3 (za hlt (za hw hbl))))
    repeat' first|with_reducible refine zz ?_|simp -dsimp[hs]|with_reducible refine At.yield_end ?_;simp -dsimp[hs]|refine V5 ?_ ?_<;>simp -dsimp[hs]|refine J1 ?_;simp -dsimp[N4,hR4,hR5,hR6,hR7,hR8,hs]|refine zp c3 ?_|refine CallE.embed [] (c4) ?_ ?_ ?_ ?_ ?_ ?_;(focus simp[p8];done);(focus simp;done);(focus simp;done);(focus simp;done);(focus refine n3 ?_;simp[p8,n8];done);try simp -dsimp[l9,p8,hs]|refine CallE.embed_ex [8,9,10,11,12,13,14] (c5) ?_ ?_ ?_ ?_ ?_ ?_;(focus simp[p8];done);(focus simp;done);(focus simp;done);(focus simp;done);(focus refine n3 ?_;simp[p8,n8];done);intro mm hmm;try simp -dsimp[l9,p8,hs]|refine fF (id:=7) (nt:=42) [0,1,2,3,4,6,5,7,8,9,10,11] 6 [([0,1,5],[0,1,2,3,4,5,6,7,8,9,10,12,21,24,26,29,30,31]),([0],[0,1,2,3,4,5,6,7,8,9,10,12,21,24,26,28,32,33]),([0],[0,1,2,3,4,5,6,7,8,9,10,12,21,24,26,34]),([0],[0,1,2,3,4,5,6,7,8,9,10,12,21,24,26,35])] [0,1,2,3,4,5,6,7,8,9,10,12,21,24,26] mixed rfl (by kernel_rfl) (by kernel_rfl) ?_|with_reducible refine zE [0,1,2,3,4,5,6,7,8,9,10,11,12,21,22,24,26] ?_|refine i9 ?_ ?_<;>intro h<;>try simp only[i7] at h
    all_goals try clear hs
    all_goals exact zn ⟨(1,g+1,1,false),by omega,.inl ⟨rfl,rfl⟩⟩ (zw [0,1,9,10] 8 (by simp[hst,hR9,hw1]))
  ·obtain rfl:k=P:=by omega
   obtain⟨rfl,rfl⟩:=hz.resolve_right (by omega)
   generalize eD n d m O k=L at *
   have c3:=hS L g 1 false (.inl rfl) (by omega)
   have hil:=H3 L
   have c4:=iX (G:=G) (j6 L) g (by omega)
   have hdl:=O9 (j6 L)
   rw[hil] at c4
   subst hkl
   have hs:=za hR1 (za hR2 (za hR3 hlt))
   repeat' first|(with_reducible first|refine zz ?_|refine zr ?_ (by simp -dsimp[B0,hs];exact rfl)|refine ze ?_ (by simp -dsimp[B0,hs];exact rfl)|refine zE [0,1,2,3,4,5,6,7,8,9,10,11,12,21,22,24,26] ?_)|simp -dsimp[B0,hs]|with_reducible show B0 _ _ _ _ _ _ _ _;simp -dsimp[B0,hs]|refine CallE.embed [5] (c3) ?_ ?_ ?_ ?_ ?_ ?_;(focus simp[p8];done);(focus simp;done);(focus simp;done);(focus simp;done);(focus refine n3 ?_;simp[p8,n8];done);try simp -dsimp[l9,p8,hs]|refine CallE.embed_ex [5] (c4) ?_ ?_ ?_ ?_ ?_ ?_;(focus simp[p8];done);(focus simp;done);(focus simp;done);(focus simp;done);(focus refine n3 ?_;simp[p8,n8];done);intro mm hmm;try simp -dsimp[l9,p8,hs]|refine i9 ?_ ?_<;>intro h<;>try simp only[i7] at h
   all_goals try clear hs
   obtain⟨ha1,ha2⟩:=hmm
   have hml:(o2 (j6 L)).length≤mm.length:=by omega
   have htk:(l7 (mm.map encI)).take (o2 (j6 L)).length=l7 ((o2 (j6 L)).map encI):=by rw[BE,← List.map_take,ha2]
   simp[hml,htk,h0]
 ·rw[show aO n [] m d=.one (.im (.raw (.pointer none))) by unfold aO;rw[if_neg h0]] at c1
  rw[if_neg h0]
  simp only[r7,iv,List.map_nil] at c1
  have hs:=h0
  repeat' first|(with_reducible first|refine zz ?_|refine zr ?_|refine zE [0,1,2,3,4,5,6,7,8,9,10,12,21,24,26] ?_)|simp -dsimp[hs]|refine zp c1 ?_|refine i9 ?_ ?_<;>intro h<;>try simp only[i7] at h
  all_goals try clear hs
  all_goals simp[h0]
end Go.Proofs
namespace Go.Proofs
open Go Go.Ab
end Go.Proofs
namespace Go.Ab
open Go
def FP (L:List Bool):List DC:=L.map fun b=>.im (.raw (.bool b))
@[simp] theorem In (m:Nat) (O:List DObj) (L:List Bool):(FP L).map (fz m O)=FP L:=by
 simp only[FP,List.map_map];rfl
end Go.Ab
namespace Go.Proofs
open Go Go.Ab
variable {G:Kc}
end Go.Proofs
namespace Go.Proofs
open Go Go.Ab
variable {G:Kc}
open Go Go.Ab Tryz
def FU (p:Prints):Prop:=AZ p.n∧p.holders.length≤8∧p.prints.length≤40∧∀ x∈p.holders,x.draws.length≤20
def fN (p:Prints):Bool:=bL p.n&&(decide (p.holders.length≤8)&&(decide (p.prints.length≤40)&&p.holders.all fun x=>decide (x.draws.length≤20)))
theorem zG (p:Prints):zP prog G 62 [C1 p] (bv (!fN p)):=by
 refine zf func62 ntmps62 ?_
 try simp only[iv]
 have c1:=zH (G:=G) p.n
 have hE:fN p=(bL p.n&&(decide (p.holders.length≤8)&&(decide (p.prints.length≤40)&&p.holders.all fun x=>decide (x.draws.length≤20)))):=rfl
 simp only[p7,u5] at c1
 cases hS:bL p.n
 ·rw[hS,Bool.false_and] at hE
  rw[hS] at c1
  rw[hE]
  have hs:=trivial
  repeat' first|(with_reducible first|refine zz ?_|refine zr ?_|refine zE [0,1,2,3,18,23,33] ?_)|simp -dsimp[hs]|refine zp c1 ?_|refine i9 ?_ ?_<;>intro h<;>try simp only[i7] at h
 ·rw[hS,Bool.true_and] at hE
  rw[hS] at c1
  by_cases h8:p.holders.length≤8
  ·have h8':¬ (8:Int)<p.holders.length:=by omega
   rw[decide_eq_true h8,Bool.true_and] at hE
   by_cases h40:p.prints.length≤40
   ·have h40':¬ (40:Int)<p.prints.length:=by omega
    rw[decide_eq_true h40,Bool.true_and] at hE
    have hs:=za h8' h40'
    repeat' first|(with_reducible first|refine zz ?_|refine zE [0,1,2,3,18,23,33] ?_)|simp -dsimp[hs]|refine zp c1 ?_|refine i9 ?_ ?_<;>intro h<;>try simp only[i7] at h
    refine i6 (ι:={ k:Nat // k≤p.holders.length∧(p.holders.all fun x=>decide (x.draws.length≤20))=(p.holders.drop k).all fun x=>decide (x.draws.length≤20) }) (fun q=>⟨34,[(1,.one (.ptr 0 0)),(3,iv (q.1:Int))],[.row ((o5 p).map .im)]⟩) (fun q=>p.holders.length-q.1) ⟨0,by simp⟩ (zv [1,3]) ?_
    rintro⟨k,hk,hall⟩
    simp only[iv]
    by_cases hlt:k<p.holders.length
    ·have hw:=zk k
     have hst:=bD hlt hall
     generalize hx:p.holders[k]=x at *
     by_cases h20:x.draws.length≤20
     ·have h20':¬ (20:Int)<x.draws.length:=by omega
      have hs:=za hx (za hlt (za hw h20'))
      repeat' first|(with_reducible first|refine zz ?_|refine zE [0,1,2,3,18,23,33] ?_)|simp -dsimp[hs]|refine i9 ?_ ?_<;>intro h<;>try simp only[i7] at h
      exact zn ⟨k+1,by omega,I0 hst (by simpa using h20)⟩ (zv [1,3])
     ·have h20':(20:Int)<x.draws.length:=by omega
      have hs:=za hx (za hlt (za hw h20'))
      repeat' first|(with_reducible first|refine zz ?_|refine zr ?_|refine zE [0,1,2,3,18,23,33] ?_)|simp -dsimp[hs]|refine i9 ?_ ?_<;>intro h<;>try simp only[i7] at h
      rw[hE,E3 hst (by simpa using h20)];try rfl
    ·have hok:(p.holders.all fun x=>decide (x.draws.length≤20))=true:=by rw[hall,List.drop_eq_nil_of_le (by omega)];rfl
     have hs:=hlt
     repeat' first|(with_reducible first|refine zz ?_|refine zr ?_|refine zE [0,1,2,3,18,23,33] ?_)|simp -dsimp[hs]|refine i9 ?_ ?_<;>intro h<;>try simp only[i7] at h
     rw[hE,hok];try rfl
   ·have h40':(40:Int)<p.prints.length:=by omega
    rw[decide_eq_false h40,Bool.false_and] at hE
    have hs:=za h8' h40'
    repeat' first|(with_reducible first|refine zz ?_|refine zr ?_|refine zE [0,1,2,3,18,23,33] ?_)|simp -dsimp[hs]|refine zp c1 ?_|refine i9 ?_ ?_<;>intro h<;>try simp only[i7] at h
    rw[hE];try rfl
  ·have h8':(8:Int)<p.holders.length:=by omega
   rw[decide_eq_false h8,Bool.false_and] at hE
   have hs:=h8'
   repeat' first|(with_reducible first|refine zz ?_|refine zr ?_|refine zE [0,1,2,3,18,23,33] ?_)|simp -dsimp[hs]|refine zp c1 ?_|refine i9 ?_ ?_<;>intro h<;>try simp only[i7] at h
   rw[hE];try rfl
theorem K0 (n lo hi:Int):zP prog G 94 [iv n,iv lo,iv hi] (bv (decide (lo≤n)&&decide (n≤hi))):=by
 refine zf func94 ntmps94 ?_
 try simp only[iv,iv,iv]
 have hs:=trivial
 repeat' first|(with_reducible first|refine zz ?_|refine zr ?_|refine zE [0,1,2,6] ?_)|simp -dsimp[hs]|with_reducible refine j0 ?_ ?_<;>intro h<;>have h0:=h<;>(try simp only[i7] at h)<;>have h2:=h<;>(try simp at h2)<;>replace hs:=za h0 (za h (za h2 hs))
 all_goals try clear hs
 all_goals simp[*]
theorem la {l:List Issue} (h:l4 l=0) {x:Issue} (hx:x∈l):1≤x.letter∧1≤x.kind:=by
 have:=(N5 (K8 (I1 h))).2.2.2.1 x hx
 simp only[n7,Ak,Bs,Bool.and_eq_true,decide_eq_true_eq] at this
 by_cases hk:x.kind=1
 ·omega
 ·rw[if_neg hk] at this
  simp only[Bool.and_eq_true,decide_eq_true_eq] at this
  omega
theorem ss {l:List Issue} (h0:l4 l=0) (d:Int):Z5 l d=0↔d∉nums l:=by
 obtain⟨h1,h2,h3⟩:=dh d l 0
 constructor
 ·intro h hd
  obtain⟨x,hx,hxd⟩:=pF hd
  have:=h2 x hx hxd
  have:=(la h0 hx).1
  unfold Z5 at h
  omega
 ·intro hd
  rcases h3 with h3|⟨x,hx,hxd,_⟩
  ·exact h3
  ·exact absurd (hxd ▸ (E4 h0).2 x hx) hd
theorem rK {c:Case} (h0:l4 c.p.n.reg=0) (l:Link) (x:Piece):H1 c l x=true↔(o7 c.p.n.reg l.drawing 1).isSome=true∧¬ ((o7 c.p.n.reg l.drawing 1).getD M9).kind<2∧(decide (0≤l.dim)&&decide (l.dim≤3))=true∧¬ H9 (fun y=>decide (y.id=x.holder)) c.p.holders<0∧(decide (0≤x.day)&&decide (x.day≤14610))=true∧(decide (0≤x.lo)&&decide (x.lo≤1000000000))=true∧(decide (x.lo≤x.hi)&&decide (x.hi≤1000000000))=true:=by
 have hf:(c.p.holders.any fun y=>decide (y.id=x.holder))=true↔¬ H9 (fun y=>decide (y.id=x.holder)) c.p.holders<0:=by
  rw[← A3,decide_eq_true_eq];omega
 unfold H1 S8
 cases hfi:o7 c.p.n.reg l.drawing 1 with
 | none=>simp
 | some y =>
   have hk:=(la h0 (List.mem_of_find?_eq_some hfi)).2
   simp only[Option.isSome_some,Option.getD_some,Bool.and_eq_true,decide_eq_true_eq,Bool.not_eq_true',decide_eq_false_iff_not,hf,true_and]
   omega
theorem BQ (c:Case) (h0:l4 c.p.n.reg=0) (hk:KC c):zP prog G 105 [n5 c] (bv (aj c)):=by
 refine zf func105 ntmps105 ?_
 try simp only[iv]
 have hl:=hk.l
 have hq:=hk.q
 have hhl:=hk.p.p.h
 have hrl:=hk.p.p.l
 have c2:=yU (G:=G) c.p.n.reg c.of (by omega)
 have hLm:=ss h0 c.of
 have c3:=K0 (G:=G) c.machine 1 999
 have c4:=K0 (G:=G) (c.loop.links.length:Int) 1 8
 have c5:=K0 (G:=G) c.loop.lo (-8000000000) 8000000000
 have c6:=K0 (G:=G) c.loop.hi c.loop.lo 8000000000
 simp only[G9] at c2
 generalize Z5 c.p.n.reg c.of=L at *
 cases h5:dG c
 ·have hB:aj c=false:=by rw[J0,h5,Bool.false_and]
  rw[hB]
  simp only[dG,S8] at h5
  generalize hb3:(decide (1≤c.machine)&&decide (c.machine≤999))=b3 at c3
  generalize hb4:(decide (1≤(c.loop.links.length:Int))&&decide ((c.loop.links.length:Int)≤8))=b4 at c4
  generalize hb5:(decide (-8000000000≤c.loop.lo)&&decide (c.loop.lo≤8000000000))=b5 at c5
  generalize hb6:(decide (c.loop.lo≤c.loop.hi)&&decide (c.loop.hi≤8000000000))=b6 at c6
  have hs:True:=trivial
  by_cases hm:L=0
  ·cases b3
   all_goals
    have hs:=hm
    repeat' first|(with_reducible first|refine zz ?_|refine zr ?_|refine zE [0,1,2,3,4,5,6,7,8,61,66,131] ?_)|simp -dsimp[hs]|refine zp c3 ?_|refine zp c2 ?_|refine i9 ?_ ?_<;>intro h<;>try simp only[i7] at h
    all_goals try clear hs
  ·have hm':c.of∈nums c.p.n.reg:=Classical.byContradiction fun h=>hm (hLm.2 h)
   by_cases hlen:c.pieces.length=c.loop.links.length
   ·cases b3<;>cases b4<;>cases b5<;>cases b6
    all_goals
     have hs:=za hlen hm
     repeat' first|(with_reducible first|refine zz ?_|refine zr ?_|refine zE [0,1,2,3,4,5,6,7,8,61,66,131] ?_)|simp -dsimp[hs]|refine zp c3 ?_|refine zp c2 ?_|refine zp c4 ?_|refine zp c5 ?_|refine zp c6 ?_|refine i9 ?_ ?_<;>intro h<;>try simp only[i7] at h
     all_goals try clear hs
    all_goals exfalso
    all_goals simp[hm',hlen] at h5 hb3 hb4 hb5 hb6
    all_goals omega
   ·have hlen':¬ (c.pieces.length:Int)=c.loop.links.length:=by omega
    cases b3<;>cases b4<;>cases b5<;>cases b6
    all_goals
     have hs:=za hlen (za hlen' hm)
     repeat' first|(with_reducible first|refine zz ?_|refine zr ?_|refine zE [0,1,2,3,4,5,6,7,8,61,66,131] ?_)|simp -dsimp[hs]|refine zp c3 ?_|refine zp c2 ?_|refine zp c4 ?_|refine zp c5 ?_|refine zp c6 ?_|refine i9 ?_ ?_<;>intro h<;>try simp only[i7] at h
     all_goals try clear hs
 ·have hB:aj c=(c.loop.links.zip c.pieces).all fun q=>H1 c q.1 q.2:=by rw[J0,h5,Bool.true_and]
  rw[hB]
  simp only[dG,Bool.and_eq_true,decide_eq_true_eq,S8] at h5
  obtain⟨hm,⟨hm1,hm2⟩,⟨hl1,hl2⟩,hlen,hgap⟩:=h5
  have hm':¬ L=0:=fun h=>hLm.1 h hm
  rw[show (decide (1≤c.machine)&&decide (c.machine≤999))=true by simp;omega] at c3
  rw[show (decide (1≤(c.loop.links.length:Int))&&decide ((c.loop.links.length:Int)≤8))=true by simp;omega] at c4
  rw[show (decide (-8000000000≤c.loop.lo)&&decide (c.loop.lo≤8000000000))=true by simp;omega] at c5
  rw[show (decide (c.loop.lo≤c.loop.hi)&&decide (c.loop.hi≤8000000000))=true by simp;omega] at c6
  have hs:=za hlen hm'
  repeat' first|(with_reducible first|refine zz ?_|refine zE [0,1,2,3,4,5,6,7,8,61,66,131] ?_)|simp -dsimp[hs]|refine zp c3 ?_|refine zp c2 ?_|refine zp c4 ?_|refine zp c5 ?_|refine zp c6 ?_|refine i9 ?_ ?_<;>intro h<;>try simp only[i7] at h
  all_goals try clear hs
  have hno:((c.loop.links.zip c.pieces).all fun q=>H1 c q.1 q.2)=((c.loop.links.zip c.pieces).drop 0).all fun q=>H1 c q.1 q.2:=rfl
  clear c2 c3 c4 c5 c6
  generalize hA:((c.loop.links.zip c.pieces).all fun q=>H1 c q.1 q.2)=A at *
  refine i6 (ι:={ k:Nat // k≤c.pieces.length∧A=((c.loop.links.zip c.pieces).drop k).all fun q=>H1 c q.1 q.2 }) (fun q=>⟨132,[(1,.one (.ptr 0 0)),(3,.one (.ptr 2 0)),(4,iv (q.1:Int))],[.row ((j4 c).map .im),.vec 0 [] 0 true,.row [.im (.sl (c.p.n.reg.map e9))]]⟩) (fun q=>c.pieces.length-q.1) ⟨0,by simp,hno⟩ (zv [1,3,4]) ?_
  rintro⟨k,hk1,hrest⟩
  simp only[iv]
  by_cases hlt:k<c.pieces.length
  ·have hlt2:k<c.loop.links.length:=by omega
   have hw:=zk k
   have hst:=fG (f:=fun q=>H1 c q.1 q.2) hlt2 hlt (hA.trans hrest)
   rw[hA] at hst
   simp only at hst
   rw[rK h0] at hst
   clear hno
   generalize hx:c.pieces[k]=x at *
   generalize hy:c.loop.links[k]=y at *
   have c6:=sM (G:=G) c.p.n.reg y.drawing 1 (by omega)
   have c7:=pZ (G:=G) c.p x.holder (by omega)
   have c8:=K0 (G:=G) y.dim 0 3
   have c9:=K0 (G:=G) x.day 0 14610
   have c10:=K0 (G:=G) x.lo 0 1000000000
   have c11:=K0 (G:=G) x.hi x.lo 1000000000
   simp only[G9,D3] at c6
   simp only[C1,o5,List.map_cons,List.map_nil] at c7
   generalize H9 (fun y=>decide (y.id=x.holder)) c.p.holders=f at *
   generalize (decide (0≤y.dim)&&decide (y.dim≤3))=b1 at *
   generalize (decide (0≤x.day)&&decide (x.day≤14610))=b3 at *
   generalize (decide (0≤x.lo)&&decide (x.lo≤1000000000))=b4 at *
   generalize (decide (x.lo≤x.hi)&&decide (x.hi≤1000000000))=b5 at *
   generalize (o7 c.p.n.reg y.drawing 1).isSome=e at *
   generalize (o7 c.p.n.reg y.drawing 1).getD M9=z at *
   have hcs:(e=true∧¬ z.kind<2∧b1=true∧¬ f<0∧b3=true∧b4=true∧b5=true)∨(A=false∧((e=false∧True∧True∧True∧True∧True∧True)∨(e=true∧z.kind<2∧True∧True∧True∧True∧True)∨(e=true∧¬ z.kind<2∧b1=false∧True∧True∧True∧True)∨(e=true∧¬ z.kind<2∧b1=true∧f<0∧True∧True∧True)∨(e=true∧¬ z.kind<2∧b1=true∧¬ f<0∧b3=false∧True∧True)∨(e=true∧¬ z.kind<2∧b1=true∧¬ f<0∧b3=true∧b4=false∧True)∨(e=true∧¬ z.kind<2∧b1=true∧¬ f<0∧b3=true∧b4=true∧b5=false))):=by
    by_cases g2:z.kind<2<;>by_cases g4:f<0<;>cases e<;>cases b1<;>cases b3<;>cases b4<;>cases b5<;>simp_all
   have hs:True:=trivial
   rcases hcs with⟨g1,g2,g3,g4,g5,g6,g7⟩|⟨gA,hcs⟩
   ·have hs:=za hx (za hy (za hlt (za hlt2 (za hw (za g1 (za g2 (za g3 (za g4 (za g5 (za g6 g7))))))))))
    repeat' first|with_reducible refine zz ?_|simp -dsimp[hs]|refine zp c6 ?_|refine zp c7 ?_|refine zp c8 ?_|refine zp c9 ?_|refine zp c10 ?_|refine zp c11 ?_|refine E5 (id:=7) (nt:=132) 13 [6,7,8,9,10] [0,1,2,3,4,5,6,7,8,61,66,69,70,71,72,73,74,131] [0,1,2,3,4,5,6,7,8,61,66,131] mixed rfl (by kernel_rfl) ?_|with_reducible refine zE [0,1,2,3,4,5,6,7,8,61,66,131] ?_|refine i9 ?_ ?_<;>intro h<;>try simp only[i7] at h
    all_goals try clear hs
    all_goals exact zn ⟨k+1,by omega,by rw[Bool.eq_iff_iff];exact hst.trans ⟨fun h=>h.2,fun h=>⟨⟨g1,g2,g3,g4,g5,g6,g7⟩,h⟩⟩⟩ (zw [1,3,4] 3)
   ·rcases hcs with⟨g1,g2,g3,g4,g5,g6,g7⟩|⟨g1,g2,g3,g4,g5,g6,g7⟩|⟨g1,g2,g3,g4,g5,g6,g7⟩|⟨g1,g2,g3,g4,g5,g6,g7⟩|⟨g1,g2,g3,g4,g5,g6,g7⟩|⟨g1,g2,g3,g4,g5,g6,g7⟩|⟨g1,g2,g3,g4,g5,g6,g7⟩
    all_goals
     have hs:=za hx (za hy (za hlt (za hlt2 (za hw (za g1 (za g2 (za g3 (za g4 (za g5 (za g6 g7))))))))))
     repeat' first|(with_reducible first|refine zz ?_|refine zr ?_)|simp -dsimp[hs]|refine zp c6 ?_|refine zp c7 ?_|refine zp c8 ?_|refine zp c9 ?_|refine zp c10 ?_|refine zp c11 ?_|refine E5 (id:=7) (nt:=132) 13 [6,7,8,9,10] [0,1,2,3,4,5,6,7,8,61,66,69,70,71,72,73,74,131] [0,1,2,3,4,5,6,7,8,61,66,131] mixed rfl (by kernel_rfl) ?_|with_reducible refine zE [0,1,2,3,4,5,6,7,8,61,66,131] ?_|refine i9 ?_ ?_<;>intro h<;>try simp only[i7] at h
     all_goals try clear hs
    all_goals exact gA
  ·obtain rfl:k=c.pieces.length:=by omega
   have hA1:A=true:=by rw[hrest,List.drop_eq_nil_of_le (by rw[List.length_zip];omega)];rfl
   subst hA1
   have hs:=hlt
   repeat' first|(with_reducible first|refine zz ?_|refine zr ?_|refine zE [0,1,2,3,4,5,6,7,8,61,66,131] ?_)|simp -dsimp[hs]|refine i9 ?_ ?_<;>intro h<;>try simp only[i7] at h
   all_goals try clear hs
theorem vo (c:Case) (hk:KC c):zP prog G 50 [n5 c] (iv (r9 c)):=by
 refine zf func50 ntmps50 ?_
 try simp only[iv]
 have c1:=vn (G:=G) c.p hk.p
 simp only[C1,o5] at c1
 by_cases h0:s9 c.p=0
 ·have c2:=BQ (G:=G) c (C6 h0).2.2 hk
  have hE:r9 c=if aj c=true then 0 else 100:=by unfold r9;rw[if_neg (by simp[h0])]
  rw[hE]
  rw[h0] at c1
  simp only[n5,j4] at c2
  generalize aj c=b at *
  cases b
  ·have hs:=trivial
   repeat' first|(with_reducible first|refine zz ?_|refine zr ?_|refine zE [0,1,2,3,8,12] ?_)|simp -dsimp[hs]|refine zp c1 ?_|refine zp c2 ?_|refine i9 ?_ ?_<;>intro h<;>try simp only[i7] at h
  ·have hs:=trivial
   repeat' first|(with_reducible first|refine zz ?_|refine zr ?_|refine zE [0,1,2,3,8,12] ?_)|simp -dsimp[hs]|refine zp c1 ?_|refine zp c2 ?_|refine i9 ?_ ?_<;>intro h<;>try simp only[i7] at h
 ·have hE:r9 c=s9 c.p:=by unfold r9;rw[if_pos h0]
  rw[hE]
  have hs:=h0
  repeat' first|(with_reducible first|refine zz ?_|refine zr ?_|refine zE [0,1,2,3,8,12] ?_)|simp -dsimp[hs]|refine zp c1 ?_|refine i9 ?_ ?_<;>intro h<;>try simp only[i7] at h
def tD (c:Case):Prop:=FU c.p∧c.loop.links.length≤16∧c.pieces.length≤16
def bM (c:Case):Bool:=fN c.p&&(decide (c.loop.links.length≤16)&&decide (c.pieces.length≤16))
theorem wj (c:Case):zP prog G 15 [n5 c] (bv (!bM c)):=by
 refine zf func15 ntmps15 ?_
 try simp only[iv]
 have c1:=zG (G:=G) c.p
 simp only[C1,o5] at c1
 unfold bM
 generalize fN c.p=b at *
 have hs:True:=trivial
 by_cases h1:c.loop.links.length≤16
 ·have h1':¬ (16:Int)<c.loop.links.length:=by omega
  by_cases h2:c.pieces.length≤16
  ·have h2':¬ (16:Int)<c.pieces.length:=by omega
   cases b
   all_goals
    have hs:=za h1 (za h2 (za h1' h2'))
    repeat' first|(with_reducible first|refine zz ?_|refine zr ?_|refine zE [0,1,2] ?_)|simp -dsimp[hs]|refine zp c1 ?_
  ·have h2':(16:Int)<c.pieces.length:=by omega
   cases b
   all_goals
    have hs:=za h1 (za h2 (za h1' h2'))
    repeat' first|(with_reducible first|refine zz ?_|refine zr ?_|refine zE [0,1,2] ?_)|simp -dsimp[hs]|refine zp c1 ?_
 ·have h1':(16:Int)<c.loop.links.length:=by omega
  cases b
  all_goals
   have hs:=za h1 h1'
   repeat' first|(with_reducible first|refine zz ?_|refine zr ?_|refine zE [0,1,2] ?_)|simp -dsimp[hs]|refine zp c1 ?_
def uK (n:Notes):Prop:=(∀ x∈n.reg,0≤x.kind∧x.kind≤255)∧∀ x∈n.notes,0≤x.ways∧x.ways≤255∧0≤x.signed∧x.signed≤255
theorem FX {n:Notes} (hk:uK n) (h:bL n=true):AZ n∧xF n:=by
 simp only[bL,Bool.and_eq_true,decide_eq_true_eq] at h
 refine⟨h,⟨h.1.1,fun x hx=>⟨(hk.1 x hx).1,(hk.1 x hx).2,h.1.2 x hx⟩⟩,h.2,hk.2⟩
def jQ (x:Print):Prop:=0≤x.lost∧x.lost≤255
def ic (p:Prints):Prop:=uK p.n∧∀ x∈p.prints,jQ x
theorem Bk {c:Case} (hk:ic c.p) (h:bM c=true):tD c∧KC c:=by
 simp only[bM,fN,Bool.and_eq_true,decide_eq_true_eq,List.all_eq_true] at h
 obtain⟨⟨h1,h2,h3,h4⟩,h5,h6⟩:=h
 obtain⟨hN,hM⟩:=FX hk.1 h1
 have hr:=hM.1.1
 have hnl:(nums c.p.n.reg).length≤c.p.n.reg.length:=u6 c.p.n.reg c.p.n.reg.length
 exact⟨⟨⟨hN,h2,h3,h4⟩,h5,h6⟩,⟨⟨hM,⟨by omega,by omega,h2,h3,h4,hk.2⟩⟩,h5,h6⟩⟩
theorem eT (d i w:Int) (l:List Print):(N0 d i w l).length≤l.length+1:=by
 unfold N0
 rw[List.length_drop]
 have h1:=O9 (j6 (Z1 d i w l++[aV d i w l]))
 rw[H3,List.length_append,List.length_singleton] at h1
 have h2:=kL d i w l
 omega
theorem yS (c:Case) (n:Int):(gr c n).length≤c.p.prints.length+1:=by
 unfold gr
 split
 ·unfold E0
  split
  ·unfold N1
   split
   ·exact eT _ _ _ _
   ·simp
  ·simp
 ·simp
end Go.Proofs
