/- Part 20 of the proofs. -/
import Derived.Test.YtlmlkkoapahmjaaGreatDoorS17
import Derived.Test.YtlmlkkoapahmjaaGreatDoorS19
set_option linter.all false
set_option maxHeartbeats 100000000
namespace Go.Proofs
open Go Go.Ab Tryz
variable {G:Hn}
theorem tQ (c:Case) (hk:KC c):zP prog G 41 [n7 c] (iv (A4 c)):=by
 refine zf func41 ntmps41 ?_;try simp only[iv]
 have c1:=mi (G:=G) c.p hk.p;simp only[r9,m6] at c1;by_cases h0:p6 c.p=0
 ·have c2:=zT (G:=G) c (B2 h0).2.2 hk;have hE:A4 c=if ah c=true then 0 else 100:=by unfold A4;rw[if_neg (by simp[h0])]
  rw[hE];rw[h0] at c1;simp only[n7,j4] at c2;generalize ah c=b at *;cases b
  ·have hs:=trivial;repeat' first|(with_reducible first|refine zz ?_|refine zr ?_|refine zE [0,1,2,3,8,12] ?_)|simp -dsimp[hs]|refine zp c1 ?_|refine zp c2 ?_|refine i7 ?_ ?_<;>intro h<;>try exact h.elim
  ·have hs:=trivial;repeat' first|(with_reducible first|refine zz ?_|refine zr ?_|refine zE [0,1,2,3,8,12] ?_)|simp -dsimp[hs]|refine zp c1 ?_|refine zp c2 ?_|refine i7 ?_ ?_<;>intro h<;>try exact h.elim
 ·have hE:A4 c=p6 c.p:=by unfold A4;rw[if_pos h0]
  rw[hE];have hs:=h0;repeat' first|(with_reducible first|refine zz ?_|refine zr ?_|refine zE [0,1,2,3,8,12] ?_)|simp -dsimp[hs]|refine zp c1 ?_|refine i7 ?_ ?_<;>intro h<;>try exact h.elim
@[simp] abbrev KT:List Nat:=[0,1,2,3,4,5,10,25]
theorem BZ (c:Case) (hok:CaseOk c):zP prog G 217 [n7 c] (B1 (P3 (c.loop.links.zip c.pieces)).1 (P3 (c.loop.links.zip c.pieces)).2):=by
 refine zf func217 ntmps217 ?_;try simp only[iv]
 have hlen:=hok.e;have hl8:=hok.l;have hs:=trivial;repeat' first|(with_reducible first|refine zz ?_|refine zE KT ?_)|simp -dsimp[hs]
 refine g9 (ι:={ k:Nat // k<=c.pieces.length }) (λq=>⟨49,[(1,.one (.ptr 0 0)),(2,.one (.ptr 1 0)),(3,.one (.ptr 2 0)),(4,iv (q.1:Int))],[.row ((j4 c).map .im),.row [.im (rI 0),.im (rI 0)],.row [.im (rI (P3 ((c.loop.links.zip c.pieces).take q.1)).1),.im (rI (P3 ((c.loop.links.zip c.pieces).take q.1)).2)]]⟩) (λq=>c.pieces.length-q.1) ⟨0,by simp⟩ (zv [1,2,3,4] (by simp[P3])) ?_;rintro⟨k,hk1⟩;simp only[iv];by_cases hlt:k<c.pieces.length
 ·have hlt2:k<c.loop.links.length:=by omega
  have hw:=zk k;have hb1:=nj hok (Nat.le_of_lt hlt);have hb2:=nj hok (show k+1<=c.pieces.length by omega);have hst:=od hok hlt hlt2;have hp:=nc hok hlt;unfold U7 at hp;rw[hst] at hb2;generalize hx:c.pieces[k]=x at *;generalize hy:c.loop.links[k]=y at *;generalize P3 ((c.loop.links.zip c.pieces).take k)=s at *;unfold H9 at hst hb2;cases hbk:y.back
  ·rw[if_neg (by simp[hbk])] at hst hb2;simp only at hb2;have hw1:IntKind.i64.wrap (s.1+x.lo)=s.1+x.lo:=m9 (by omega) (by omega);have hw2:IntKind.i64.wrap (s.2+x.hi)=s.2+x.hi:=m9 (by omega) (by omega);have hs:=za hx (za hy (za hlt (za hlt2 (za hw (za hw1 (za hw2 hbk))))));repeat' first|(with_reducible first|refine zz ?_|refine zE KT ?_)|simp -dsimp[hs]|refine i7 ?_ ?_<;>intro h<;>try exact h.elim
   all_goals exact zn ⟨k+1,by omega⟩ (zw [1,2,3,4] 3 (by simp[hst]))
  ·rw[if_pos hbk] at hst hb2;simp only at hb2;have hw3:IntKind.i64.wrap (s.1-x.hi)=s.1-x.hi:=m9 (by omega) (by omega);have hw4:IntKind.i64.wrap (s.2-x.lo)=s.2-x.lo:=m9 (by omega) (by omega);have hs:=za hx (za hy (za hlt (za hlt2 (za hw (za hw3 (za hw4 hbk))))));repeat' first|(with_reducible first|refine zz ?_|refine zE KT ?_)|simp -dsimp[hs]|refine i7 ?_ ?_<;>intro h<;>try exact h.elim
   all_goals exact zn ⟨k+1,by omega⟩ (zw [1,2,3,4] 3 (by simp[hst]))
 ·obtain rfl:k=c.pieces.length:=by omega
  have hall:(c.loop.links.zip c.pieces).take c.pieces.length=c.loop.links.zip c.pieces:=List.take_of_length_le (by rw[List.length_zip];omega);rw[hall];have hs:=hlt;repeat' first|(with_reducible first|refine zz ?_|refine zr ?_|refine zE KT ?_)|simp -dsimp[hs]|refine i7 ?_ ?_<;>intro h<;>try exact h.elim
theorem Cj (c:Case) (hk:KC c):zP prog G 169 [n7 c] (.tup [B1 (R3 c).1 (R3 c).2,iv (A4 c)]):=by
 refine zf func169 ntmps169 ?_;try simp only[iv]
 have c1:=tQ (G:=G) c hk;simp only[n7,j4] at c1;by_cases h0:A4 c=0
 ·have hok:=N4 (C1 h0).2;have hE:R3 c=P3 (c.loop.links.zip c.pieces):=by unfold R3;rw[if_pos h0]
  have c2:=BZ (G:=G) c hok;rw[hE];rw[h0] at c1 ⊢;generalize P3 (c.loop.links.zip c.pieces)=s at *;simp only[n7,j4,B1] at c2;have hs:=trivial;repeat' first|(with_reducible first|refine zz ?_|refine zr ?_|refine zE [0,1,2,3,4,8] ?_)|simp -dsimp[hs]|refine zp c1 ?_|refine zp c2 ?_|refine i7 ?_ ?_<;>intro h<;>try exact h.elim
 ·have hE:R3 c=(0,0):=by unfold R3;rw[if_neg h0]
  rw[hE];have hs:=h0;repeat' first|(with_reducible first|refine zz ?_|refine zr ?_|refine zE [0,1,2,3,4,8] ?_)|simp -dsimp[hs]|refine zp c1 ?_|refine i7 ?_ ?_<;>intro h<;>try exact h.elim
@[simp] abbrev LH:List Nat:=[0,1,2,3,4,5,6,15,19,32]
theorem zS (c:Case) (hk:KC c):zP prog G 112 [n7 c] (.tup [DL (aA c),iv (A4 c)]):=by
 refine zf func112 ntmps112 ?_;try simp only[iv]
 have c1:=Cj (G:=G) c hk;simp only[n7,j4,B1] at c1;by_cases h0:A4 c=0
 ·have hok:=N4 (C1 h0).2;have hE:aA c=pn c (R3 c):=by unfold aA;rw[if_pos h0]
  have hS:R3 c=P3 (c.loop.links.zip c.pieces):=by unfold R3;rw[if_pos h0]
  have hle:(R3 c).1<=(R3 c).2:=by rw[hS];exact(eM hok.p).1
  have hgap:=hok.g;rw[hE];rw[h0] at c1 ⊢;unfold pn;generalize R3 c=s at *;by_cases h4:c.loop.lo<=s.1/\s.2<=c.loop.hi
  ·rw[if_neg (by omega),if_pos h4];have h5:=h4.1;have h6:=h4.2;have hs:=za h5 h6;repeat' first|(with_reducible first|refine zz ?_|refine zr ?_|refine zE LH ?_)|simp -dsimp[hs]|refine zp c1 ?_|refine i7 ?_ ?_<;>intro h<;>try exact h.elim
  ·rw[if_neg h4];have hcs:(c.loop.lo<=s.1/\¬ s.2<=c.loop.hi)\/¬ c.loop.lo<=s.1:=by omega
   by_cases h2:s.2<c.loop.lo
   ·rw[if_pos (.inl h2)];rcases hcs with⟨h5,h6⟩|h5
    ·have hs:=za h2 (za h5 h6);repeat' first|(with_reducible first|refine zz ?_|refine zr ?_|refine zE LH ?_)|simp -dsimp[hs]|refine zp c1 ?_|refine i7 ?_ ?_<;>intro h<;>try exact h.elim
    ·have hs:=za h2 h5;repeat' first|(with_reducible first|refine zz ?_|refine zr ?_|refine zE LH ?_)|simp -dsimp[hs]|refine zp c1 ?_|refine i7 ?_ ?_<;>intro h<;>try exact h.elim
   ·by_cases h3:c.loop.hi<s.1
    ·rw[if_pos (.inr h3)];rcases hcs with⟨h5,h6⟩|h5
     ·have hs:=za h2 (za h3 (za h5 h6));repeat' first|(with_reducible first|refine zz ?_|refine zr ?_|refine zE LH ?_)|simp -dsimp[hs]|refine zp c1 ?_|refine i7 ?_ ?_<;>intro h<;>try exact h.elim
     ·have hs:=za h2 (za h3 h5);repeat' first|(with_reducible first|refine zz ?_|refine zr ?_|refine zE LH ?_)|simp -dsimp[hs]|refine zp c1 ?_|refine i7 ?_ ?_<;>intro h<;>try exact h.elim
    ·rw[if_neg (by omega)];rcases hcs with⟨h5,h6⟩|h5
     ·have hs:=za h2 (za h3 (za h5 h6));repeat' first|(with_reducible first|refine zz ?_|refine zr ?_|refine zE LH ?_)|simp -dsimp[hs]|refine zp c1 ?_|refine i7 ?_ ?_<;>intro h<;>try exact h.elim
     ·have hs:=za h2 (za h3 h5);repeat' first|(with_reducible first|refine zz ?_|refine zr ?_|refine zE LH ?_)|simp -dsimp[hs]|refine zp c1 ?_|refine i7 ?_ ?_<;>intro h<;>try exact h.elim
 ·have hE:aA c=0:=by unfold aA;rw[if_neg h0]
  rw[hE];have hs:=h0;repeat' first|(with_reducible first|refine zz ?_|refine zr ?_|refine zE LH ?_)|simp -dsimp[hs]|refine zp c1 ?_|refine i7 ?_ ?_<;>intro h<;>try exact h.elim
theorem zK (c:Case) (k:Nat) (h1:k<c.pieces.length) (h2:k<c.loop.links.length) (hk:KC c):zP prog G 115 [n7 c,iv (k:Int)] (n9 (Z3 c k)):=by
 refine zf func115 ntmps115 ?_;try simp only[iv]
 rw[kB h1 h2];generalize hx:c.pieces[k]=x at *;generalize hy:c.loop.links[k]=y at *;have c1:=tL (G:=G) c.p x.day x.holder y.drawing hk.p;simp only[r9,m6] at c1;generalize M8 c.p x.day x.holder y.drawing=L at *;generalize G3 c.p x.day 1 x.holder y.drawing=e at *;have hs:=za hx (za hy (za h1 h2));repeat' first|(with_reducible first|refine zz ?_|refine zr ?_)|simp -dsimp[hs]|refine zq c1 ?_|refine zM 2 31 19 [0,1,2,4,5,6] ?_|with_reducible refine zE [0,1,2,4,5,6] ?_
@[simp] abbrev KU:List Nat:=[0,1,2,3,4,5,18]
theorem zm (p:Prints) (hs:rV p):zP prog G 67 [r9 p] (r9 p):=by
 refine zf func67 ntmps67 ?_;try simp only[iv]
 have c1:=zo (G:=G) p.n hs.1;have hl:=hs.2.1;have hl2:=hs.2.2.1;simp only[l6,m7] at c1;have hs:=trivial;repeat' first|(with_reducible first|refine zz ?_|refine And.intro (by omega) ?_)|simp -dsimp[hs]|refine zq c1 ?_|refine pY (id:=1) (nt:=38) 9 [] [0,1,2,3,4,5,6,7,8,9,10,11,12,13,18] KU mixed rfl (by kernel_rfl) ?_|with_reducible refine zE KU ?_
 all_goals try clear hs
 refine oc (Weak.nilCell 6 2 rfl rfl) ?_;refine g9 (ι:={ q:Nat×Nat×Nat×Bool // q.1<=p.holders.length/\(q.2.2.1=4\/q.2.2.2=true) }) (λq=>⟨38,[(1,.one (.ptr 0 0)),(2,.one (.ptr 5 0)),(3,.one (.ptr 6 0)),(4,iv (q.1.1:Int))],[.row ((m6 p).map .im),.vec 0 [] 0 true,.vec 0 [] 0 true,.vec 0 [] 0 true,.vec 0 [] 0 true,.row [.vec 1 0 0 0,.vec 2 0 0 0,.vec 3 0 0 0,.vec 4 0 0 0],.row [.im (.sl (p.n.reg.map e9)),.im (.sl (p.n.notes.map n8)),.vec 7 q.1.2.1 0 q.1.1,.im (.sl (p.prints.map A0))],.vec q.1.2.2.1 (l8 ((p.holders.take q.1.1).map o8)) q.1.2.1 q.1.2.2.2]⟩) (λq=>p.holders.length-q.1.1) ⟨(0,0,0,true),by simp⟩ (zv [1,2,3,4]) ?_;rintro⟨⟨k,g,sz,nl⟩,hk,hz⟩;simp only at hk hz;simp only[iv];have htk:(l8 ((p.holders.map o8).take k)).take k=l8 ((p.holders.map o8).take k):=List.take_of_length_le (by simp[o3];omega);by_cases hlt:k<p.holders.length
 ·have hx:p.holders[k]?=some p.holders[k]:=by simp[hlt]
  have hw:=zk k;have hmin:min k p.holders.length=k:=Nat.min_eq_left (by omega);have hln:=hs.2.2.2 p.holders[k] (List.getElem_mem hlt);have hsn:(p.holders.map o8).take (k+1)=(p.holders.map o8).take k++[o8 p.holders[k]]:=by
   rw[List.take_succ];simp[hx]
  have hs:=za hx (za hw (za hlt (za hz hmin)));repeat' first|(with_reducible first|refine zz ?_|refine And.intro (by omega) ?_|refine zE KU ?_)|simp -dsimp[hs]|refine i7 ?_ ?_<;>intro h<;>try exact h.elim
  all_goals try clear hs
  all_goals try omega
  exact zn ⟨(k+1,g+1,4,false),by simp;omega⟩ (zw [1,2,3,4] 8 (by simp[hsn,htk,L3]))
 ·have hkl:k=p.holders.length:=by omega
  subst hkl;have hall:(p.holders.map o8).take p.holders.length=p.holders.map o8:=List.take_of_length_le (by simp);rw[hall] at htk;have hs:=za hall htk;repeat' first|(with_reducible first|refine zz ?_|refine zr ?_|refine zE KU ?_)|simp -dsimp[hs]|refine i7 ?_ ?_<;>intro h<;>try exact h.elim
  all_goals try clear hs
def rW (c:Case):Prop:=rV c.p/\c.loop.links.length<=16/\c.pieces.length<=16
def fJ (c:Case):Bool:=fI c.p&&(decide (c.loop.links.length<=16)&&decide (c.pieces.length<=16))
theorem uz (c:Case):zP prog G 19 [n7 c] (bv (!fJ c)):=by
 refine zf func19 ntmps19 ?_;try simp only[iv]
 have c1:=xI (G:=G) c.p;simp only[r9,m6] at c1;unfold fJ;generalize fI c.p=b at *;have hs:True:=trivial;by_cases h1:c.loop.links.length<=16
 ·have h1':¬ (16:Int)<c.loop.links.length:=by omega
  by_cases h2:c.pieces.length<=16
  ·have h2':¬ (16:Int)<c.pieces.length:=by omega
   cases b
   all_goals
    have hs:=za h1 (za h2 (za h1' h2'));repeat' first|(with_reducible first|refine zz ?_|refine zr ?_|refine zE [0,1,2] ?_)|simp -dsimp[hs]|refine zp c1 ?_
  ·have h2':(16:Int)<c.pieces.length:=by omega
   cases b
   all_goals
    have hs:=za h1 (za h2 (za h1' h2'));repeat' first|(with_reducible first|refine zz ?_|refine zr ?_|refine zE [0,1,2] ?_)|simp -dsimp[hs]|refine zp c1 ?_
 ·have h1':(16:Int)<c.loop.links.length:=by omega
  cases b
  all_goals
   have hs:=za h1 h1';repeat' first|(with_reducible first|refine zz ?_|refine zr ?_|refine zE [0,1,2] ?_)|simp -dsimp[hs]|refine zp c1 ?_
@[simp] abbrev LS:List Nat:=[0,1,2,3,4,5,6,55,61,76,81,94]
theorem ww (c:Case) (hs:rW c):zP prog G 25 [n7 c,n7 c] (bv true):=by
 refine zf func25 ntmps25 ?_;try simp only[iv]
 have c1:=zH (G:=G) c.p hs.1;have hl:=hs.2.1;have hq:=hs.2.2;simp only[r9,m6] at c1;have hs:=trivial;repeat' first|(with_reducible first|refine zz ?_|refine zE LS ?_)|simp -dsimp[hs]|refine zp c1 ?_|refine i7 ?_ ?_<;>intro h<;>try exact h.elim
 all_goals try clear hs
 refine g9 (ι:={ k:Nat // k<=c.loop.links.length }) (λq=>⟨95,[(2,.one (.ptr 0 0)),(3,.one (.ptr 1 0)),(5,iv (q.1:Int))],[.row ((j4 c).map .im),.row ((j4 c).map .im)]⟩) (λq=>c.loop.links.length-q.1) ⟨0,by simp⟩ (zv [2,3,5]) ?_;rintro⟨k,hk⟩;simp only[iv];by_cases hlt:k<c.loop.links.length
 ·have hw:=zk k;generalize hx:c.loop.links[k]=x at *;have hs:=za hx (za hlt hw);repeat' first|with_reducible refine zz ?_|simp -dsimp[hs]|refine zM 6 95 13 LS ?_|with_reducible refine zE LS ?_|refine i7 ?_ ?_<;>intro h<;>try exact h.elim
  all_goals try clear hs
  exact zn ⟨k+1,by omega⟩ (zv [2,3,5])
 have hs:=hlt;repeat' first|(with_reducible first|refine zz ?_|refine zE LS ?_)|simp -dsimp[hs]|refine i7 ?_ ?_<;>intro h<;>try exact h.elim
 all_goals try clear hs
 clear hlt hk;refine g9 (ι:={ k:Nat // k<=c.pieces.length }) (λq=>⟨95,[(2,.one (.ptr 0 0)),(3,.one (.ptr 1 0)),(6,iv (q.1:Int))],[.row ((j4 c).map .im),.row ((j4 c).map .im)]⟩) (λq=>c.pieces.length-q.1) ⟨0,by simp⟩ (zv [2,3,6]) ?_;rintro⟨k,hk⟩;simp only[iv];by_cases hlt:k<c.pieces.length
 ·have hw:=zk k;generalize hx:c.pieces[k]=x at *;have hs:=za hx (za hlt hw);repeat' first|with_reducible refine zz ?_|simp -dsimp[hs]|refine zM 11 95 11 LS ?_|with_reducible refine zE LS ?_|refine i7 ?_ ?_<;>intro h<;>try exact h.elim
  all_goals try clear hs
  exact zn ⟨k+1,by omega⟩ (zv [2,3,6])
 ·have hs:=hlt;repeat' first|(with_reducible first|refine zz ?_|refine zr ?_|refine zE LS ?_)|simp -dsimp[hs]|refine i7 ?_ ?_<;>intro h<;>try exact h.elim
  all_goals try clear hs
theorem wa (c:Case) (hs:rW c):zP prog G 20 [n7 c] (n7 c):=by
 refine zf func20 ntmps20 ?_;try simp only[iv]
 have c1:=zm (G:=G) c.p hs.1;have hl:=hs.2.1;have hq:=hs.2.2;simp only[r9,m6] at c1;have hs:=trivial;repeat' first|(with_reducible first|refine zz ?_|refine And.intro (by omega) ?_|refine zr ?_)|simp -dsimp[hs]|refine zp c1 ?_|refine zM 2 20 11 [0,1,2] ?_|with_reducible refine zE [0,1,2] ?_
 all_goals try clear hs
open Go Go.Ab
def tj (n:Notes):Prop:=(∀ x∈n.reg,0<=x.kind/\x.kind<=255)/\∀ x∈n.notes,0<=x.ways/\x.ways<=255/\0<=x.signed/\x.signed<=255
theorem Dr {n:Notes} (hk:tj n) (h:bF n=true):nW n/\ti n:=by
 simp only[bF,Bool.and_eq_true,decide_eq_true_eq] at h;refine⟨h,⟨h.1.1,λx hx=>⟨(hk.1 x hx).1,(hk.1 x hx).2,h.1.2 x hx⟩⟩,h.2,hk.2⟩
def jA (x:Print):Prop:=0<=x.lost/\x.lost<=255
def pP (p:Prints):Prop:=tj p.n/\∀ x∈p.prints,jA x
theorem Fq {c:Case} (hk:pP c.p) (h:fJ c=true):rW c/\KC c:=by
 simp only[fJ,fI,Bool.and_eq_true,decide_eq_true_eq,List.all_eq_true] at h;obtain⟨⟨h1,h2,h3,h4⟩,h5,h6⟩:=h;obtain⟨hN,hM⟩:=Dr hk.1 h1;have hr:=hM.1.1;have hnl:(nums c.p.n.reg).length<=c.p.n.reg.length:=n3 c.p.n.reg c.p.n.reg.length;exact⟨⟨⟨hN,h2,h3,h4⟩,h5,h6⟩,⟨⟨hM,⟨by omega,by omega,h2,h3,h4,hk.2⟩⟩,h5,h6⟩⟩
theorem qi (d i w:Int) (l:List Print):(aI d i w l).length<=l.length+1:=by
 unfold aI;rw[List.length_drop];have h1:=fk (l4 (P5 d i w l++[N1 d i w l]));rw[T3,List.length_append,List.length_singleton] at h1;have h2:=km d i w l;omega
end Go.Proofs
