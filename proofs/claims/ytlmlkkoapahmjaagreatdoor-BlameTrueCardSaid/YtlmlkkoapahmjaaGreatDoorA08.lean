/- Part 26 of the proofs. -/
import Derived.Shelf.Sort.Plain
import Derived.Shelf.Slices.In.SortNone
import Derived.Test.YtlmlkkoapahmjaaGreatDoorP14
import Derived.Test.YtlmlkkoapahmjaaGreatDoorA06
import Derived.Test.YtlmlkkoapahmjaaGreatDoorA07
set_option linter.all false
set_option maxHeartbeats 100000000
namespace Go.Proofs
open Go Go.Ab Tryz
variable {G:LS}
attribute [simp] s6 du O6 jy w5 B6 nilV K9 ZK
theorem sD {c:Case} (he:q8 c=0) {k:Nat} (h1:k<c.pieces.length) (h2:k<c.loop.links.length):O1 c.p c.pieces[k].day 1 c.pieces[k].holder c.loop.links[k].drawing=0:=by
 obtain⟨hp0,hcb⟩:=A2 he;obtain⟨hn0,hpb,hr0⟩:=A9 hp0;have hdm:=fd hr0 hcb h1 h2;have hq:=hcb;rw[N4,Bool.and_eq_true,List.all_eq_true] at hq;have h3:k<(c.loop.links.zip c.pieces).length:=by rw[List.length_zip];omega
 have h4:=hq.2 _ (List.getElem_mem h3);rw[List.getElem_zip] at h4;simp only at h4;rw[jo hr0] at h4;obtain⟨_,_,_,hh,hd,_⟩:=h4;unfold O1 J3 uA;rw[if_neg,if_pos ⟨hh,hdm⟩];rw[if_neg (by simp[hp0]),if_pos]
 ·decide
 ·simp only[List.all_cons,List.all_nil,Bool.and_true,Bool.and_eq_true,decide_eq_true_eq] at hd ⊢;omega
def bQ (b L:List Int) (k:Nat):Int:=(L[(A0 b (2*k)).toNat % L.length]?).getD 0
def fu (b:List Int) (k:Nat) (x:Piece):Int:=x.lo+A0 b (2*k+1) % (x.hi-x.lo+1)
def P7 (o:Option Dim) (m:Int):Bool:=match o with
 | none=>false
 | some d=>decide (m<d.lower)||decide (d.upper<m)
noncomputable def vZ (c:Case) (s b:List Int) (k:Nat):E3:=match c.pieces[k]?,c.loop.links[k]? with
 | some x,some y=>(!decide (bQ b (C7 c k) k=Y6 c s y.drawing),P7 (nO c y (bQ b (C7 c k) k)) (fu b k x))
 | _,_=>(false,false)
theorem lU (b:List Int) (k:Nat) {x:Piece} (h:x.lo<=x.hi):x.lo<=fu b k x/\fu b k x<=x.hi:=by
 have h1:0<=A0 b (2*k+1) % (x.hi-x.lo+1):=Int.emod_nonneg _ (by omega);have h2:A0 b (2*k+1) % (x.hi-x.lo+1)<x.hi-x.lo+1:=Int.emod_lt_of_pos _ (by omega);unfold fu;omega
theorem wT (b:List Int) {L:List Int} (k:Nat) (h:L≠[]):bQ b L k∈L:=by
 unfold bQ;rw[List.getElem?_eq_getElem (Nat.mod_lt _ (List.length_pos_iff.2 h))];exact List.getElem_mem _
theorem HA {c:Case} (he:q8 c=0) (s b:List Int):zB (A7 c s) (vZ c s b):=by
 intro k hk;have hl:(A7 c s).faults.length=c.pieces.length:=by simp[A7]
 rw[hl] at hk;rw[BL hk];have hok:=I5 (A2 he).2;have h2:k<c.loop.links.length:=by have:=hok.e;omega
 have hx:c.pieces[k]?=some c.pieces[k]:=List.getElem?_eq_getElem hk;have hy:c.loop.links[k]?=some c.loop.links[k]:=List.getElem?_eq_getElem h2;have hp:=iV hok hk;unfold P2 at hp;have hm:=lU b k hp.2.1;rw[vQ hx hy];unfold vZ;rw[hx,hy];simp only;refine⟨_,wT b k (gZ he hk),?_⟩;generalize bQ b (C7 c k) k=n at *;generalize fu b k c.pieces[k]=m at *;generalize c.pieces[k]=x at *;generalize c.loop.links[k]=y at *;unfold sU xM;cases nO c y n with
 | none=>exact .inl ⟨rfl,rfl⟩
 | some d =>
   simp only[P7];by_cases h:m<d.lower\/d.upper<m
   ·right;refine⟨?_,by simp[h]⟩;rw[Bool.not_eq_true',<- Bool.not_eq_true];intro hi;simp only[U6,decide_eq_true_eq] at hi;omega
   ·left;refine⟨by simp;omega,?_⟩;have:(decide (m<d.lower)||decide (d.upper<m))=false:=by simp;omega
    rw[this]
@[simp] abbrev LU:List Nat:=[0,1,2,3,6,7,8,9,10,11,12,13,14,15,16,17,18,19,20,21,29,31,37,38,39,40,78,109,134]
@[simp] abbrev Qa:List Nat:=[1,2,3,8,9,37,38,39]
theorem BC (c:Case) (s b:List Int) (hu:∀ n∈b,0<=n/\n<=4294967295) (he:q8 c=0) (ht:F7 (j8 (j7 c.p.n.notes)) s=true) (hsl:s.length<1000) (hG:o4 G) (hN:E2 G) (hS:u5 G) (hR:w0 G) (hC:J2 G) (hk:KC c):zP prog G 11 [l7 c,r5 s,.one (.im (.sl (b.map rO)))] (.tup [C0 (O2 (nm c s) (vZ c s b) c.pieces.length),bv true]):=by
 refine zf func11 ntmps11 ?_;try simp only[r5]
 obtain⟨hp0,hcb⟩:=A2 he;obtain⟨hn0,hpb,hr0⟩:=A9 hp0;have hok:=I5 hcb;have hlen:=hok.e;have hl8:=hok.l;have hpl:=hk.p.p.q;have c1:=BQ (G:=G) c s he ht hsl hG hN hS hC hk;have c2:=zI (G:=G);have hRs:O2 (nm c s) (vZ c s b) c.pieces.length=(ab (nm c s) ⟨1,0⟩++dy (λi=>(vZ c s b i).1) Z7 c.pieces.length)++dy (λi=>(vZ c s b i).2) aE c.pieces.length:=by
  unfold O2;rw[xk]
 rw[hRs];clear hRs;have hP:∀ k x y,c.pieces[k]?=some x->c.loop.links[k]?=some y->(λi=>(vZ c s b i).1) k=!decide (bQ b (C7 c k) k=Y6 c s y.drawing)/\(λi=>(vZ c s b i).2) k=P7 (nO c y (bQ b (C7 c k) k)) (fu b k x):=λk x y hx hy=>by
  simp only[vZ,hx,hy];exact⟨trivial,trivial⟩
 generalize (λi=>(vZ c s b i).1)=P at *;generalize (λi=>(vZ c s b i).2)=H at *;generalize hN2:nm c s=nb at *;simp only[l7,j0,E0,C0,j4,rI,List.map_cons,List.map_nil] at c1 c2 ⊢;obtain⟨Z,hZ⟩:∃ Z,Z=ab nb ⟨1,0⟩:=⟨_,rfl⟩
 rw[<- hZ];obtain⟨RES,hRES⟩:∃ r,r=(Z++dy P Z7 c.pieces.length)++dy H aE c.pieces.length:=⟨_,rfl⟩
 rw[<- hRES];have hZl:Z.length<=1:=by rw[hZ,cL];split<;>omega
 have hH0:dy H aE 0=[]:=rfl;have hP0:dy P Z7 0=[]:=rfl;have hs:True:=trivial;cases hnb:nb
 all_goals
  rw[hnb] at c1 hZ;simp only[ab,if_true,Bool.false_eq_true,if_false,Bool.not_true,Bool.not_false] at hZ c1;have hs:=trivial;repeat' first|(with_reducible first|refine zz ?_|refine zE LU ?_)|simp -dsimp[hs]|refine zp c1 ?_|refine zp c2 ?_|refine i8 ?_ ?_<;>intro h<;>try exact h.elim
  all_goals try clear hs
 ·refine i6 (ι:={ p:Nat×Nat×Bool×Nat×Bool // p.1<=c.pieces.length }) (λp=>⟨144,[(1,.one (.im (.sl (s.map Ab.encI)))),(2,.one (.im (.sl (b.map rO)))),(3,.one (.ptr 0 0)),(8,.one (.vec 2 p.1.2.1 0 (Z++dy P Z7 p.1.1).length)),(9,.one (.vec 3 p.1.2.2.2.1 0 (dy H aE p.1.1).length)),(37,.one (.im (.sl (c.pieces.map w9)))),(38,iv (c.pieces.length:Int)),(39,iv (p.1.1:Int))],[.row ((j0 c).map .im),.vec 2 [] 0 true,.vec 2 (l5 ((Z++dy P Z7 p.1.1).map j4)) p.1.2.1 p.1.2.2.1,.vec 2 (l5 ((dy H aE p.1.1).map j4)) p.1.2.2.2.1 p.1.2.2.2.2]⟩) (λp=>c.pieces.length-p.1.1) ⟨(0,0,true,0,true),by simp⟩ (zw Qa 4 (by simp[hZ,hH0,hP0,l5])) ?_;clear hZ hH0 hP0 c1 c2 hN2;rintro⟨⟨k,ga,na,gb,nb'⟩,hk1⟩;simp only at hk1;simp only[iv];have hl1:(Z++dy P Z7 k).length<=1+k:=by
   have:=iu P Z7 k;rw[List.length_append];omega
  have hl2:=iu H aE k;by_cases hlt:k<c.pieces.length
  ·have hlt2:k<c.loop.links.length:=by omega
   have hw:=zk k;have e1:Z++dy P Z7 (k+1)=(Z++dy P Z7 k)++ab (P k) (Z7 k):=by rw[ed,List.append_assoc]
   have e2:=ed H aE k;have hx0:c.pieces[k]?=some c.pieces[k]:=by simp[hlt]
   have hy0:c.loop.links[k]?=some c.loop.links[k]:=by simp[hlt2]
   obtain⟨p1,p2⟩:=hP k _ _ hx0 hy0;rw[p1] at e1;rw[p2] at e2;have hyd:=fe hcb hy0;have hpc:=iV hok hlt;unfold P2 at hpc;have c3:=lS (G:=G) c.p c.pieces[k].day c.pieces[k].holder c.loop.links[k].drawing hG hN hS hR hk.p;rw[sD he hlt hlt2,<- ia hlt hlt2] at c3;have hne:=gZ he hlt;have hml:=eQ c k;have c4:=Fz (G:=G) c s k _ hy0 hlt he ht hsl hG hN hS hk;have c5:=iN (G:=G) b (2*k) (by omega) hu;have c6:=iN (G:=G) b (2*k+1) (by omega) hu;rw[show ((2*k:Nat):Int)=2*(k:Int) by omega] at c5;rw[show ((2*k+1:Nat):Int)=2*(k:Int)+1 by omega] at c6;have u1:=cQ hu (2*k);have u2:=cQ hu (2*k+1);have c7:=vI (G:=G) c k _ (bQ b (C7 c k) k) hy0 hyd.1 hr0 hG hk;have c8:=pm (G:=G) (k:Int);have c9:=td (G:=G) (k:Int);have hmd:fu b k c.pieces[k]=c.pieces[k].lo+A0 b (2*k+1) % (c.pieces[k].hi-c.pieces[k].lo+1):=rfl;have hmi:=lU b k hpc.2.1;have hnd:bQ b (C7 c k) k=((C7 c k)[(A0 b (2*k)).toNat % (C7 c k).length]?).getD 0:=rfl;generalize bQ b (C7 c k) k=n at *;generalize fu b k c.pieces[k]=m at *;have w6:IntKind.i64.wrap (c.pieces[k].hi-c.pieces[k].lo)=c.pieces[k].hi-c.pieces[k].lo:=n4 (by omega) (by omega);have w7:IntKind.i64.wrap (c.pieces[k].hi-c.pieces[k].lo+1)=c.pieces[k].hi-c.pieces[k].lo+1:=n4 (by omega) (by omega);have g7:¬ c.pieces[k].hi-c.pieces[k].lo+1=0:=by omega
   have w8:IntKind.i64.wrap (c.pieces[k].lo+(A0 b (2*k+1)).tmod (c.pieces[k].hi-c.pieces[k].lo+1))=m:=by
    rw[Int.tmod_eq_emod_of_nonneg (by omega),<- hmd];exact n4 (by omega) (by omega)
   have w10:IntKind.i64.wrap (2*(k:Int))=2*(k:Int):=n4 (by omega) (by omega);have w11:IntKind.i64.wrap (2*(k:Int)+1)=2*(k:Int)+1:=n4 (by omega) (by omega);generalize A0 b (2*k+1)=U2 at *;generalize nO c c.loop.links[k] n=sz at *;generalize C7 c k=L at *;have hL0:0<L.length:=List.length_pos_iff.2 hne;have hLi:¬ (L.length:Int)=0:=by omega
   have hjt:((A0 b (2*k)).tmod (L.length:Int))=(((A0 b (2*k)).toNat % L.length:Nat):Int):=by
    obtain⟨u,hu'⟩:=Int.eq_ofNat_of_zero_le u1.1;rw[hu',Int.tmod_eq_emod_of_nonneg (by omega),Int.toNat_natCast];omega
   have hjl:(A0 b (2*k)).toNat % L.length<L.length:=Nat.mod_lt _ hL0;generalize (A0 b (2*k)).toNat % L.length=j at *;generalize A0 b (2*k)=U1 at *;rw[List.getElem?_eq_getElem hjl,Option.getD_some] at hnd;have hjx:L[j]?=some n:=by rw[List.getElem?_eq_getElem hjl,hnd]
   have hje:∀ h,L[j]'h=n:=λh=>hnd.symm;have w12:IntKind.i64.wrap (j:Int)=(j:Int):=n4 (by omega) (by omega);clear hnd hmd hP p1 p2;generalize hxe:c.pieces[k]=x at *;generalize hye:c.loop.links[k]=y at *;generalize Y6 c s y.drawing=o at *;generalize Z++dy P Z7 k=L1 at *;generalize dy H aE k=L2 at *;simp only[l7,j0,D8,p7,E0,j4,rI,List.map_cons,List.map_nil] at c3 c4 c5 c6 c7 c8 c9;have hs:True:=trivial;by_cases hno:n=o
   ·rw[decide_eq_true hno] at e1;have hnt:=eq_true hno;simp only[ab,Bool.not_true,Bool.false_eq_true,if_false,List.append_nil] at e1;rcases sz with _|d
    ·simp only[P7,ab,Bool.false_eq_true,if_false,List.append_nil] at e2;simp only[Option.isSome_none,Option.getD_none] at c7;have hs:=za hxe (za hye (za hlt (za hlt2 (za hw (za hnt (za hL0 (za hLi (za hne (za hjt (za hjl (za hjx (za hje (za g7 (za w6 (za w7 (za w8 (za w10 (za w11 w12))))))))))))))))));repeat' first|with_reducible refine zz ?_|simp -dsimp[hs]|refine zp c4 ?_|refine zp c5 ?_|refine zp c7 ?_|refine zq c3 ?_|refine zq c6 ?_|refine zM 10 144 19 LU ?_|refine zM 15 144 19 LU ?_|with_reducible refine zE LU ?_|refine i8 ?_ ?_<;>intro h<;>try exact h.elim
     all_goals try clear hs
     all_goals exact zn ⟨(k+1,ga,na,gb,nb'),by simp only;omega⟩ (zw Qa 4 (by have f1:=congrArg List.length e1;have f2:=congrArg (λz=>l5 (List.map j4 z)) e1;simp at f1 f2;simp[f1,f2,e2]))
    ·simp only[Option.isSome_some,Option.getD_some] at c7;by_cases hm1:m<d.lower
     ·rw[show P7 (some d) m=true by simp[P7,hm1]] at e2;simp only[ab,if_true,aE] at e2;have hs:=za hxe (za hye (za hlt (za hlt2 (za hw (za hnt (za hL0 (za hLi (za hne (za hjt (za hjl (za hjx (za hje (za g7 (za w6 (za w7 (za w8 (za w10 (za w11 (za w12 hm1)))))))))))))))))));repeat' first|(with_reducible first|refine zz ?_|refine And.intro (by omega) ?_)|simp -dsimp[hs]|refine zp c4 ?_|refine zp c5 ?_|refine zp c7 ?_|refine zp c9 ?_|refine zq c3 ?_|refine zq c6 ?_|refine zM 10 144 19 LU ?_|refine zM 15 144 19 LU ?_|with_reducible refine zE LU ?_|refine i8 ?_ ?_<;>intro h<;>try exact h.elim
      all_goals try clear hs
      all_goals exact zn ⟨(k+1,ga,na,gb+1,false),by simp only;omega⟩ (zw Qa 4 (by have f1:=congrArg List.length e1;have f2:=congrArg (λz=>l5 (List.map j4 z)) e1;simp at f1 f2;simp[f1,f2,e2]))
     ·by_cases hm2:d.upper<m
      ·rw[show P7 (some d) m=true by simp[P7,hm2]] at e2;simp only[ab,if_true,aE] at e2;have hs:=za hxe (za hye (za hlt (za hlt2 (za hw (za hnt (za hL0 (za hLi (za hne (za hjt (za hjl (za hjx (za hje (za g7 (za w6 (za w7 (za w8 (za w10 (za w11 (za w12 (za hm1 hm2))))))))))))))))))));repeat' first|(with_reducible first|refine zz ?_|refine And.intro (by omega) ?_)|simp -dsimp[hs]|refine zp c4 ?_|refine zp c5 ?_|refine zp c7 ?_|refine zp c9 ?_|refine zq c3 ?_|refine zq c6 ?_|refine zM 10 144 19 LU ?_|refine zM 15 144 19 LU ?_|with_reducible refine zE LU ?_|refine i8 ?_ ?_<;>intro h<;>try exact h.elim
       all_goals try clear hs
       all_goals exact zn ⟨(k+1,ga,na,gb+1,false),by simp only;omega⟩ (zw Qa 4 (by have f1:=congrArg List.length e1;have f2:=congrArg (λz=>l5 (List.map j4 z)) e1;simp at f1 f2;simp[f1,f2,e2]))
      ·rw[show P7 (some d) m=false by simp[P7];omega] at e2;simp only[ab,Bool.false_eq_true,if_false,List.append_nil] at e2;have hs:=za hxe (za hye (za hlt (za hlt2 (za hw (za hnt (za hL0 (za hLi (za hne (za hjt (za hjl (za hjx (za hje (za g7 (za w6 (za w7 (za w8 (za w10 (za w11 (za w12 (za hm1 hm2))))))))))))))))))));repeat' first|with_reducible refine zz ?_|simp -dsimp[hs]|refine zp c4 ?_|refine zp c5 ?_|refine zp c7 ?_|refine zq c3 ?_|refine zq c6 ?_|refine zM 10 144 19 LU ?_|refine zM 15 144 19 LU ?_|with_reducible refine zE LU ?_|refine i8 ?_ ?_<;>intro h<;>try exact h.elim
       all_goals try clear hs
       all_goals exact zn ⟨(k+1,ga,na,gb,nb'),by simp only;omega⟩ (zw Qa 4 (by have f1:=congrArg List.length e1;have f2:=congrArg (λz=>l5 (List.map j4 z)) e1;simp at f1 f2;simp[f1,f2,e2]))
   ·rw[decide_eq_false hno] at e1;have hnt:=hno;simp only[ab,Bool.not_false,if_true,Z7] at e1;rcases sz with _|d
    ·simp only[P7,ab,Bool.false_eq_true,if_false,List.append_nil] at e2;simp only[Option.isSome_none,Option.getD_none] at c7;have hs:=za hxe (za hye (za hlt (za hlt2 (za hw (za hnt (za hL0 (za hLi (za hne (za hjt (za hjl (za hjx (za hje (za g7 (za w6 (za w7 (za w8 (za w10 (za w11 w12))))))))))))))))));repeat' first|(with_reducible first|refine zz ?_|refine And.intro (by omega) ?_)|simp -dsimp[hs]|refine zp c4 ?_|refine zp c5 ?_|refine zp c7 ?_|refine zp c8 ?_|refine zq c3 ?_|refine zq c6 ?_|refine zM 10 144 19 LU ?_|refine zM 15 144 19 LU ?_|with_reducible refine zE LU ?_|refine i8 ?_ ?_<;>intro h<;>try exact h.elim
     all_goals try clear hs
     all_goals exact zn ⟨(k+1,ga+1,false,gb,nb'),by simp only;omega⟩ (zw Qa 4 (by have f1:=congrArg List.length e1;have f2:=congrArg (λz=>l5 (List.map j4 z)) e1;simp at f1 f2;simp[f1,f2,e2]))
    ·simp only[Option.isSome_some,Option.getD_some] at c7;by_cases hm1:m<d.lower
     ·rw[show P7 (some d) m=true by simp[P7,hm1]] at e2;simp only[ab,if_true,aE] at e2;have hs:=za hxe (za hye (za hlt (za hlt2 (za hw (za hnt (za hL0 (za hLi (za hne (za hjt (za hjl (za hjx (za hje (za g7 (za w6 (za w7 (za w8 (za w10 (za w11 (za w12 hm1)))))))))))))))))));repeat' first|(with_reducible first|refine zz ?_|refine And.intro (by omega) ?_)|simp -dsimp[hs]|refine zp c4 ?_|refine zp c5 ?_|refine zp c7 ?_|refine zp c8 ?_|refine zp c9 ?_|refine zq c3 ?_|refine zq c6 ?_|refine zM 10 144 19 LU ?_|refine zM 15 144 19 LU ?_|with_reducible refine zE LU ?_|refine i8 ?_ ?_<;>intro h<;>try exact h.elim
      all_goals try clear hs
      all_goals exact zn ⟨(k+1,ga+1,false,gb+1,false),by simp only;omega⟩ (zw Qa 4 (by have f1:=congrArg List.length e1;have f2:=congrArg (λz=>l5 (List.map j4 z)) e1;simp at f1 f2;simp[f1,f2,e2]))
     ·by_cases hm2:d.upper<m
      ·rw[show P7 (some d) m=true by simp[P7,hm2]] at e2;simp only[ab,if_true,aE] at e2;have hs:=za hxe (za hye (za hlt (za hlt2 (za hw (za hnt (za hL0 (za hLi (za hne (za hjt (za hjl (za hjx (za hje (za g7 (za w6 (za w7 (za w8 (za w10 (za w11 (za w12 (za hm1 hm2))))))))))))))))))));repeat' first|(with_reducible first|refine zz ?_|refine And.intro (by omega) ?_)|simp -dsimp[hs]|refine zp c4 ?_|refine zp c5 ?_|refine zp c7 ?_|refine zp c8 ?_|refine zp c9 ?_|refine zq c3 ?_|refine zq c6 ?_|refine zM 10 144 19 LU ?_|refine zM 15 144 19 LU ?_|with_reducible refine zE LU ?_|refine i8 ?_ ?_<;>intro h<;>try exact h.elim
       all_goals try clear hs
       all_goals exact zn ⟨(k+1,ga+1,false,gb+1,false),by simp only;omega⟩ (zw Qa 4 (by have f1:=congrArg List.length e1;have f2:=congrArg (λz=>l5 (List.map j4 z)) e1;simp at f1 f2;simp[f1,f2,e2]))
      ·rw[show P7 (some d) m=false by simp[P7];omega] at e2;simp only[ab,Bool.false_eq_true,if_false,List.append_nil] at e2;have hs:=za hxe (za hye (za hlt (za hlt2 (za hw (za hnt (za hL0 (za hLi (za hne (za hjt (za hjl (za hjx (za hje (za g7 (za w6 (za w7 (za w8 (za w10 (za w11 (za w12 (za hm1 hm2))))))))))))))))))));repeat' first|(with_reducible first|refine zz ?_|refine And.intro (by omega) ?_)|simp -dsimp[hs]|refine zp c4 ?_|refine zp c5 ?_|refine zp c7 ?_|refine zp c8 ?_|refine zq c3 ?_|refine zq c6 ?_|refine zM 10 144 19 LU ?_|refine zM 15 144 19 LU ?_|with_reducible refine zE LU ?_|refine i8 ?_ ?_<;>intro h<;>try exact h.elim
       all_goals try clear hs
       all_goals exact zn ⟨(k+1,ga+1,false,gb,nb'),by simp only;omega⟩ (zw Qa 4 (by have f1:=congrArg List.length e1;have f2:=congrArg (λz=>l5 (List.map j4 z)) e1;simp at f1 f2;simp[f1,f2,e2]))
  ·obtain rfl:k=c.pieces.length:=by omega
   generalize Z++dy P Z7 c.pieces.length=L1 at *;generalize dy H aE c.pieces.length=L2 at *;have htk1:List.take L1.length (l5 (L1.map j4))=l5 (L1.map j4):=List.take_of_length_le (by simp[l5]);by_cases hL:na=true/\L2=[]
   ·obtain⟨rfl,rfl⟩:=hL;have hs:=za hlt htk1;repeat' first|(with_reducible first|refine zz ?_|refine And.intro (by omega) ?_|refine zr ?_|refine zE LU ?_)|simp -dsimp[hs]|refine i8 ?_ ?_<;>intro h<;>try exact h.elim
    all_goals try clear hs
    all_goals simp[hRES,htk1]
   ·have hap:l5 (L1.map j4)++l5 (L2.map j4)=l5 (RES.map j4):=by rw[hRES,List.map_append,aD]
    have hrl:RES.length=L1.length+L2.length:=by rw[hRES,List.length_append]
    have htk2:List.take (L1.length+L2.length) (l5 (RES.map j4))=l5 (RES.map j4):=List.take_of_length_le (by simp[l5,hrl]);clear hRES;have hs:=za hlt (za hL (za htk1 (za hap (za htk2 hrl))));repeat' first|(with_reducible first|refine zz ?_|refine And.intro (by omega) ?_|refine zr ?_|refine zE LU ?_)|simp -dsimp[hs]|refine i8 ?_ ?_<;>intro h<;>try exact h.elim
    all_goals try clear hs
    all_goals simp[hap,htk2,hrl]
 ·refine i6 (ι:={ p:Nat×Nat×Bool×Nat×Bool // p.1<=c.pieces.length }) (λp=>⟨144,[(1,.one (.im (.sl (s.map Ab.encI)))),(2,.one (.im (.sl (b.map rO)))),(3,.one (.ptr 0 0)),(8,.one (.vec 2 p.1.2.1 0 (Z++dy P Z7 p.1.1).length)),(9,.one (.vec 3 p.1.2.2.2.1 0 (dy H aE p.1.1).length)),(37,.one (.im (.sl (c.pieces.map w9)))),(38,iv (c.pieces.length:Int)),(39,iv (p.1.1:Int))],[.row ((j0 c).map .im),.vec 2 [] 0 true,.vec 2 (l5 ((Z++dy P Z7 p.1.1).map j4)) p.1.2.1 p.1.2.2.1,.vec 2 (l5 ((dy H aE p.1.1).map j4)) p.1.2.2.2.1 p.1.2.2.2.2]⟩) (λp=>c.pieces.length-p.1.1) ⟨(0,1,false,0,true),by simp⟩ (zw Qa 4 (by simp[hZ,hH0,hP0,l5])) ?_;clear hZ hH0 hP0 c1 c2 hN2;rintro⟨⟨k,ga,na,gb,nb'⟩,hk1⟩;simp only at hk1;simp only[iv];have hl1:(Z++dy P Z7 k).length<=1+k:=by
   have:=iu P Z7 k;rw[List.length_append];omega
  have hl2:=iu H aE k;by_cases hlt:k<c.pieces.length
  ·have hlt2:k<c.loop.links.length:=by omega
   have hw:=zk k;have e1:Z++dy P Z7 (k+1)=(Z++dy P Z7 k)++ab (P k) (Z7 k):=by rw[ed,List.append_assoc]
   have e2:=ed H aE k;have hx0:c.pieces[k]?=some c.pieces[k]:=by simp[hlt]
   have hy0:c.loop.links[k]?=some c.loop.links[k]:=by simp[hlt2]
   obtain⟨p1,p2⟩:=hP k _ _ hx0 hy0;rw[p1] at e1;rw[p2] at e2;have hyd:=fe hcb hy0;have hpc:=iV hok hlt;unfold P2 at hpc;have c3:=lS (G:=G) c.p c.pieces[k].day c.pieces[k].holder c.loop.links[k].drawing hG hN hS hR hk.p;rw[sD he hlt hlt2,<- ia hlt hlt2] at c3;have hne:=gZ he hlt;have hml:=eQ c k;have c4:=Fz (G:=G) c s k _ hy0 hlt he ht hsl hG hN hS hk;have c5:=iN (G:=G) b (2*k) (by omega) hu;have c6:=iN (G:=G) b (2*k+1) (by omega) hu;rw[show ((2*k:Nat):Int)=2*(k:Int) by omega] at c5;rw[show ((2*k+1:Nat):Int)=2*(k:Int)+1 by omega] at c6;have u1:=cQ hu (2*k);have u2:=cQ hu (2*k+1);have c7:=vI (G:=G) c k _ (bQ b (C7 c k) k) hy0 hyd.1 hr0 hG hk;have c8:=pm (G:=G) (k:Int);have c9:=td (G:=G) (k:Int);have hmd:fu b k c.pieces[k]=c.pieces[k].lo+A0 b (2*k+1) % (c.pieces[k].hi-c.pieces[k].lo+1):=rfl;have hmi:=lU b k hpc.2.1;have hnd:bQ b (C7 c k) k=((C7 c k)[(A0 b (2*k)).toNat % (C7 c k).length]?).getD 0:=rfl;generalize bQ b (C7 c k) k=n at *;generalize fu b k c.pieces[k]=m at *;have w6:IntKind.i64.wrap (c.pieces[k].hi-c.pieces[k].lo)=c.pieces[k].hi-c.pieces[k].lo:=n4 (by omega) (by omega);have w7:IntKind.i64.wrap (c.pieces[k].hi-c.pieces[k].lo+1)=c.pieces[k].hi-c.pieces[k].lo+1:=n4 (by omega) (by omega);have g7:¬ c.pieces[k].hi-c.pieces[k].lo+1=0:=by omega
   have w8:IntKind.i64.wrap (c.pieces[k].lo+(A0 b (2*k+1)).tmod (c.pieces[k].hi-c.pieces[k].lo+1))=m:=by
    rw[Int.tmod_eq_emod_of_nonneg (by omega),<- hmd];exact n4 (by omega) (by omega)
   have w10:IntKind.i64.wrap (2*(k:Int))=2*(k:Int):=n4 (by omega) (by omega);have w11:IntKind.i64.wrap (2*(k:Int)+1)=2*(k:Int)+1:=n4 (by omega) (by omega);generalize A0 b (2*k+1)=U2 at *;generalize nO c c.loop.links[k] n=sz at *;generalize C7 c k=L at *;have hL0:0<L.length:=List.length_pos_iff.2 hne;have hLi:¬ (L.length:Int)=0:=by omega
   have hjt:((A0 b (2*k)).tmod (L.length:Int))=(((A0 b (2*k)).toNat % L.length:Nat):Int):=by
    obtain⟨u,hu'⟩:=Int.eq_ofNat_of_zero_le u1.1;rw[hu',Int.tmod_eq_emod_of_nonneg (by omega),Int.toNat_natCast];omega
   have hjl:(A0 b (2*k)).toNat % L.length<L.length:=Nat.mod_lt _ hL0;generalize (A0 b (2*k)).toNat % L.length=j at *;generalize A0 b (2*k)=U1 at *;rw[List.getElem?_eq_getElem hjl,Option.getD_some] at hnd;have hjx:L[j]?=some n:=by rw[List.getElem?_eq_getElem hjl,hnd]
   have hje:∀ h,L[j]'h=n:=λh=>hnd.symm;have w12:IntKind.i64.wrap (j:Int)=(j:Int):=n4 (by omega) (by omega);clear hnd hmd hP p1 p2;generalize hxe:c.pieces[k]=x at *;generalize hye:c.loop.links[k]=y at *;generalize Y6 c s y.drawing=o at *;generalize Z++dy P Z7 k=L1 at *;generalize dy H aE k=L2 at *;simp only[l7,j0,D8,p7,E0,j4,rI,List.map_cons,List.map_nil] at c3 c4 c5 c6 c7 c8 c9;have hs:True:=trivial;by_cases hno:n=o
   ·rw[decide_eq_true hno] at e1;have hnt:=eq_true hno;simp only[ab,Bool.not_true,Bool.false_eq_true,if_false,List.append_nil] at e1;rcases sz with _|d
    ·simp only[P7,ab,Bool.false_eq_true,if_false,List.append_nil] at e2;simp only[Option.isSome_none,Option.getD_none] at c7;have hs:=za hxe (za hye (za hlt (za hlt2 (za hw (za hnt (za hL0 (za hLi (za hne (za hjt (za hjl (za hjx (za hje (za g7 (za w6 (za w7 (za w8 (za w10 (za w11 w12))))))))))))))))));repeat' first|with_reducible refine zz ?_|simp -dsimp[hs]|refine zp c4 ?_|refine zp c5 ?_|refine zp c7 ?_|refine zq c3 ?_|refine zq c6 ?_|refine zM 10 144 19 LU ?_|refine zM 15 144 19 LU ?_|with_reducible refine zE LU ?_|refine i8 ?_ ?_<;>intro h<;>try exact h.elim
     all_goals try clear hs
     all_goals exact zn ⟨(k+1,ga,na,gb,nb'),by simp only;omega⟩ (zw Qa 4 (by have f1:=congrArg List.length e1;have f2:=congrArg (λz=>l5 (List.map j4 z)) e1;simp at f1 f2;simp[f1,f2,e2]))
    ·simp only[Option.isSome_some,Option.getD_some] at c7;by_cases hm1:m<d.lower
     ·rw[show P7 (some d) m=true by simp[P7,hm1]] at e2;simp only[ab,if_true,aE] at e2;have hs:=za hxe (za hye (za hlt (za hlt2 (za hw (za hnt (za hL0 (za hLi (za hne (za hjt (za hjl (za hjx (za hje (za g7 (za w6 (za w7 (za w8 (za w10 (za w11 (za w12 hm1)))))))))))))))))));repeat' first|(with_reducible first|refine zz ?_|refine And.intro (by omega) ?_)|simp -dsimp[hs]|refine zp c4 ?_|refine zp c5 ?_|refine zp c7 ?_|refine zp c9 ?_|refine zq c3 ?_|refine zq c6 ?_|refine zM 10 144 19 LU ?_|refine zM 15 144 19 LU ?_|with_reducible refine zE LU ?_|refine i8 ?_ ?_<;>intro h<;>try exact h.elim
      all_goals try clear hs
      all_goals exact zn ⟨(k+1,ga,na,gb+1,false),by simp only;omega⟩ (zw Qa 4 (by have f1:=congrArg List.length e1;have f2:=congrArg (λz=>l5 (List.map j4 z)) e1;simp at f1 f2;simp[f1,f2,e2]))
     ·by_cases hm2:d.upper<m
      ·rw[show P7 (some d) m=true by simp[P7,hm2]] at e2;simp only[ab,if_true,aE] at e2;have hs:=za hxe (za hye (za hlt (za hlt2 (za hw (za hnt (za hL0 (za hLi (za hne (za hjt (za hjl (za hjx (za hje (za g7 (za w6 (za w7 (za w8 (za w10 (za w11 (za w12 (za hm1 hm2))))))))))))))))))));repeat' first|(with_reducible first|refine zz ?_|refine And.intro (by omega) ?_)|simp -dsimp[hs]|refine zp c4 ?_|refine zp c5 ?_|refine zp c7 ?_|refine zp c9 ?_|refine zq c3 ?_|refine zq c6 ?_|refine zM 10 144 19 LU ?_|refine zM 15 144 19 LU ?_|with_reducible refine zE LU ?_|refine i8 ?_ ?_<;>intro h<;>try exact h.elim
       all_goals try clear hs
       all_goals exact zn ⟨(k+1,ga,na,gb+1,false),by simp only;omega⟩ (zw Qa 4 (by have f1:=congrArg List.length e1;have f2:=congrArg (λz=>l5 (List.map j4 z)) e1;simp at f1 f2;simp[f1,f2,e2]))
      ·rw[show P7 (some d) m=false by simp[P7];omega] at e2;simp only[ab,Bool.false_eq_true,if_false,List.append_nil] at e2;have hs:=za hxe (za hye (za hlt (za hlt2 (za hw (za hnt (za hL0 (za hLi (za hne (za hjt (za hjl (za hjx (za hje (za g7 (za w6 (za w7 (za w8 (za w10 (za w11 (za w12 (za hm1 hm2))))))))))))))))))));repeat' first|with_reducible refine zz ?_|simp -dsimp[hs]|refine zp c4 ?_|refine zp c5 ?_|refine zp c7 ?_|refine zq c3 ?_|refine zq c6 ?_|refine zM 10 144 19 LU ?_|refine zM 15 144 19 LU ?_|with_reducible refine zE LU ?_|refine i8 ?_ ?_<;>intro h<;>try exact h.elim
       all_goals try clear hs
       all_goals exact zn ⟨(k+1,ga,na,gb,nb'),by simp only;omega⟩ (zw Qa 4 (by have f1:=congrArg List.length e1;have f2:=congrArg (λz=>l5 (List.map j4 z)) e1;simp at f1 f2;simp[f1,f2,e2]))
   ·rw[decide_eq_false hno] at e1;have hnt:=hno;simp only[ab,Bool.not_false,if_true,Z7] at e1;rcases sz with _|d
    ·simp only[P7,ab,Bool.false_eq_true,if_false,List.append_nil] at e2;simp only[Option.isSome_none,Option.getD_none] at c7;have hs:=za hxe (za hye (za hlt (za hlt2 (za hw (za hnt (za hL0 (za hLi (za hne (za hjt (za hjl (za hjx (za hje (za g7 (za w6 (za w7 (za w8 (za w10 (za w11 w12))))))))))))))))));repeat' first|(with_reducible first|refine zz ?_|refine And.intro (by omega) ?_)|simp -dsimp[hs]|refine zp c4 ?_|refine zp c5 ?_|refine zp c7 ?_|refine zp c8 ?_|refine zq c3 ?_|refine zq c6 ?_|refine zM 10 144 19 LU ?_|refine zM 15 144 19 LU ?_|with_reducible refine zE LU ?_|refine i8 ?_ ?_<;>intro h<;>try exact h.elim
     all_goals try clear hs
     all_goals exact zn ⟨(k+1,ga+1,false,gb,nb'),by simp only;omega⟩ (zw Qa 4 (by have f1:=congrArg List.length e1;have f2:=congrArg (λz=>l5 (List.map j4 z)) e1;simp at f1 f2;simp[f1,f2,e2]))
    ·simp only[Option.isSome_some,Option.getD_some] at c7;by_cases hm1:m<d.lower
     ·rw[show P7 (some d) m=true by simp[P7,hm1]] at e2;simp only[ab,if_true,aE] at e2;have hs:=za hxe (za hye (za hlt (za hlt2 (za hw (za hnt (za hL0 (za hLi (za hne (za hjt (za hjl (za hjx (za hje (za g7 (za w6 (za w7 (za w8 (za w10 (za w11 (za w12 hm1)))))))))))))))))));repeat' first|(with_reducible first|refine zz ?_|refine And.intro (by omega) ?_)|simp -dsimp[hs]|refine zp c4 ?_|refine zp c5 ?_|refine zp c7 ?_|refine zp c8 ?_|refine zp c9 ?_|refine zq c3 ?_|refine zq c6 ?_|refine zM 10 144 19 LU ?_|refine zM 15 144 19 LU ?_|with_reducible refine zE LU ?_|refine i8 ?_ ?_<;>intro h<;>try exact h.elim
      all_goals try clear hs
      all_goals exact zn ⟨(k+1,ga+1,false,gb+1,false),by simp only;omega⟩ (zw Qa 4 (by have f1:=congrArg List.length e1;have f2:=congrArg (λz=>l5 (List.map j4 z)) e1;simp at f1 f2;simp[f1,f2,e2]))
     ·by_cases hm2:d.upper<m
      ·rw[show P7 (some d) m=true by simp[P7,hm2]] at e2;simp only[ab,if_true,aE] at e2;have hs:=za hxe (za hye (za hlt (za hlt2 (za hw (za hnt (za hL0 (za hLi (za hne (za hjt (za hjl (za hjx (za hje (za g7 (za w6 (za w7 (za w8 (za w10 (za w11 (za w12 (za hm1 hm2))))))))))))))))))));repeat' first|(with_reducible first|refine zz ?_|refine And.intro (by omega) ?_)|simp -dsimp[hs]|refine zp c4 ?_|refine zp c5 ?_|refine zp c7 ?_|refine zp c8 ?_|refine zp c9 ?_|refine zq c3 ?_|refine zq c6 ?_|refine zM 10 144 19 LU ?_|refine zM 15 144 19 LU ?_|with_reducible refine zE LU ?_|refine i8 ?_ ?_<;>intro h<;>try exact h.elim
       all_goals try clear hs
       all_goals exact zn ⟨(k+1,ga+1,false,gb+1,false),by simp only;omega⟩ (zw Qa 4 (by have f1:=congrArg List.length e1;have f2:=congrArg (λz=>l5 (List.map j4 z)) e1;simp at f1 f2;simp[f1,f2,e2]))
      ·rw[show P7 (some d) m=false by simp[P7];omega] at e2;simp only[ab,Bool.false_eq_true,if_false,List.append_nil] at e2;have hs:=za hxe (za hye (za hlt (za hlt2 (za hw (za hnt (za hL0 (za hLi (za hne (za hjt (za hjl (za hjx (za hje (za g7 (za w6 (za w7 (za w8 (za w10 (za w11 (za w12 (za hm1 hm2))))))))))))))))))));repeat' first|(with_reducible first|refine zz ?_|refine And.intro (by omega) ?_)|simp -dsimp[hs]|refine zp c4 ?_|refine zp c5 ?_|refine zp c7 ?_|refine zp c8 ?_|refine zq c3 ?_|refine zq c6 ?_|refine zM 10 144 19 LU ?_|refine zM 15 144 19 LU ?_|with_reducible refine zE LU ?_|refine i8 ?_ ?_<;>intro h<;>try exact h.elim
       all_goals try clear hs
       all_goals exact zn ⟨(k+1,ga+1,false,gb,nb'),by simp only;omega⟩ (zw Qa 4 (by have f1:=congrArg List.length e1;have f2:=congrArg (λz=>l5 (List.map j4 z)) e1;simp at f1 f2;simp[f1,f2,e2]))
  ·obtain rfl:k=c.pieces.length:=by omega
   generalize Z++dy P Z7 c.pieces.length=L1 at *;generalize dy H aE c.pieces.length=L2 at *;have htk1:List.take L1.length (l5 (L1.map j4))=l5 (L1.map j4):=List.take_of_length_le (by simp[l5]);by_cases hL:na=true/\L2=[]
   ·obtain⟨rfl,rfl⟩:=hL;have hs:=za hlt htk1;repeat' first|(with_reducible first|refine zz ?_|refine And.intro (by omega) ?_|refine zr ?_|refine zE LU ?_)|simp -dsimp[hs]|refine i8 ?_ ?_<;>intro h<;>try exact h.elim
    all_goals try clear hs
    all_goals simp[hRES,htk1]
   ·have hap:l5 (L1.map j4)++l5 (L2.map j4)=l5 (RES.map j4):=by rw[hRES,List.map_append,aD]
    have hrl:RES.length=L1.length+L2.length:=by rw[hRES,List.length_append]
    have htk2:List.take (L1.length+L2.length) (l5 (RES.map j4))=l5 (RES.map j4):=List.take_of_length_le (by simp[l5,hrl]);clear hRES;have hs:=za hlt (za hL (za htk1 (za hap (za htk2 hrl))));repeat' first|(with_reducible first|refine zz ?_|refine And.intro (by omega) ?_|refine zr ?_|refine zE LU ?_)|simp -dsimp[hs]|refine i8 ?_ ?_<;>intro h<;>try exact h.elim
    all_goals try clear hs
    all_goals simp[hap,htk2,hrl]
attribute [simp] s6 du O6 jy w5 B6 nilV K9 ZK
theorem EO {c:Case} {t:List Int} (h:t∈H9 (j8 (j7 c.p.n.notes))):A7 c t∈n8 c:=List.mem_map_of_mem h
theorem BK (c:Case) (t:List Int):(A7 c t).faults.length=c.pieces.length:=by simp[A7]
theorem re {c:Case} (h0:J4 c=0) {t:List Int} (ht:F7 (j8 (j7 c.p.n.notes)) t=true) {s:Susp} (hs:s∈Y2 c.pieces.length):gX c t s=0/\fk c t s=C1 [A7 c t] s:=by
 have e:gX c t s=0:=by
  unfold gX;rw[if_neg (by simp[h0]),if_neg (by simp[ht]),if_pos (CA hs)]
 exact⟨e,by unfold fk;rw[if_pos e]⟩
structure TrueOk (c:Case) (t:List Int) (l su op:List Susp) (lo hi:Int):Prop where
 b1:l≠[]
 b2:lo<=(l.length:Int)
 b3:(l.length:Int)<=hi
 b4:∀ s∈l,(s∈su\/s∈op)/\gX c t s=0/\¬ fk c t s=0
 b5:∀ s∈su,gX c t s=0/\fk c t s=2/\s∈l/\s∉op
theorem FN {c:Case} (h0:J4 c=0) {t:List Int} (ht:t∈H9 (j8 (j7 c.p.n.notes))) {f:Nat->E3} (hf:zB (A7 c t) f):TrueOk c t (O2 (nm c t) f c.pieces.length) (dq c 2) (dq c 1) (jD c).1 (jD c).2:=by
 have h:=EN h0;obtain⟨e1,e2,e3,e4⟩:=lC h0;rw[e3,e3,e4];obtain⟨he,_⟩:=K1 h0;have htb:=((Ic he).h t ht).1;have hd:=EO ht;have hl:=FX h hd hf;have hfl:=BK c t;refine⟨h.cause _ hd _ hf,hl.1,hl.2,λs hs=>?_,λs hs=>?_⟩
 ·have hA:s∈Y2 c.pieces.length:=gH hs;obtain⟨m1,m2⟩:=re h0 htb hA;refine⟨Dn h hd hf hs,m1,?_⟩;rw[m2];exact nR (D:=[A7 c t]) (List.mem_singleton.2 rfl) hf (by rw[hfl];exact hs)
 ·obtain⟨hA,hk⟩:=sus_mem.1 hs;obtain⟨m1,m2⟩:=re h0 htb hA;have hin:=zR hd hf (s:=s) (by rw[hfl];exact hA) hk;refine⟨m1,?_,by rw[hfl] at hin;exact hin,np hs⟩;rw[m2];have a1:=ow hk _ hd;have a2:=pr hf (s:=s) (by rw[hfl];exact hA);rw[decide_eq_true hin] at a2;unfold C1;simp[a1,a2]
theorem ti (b:Bool) (f:Nat->E3) (n:Nat) (hn:n<=16):(O2 b f n).length<100000:=by
 have h3:=aw b (λi=>(f i).1) (λi=>(f i).2) n;have h4:=(J0 b (λi=>(f i).1) (λi=>(f i).2) n).length_eq;have h5:(O2 b f n).length=(cZ b (λi=>(f i).1) (λi=>(f i).2) n).length:=rfl;omega
@[simp] abbrev QH:List Nat:=[0,1,2,3,6,7,8,9,10,11,12,13,14,15,17,18,19,21,22,23,31,82,83,84,85,86,113,115,116,117,118,144]
@[simp] abbrev WV:List Nat:=[3,7,8,9,11,12,83,84,85]
set_option maxRecDepth 10000 in
theorem sw (c:Case) (w:Nat) (b:List Int) (hG:o4 G) (hN:E2 G) (hS:u5 G) (hU:W9 G) (hR:w0 G) (hC:J2 G) (hK:cH G) (hF:kD G) (hp:km c.p) (hw8:w<=255) (hu:∀ n∈b,0<=n/\n<=4294967295):zP prog G 3 [l7 c,sY (w:Int),.one (.im (.sl (b.map rO)))] (bv true):=by
 refine zf func3 ntmps3 ?_;try simp only[sY]
 have a1:=Fe (G:=G) hG hN hS hU hR hC hK hF;have c1:=Du (G:=G) c hp;cases hq:lR c
 ·rw[hq] at c1;simp only[l7,j0,rI,List.map_cons,List.map_nil] at c1 ⊢;have hs:=trivial;repeat' first|(with_reducible first|refine zz ?_|refine zr ?_|refine zE QH ?_)|simp -dsimp[hs]|refine zp a1 ?_|refine zp c1 ?_|refine i8 ?_ ?_<;>intro h<;>try exact h.elim
  all_goals try clear hs
 ·obtain⟨hsk,hk,h0⟩:=tx hp hq;rw[hq] at c1;obtain⟨he,_⟩:=K1 h0;have htm:=ta c w;obtain⟨htb,htl⟩:=(Ic he).h _ htm;have c2:=wr (G:=G) c w hw8 he hk;have c3:=BC (G:=G) c (Y5 c w) b hu he htb htl hG hN hS hR hC hk;have c4:=ki (G:=G) c hG hN hS hU hR hC hK hk;have c5:=sA (G:=G) c hG hN hS hU hR hC hF hk;have c6:=λs h1=>Cr (G:=G) c (Y5 c w) s h1 htl hG hN hS hR hC hK hk;rw[h0] at c4 c5;have hok:=FN h0 htm (HA he (Y5 c w) b);have l1:=qE c 2 hk.q;have l2:=qE c 1 hk.q;have l3:=ti (nm c (Y5 c w)) (vZ c (Y5 c w) b) c.pieces.length hk.q;have hk1:∀ s∈O2 (nm c (Y5 c w)) (vZ c (Y5 c w) b) c.pieces.length,0<=s.kind/\s.kind<=255:=λs hs=>(lg (gH hs)).2;have hk2:∀ s∈dq c 2,0<=s.kind/\s.kind<=255:=λs hs=>by
   rw[(lC h0).2.2.1] at hs;exact(lg (sus_mem.1 hs).1).2
  generalize Y5 c w=t at *;generalize O2 (nm c t) (vZ c t b) c.pieces.length=l at *;generalize dq c 2=su at *;generalize dq c 1=op at *;generalize jD c=N at *;obtain⟨lo,hi⟩:=N;obtain⟨o1,o2,o3,lm,sm⟩:=hok;simp only at o2 o3;have f1:¬ (l.length:Int)<lo:=by omega
  have f2:¬ hi<(l.length:Int):=by omega
  have f3:¬ (l.length:Int)=0:=by have:=List.length_pos_iff.2 o1;omega
  have d1:=λs=>ql (G:=G) su s (by omega);have d2:=λs=>ql (G:=G) op s (by omega);have d3:=λs=>ql (G:=G) l s (by omega);simp only[l7,j0,E0,C0,j4,E1,rI,List.map_cons,List.map_nil] at c1 c2 c3 c4 c5 c6 d1 d2 d3 ⊢;have hs:=za f1 (za f2 (za f3 o1));repeat' first|(with_reducible first|refine zz ?_|refine zE QH ?_)|simp -dsimp[hs]|refine zp a1 ?_|refine zp c1 ?_|refine zp c2 ?_|refine zp c3 ?_|refine zp c4 ?_|refine zp c5 ?_|refine i8 ?_ ?_<;>intro h<;>try exact h.elim
  all_goals try clear hs
  refine i6 (ι:={ k:Nat // k<=l.length }) (λk=>⟨147,[(3,.one (.ptr 0 0)),(7,bv true),(8,.one (.im (.sl (t.map Ab.encI)))),(9,.one (.im (.sl (l.map j4)))),(11,.one (.im (.sl (su.map j4)))),(12,.one (.im (.sl (op.map j4)))),(83,.one (.im (.sl (l.map j4)))),(84,iv (l.length:Int)),(85,iv (k.1:Int))],[.row ((j0 c).map .im)]⟩) (λk=>l.length-k.1) ⟨0,by omega⟩ (zw WV 1) ?_;clear a1 c1 c2 c3 c4 c5;rintro⟨k,hkl⟩;simp only[iv,rI,bv];by_cases hlt:k<l.length
  ·have hw:=zk k;have hx0:l[k]?=some l[k]:=by simp[hlt]
   obtain⟨e1,e2,e3⟩:=lm l[k] (List.getElem_mem hlt);have c7:=c6 l[k] (hk1 _ (List.getElem_mem hlt));rw[e2] at c7;have d5:=d1 l[k];have d6:=d2 l[k];generalize hx:l[k]=x at *;generalize fk c t x=r at *;have hsx:(x∈su/\decide (x∈su)=true/\True)\/(x∉su/\decide (x∈su)=false/\decide (x∈op)=true):=by
    by_cases h:x∈su
    ·exact .inl ⟨h,by simp[h],trivial⟩
    ·exact .inr ⟨h,by simp[h],by rcases e1 with e1|e1<;>simp_all⟩
   clear e1 e2;have hs:True:=trivial;rcases hsx with⟨_,h5,h6⟩|⟨_,h5,h6⟩
   ·rw[h5] at d5;have hs:=za hx (za hlt (za hw (za hx0 e3)));repeat' first|(with_reducible first|refine zz ?_|refine zE QH ?_)|simp -dsimp[hs]|refine zp c7 ?_|refine zp d5 ?_|refine i8 ?_ ?_<;>intro h<;>try exact h.elim
    all_goals try clear hs
    all_goals exact zn ⟨k+1,by omega⟩ (zw WV 1)
   ·rw[h5] at d5;rw[h6] at d6;have hs:=za hx (za hlt (za hw (za hx0 e3)));repeat' first|(with_reducible first|refine zz ?_|refine zE QH ?_)|simp -dsimp[hs]|refine zp c7 ?_|refine zp d5 ?_|refine zp d6 ?_|refine i8 ?_ ?_<;>intro h<;>try exact h.elim
    all_goals try clear hs
    all_goals exact zn ⟨k+1,by omega⟩ (zw WV 1)
  ·obtain rfl:k=l.length:=by omega
   have hs:=hlt;repeat' first|(with_reducible first|refine zz ?_|refine zE QH ?_)|simp -dsimp[hs]|refine i8 ?_ ?_<;>intro h<;>try exact h.elim
   all_goals try clear hs
   refine i6 (ι:={ k:Nat // k<=su.length }) (λk=>⟨147,[(3,.one (.ptr 0 0)),(7,bv true),(8,.one (.im (.sl (t.map Ab.encI)))),(9,.one (.im (.sl (l.map j4)))),(12,.one (.im (.sl (op.map j4)))),(115,.one (.im (.sl (su.map j4)))),(116,iv (su.length:Int)),(117,iv (k.1:Int))],[.row ((j0 c).map .im)]⟩) (λk=>su.length-k.1) ⟨0,by omega⟩ (zw [3,7,8,9,12,115,116,117] 1) ?_;rintro⟨k,hkl⟩;simp only[iv,rI,bv];by_cases hlt:k<su.length
   ·have hw:=zk k;have hx0:su[k]?=some su[k]:=by simp[hlt]
    obtain⟨e1,e2,e3,e4⟩:=sm su[k] (List.getElem_mem hlt);have c7:=c6 su[k] (hk2 _ (List.getElem_mem hlt));rw[e1,e2] at c7;have d5:=d3 su[k];have d6:=d2 su[k];rw[decide_eq_true e3] at d5;rw[decide_eq_false e4] at d6;generalize hx:su[k]=x at *;have hs:=za hx (za hlt (za hw hx0));repeat' first|(with_reducible first|refine zz ?_|refine zE QH ?_)|simp -dsimp[hs]|refine zp c7 ?_|refine zp d5 ?_|refine zp d6 ?_|refine i8 ?_ ?_<;>intro h<;>try exact h.elim
    all_goals try clear hs
    all_goals exact zn ⟨k+1,by omega⟩ (zw [3,7,8,9,12,115,116,117] 1)
   ·obtain rfl:k=su.length:=by omega
    have hs:=hlt;repeat' first|(with_reducible first|refine zz ?_|refine zr ?_|refine zE QH ?_)|simp -dsimp[hs]|refine i8 ?_ ?_<;>intro h<;>try exact h.elim
    all_goals try clear hs
end Go.Proofs
namespace Go.Ab
open Go Go.Sort
theorem RelM.grownS {G:LS} {M:MS} {w':World} {os:Array Obj} (h:RelM G M) (hw:w'.heap=M.w.heap++os) (hio:SameIo M.w w'):RelM G { M with w:=w' }/\Ext M.objs.length M { M with w:=w' }:=by
 have hold:∀ {b:Nat},b<M.w.heap.size->w'.heap[b]?=M.w.heap[b]?:=λ{b} hb=>by rw[hw];simp[Array.getElem?_append,hb]
 have hsz:M.w.heap.size<=w'.heap.size:=by rw[hw];simp
 have he:Ext M.objs.length M { M with w:=w' }:=
  ⟨Nat.le_refl _,λb hb=>⟨⟨Nat.lt_of_lt_of_le hb.1 hsz,hb.2⟩,hold hb.1⟩,dn M,hsz,λp _ c' hc=>⟨⟨c',hc⟩,rfl⟩,
   λp _ sz es g nl hv=>⟨sz,es,g,nl,hv,Nat.le_refl _,λ_=>⟨rfl,rfl,λhn=>⟨rfl,by simp only[I6];rw[hold (h.lt p _ hv (by simp[DObj.blk,hn]))]⟩⟩⟩,λp _ ks es hm=>⟨⟨ks,es,hm⟩,rfl⟩,
   λp _ r hm=>⟨⟨r,hm⟩,rfl⟩,λp _ d hm hi=>⟨⟨d,hm,hi⟩,rfl⟩,λp _ r hm=>⟨⟨r,hm⟩,rfl⟩,hio⟩
 exact⟨⟨λo d ho=>(h.objs o d ho).ext he (λ_=>rfl) (λhb=>hold (h.lt o d ho hb)),λo d ho hb=>Nat.lt_of_lt_of_le (h.lt o d ho hb) hsz,h.inj,λg l hg=>(h.glob g l hg).mono he.ok,λb hF=>Nat.lt_of_lt_of_le (h.fl b hF) hsz,h.own⟩,he⟩
theorem py {l:List Int} {c:Array Value} {i:Nat} (hi:i<l.length) (hc:i<c.size):(putCells (Value.int .i64) 0 l.toArray c)[i]?=some (.int .i64 l[i]):=by
 simp only[putCells,Array.getElem?_mapIdx,Array.getElem?_eq_getElem hc,Option.map_some];rw[if_pos ⟨Nat.zero_le _,by simpa using hi⟩];simp[hi]
theorem DCall.sort {P:Program} {G:LS} {f:FuncId}
 (hS:∀ (blk cap:Nat) (zs:List Int) (w:World),Holds (Value.int .i64) w blk 0 zs.toArray->blk<w.heap.size->zs.length<4611686018427387904 ->
  Calls P f #[.slice (some ⟨blk,0,none⟩) zs.length cap] w λe w'=>e=.returned (.tuple #[])/\∃ n os,w'=grow (putRow (Value.int .i64) (Sort.ahead w n) blk 0 (zs.mergeSort λx y=>decide (x<=y)).toArray) os)
 (h0:∀ (a:Option Addr) (cap:Nat) (w:World),Calls P f #[.slice a 0 cap] w λe w'=>e=.returned (.tuple #[])/\w'=w)
 (l:List Int) (g sz:Nat) (nl:Bool) (hz:sz=1\/nl=true/\l=[]) (hl:l.length<1000000) :
 DCall P G f [.one (.vec 0 g 0 l.length)] [.vec sz (l5 (l.map Ab.encI)) g nl] (λd o=>d=.tup []/\o=[.vec sz (l5 ((j8 l).map Ab.encI)) g nl]):=by
 intro M vs hM ho hsz hr;obtain⟨v,rfl⟩:∃ v,vs=#[v]:=by
  obtain⟨vl⟩:=vs;match vl,hsz with
  | [v],_=>exact⟨v,rfl⟩
 have hv:=hr 0 _ v rfl rfl;have h1:M.objs[0]?=some (.vec sz (l5 (l.map Ab.encI)) g nl):=by rw[ho];rfl
 have hO:=hM.objs 0 _ h1;cases hv with
 | one _ _ hv =>
 cases hv with
 | vec _ _ _ _ _ _ _ hv =>
 obtain⟨_,hv⟩:=hv _ _ _ _ h1;obtain⟨hvt,hvf⟩:=hv rfl;have hnil:∀ (a:Option Addr) (cap:Nat),l=[]->Calls P f #[.slice a 0 cap] M.w λe w'=>∃ v d M',e=.returned v/\M'.w=w'/\RelM G M'/\RepV M' d v/\Ext 1 M M'/\d=.tup []/\M'.objs=[.vec sz (l5 ((j8 l).map Ab.encI)) g nl]:=λa cap hle=>by
  refine(h0 a cap M.w).mono λe w' ⟨he,hw⟩=>?_;subst hw;refine⟨_,.tup [],M,he,rfl,hM,.tup _ _ rfl (λj d v h=>by simp at h),(Ext.refl M).weaken (by simp[ho]),rfl,?_⟩;rw[ho,hle,show j8 []=[] from List.mergeSort_nil]
 cases nl with
 | true =>
   obtain⟨_,e,hv⟩:=hvt rfl;have e:l=[]:=List.eq_nil_of_length_eq_zero e;have:=hnil none 0 e;rw[hv];simpa using this
 | false =>
   obtain rfl:sz=1:=hz.resolve_right λh=>Bool.noConfusion h.1;obtain⟨x,cap,hv,hc,hx,hb⟩:=hvf rfl;by_cases e:l=[]
   ·have:=hnil (some ⟨M.β 0,x,none⟩) cap e;rw[hv];subst e;simpa using this
   have hlp:0<l.length:=List.length_pos_iff.2 e;have hx0:x=0:=by rcases hx with hx|hx<;>omega
   subst hx0;obtain⟨_,hO⟩:=hO;obtain⟨_,c,T,hh,hcs,hes,hrep⟩:=hO rfl;have hcl:l.length<=c.size:=by simpa[q9] using hcs
   have hcell:∀ j (hj:j<l.length),c[j]?=some (.int .i64 l[j]):=λj hj=>by
    have hjc:j<c.size:=by omega
    have:=hrep j [DC.im (.raw (.int .i64 l[j]))] 0 (.im (.raw (.int .i64 l[j]))) c[j] (by simp[l5,hj]) rfl (by simp[hjc]);have hcj:c[j]?=some c[j]:=by simp[hjc]
    generalize c[j]=y at this hcj;cases this with
    | im _ _ hi =>
      cases hi;exact hcj
   have hH:Holds (Value.int .i64) M.w (M.β 0) 0 l.toArray:=λj hj=>by
    have hj:j<l.length:=by simpa using hj
    refine⟨?_,?_⟩
    ·simp only[World.cell?,hh];simp[hcell j hj,hj]
    ·simp[World.frozen?,hh]
   have hlt:M.β 0<M.w.heap.size:=hM.lt 0 _ h1 rfl;rw[hv];refine(hS (M.β 0) cap l M.w hH hlt (by omega)).mono λe' w' ⟨he,n,os,hw⟩=>?_;have hmod:M.w.heap.modify (M.β 0) (onCells (putCells (Value.int .i64) 0 (j8 l).toArray))=M.w.heap.setIfInBounds (M.β 0) (.cells (putCells (Value.int .i64) 0 (j8 l).toArray c) T (0,0)):=by
    apply Array.ext_getElem?
    intro k;simp only[Array.getElem?_modify,Array.getElem?_setIfInBounds];by_cases hk:M.β 0=k
    ·subst hk;rw[if_pos rfl,if_pos rfl,if_pos hlt,hh];rfl
    ·simp[hk]
   have ha:(DObj.vec 1 (l5 (l.map Ab.encI)) g false).alike (.vec 1 (l5 ((j8 l).map Ab.encI)) g false):=⟨rfl,.inl ⟨rfl,rfl⟩⟩
   have hs:M7 (.cells (putCells (Value.int .i64) 0 (j8 l).toArray c) T (0,0))=M7 (.cells c T (0,0)):=by simp[M7,putCells]
   have hE:=Ext.turn (d':=.vec 1 (l5 ((j8 l).map Ab.encI)) g false) h1 rfl ha hh hs;have hR:=RelM.turn (d':=.vec 1 (l5 ((j8 l).map Ab.encI)) g false) hM h1 rfl ha hh hs (by
    refine⟨λh=>Bool.noConfusion h,λ_=>⟨by omega,putCells (Value.int .i64) 0 (j8 l).toArray c,T,by simp[MS.turn,Array.getElem?_setIfInBounds_self_of_lt hlt],by simpa[q9,N7,putCells] using hcl,λi x hx=>?_,λi x j d v hx hj hv=>?_⟩⟩
    ·simp only[l5,List.getElem?_map,Option.map_map] at hx;obtain⟨y,_,rfl⟩:=Option.map_eq_some_iff.1 hx;rfl
    ·simp only[l5,List.getElem?_map,Option.map_map] at hx;obtain⟨y,hy,rfl⟩:=Option.map_eq_some_iff.1 hx;have hil:i<(j8 l).length:=e7 hy;match j,hj with
     | 0,hj =>
       cases hj;have hic:i<c.size:=by rw[N7] at hil;omega
       rw[Nat.mul_one,Nat.add_zero,py hil hic] at hv;have e:(j8 l)[i]'hil=y:=(List.getElem?_eq_some_iff.1 hy).2;cases hv;rw[e];exact .im _ _ (.raw _ rfl))
   have hg:=RelM.grownS (w':=w') (os:=os) hR (by rw[hw];simp only[grow,putRow,mapBlock,Sort.ahead,MS.turn];rw[show (l.mergeSort λx y=>decide (x<=y))=j8 l from rfl,hmod]) (by rw[hw];exact⟨rfl,rfl,rfl,Nat.le_add_right _ _⟩);refine⟨_,.tup [],_,he,?_,hg.1,.tup _ _ rfl (λj d v h=>by simp at h),?_,rfl,?_⟩
   ·rfl
   ·have hl1:M.objs.length=1:=by rw[ho];rfl
    have h2:=hg.2;rw[show (M.turn 0 (.cells (putCells (Value.int .i64) 0 (j8 l).toArray c) T (0,0)) (.vec 1 (l5 ((j8 l).map Ab.encI)) g false)).objs.length=1 by simp[MS.turn,ho]] at h2;rw[hl1] at hE;exact hE.trans h2
   ·simp[MS.turn,ho]
end Go.Ab
