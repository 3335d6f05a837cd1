/- Part 26 of the proofs. -/
import Derived.Shelf.Sort.Plain
import Derived.Shelf.Slices.In.SortNone
import Derived.Test.YtlmlkkoapahmjaaGreatDoorQ14
import Derived.Test.YtlmlkkoapahmjaaGreatDoorB06
import Derived.Test.YtlmlkkoapahmjaaGreatDoorB07
set_option linter.all false
set_option maxHeartbeats 100000000
namespace Go.Proofs
open Go Go.Ab Tryz
variable {G:LI}
attribute [simp] r9 cX O1 iG v6 A8 nilV K0 ZK
theorem si {c:Case} (he:p9 c=0) {k:Nat} (h1:k<c.pieces.length) (h2:k<c.loop.links.length):O3 c.p c.pieces[k].day 1 c.pieces[k].holder c.loop.links[k].drawing=0:=by
 obtain⟨hp0,hcb⟩:=A1 he;obtain⟨hn0,hpb,hr0⟩:=A9 hp0;have hdm:=eW hr0 hcb h1 h2;have hq:=hcb;rw[N1,Bool.and_eq_true,List.all_eq_true] at hq;have h3:k<(c.loop.links.zip c.pieces).length:=by rw[List.length_zip];omega
 have h4:=hq.2 _ (List.getElem_mem h3);rw[List.getElem_zip] at h4;simp only at h4;rw[jn hr0] at h4;obtain⟨_,_,_,hh,hd,_⟩:=h4;unfold O3 J1 ut;rw[if_neg,if_pos ⟨hh,hdm⟩];rw[if_neg (by simp[hp0]),if_pos]
 ·decide
 ·simp only[List.all_cons,List.all_nil,Bool.and_true,Bool.and_eq_true,decide_eq_true_eq] at hd ⊢;omega
def bM (b L:List Int) (k:Nat):Int:=(L[(w9 b (2*k)).toNat % L.length]?).getD 0
def fk (b:List Int) (k:Nat) (x:Piece):Int:=x.lo+w9 b (2*k+1) % (x.hi-x.lo+1)
def P8 (o:Option Dim) (m:Int):Bool:=match o with
 | none=>false
 | some d=>decide (m<d.lower)||decide (d.upper<m)
noncomputable def yd (c:Case) (s b:List Int) (k:Nat):F4:=match c.pieces[k]?,c.loop.links[k]? with
 | some x,some y=>(!decide (bM b (C6 c k) k=Y7 c s y.drawing),P8 (nN c y (bM b (C6 c k) k)) (fk b k x))
 | _,_=>(false,false)
theorem lS (b:List Int) (k:Nat) {x:Piece} (h:x.lo<=x.hi):x.lo<=fk b k x/\fk b k x<=x.hi:=by
 have h1:0<=w9 b (2*k+1) % (x.hi-x.lo+1):=Int.emod_nonneg _ (by omega);have h2:w9 b (2*k+1) % (x.hi-x.lo+1)<x.hi-x.lo+1:=Int.emod_lt_of_pos _ (by omega);unfold fk;omega
theorem wO (b:List Int) {L:List Int} (k:Nat) (h:L≠[]):bM b L k∈L:=by
 unfold bM;rw[List.getElem?_eq_getElem (Nat.mod_lt _ (List.length_pos_iff.2 h))];exact List.getElem_mem _
theorem Hn {c:Case} (he:p9 c=0) (s b:List Int):ET (B9 c s) (yd c s b):=by
 intro k hk;have hl:(B9 c s).faults.length=c.pieces.length:=by simp[B9]
 rw[hl] at hk;rw[Bz hk];have hok:=I4 (A1 he).2;have h2:k<c.loop.links.length:=by have:=hok.e;omega
 have hx:c.pieces[k]?=some c.pieces[k]:=List.getElem?_eq_getElem hk;have hy:c.loop.links[k]?=some c.loop.links[k]:=List.getElem?_eq_getElem h2;have hp:=iU hok hk;unfold P3 at hp;have hm:=lS b k hp.2.1;rw[vK hx hy];unfold yd;rw[hx,hy];simp only;refine⟨_,wO b k (gV he hk),?_⟩;generalize bM b (C6 c k) k=n at *;generalize fk b k c.pieces[k]=m at *;generalize c.pieces[k]=x at *;generalize c.loop.links[k]=y at *;unfold sJ xD;cases nN c y n with
 | none=>exact .inl ⟨rfl,rfl⟩
 | some d =>
   simp only[P8];by_cases h:m<d.lower\/d.upper<m
   ·right;refine⟨?_,by simp[h]⟩;rw[Bool.not_eq_true',<- Bool.not_eq_true];intro hi;simp only[U6,decide_eq_true_eq] at hi;omega
   ·left;refine⟨by simp;omega,?_⟩;have:(decide (m<d.lower)||decide (d.upper<m))=false:=by simp;omega
    rw[this]
@[simp] abbrev LJ:List Nat:=[0,1,2,3,6,7,8,9,10,11,12,13,14,15,16,17,18,19,20,21,29,31,37,38,39,40,78,109,134]
@[simp] abbrev LQ:List Nat:=[1,2,3,8,9,37,38,39]
theorem Br (c:Case) (s b:List Int) (hu:∀ n∈b,0<=n/\n<=4294967295) (he:p9 c=0) (ht:G1 (j8 (j7 c.p.n.notes)) s=true) (hsl:s.length<1000) (hG:o3 G) (hN:E0 G) (hS:u4 G) (hR:w0 G) (hC:J0 G) (hk:KC c):zP prog G 11 [l7 c,q9 s,.one (.im (.sl (b.map rA)))] (.tup [A3 (V3 (kL c s) (yd c s b) c.pieces.length),bv true]):=by
 refine zf func11 ntmps11 ?_;try simp only[q9]
 obtain⟨hp0,hcb⟩:=A1 he;obtain⟨hn0,hpb,hr0⟩:=A9 hp0;have hok:=I4 hcb;have hlen:=hok.e;have hl8:=hok.l;have hpl:=hk.p.p.q;have c1:=BE (G:=G) c s he ht hsl hG hN hS hC hk;have c2:=zm (G:=G);have hRs:V3 (kL c s) (yd c s b) c.pieces.length=(ab (kL c s) ⟨1,0⟩++dn (λi=>(yd c s b i).1) ah c.pieces.length)++dn (λi=>(yd c s b i).2) aT c.pieces.length:=by
  unfold V3;rw[xc]
 rw[hRs];clear hRs;have hP:∀ k x y,c.pieces[k]?=some x->c.loop.links[k]?=some y->(λi=>(yd c s b i).1) k=!decide (bM b (C6 c k) k=Y7 c s y.drawing)/\(λi=>(yd c s b i).2) k=P8 (nN c y (bM b (C6 c k) k)) (fk b k x):=λk x y hx hy=>by
  simp only[yd,hx,hy];exact⟨trivial,trivial⟩
 generalize (λi=>(yd c s b i).1)=P at *;generalize (λi=>(yd c s b i).2)=H at *;generalize hN2:kL c s=nb at *;simp only[l7,j4,C3,A3,j5,rI,List.map_cons,List.map_nil] at c1 c2 ⊢;obtain⟨Z,hZ⟩:∃ Z,Z=ab nb ⟨1,0⟩:=⟨_,rfl⟩
 rw[<- hZ];obtain⟨RES,hRES⟩:∃ r,r=(Z++dn P ah c.pieces.length)++dn H aT c.pieces.length:=⟨_,rfl⟩
 rw[<- hRES];have hZl:Z.length<=1:=by rw[hZ,cJ];split<;>omega
 have hH0:dn H aT 0=[]:=rfl;have hP0:dn P ah 0=[]:=rfl;have hs:True:=trivial;cases hnb:nb
 all_goals
  rw[hnb] at c1 hZ;simp only[ab,if_true,Bool.false_eq_true,if_false,Bool.not_true,Bool.not_false] at hZ c1;have hs:=trivial;repeat' first|(with_reducible first|refine zz ?_|refine zE LJ ?_)|simp -dsimp[hs]|refine zp c1 ?_|refine zp c2 ?_|refine i8 ?_ ?_<;>intro h<;>try exact h.elim
  all_goals try clear hs
 ·refine i6 (ι:={ p:Nat×Nat×Bool×Nat×Bool // p.1<=c.pieces.length }) (λp=>⟨144,[(1,.one (.im (.sl (s.map Ab.encI)))),(2,.one (.im (.sl (b.map rA)))),(3,.one (.ptr 0 0)),(8,.one (.vec 2 p.1.2.1 0 (Z++dn P ah p.1.1).length)),(9,.one (.vec 3 p.1.2.2.2.1 0 (dn H aT p.1.1).length)),(37,.one (.im (.sl (c.pieces.map w5)))),(38,iv (c.pieces.length:Int)),(39,iv (p.1.1:Int))],[.row ((j4 c).map .im),.vec 2 [] 0 true,.vec 2 (l5 ((Z++dn P ah p.1.1).map j5)) p.1.2.1 p.1.2.2.1,.vec 2 (l5 ((dn H aT p.1.1).map j5)) p.1.2.2.2.1 p.1.2.2.2.2]⟩) (λp=>c.pieces.length-p.1.1) ⟨(0,0,true,0,true),by simp⟩ (zw LQ 4 (by simp[hZ,hH0,hP0,l5])) ?_;clear hZ hH0 hP0 c1 c2 hN2;rintro⟨⟨k,ga,na,gb,nb'⟩,hk1⟩;simp only at hk1;simp only[iv];have hl1:(Z++dn P ah k).length<=1+k:=by
   have:=ij P ah k;rw[List.length_append];omega
  have hl2:=ij H aT k;by_cases hlt:k<c.pieces.length
  ·have hlt2:k<c.loop.links.length:=by omega
   have hw:=zk k;have e1:Z++dn P ah (k+1)=(Z++dn P ah k)++ab (P k) (ah k):=by rw[dT,List.append_assoc]
   have e2:=dT H aT k;have hx0:c.pieces[k]?=some c.pieces[k]:=by simp[hlt]
   have hy0:c.loop.links[k]?=some c.loop.links[k]:=by simp[hlt2]
   obtain⟨p1,p2⟩:=hP k _ _ hx0 hy0;rw[p1] at e1;rw[p2] at e2;have hyd:=eX hcb hy0;have hpc:=iU hok hlt;unfold P3 at hpc;have c3:=lQ (G:=G) c.p c.pieces[k].day c.pieces[k].holder c.loop.links[k].drawing hG hN hS hR hk.p;rw[si he hlt hlt2,<- gW hlt hlt2] at c3;have hne:=gV he hlt;have hml:=eK c k;have c4:=Fo (G:=G) c s k _ hy0 hlt he ht hsl hG hN hS hk;have c5:=iL (G:=G) b (2*k) (by omega) hu;have c6:=iL (G:=G) b (2*k+1) (by omega) hu;rw[show ((2*k:Nat):Int)=2*(k:Int) by omega] at c5;rw[show ((2*k+1:Nat):Int)=2*(k:Int)+1 by omega] at c6;have u1:=cO hu (2*k);have u2:=cO hu (2*k+1);have c7:=vC (G:=G) c k _ (bM b (C6 c k) k) hy0 hyd.1 hr0 hG hk;have c8:=ph (G:=G) (k:Int);have c9:=sS (G:=G) (k:Int);have hmd:fk b k c.pieces[k]=c.pieces[k].lo+w9 b (2*k+1) % (c.pieces[k].hi-c.pieces[k].lo+1):=rfl;have hmi:=lS b k hpc.2.1;have hnd:bM b (C6 c k) k=((C6 c k)[(w9 b (2*k)).toNat % (C6 c k).length]?).getD 0:=rfl;generalize bM b (C6 c k) k=n at *;generalize fk b k c.pieces[k]=m at *;have w6:IntKind.i64.wrap (c.pieces[k].hi-c.pieces[k].lo)=c.pieces[k].hi-c.pieces[k].lo:=n4 (by omega) (by omega);have w7:IntKind.i64.wrap (c.pieces[k].hi-c.pieces[k].lo+1)=c.pieces[k].hi-c.pieces[k].lo+1:=n4 (by omega) (by omega);have g7:¬ c.pieces[k].hi-c.pieces[k].lo+1=0:=by omega
   have w8:IntKind.i64.wrap (c.pieces[k].lo+(w9 b (2*k+1)).tmod (c.pieces[k].hi-c.pieces[k].lo+1))=m:=by
    rw[Int.tmod_eq_emod_of_nonneg (by omega),<- hmd];exact n4 (by omega) (by omega)
   have w10:IntKind.i64.wrap (2*(k:Int))=2*(k:Int):=n4 (by omega) (by omega);have w11:IntKind.i64.wrap (2*(k:Int)+1)=2*(k:Int)+1:=n4 (by omega) (by omega);generalize w9 b (2*k+1)=U2 at *;generalize nN c c.loop.links[k] n=sz at *;generalize C6 c k=L at *;have hL0:0<L.length:=List.length_pos_iff.2 hne;have hLi:¬ (L.length:Int)=0:=by omega
   have hjt:((w9 b (2*k)).tmod (L.length:Int))=(((w9 b (2*k)).toNat % L.length:Nat):Int):=by
    obtain⟨u,hu'⟩:=Int.eq_ofNat_of_zero_le u1.1;rw[hu',Int.tmod_eq_emod_of_nonneg (by omega),Int.toNat_natCast];omega
   have hjl:(w9 b (2*k)).toNat % L.length<L.length:=Nat.mod_lt _ hL0;generalize (w9 b (2*k)).toNat % L.length=j at *;generalize w9 b (2*k)=U1 at *;rw[List.getElem?_eq_getElem hjl,Option.getD_some] at hnd;have hjx:L[j]?=some n:=by rw[List.getElem?_eq_getElem hjl,hnd]
   have hje:∀ h,L[j]'h=n:=λh=>hnd.symm;have w12:IntKind.i64.wrap (j:Int)=(j:Int):=n4 (by omega) (by omega);clear hnd hmd hP p1 p2;generalize hxe:c.pieces[k]=x at *;generalize hye:c.loop.links[k]=y at *;generalize Y7 c s y.drawing=o at *;generalize Z++dn P ah k=L1 at *;generalize dn H aT k=L2 at *;simp only[l7,j4,D7,p6,C3,j5,rI,List.map_cons,List.map_nil] at c3 c4 c5 c6 c7 c8 c9;have hs:True:=trivial;by_cases hno:n=o
   ·rw[decide_eq_true hno] at e1;have hnt:=eq_true hno;simp only[ab,Bool.not_true,Bool.false_eq_true,if_false,List.append_nil] at e1;rcases sz with _|d
    ·simp only[P8,ab,Bool.false_eq_true,if_false,List.append_nil] at e2;simp only[Option.isSome_none,Option.getD_none] at c7;have hs:=za hxe (za hye (za hlt (za hlt2 (za hw (za hnt (za hL0 (za hLi (za hne (za hjt (za hjl (za hjx (za hje (za g7 (za w6 (za w7 (za w8 (za w10 (za w11 w12))))))))))))))))));repeat' first|with_reducible refine zz ?_|simp -dsimp[hs]|refine zp c4 ?_|refine zp c5 ?_|refine zp c7 ?_|refine zq c3 ?_|refine zq c6 ?_|refine zM 10 144 19 LJ ?_|refine zM 15 144 19 LJ ?_|with_reducible refine zE LJ ?_|refine i8 ?_ ?_<;>intro h<;>try exact h.elim
     all_goals try clear hs
     all_goals exact zn ⟨(k+1,ga,na,gb,nb'),by simp only;omega⟩ (zw LQ 4 (by have f1:=congrArg List.length e1;have f2:=congrArg (λz=>l5 (List.map j5 z)) e1;simp at f1 f2;simp[f1,f2,e2]))
    ·simp only[Option.isSome_some,Option.getD_some] at c7;by_cases hm1:m<d.lower
     ·rw[show P8 (some d) m=true by simp[P8,hm1]] at e2;simp only[ab,if_true,aT] at e2;have hs:=za hxe (za hye (za hlt (za hlt2 (za hw (za hnt (za hL0 (za hLi (za hne (za hjt (za hjl (za hjx (za hje (za g7 (za w6 (za w7 (za w8 (za w10 (za w11 (za w12 hm1)))))))))))))))))));repeat' first|(with_reducible first|refine zz ?_|refine And.intro (by omega) ?_)|simp -dsimp[hs]|refine zp c4 ?_|refine zp c5 ?_|refine zp c7 ?_|refine zp c9 ?_|refine zq c3 ?_|refine zq c6 ?_|refine zM 10 144 19 LJ ?_|refine zM 15 144 19 LJ ?_|with_reducible refine zE LJ ?_|refine i8 ?_ ?_<;>intro h<;>try exact h.elim
      all_goals try clear hs
      all_goals exact zn ⟨(k+1,ga,na,gb+1,false),by simp only;omega⟩ (zw LQ 4 (by have f1:=congrArg List.length e1;have f2:=congrArg (λz=>l5 (List.map j5 z)) e1;simp at f1 f2;simp[f1,f2,e2]))
     ·by_cases hm2:d.upper<m
      ·rw[show P8 (some d) m=true by simp[P8,hm2]] at e2;simp only[ab,if_true,aT] at e2;have hs:=za hxe (za hye (za hlt (za hlt2 (za hw (za hnt (za hL0 (za hLi (za hne (za hjt (za hjl (za hjx (za hje (za g7 (za w6 (za w7 (za w8 (za w10 (za w11 (za w12 (za hm1 hm2))))))))))))))))))));repeat' first|(with_reducible first|refine zz ?_|refine And.intro (by omega) ?_)|simp -dsimp[hs]|refine zp c4 ?_|refine zp c5 ?_|refine zp c7 ?_|refine zp c9 ?_|refine zq c3 ?_|refine zq c6 ?_|refine zM 10 144 19 LJ ?_|refine zM 15 144 19 LJ ?_|with_reducible refine zE LJ ?_|refine i8 ?_ ?_<;>intro h<;>try exact h.elim
       all_goals try clear hs
       all_goals exact zn ⟨(k+1,ga,na,gb+1,false),by simp only;omega⟩ (zw LQ 4 (by have f1:=congrArg List.length e1;have f2:=congrArg (λz=>l5 (List.map j5 z)) e1;simp at f1 f2;simp[f1,f2,e2]))
      ·rw[show P8 (some d) m=false by simp[P8];omega] at e2;simp only[ab,Bool.false_eq_true,if_false,List.append_nil] at e2;have hs:=za hxe (za hye (za hlt (za hlt2 (za hw (za hnt (za hL0 (za hLi (za hne (za hjt (za hjl (za hjx (za hje (za g7 (za w6 (za w7 (za w8 (za w10 (za w11 (za w12 (za hm1 hm2))))))))))))))))))));repeat' first|with_reducible refine zz ?_|simp -dsimp[hs]|refine zp c4 ?_|refine zp c5 ?_|refine zp c7 ?_|refine zq c3 ?_|refine zq c6 ?_|refine zM 10 144 19 LJ ?_|refine zM 15 144 19 LJ ?_|with_reducible refine zE LJ ?_|refine i8 ?_ ?_<;>intro h<;>try exact h.elim
       all_goals try clear hs
       all_goals exact zn ⟨(k+1,ga,na,gb,nb'),by simp only;omega⟩ (zw LQ 4 (by have f1:=congrArg List.length e1;have f2:=congrArg (λz=>l5 (List.map j5 z)) e1;simp at f1 f2;simp[f1,f2,e2]))
   ·rw[decide_eq_false hno] at e1;have hnt:=hno;simp only[ab,Bool.not_false,if_true,ah] at e1;rcases sz with _|d
    ·simp only[P8,ab,Bool.false_eq_true,if_false,List.append_nil] at e2;simp only[Option.isSome_none,Option.getD_none] at c7;have hs:=za hxe (za hye (za hlt (za hlt2 (za hw (za hnt (za hL0 (za hLi (za hne (za hjt (za hjl (za hjx (za hje (za g7 (za w6 (za w7 (za w8 (za w10 (za w11 w12))))))))))))))))));repeat' first|(with_reducible first|refine zz ?_|refine And.intro (by omega) ?_)|simp -dsimp[hs]|refine zp c4 ?_|refine zp c5 ?_|refine zp c7 ?_|refine zp c8 ?_|refine zq c3 ?_|refine zq c6 ?_|refine zM 10 144 19 LJ ?_|refine zM 15 144 19 LJ ?_|with_reducible refine zE LJ ?_|refine i8 ?_ ?_<;>intro h<;>try exact h.elim
     all_goals try clear hs
     all_goals exact zn ⟨(k+1,ga+1,false,gb,nb'),by simp only;omega⟩ (zw LQ 4 (by have f1:=congrArg List.length e1;have f2:=congrArg (λz=>l5 (List.map j5 z)) e1;simp at f1 f2;simp[f1,f2,e2]))
    ·simp only[Option.isSome_some,Option.getD_some] at c7;by_cases hm1:m<d.lower
     ·rw[show P8 (some d) m=true by simp[P8,hm1]] at e2;simp only[ab,if_true,aT] at e2;have hs:=za hxe (za hye (za hlt (za hlt2 (za hw (za hnt (za hL0 (za hLi (za hne (za hjt (za hjl (za hjx (za hje (za g7 (za w6 (za w7 (za w8 (za w10 (za w11 (za w12 hm1)))))))))))))))))));repeat' first|(with_reducible first|refine zz ?_|refine And.intro (by omega) ?_)|simp -dsimp[hs]|refine zp c4 ?_|refine zp c5 ?_|refine zp c7 ?_|refine zp c8 ?_|refine zp c9 ?_|refine zq c3 ?_|refine zq c6 ?_|refine zM 10 144 19 LJ ?_|refine zM 15 144 19 LJ ?_|with_reducible refine zE LJ ?_|refine i8 ?_ ?_<;>intro h<;>try exact h.elim
      all_goals try clear hs
      all_goals exact zn ⟨(k+1,ga+1,false,gb+1,false),by simp only;omega⟩ (zw LQ 4 (by have f1:=congrArg List.length e1;have f2:=congrArg (λz=>l5 (List.map j5 z)) e1;simp at f1 f2;simp[f1,f2,e2]))
     ·by_cases hm2:d.upper<m
      ·rw[show P8 (some d) m=true by simp[P8,hm2]] at e2;simp only[ab,if_true,aT] at e2;have hs:=za hxe (za hye (za hlt (za hlt2 (za hw (za hnt (za hL0 (za hLi (za hne (za hjt (za hjl (za hjx (za hje (za g7 (za w6 (za w7 (za w8 (za w10 (za w11 (za w12 (za hm1 hm2))))))))))))))))))));repeat' first|(with_reducible first|refine zz ?_|refine And.intro (by omega) ?_)|simp -dsimp[hs]|refine zp c4 ?_|refine zp c5 ?_|refine zp c7 ?_|refine zp c8 ?_|refine zp c9 ?_|refine zq c3 ?_|refine zq c6 ?_|refine zM 10 144 19 LJ ?_|refine zM 15 144 19 LJ ?_|with_reducible refine zE LJ ?_|refine i8 ?_ ?_<;>intro h<;>try exact h.elim
       all_goals try clear hs
       all_goals exact zn ⟨(k+1,ga+1,false,gb+1,false),by simp only;omega⟩ (zw LQ 4 (by have f1:=congrArg List.length e1;have f2:=congrArg (λz=>l5 (List.map j5 z)) e1;simp at f1 f2;simp[f1,f2,e2]))
      ·rw[show P8 (some d) m=false by simp[P8];omega] at e2;simp only[ab,Bool.false_eq_true,if_false,List.append_nil] at e2;have hs:=za hxe (za hye (za hlt (za hlt2 (za hw (za hnt (za hL0 (za hLi (za hne (za hjt (za hjl (za hjx (za hje (za g7 (za w6 (za w7 (za w8 (za w10 (za w11 (za w12 (za hm1 hm2))))))))))))))))))));repeat' first|(with_reducible first|refine zz ?_|refine And.intro (by omega) ?_)|simp -dsimp[hs]|refine zp c4 ?_|refine zp c5 ?_|refine zp c7 ?_|refine zp c8 ?_|refine zq c3 ?_|refine zq c6 ?_|refine zM 10 144 19 LJ ?_|refine zM 15 144 19 LJ ?_|with_reducible refine zE LJ ?_|refine i8 ?_ ?_<;>intro h<;>try exact h.elim
       all_goals try clear hs
       all_goals exact zn ⟨(k+1,ga+1,false,gb,nb'),by simp only;omega⟩ (zw LQ 4 (by have f1:=congrArg List.length e1;have f2:=congrArg (λz=>l5 (List.map j5 z)) e1;simp at f1 f2;simp[f1,f2,e2]))
  ·obtain rfl:k=c.pieces.length:=by omega
   generalize Z++dn P ah c.pieces.length=L1 at *;generalize dn H aT c.pieces.length=L2 at *;have htk1:List.take L1.length (l5 (L1.map j5))=l5 (L1.map j5):=List.take_of_length_le (by simp[l5]);by_cases hL:na=true/\L2=[]
   ·obtain⟨rfl,rfl⟩:=hL;have hs:=za hlt htk1;repeat' first|(with_reducible first|refine zz ?_|refine And.intro (by omega) ?_|refine zr ?_|refine zE LJ ?_)|simp -dsimp[hs]|refine i8 ?_ ?_<;>intro h<;>try exact h.elim
    all_goals try clear hs
    all_goals simp[hRES,htk1]
   ·have hap:l5 (L1.map j5)++l5 (L2.map j5)=l5 (RES.map j5):=by rw[hRES,List.map_append,aE]
    have hrl:RES.length=L1.length+L2.length:=by rw[hRES,List.length_append]
    have htk2:List.take (L1.length+L2.length) (l5 (RES.map j5))=l5 (RES.map j5):=List.take_of_length_le (by simp[l5,hrl]);clear hRES;have hs:=za hlt (za hL (za htk1 (za hap (za htk2 hrl))));repeat' first|(with_reducible first|refine zz ?_|refine And.intro (by omega) ?_|refine zr ?_|refine zE LJ ?_)|simp -dsimp[hs]|refine i8 ?_ ?_<;>intro h<;>try exact h.elim
    all_goals try clear hs
    all_goals simp[hap,htk2,hrl]
 ·refine i6 (ι:={ p:Nat×Nat×Bool×Nat×Bool // p.1<=c.pieces.length }) (λp=>⟨144,[(1,.one (.im (.sl (s.map Ab.encI)))),(2,.one (.im (.sl (b.map rA)))),(3,.one (.ptr 0 0)),(8,.one (.vec 2 p.1.2.1 0 (Z++dn P ah p.1.1).length)),(9,.one (.vec 3 p.1.2.2.2.1 0 (dn H aT p.1.1).length)),(37,.one (.im (.sl (c.pieces.map w5)))),(38,iv (c.pieces.length:Int)),(39,iv (p.1.1:Int))],[.row ((j4 c).map .im),.vec 2 [] 0 true,.vec 2 (l5 ((Z++dn P ah p.1.1).map j5)) p.1.2.1 p.1.2.2.1,.vec 2 (l5 ((dn H aT p.1.1).map j5)) p.1.2.2.2.1 p.1.2.2.2.2]⟩) (λp=>c.pieces.length-p.1.1) ⟨(0,1,false,0,true),by simp⟩ (zw LQ 4 (by simp[hZ,hH0,hP0,l5])) ?_;clear hZ hH0 hP0 c1 c2 hN2;rintro⟨⟨k,ga,na,gb,nb'⟩,hk1⟩;simp only at hk1;simp only[iv];have hl1:(Z++dn P ah k).length<=1+k:=by
   have:=ij P ah k;rw[List.length_append];omega
  have hl2:=ij H aT k;by_cases hlt:k<c.pieces.length
  ·have hlt2:k<c.loop.links.length:=by omega
   have hw:=zk k;have e1:Z++dn P ah (k+1)=(Z++dn P ah k)++ab (P k) (ah k):=by rw[dT,List.append_assoc]
   have e2:=dT H aT k;have hx0:c.pieces[k]?=some c.pieces[k]:=by simp[hlt]
   have hy0:c.loop.links[k]?=some c.loop.links[k]:=by simp[hlt2]
   obtain⟨p1,p2⟩:=hP k _ _ hx0 hy0;rw[p1] at e1;rw[p2] at e2;have hyd:=eX hcb hy0;have hpc:=iU hok hlt;unfold P3 at hpc;have c3:=lQ (G:=G) c.p c.pieces[k].day c.pieces[k].holder c.loop.links[k].drawing hG hN hS hR hk.p;rw[si he hlt hlt2,<- gW hlt hlt2] at c3;have hne:=gV he hlt;have hml:=eK c k;have c4:=Fo (G:=G) c s k _ hy0 hlt he ht hsl hG hN hS hk;have c5:=iL (G:=G) b (2*k) (by omega) hu;have c6:=iL (G:=G) b (2*k+1) (by omega) hu;rw[show ((2*k:Nat):Int)=2*(k:Int) by omega] at c5;rw[show ((2*k+1:Nat):Int)=2*(k:Int)+1 by omega] at c6;have u1:=cO hu (2*k);have u2:=cO hu (2*k+1);have c7:=vC (G:=G) c k _ (bM b (C6 c k) k) hy0 hyd.1 hr0 hG hk;have c8:=ph (G:=G) (k:Int);have c9:=sS (G:=G) (k:Int);have hmd:fk b k c.pieces[k]=c.pieces[k].lo+w9 b (2*k+1) % (c.pieces[k].hi-c.pieces[k].lo+1):=rfl;have hmi:=lS b k hpc.2.1;have hnd:bM b (C6 c k) k=((C6 c k)[(w9 b (2*k)).toNat % (C6 c k).length]?).getD 0:=rfl;generalize bM b (C6 c k) k=n at *;generalize fk b k c.pieces[k]=m at *;have w6:IntKind.i64.wrap (c.pieces[k].hi-c.pieces[k].lo)=c.pieces[k].hi-c.pieces[k].lo:=n4 (by omega) (by omega);have w7:IntKind.i64.wrap (c.pieces[k].hi-c.pieces[k].lo+1)=c.pieces[k].hi-c.pieces[k].lo+1:=n4 (by omega) (by omega);have g7:¬ c.pieces[k].hi-c.pieces[k].lo+1=0:=by omega
   have w8:IntKind.i64.wrap (c.pieces[k].lo+(w9 b (2*k+1)).tmod (c.pieces[k].hi-c.pieces[k].lo+1))=m:=by
    rw[Int.tmod_eq_emod_of_nonneg (by omega),<- hmd];exact n4 (by omega) (by omega)
   have w10:IntKind.i64.wrap (2*(k:Int))=2*(k:Int):=n4 (by omega) (by omega);have w11:IntKind.i64.wrap (2*(k:Int)+1)=2*(k:Int)+1:=n4 (by omega) (by omega);generalize w9 b (2*k+1)=U2 at *;generalize nN c c.loop.links[k] n=sz at *;generalize C6 c k=L at *;have hL0:0<L.length:=List.length_pos_iff.2 hne;have hLi:¬ (L.length:Int)=0:=by omega
   have hjt:((w9 b (2*k)).tmod (L.length:Int))=(((w9 b (2*k)).toNat % L.length:Nat):Int):=by
    obtain⟨u,hu'⟩:=Int.eq_ofNat_of_zero_le u1.1;rw[hu',Int.tmod_eq_emod_of_nonneg (by omega),Int.toNat_natCast];omega
   have hjl:(w9 b (2*k)).toNat % L.length<L.length:=Nat.mod_lt _ hL0;generalize (w9 b (2*k)).toNat % L.length=j at *;generalize w9 b (2*k)=U1 at *;rw[List.getElem?_eq_getElem hjl,Option.getD_some] at hnd;have hjx:L[j]?=some n:=by rw[List.getElem?_eq_getElem hjl,hnd]
   have hje:∀ h,L[j]'h=n:=λh=>hnd.symm;have w12:IntKind.i64.wrap (j:Int)=(j:Int):=n4 (by omega) (by omega);clear hnd hmd hP p1 p2;generalize hxe:c.pieces[k]=x at *;generalize hye:c.loop.links[k]=y at *;generalize Y7 c s y.drawing=o at *;generalize Z++dn P ah k=L1 at *;generalize dn H aT k=L2 at *;simp only[l7,j4,D7,p6,C3,j5,rI,List.map_cons,List.map_nil] at c3 c4 c5 c6 c7 c8 c9;have hs:True:=trivial;by_cases hno:n=o
   ·rw[decide_eq_true hno] at e1;have hnt:=eq_true hno;simp only[ab,Bool.not_true,Bool.false_eq_true,if_false,List.append_nil] at e1;rcases sz with _|d
    ·simp only[P8,ab,Bool.false_eq_true,if_false,List.append_nil] at e2;simp only[Option.isSome_none,Option.getD_none] at c7;have hs:=za hxe (za hye (za hlt (za hlt2 (za hw (za hnt (za hL0 (za hLi (za hne (za hjt (za hjl (za hjx (za hje (za g7 (za w6 (za w7 (za w8 (za w10 (za w11 w12))))))))))))))))));repeat' first|with_reducible refine zz ?_|simp -dsimp[hs]|refine zp c4 ?_|refine zp c5 ?_|refine zp c7 ?_|refine zq c3 ?_|refine zq c6 ?_|refine zM 10 144 19 LJ ?_|refine zM 15 144 19 LJ ?_|with_reducible refine zE LJ ?_|refine i8 ?_ ?_<;>intro h<;>try exact h.elim
     all_goals try clear hs
     all_goals exact zn ⟨(k+1,ga,na,gb,nb'),by simp only;omega⟩ (zw LQ 4 (by have f1:=congrArg List.length e1;have f2:=congrArg (λz=>l5 (List.map j5 z)) e1;simp at f1 f2;simp[f1,f2,e2]))
    ·simp only[Option.isSome_some,Option.getD_some] at c7;by_cases hm1:m<d.lower
     ·rw[show P8 (some d) m=true by simp[P8,hm1]] at e2;simp only[ab,if_true,aT] at e2;have hs:=za hxe (za hye (za hlt (za hlt2 (za hw (za hnt (za hL0 (za hLi (za hne (za hjt (za hjl (za hjx (za hje (za g7 (za w6 (za w7 (za w8 (za w10 (za w11 (za w12 hm1)))))))))))))))))));repeat' first|(with_reducible first|refine zz ?_|refine And.intro (by omega) ?_)|simp -dsimp[hs]|refine zp c4 ?_|refine zp c5 ?_|refine zp c7 ?_|refine zp c9 ?_|refine zq c3 ?_|refine zq c6 ?_|refine zM 10 144 19 LJ ?_|refine zM 15 144 19 LJ ?_|with_reducible refine zE LJ ?_|refine i8 ?_ ?_<;>intro h<;>try exact h.elim
      all_goals try clear hs
      all_goals exact zn ⟨(k+1,ga,na,gb+1,false),by simp only;omega⟩ (zw LQ 4 (by have f1:=congrArg List.length e1;have f2:=congrArg (λz=>l5 (List.map j5 z)) e1;simp at f1 f2;simp[f1,f2,e2]))
     ·by_cases hm2:d.upper<m
      ·rw[show P8 (some d) m=true by simp[P8,hm2]] at e2;simp only[ab,if_true,aT] at e2;have hs:=za hxe (za hye (za hlt (za hlt2 (za hw (za hnt (za hL0 (za hLi (za hne (za hjt (za hjl (za hjx (za hje (za g7 (za w6 (za w7 (za w8 (za w10 (za w11 (za w12 (za hm1 hm2))))))))))))))))))));repeat' first|(with_reducible first|refine zz ?_|refine And.intro (by omega) ?_)|simp -dsimp[hs]|refine zp c4 ?_|refine zp c5 ?_|refine zp c7 ?_|refine zp c9 ?_|refine zq c3 ?_|refine zq c6 ?_|refine zM 10 144 19 LJ ?_|refine zM 15 144 19 LJ ?_|with_reducible refine zE LJ ?_|refine i8 ?_ ?_<;>intro h<;>try exact h.elim
       all_goals try clear hs
       all_goals exact zn ⟨(k+1,ga,na,gb+1,false),by simp only;omega⟩ (zw LQ 4 (by have f1:=congrArg List.length e1;have f2:=congrArg (λz=>l5 (List.map j5 z)) e1;simp at f1 f2;simp[f1,f2,e2]))
      ·rw[show P8 (some d) m=false by simp[P8];omega] at e2;simp only[ab,Bool.false_eq_true,if_false,List.append_nil] at e2;have hs:=za hxe (za hye (za hlt (za hlt2 (za hw (za hnt (za hL0 (za hLi (za hne (za hjt (za hjl (za hjx (za hje (za g7 (za w6 (za w7 (za w8 (za w10 (za w11 (za w12 (za hm1 hm2))))))))))))))))))));repeat' first|with_reducible refine zz ?_|simp -dsimp[hs]|refine zp c4 ?_|refine zp c5 ?_|refine zp c7 ?_|refine zq c3 ?_|refine zq c6 ?_|refine zM 10 144 19 LJ ?_|refine zM 15 144 19 LJ ?_|with_reducible refine zE LJ ?_|refine i8 ?_ ?_<;>intro h<;>try exact h.elim
       all_goals try clear hs
       all_goals exact zn ⟨(k+1,ga,na,gb,nb'),by simp only;omega⟩ (zw LQ 4 (by have f1:=congrArg List.length e1;have f2:=congrArg (λz=>l5 (List.map j5 z)) e1;simp at f1 f2;simp[f1,f2,e2]))
   ·rw[decide_eq_false hno] at e1;have hnt:=hno;simp only[ab,Bool.not_false,if_true,ah] at e1;rcases sz with _|d
    ·simp only[P8,ab,Bool.false_eq_true,if_false,List.append_nil] at e2;simp only[Option.isSome_none,Option.getD_none] at c7;have hs:=za hxe (za hye (za hlt (za hlt2 (za hw (za hnt (za hL0 (za hLi (za hne (za hjt (za hjl (za hjx (za hje (za g7 (za w6 (za w7 (za w8 (za w10 (za w11 w12))))))))))))))))));repeat' first|(with_reducible first|refine zz ?_|refine And.intro (by omega) ?_)|simp -dsimp[hs]|refine zp c4 ?_|refine zp c5 ?_|refine zp c7 ?_|refine zp c8 ?_|refine zq c3 ?_|refine zq c6 ?_|refine zM 10 144 19 LJ ?_|refine zM 15 144 19 LJ ?_|with_reducible refine zE LJ ?_|refine i8 ?_ ?_<;>intro h<;>try exact h.elim
     all_goals try clear hs
     all_goals exact zn ⟨(k+1,ga+1,false,gb,nb'),by simp only;omega⟩ (zw LQ 4 (by have f1:=congrArg List.length e1;have f2:=congrArg (λz=>l5 (List.map j5 z)) e1;simp at f1 f2;simp[f1,f2,e2]))
    ·simp only[Option.isSome_some,Option.getD_some] at c7;by_cases hm1:m<d.lower
     ·rw[show P8 (some d) m=true by simp[P8,hm1]] at e2;simp only[ab,if_true,aT] at e2;have hs:=za hxe (za hye (za hlt (za hlt2 (za hw (za hnt (za hL0 (za hLi (za hne (za hjt (za hjl (za hjx (za hje (za g7 (za w6 (za w7 (za w8 (za w10 (za w11 (za w12 hm1)))))))))))))))))));repeat' first|(with_reducible first|refine zz ?_|refine And.intro (by omega) ?_)|simp -dsimp[hs]|refine zp c4 ?_|refine zp c5 ?_|refine zp c7 ?_|refine zp c8 ?_|refine zp c9 ?_|refine zq c3 ?_|refine zq c6 ?_|refine zM 10 144 19 LJ ?_|refine zM 15 144 19 LJ ?_|with_reducible refine zE LJ ?_|refine i8 ?_ ?_<;>intro h<;>try exact h.elim
      all_goals try clear hs
      all_goals exact zn ⟨(k+1,ga+1,false,gb+1,false),by simp only;omega⟩ (zw LQ 4 (by have f1:=congrArg List.length e1;have f2:=congrArg (λz=>l5 (List.map j5 z)) e1;simp at f1 f2;simp[f1,f2,e2]))
     ·by_cases hm2:d.upper<m
      ·rw[show P8 (some d) m=true by simp[P8,hm2]] at e2;simp only[ab,if_true,aT] at e2;have hs:=za hxe (za hye (za hlt (za hlt2 (za hw (za hnt (za hL0 (za hLi (za hne (za hjt (za hjl (za hjx (za hje (za g7 (za w6 (za w7 (za w8 (za w10 (za w11 (za w12 (za hm1 hm2))))))))))))))))))));repeat' first|(with_reducible first|refine zz ?_|refine And.intro (by omega) ?_)|simp -dsimp[hs]|refine zp c4 ?_|refine zp c5 ?_|refine zp c7 ?_|refine zp c8 ?_|refine zp c9 ?_|refine zq c3 ?_|refine zq c6 ?_|refine zM 10 144 19 LJ ?_|refine zM 15 144 19 LJ ?_|with_reducible refine zE LJ ?_|refine i8 ?_ ?_<;>intro h<;>try exact h.elim
       all_goals try clear hs
       all_goals exact zn ⟨(k+1,ga+1,false,gb+1,false),by simp only;omega⟩ (zw LQ 4 (by have f1:=congrArg List.length e1;have f2:=congrArg (λz=>l5 (List.map j5 z)) e1;simp at f1 f2;simp[f1,f2,e2]))
      ·rw[show P8 (some d) m=false by simp[P8];omega] at e2;simp only[ab,Bool.false_eq_true,if_false,List.append_nil] at e2;have hs:=za hxe (za hye (za hlt (za hlt2 (za hw (za hnt (za hL0 (za hLi (za hne (za hjt (za hjl (za hjx (za hje (za g7 (za w6 (za w7 (za w8 (za w10 (za w11 (za w12 (za hm1 hm2))))))))))))))))))));repeat' first|(with_reducible first|refine zz ?_|refine And.intro (by omega) ?_)|simp -dsimp[hs]|refine zp c4 ?_|refine zp c5 ?_|refine zp c7 ?_|refine zp c8 ?_|refine zq c3 ?_|refine zq c6 ?_|refine zM 10 144 19 LJ ?_|refine zM 15 144 19 LJ ?_|with_reducible refine zE LJ ?_|refine i8 ?_ ?_<;>intro h<;>try exact h.elim
       all_goals try clear hs
       all_goals exact zn ⟨(k+1,ga+1,false,gb,nb'),by simp only;omega⟩ (zw LQ 4 (by have f1:=congrArg List.length e1;have f2:=congrArg (λz=>l5 (List.map j5 z)) e1;simp at f1 f2;simp[f1,f2,e2]))
  ·obtain rfl:k=c.pieces.length:=by omega
   generalize Z++dn P ah c.pieces.length=L1 at *;generalize dn H aT c.pieces.length=L2 at *;have htk1:List.take L1.length (l5 (L1.map j5))=l5 (L1.map j5):=List.take_of_length_le (by simp[l5]);by_cases hL:na=true/\L2=[]
   ·obtain⟨rfl,rfl⟩:=hL;have hs:=za hlt htk1;repeat' first|(with_reducible first|refine zz ?_|refine And.intro (by omega) ?_|refine zr ?_|refine zE LJ ?_)|simp -dsimp[hs]|refine i8 ?_ ?_<;>intro h<;>try exact h.elim
    all_goals try clear hs
    all_goals simp[hRES,htk1]
   ·have hap:l5 (L1.map j5)++l5 (L2.map j5)=l5 (RES.map j5):=by rw[hRES,List.map_append,aE]
    have hrl:RES.length=L1.length+L2.length:=by rw[hRES,List.length_append]
    have htk2:List.take (L1.length+L2.length) (l5 (RES.map j5))=l5 (RES.map j5):=List.take_of_length_le (by simp[l5,hrl]);clear hRES;have hs:=za hlt (za hL (za htk1 (za hap (za htk2 hrl))));repeat' first|(with_reducible first|refine zz ?_|refine And.intro (by omega) ?_|refine zr ?_|refine zE LJ ?_)|simp -dsimp[hs]|refine i8 ?_ ?_<;>intro h<;>try exact h.elim
    all_goals try clear hs
    all_goals simp[hap,htk2,hrl]
open Go Go.Ab
attribute [simp] r9 cX O1 iG v6 A8 nilV K0 ZK
theorem Ey {c:Case} {t:List Int} (h:t∈H9 (j8 (j7 c.p.n.notes))):B9 c t∈n7 c:=List.mem_map_of_mem h
structure TrueOk (c:Case) (t:List Int) (l su op:List Susp) (lo hi:Int):Prop where
 b1:l≠[]
 b2:lo<=(l.length:Int)
 b3:(l.length:Int)<=hi
 b4:∀ s∈l,(s∈su\/s∈op)/\md c t s=0/\¬ jm c t s=0
 b5:∀ s∈su,md c t s=0/\jm c t s=2/\s∈l/\s∉op
theorem sV (b:Bool) (f:Nat->F4) (n:Nat) (hn:n<=16):(V3 b f n).length<100000:=by
 have h3:=ay b (λi=>(f i).1) (λi=>(f i).2) n;have h4:=(H4 b (λi=>(f i).1) (λi=>(f i).2) n).length_eq;have h5:(V3 b f n).length=(cY b (λi=>(f i).1) (λi=>(f i).2) n).length:=rfl;omega
attribute [simp] r9 cX O1 iG v6 A8 nilV K0 ZK
theorem Bp {c:Case} (h0:J2 c=0) {t:List Int} (ht:t∈H9 (j8 (j7 c.p.n.notes))) {f:Nat->F4} (hf:ET (B9 c t) f):¬ Y4 (V3 (kL c t) f c.pieces.length) (kB c)<0/\∀ s,V3 (kL c t) f c.pieces.length=[s]->s∈jF c:=by
 have h:=vR h0;obtain⟨e1,e2,e3,e4⟩:=lz h0;rw[e1,e2];have hd:=Ey ht;have h1:=GZ h hd hf;have h2:=jC (V3 (kL c t) f c.pieces.length) (Et (n7 c));refine⟨?_,λs e=>uM h hd hf e⟩;have e5:(B9 c t).notes=kL c t:=rfl;rw[e5] at h1;omega
theorem zF (b:Bool) (f:Nat->F4) (n:Nat) (hn:n<=16):eu (V3 b f n):=by
 refine⟨λx hx=>?_,sV b f n hn⟩;have h3:=jk ((H4 b (λi=>(f i).1) (λi=>(f i).2) n).mem_iff.1 hx);unfold er;omega
theorem Bq {c:Case} (h0:J2 c=0) (hk:KC c):eu (kB c):=by
 obtain⟨d,hd,e⟩:=Ha (vR h0);rw[(lz h0).1,e];exact oE (Y2 hk d hd) (by have:=hk.q;omega)
@[simp] abbrev QY:List Nat:=[0,1,2,3,6,7,8,9,10,11,12,13,21]
set_option maxRecDepth 10000 in
theorem nD (c:Case) (w:Nat) (b:List Int) (hG:o3 G) (hN:E0 G) (hS:u4 G) (hU:X0 G) (hR:w0 G) (hC:J0 G) (hK:cF G) (hF:kA G) (hp:ki c.p) (hw8:w<=255) (hu:∀ n∈b,0<=n/\n<=4294967295):zP prog G 4 [l7 c,sN (w:Int),.one (.im (.sl (b.map rA)))] (bv true):=by
 refine zf func4 ntmps4 ?_;try simp only[sN]
 have a1:=EQ (G:=G) hG hN hS hU hR hC hK hF;have c1:=Df (G:=G) c hp;cases hq:lP c
 ·rw[hq] at c1;simp only[l7,j4,rI,List.map_cons,List.map_nil] at c1 ⊢;have hs:=trivial;repeat' first|(with_reducible first|refine zz ?_|refine zr ?_|refine zE QY ?_)|simp -dsimp[hs]|refine zp a1 ?_|refine zp c1 ?_|refine i8 ?_ ?_<;>intro h<;>try exact h.elim
  all_goals try clear hs
 ·obtain⟨hsk,hk,h0⟩:=th hp hq;rw[hq] at c1;obtain⟨he,_⟩:=N4 h0;have htm:=sP c w;obtain⟨htb,htl⟩:=(JP he).h _ htm;have c2:=wm (G:=G) c w hw8 he hk;have c3:=Br (G:=G) c (cq c w) b hu he htb htl hG hN hS hR hC hk;have c4:=oY (G:=G) c hG hN hS hU hR hC hF hk;have c5:=sf (G:=G) c hG hN hS hU hR hC hF hk;rw[h0] at c4 c5;have hok:=Bp h0 htm (Hn he (cq c w) b);have tl:=zF (kL c (cq c w)) (yd c (cq c w) b) c.pieces.length hk.q;have tx:=Bq h0 hk;have l1:=Cl c hk.q;generalize cq c w=t at *;generalize V3 (kL c t) (yd c t b) c.pieces.length=l at *;generalize kB c=x at *;generalize jF c=a at *;have c6:=ti (G:=G) l x tl tx;have d1:=λs=>EN (G:=G) a s (by omega);obtain⟨o1,o2⟩:=hok;rw[decide_eq_false o1] at c6;simp only[l7,j4,C3,A3,j5,D9,rI,List.map_cons,List.map_nil] at c1 c2 c3 c4 c5 c6 d1 ⊢;have hs:True:=trivial;by_cases h1:l.length=1
  ·obtain⟨s,rfl⟩:=List.length_eq_one_iff.1 h1;have hin:=o2 s rfl;have d2:=d1 s;rw[decide_eq_true hin] at d2;simp only[List.map_cons,List.map_nil,j5,rI] at c3 c6;clear h1;have hs:=trivial;repeat' first|(with_reducible first|refine zz ?_|refine zr ?_)|simp -dsimp[hs]|refine zp a1 ?_|refine zp c1 ?_|refine zq c2 ?_|refine zq c3 ?_|refine zp c4 ?_|refine zp c5 ?_|refine zp c6 ?_|refine zp d2 ?_|refine zM 4 72 11 QY ?_|with_reducible refine zE QY ?_|refine i8 ?_ ?_<;>intro h<;>try exact h.elim
   all_goals try clear hs
  ·have f1:¬ (l.length:Int)=1:=by omega
   have hs:=za f1 h1;repeat' first|(with_reducible first|refine zz ?_|refine zr ?_)|simp -dsimp[hs]|refine zp a1 ?_|refine zp c1 ?_|refine zq c2 ?_|refine zq c3 ?_|refine zp c4 ?_|refine zp c5 ?_|refine zp c6 ?_|refine zM 4 72 11 QY ?_|with_reducible refine zE QY ?_|refine i8 ?_ ?_<;>intro h<;>try exact h.elim
   all_goals try clear hs
end Go.Proofs
namespace Go.Ab
open Go Go.Sort
theorem RelM.grownS {G:LI} {M:MS} {w':World} {os:Array Obj} (h:RelM G M) (hw:w'.heap=M.w.heap++os) (hio:SameIo M.w w'):RelM G { M with w:=w' }/\Ext M.objs.length M { M with w:=w' }:=by
 have hold:∀ {b:Nat},b<M.w.heap.size->w'.heap[b]?=M.w.heap[b]?:=λ{b} hb=>by rw[hw];simp[Array.getElem?_append,hb]
 have hsz:M.w.heap.size<=w'.heap.size:=by rw[hw];simp
 have he:Ext M.objs.length M { M with w:=w' }:=
  ⟨Nat.le_refl _,λb hb=>⟨⟨Nat.lt_of_lt_of_le hb.1 hsz,hb.2⟩,hold hb.1⟩,dj M,hsz,λp _ c' hc=>⟨⟨c',hc⟩,rfl⟩,
   λp _ sz es g nl hv=>⟨sz,es,g,nl,hv,Nat.le_refl _,λ_=>⟨rfl,rfl,λhn=>⟨rfl,by simp only[I5];rw[hold (h.lt p _ hv (by simp[DObj.blk,hn]))]⟩⟩⟩,λp _ ks es hm=>⟨⟨ks,es,hm⟩,rfl⟩,
   λp _ r hm=>⟨⟨r,hm⟩,rfl⟩,λp _ d hm hi=>⟨⟨d,hm,hi⟩,rfl⟩,λp _ r hm=>⟨⟨r,hm⟩,rfl⟩,hio⟩
 exact⟨⟨λo d ho=>(h.objs o d ho).ext he (λ_=>rfl) (λhb=>hold (h.lt o d ho hb)),λo d ho hb=>Nat.lt_of_lt_of_le (h.lt o d ho hb) hsz,h.inj,λg l hg=>(h.glob g l hg).mono he.ok,λb hF=>Nat.lt_of_lt_of_le (h.fl b hF) hsz,h.own⟩,he⟩
theorem pr {l:List Int} {c:Array Value} {i:Nat} (hi:i<l.length) (hc:i<c.size):(putCells (Value.int .i64) 0 l.toArray c)[i]?=some (.int .i64 l[i]):=by
 simp only[putCells,Array.getElem?_mapIdx,Array.getElem?_eq_getElem hc,Option.map_some];rw[if_pos ⟨Nat.zero_le _,by simpa using hi⟩];simp[hi]
theorem DCall.sort {P:Program} {G:LI} {f:FuncId}
 (hS:∀ (blk cap:Nat) (zs:List Int) (w:World),Holds (Value.int .i64) w blk 0 zs.toArray->blk<w.heap.size->zs.length<4611686018427387904 ->
  Calls P f #[.slice (some ⟨blk,0,none⟩) zs.length cap] w λe w'=>e=.returned (.tuple #[])/\∃ n os,w'=grow (putRow (Value.int .i64) (Sort.ahead w n) blk 0 (zs.mergeSort λx y=>decide (x<=y)).toArray) os)
 (h0:∀ (a:Option Addr) (cap:Nat) (w:World),Calls P f #[.slice a 0 cap] w λe w'=>e=.returned (.tuple #[])/\w'=w)
 (l:List Int) (g sz:Nat) (nl:Bool) (hz:sz=1\/nl=true/\l=[]) (hl:l.length<1000000) :
 DCall P G f [.one (.vec 0 g 0 l.length)] [.vec sz (l5 (l.map Ab.encI)) g nl] (λd o=>d=.tup []/\o=[.vec sz (l5 ((j8 l).map Ab.encI)) g nl]):=by
 intro M vs hM ho hsz hr;obtain⟨v,rfl⟩:∃ v,vs=#[v]:=by
  obtain⟨vl⟩:=vs;match vl,hsz with
  | [v],_=>exact⟨v,rfl⟩
 have hv:=hr 0 _ v rfl rfl;have h1:M.objs[0]?=some (.vec sz (l5 (l.map Ab.encI)) g nl):=by rw[ho];rfl
 have hO:=hM.objs 0 _ h1;cases hv with
 | one _ _ hv =>
 cases hv with
 | vec _ _ _ _ _ _ _ hv =>
 obtain⟨_,hv⟩:=hv _ _ _ _ h1;obtain⟨hvt,hvf⟩:=hv rfl;have hnil:∀ (a:Option Addr) (cap:Nat),l=[]->Calls P f #[.slice a 0 cap] M.w λe w'=>∃ v d M',e=.returned v/\M'.w=w'/\RelM G M'/\RepV M' d v/\Ext 1 M M'/\d=.tup []/\M'.objs=[.vec sz (l5 ((j8 l).map Ab.encI)) g nl]:=λa cap hle=>by
  refine(h0 a cap M.w).mono λe w' ⟨he,hw⟩=>?_;subst hw;refine⟨_,.tup [],M,he,rfl,hM,.tup _ _ rfl (λj d v h=>by simp at h),(Ext.refl M).weaken (by simp[ho]),rfl,?_⟩;rw[ho,hle,show j8 []=[] from List.mergeSort_nil]
 cases nl with
 | true =>
   obtain⟨_,e,hv⟩:=hvt rfl;have e:l=[]:=List.eq_nil_of_length_eq_zero e;have:=hnil none 0 e;rw[hv];simpa using this
 | false =>
   obtain rfl:sz=1:=hz.resolve_right λh=>Bool.noConfusion h.1;obtain⟨x,cap,hv,hc,hx,hb⟩:=hvf rfl;by_cases e:l=[]
   ·have:=hnil (some ⟨M.β 0,x,none⟩) cap e;rw[hv];subst e;simpa using this
   have hlp:0<l.length:=List.length_pos_iff.2 e;have hx0:x=0:=by rcases hx with hx|hx<;>omega
   subst hx0;obtain⟨_,hO⟩:=hO;obtain⟨_,c,T,hh,hcs,hes,hrep⟩:=hO rfl;have hcl:l.length<=c.size:=by simpa[q8] using hcs
   have hcell:∀ j (hj:j<l.length),c[j]?=some (.int .i64 l[j]):=λj hj=>by
    have hjc:j<c.size:=by omega
    have:=hrep j [DC.im (.raw (.int .i64 l[j]))] 0 (.im (.raw (.int .i64 l[j]))) c[j] (by simp[l5,hj]) rfl (by simp[hjc]);have hcj:c[j]?=some c[j]:=by simp[hjc]
    generalize c[j]=y at this hcj;cases this with
    | im _ _ hi =>
      cases hi;exact hcj
   have hH:Holds (Value.int .i64) M.w (M.β 0) 0 l.toArray:=λj hj=>by
    have hj:j<l.length:=by simpa using hj
    refine⟨?_,?_⟩
    ·simp only[World.cell?,hh];simp[hcell j hj,hj]
    ·simp[World.frozen?,hh]
   have hlt:M.β 0<M.w.heap.size:=hM.lt 0 _ h1 rfl;rw[hv];refine(hS (M.β 0) cap l M.w hH hlt (by omega)).mono λe' w' ⟨he,n,os,hw⟩=>?_;have hmod:M.w.heap.modify (M.β 0) (onCells (putCells (Value.int .i64) 0 (j8 l).toArray))=M.w.heap.setIfInBounds (M.β 0) (.cells (putCells (Value.int .i64) 0 (j8 l).toArray c) T (0,0)):=by
    apply Array.ext_getElem?
    intro k;simp only[Array.getElem?_modify,Array.getElem?_setIfInBounds];by_cases hk:M.β 0=k
    ·subst hk;rw[if_pos rfl,if_pos rfl,if_pos hlt,hh];rfl
    ·simp[hk]
   have ha:(DObj.vec 1 (l5 (l.map Ab.encI)) g false).alike (.vec 1 (l5 ((j8 l).map Ab.encI)) g false):=⟨rfl,.inl ⟨rfl,rfl⟩⟩
   have hs:L7 (.cells (putCells (Value.int .i64) 0 (j8 l).toArray c) T (0,0))=L7 (.cells c T (0,0)):=by simp[L7,putCells]
   have hE:=Ext.turn (d':=.vec 1 (l5 ((j8 l).map Ab.encI)) g false) h1 rfl ha hh hs;have hR:=RelM.turn (d':=.vec 1 (l5 ((j8 l).map Ab.encI)) g false) hM h1 rfl ha hh hs (by
    refine⟨λh=>Bool.noConfusion h,λ_=>⟨by omega,putCells (Value.int .i64) 0 (j8 l).toArray c,T,by simp[MS.turn,Array.getElem?_setIfInBounds_self_of_lt hlt],by simpa[q8,N6,putCells] using hcl,λi x hx=>?_,λi x j d v hx hj hv=>?_⟩⟩
    ·simp only[l5,List.getElem?_map,Option.map_map] at hx;obtain⟨y,_,rfl⟩:=Option.map_eq_some_iff.1 hx;rfl
    ·simp only[l5,List.getElem?_map,Option.map_map] at hx;obtain⟨y,hy,rfl⟩:=Option.map_eq_some_iff.1 hx;have hil:i<(j8 l).length:=e7 hy;match j,hj with
     | 0,hj =>
       cases hj;have hic:i<c.size:=by rw[N6] at hil;omega
       rw[Nat.mul_one,Nat.add_zero,pr hil hic] at hv;have e:(j8 l)[i]'hil=y:=(List.getElem?_eq_some_iff.1 hy).2;cases hv;rw[e];exact .im _ _ (.raw _ rfl))
   have hg:=RelM.grownS (w':=w') (os:=os) hR (by rw[hw];simp only[grow,putRow,mapBlock,Sort.ahead,MS.turn];rw[show (l.mergeSort λx y=>decide (x<=y))=j8 l from rfl,hmod]) (by rw[hw];exact⟨rfl,rfl,rfl,Nat.le_add_right _ _⟩);refine⟨_,.tup [],_,he,?_,hg.1,.tup _ _ rfl (λj d v h=>by simp at h),?_,rfl,?_⟩
   ·rfl
   ·have hl1:M.objs.length=1:=by rw[ho];rfl
    have h2:=hg.2;rw[show (M.turn 0 (.cells (putCells (Value.int .i64) 0 (j8 l).toArray c) T (0,0)) (.vec 1 (l5 ((j8 l).map Ab.encI)) g false)).objs.length=1 by simp[MS.turn,ho]] at h2;rw[hl1] at hE;exact hE.trans h2
   ·simp[MS.turn,ho]
end Go.Ab
