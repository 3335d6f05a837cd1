/- Part 17 of the proofs. -/
import Derived.Test.YtlmlkkoapahmjaaGreatDoorT08
import Derived.Test.YtlmlkkoapahmjaaGreatDoorT09
import Derived.Test.YtlmlkkoapahmjaaGreatDoorT12
import Derived.Test.YtlmlkkoapahmjaaGreatDoorT14
import Derived.Test.YtlmlkkoapahmjaaGreatDoorT15
import Derived.Test.YtlmlkkoapahmjaaGreatDoorT16
set_option linter.all false
set_option maxHeartbeats 100000000
namespace Go.Proofs
open Go Go.Ab Tryz
variable {G:IK}
theorem H0 {c:Case} (h:q9 c=0):u9 c.p=0/\eA c=true:=by
 unfold q9 at h;by_cases h0:u9 c.p=0
 ·rw[if_neg (by simp[h0])] at h;refine⟨h0,?_⟩;by_cases h1:eA c=true
  ·exact h1
  ·rw[if_neg h1] at h;exact absurd h (by decide)
 ·rw[if_pos h0] at h;exact absurd h h0
theorem I3 {p:Prints} (h:u9 p=0):A5 p.n=0/\J2 p=true/\l9 p.n.reg=0:=by
 have hn:A5 p.n=0:=by
  refine Classical.byContradiction λh1=>?_;unfold u9 at h;rw[if_pos h1] at h;exact h1 h
 refine⟨hn,?_,?_⟩
 ·refine Classical.byContradiction λh1=>?_;unfold u9 at h;rw[if_neg (by simp[hn]),if_neg h1] at h;exact absurd h (by decide)
 ·refine Classical.byContradiction λh1=>?_;unfold A5 at hn;rw[if_pos h1] at hn;exact h1 hn
def kN (c:Case):Bool:=decide (c.of∈nums c.p.n.reg)&&(decide (1<=c.machine/\c.machine<=999)&&(decide (1<=c.loop.links.length/\c.loop.links.length<=8)&&(decide (c.pieces.length=c.loop.links.length)&&W8 c.loop.lo c.loop.hi (-8000000000) 8000000000)))
theorem Z0 (c:Case):eA c=(kN c&&(c.loop.links.zip c.pieces).all λq=>V3 c q.1 q.2):=by
 simp only[eA,kN,Bool.and_assoc]
theorem mW {α β:Type} {f:α×β->Bool} {l:List α} {m:List β} {k:Nat} (h1:k<l.length) (h2:k<m.length) (hno:(l.zip m).all f=((l.zip m).drop k).all f):(l.zip m).all f=true↔f (l[k],m[k])=true/\((l.zip m).drop (k+1)).all f=true:=by
 have h3:k<(l.zip m).length:=by rw[List.length_zip];omega
 have:=qi h3 hno;rw[List.getElem_zip] at this;exact this
theorem wb (x:Piece) (y:Holder):DCall prog G 121 (iM y :: [DC.ptr 0 0].map .one) [.row ((u7 x).map .im)] (λd o=>d=bv (decide (y.id=x.holder))/\o=[.row ((u7 x).map .im)]):=by
 refine DCall.drop ?_;refine g9 func121 rfl ntmps121 (by simp) rfl ?_;simp only[iM,n7,u7,rI];repeat' first|(with_reducible first|refine zz ?_|refine zx ?_|refine zE [0,1,2,3] ?_)|simp -dsimp|with_reducible refine And.intro ?_ ?_
theorem mh {c:Case} (h0:l9 c.p.n.reg=0) (l:Link) (x:Piece):V3 c l x=true↔Ch c.p.n.reg l.drawing 1=0/\¬ (atR c.p.n.reg l.drawing 1).kind=1/\([l.dim].all λy=>decide (0<=y)&&decide (y<=3))=true/\(c.p.holders.any λy=>decide (y.id=x.holder))=true/\([x.day].all λy=>decide (0<=y)&&decide (y<=14610))=true/\W8 x.lo x.hi 0 1000000000=true:=by
 unfold V3 Ch atR;rw[if_neg (by simp[h0]),if_pos h0];cases B6 c.p.n.reg l.drawing 1 with
 | none=>simp
 | some y=>simp[and_assoc]
@[simp] abbrev Ly:List Nat:=[0,1,2,3,4,6,7,8,9,10,11,12,17,64,67,68,69,70,118]
theorem gz (c:Case) (hG:o4 G) (hN:C7 G) (hS:s8 G) (hR:u3 G) (hk:KC c):zP prog G 75 [n5 c] (iv (q9 c)):=by
 refine zf func75 ntmps75 ?_;try simp only[iv]
 have hl:=hk.l;have hq:=hk.q;have hhl:=hk.p.p.h;have c1:=xA (G:=G) c.p hG hN hS hR hk.p;simp only[R6,A8] at c1;by_cases h0:u9 c.p=0
 ·obtain⟨hn0,hpb,hr0⟩:=I3 h0;rw[h0] at c1;have hE:q9 c=if eA c=true then 0 else 100:=by unfold q9;rw[if_neg (by simp[h0])]
  have c2:=AT (G:=G) c.p.n.reg c.of hG hk.p.n.1;have hLE:X9 c.p.n.reg c.of=if c.of∈nums c.p.n.reg then 0 else 6:=by unfold X9;rw[if_neg (by simp[hr0])]
  rw[hLE] at c2;have c3:=K1 (G:=G) 1 999 [c.machine] (by simp);have c4:=K1 (G:=G) 1 8 [(c.loop.links.length:Int)] (by simp);have c5:=aU (G:=G) c.loop.lo c.loop.hi (-8000000000) 8000000000;simp only[Z7,D3] at c2 c5;cases h5:kN c
  ·have hB:eA c=false:=by rw[Z0,h5,Bool.false_and]
   rw[hE,hB];simp only[kN] at h5;generalize hb3:([c.machine].all λy=>decide (1<=y)&&decide (y<=999))=b3 at c3;generalize hb4:([(c.loop.links.length:Int)].all λy=>decide (1<=y)&&decide (y<=8))=b4 at c4;generalize hb5:W8 c.loop.lo c.loop.hi (-8000000000) 8000000000=b5 at c5 h5;have hs:True:=trivial;by_cases hm:c.of∈nums c.p.n.reg
   ·rw[if_pos hm] at c2;by_cases hlen:c.pieces.length=c.loop.links.length
    ·cases b3<;>cases b4<;>cases b5
     all_goals
      have hs:=hlen;repeat' first|(with_reducible first|refine zz ?_|refine zr ?_|refine zE Ly ?_)|simp -dsimp[hs]|refine zp c1 ?_|refine zp c2 ?_|refine zt c3 ?_ ?_ ?_;(focus simp;done);focus (simp;done)|refine zt c4 ?_ ?_ ?_;(focus simp;done);focus (simp;done)|refine zp c5 ?_|refine j4 ?_ ?_<;>intro h<;>try exact h.elim
      all_goals try clear hs
     all_goals exfalso
     all_goals simp[hm,hlen] at h5 hb3 hb4
     all_goals omega
    ·cases b3<;>cases b4<;>cases b5
     all_goals
      have hs:=hlen;repeat' first|(with_reducible first|refine zz ?_|refine zr ?_|refine zE Ly ?_)|simp -dsimp[hs]|refine zp c1 ?_|refine zp c2 ?_|refine zt c3 ?_ ?_ ?_;(focus simp;done);focus (simp;done)|refine zt c4 ?_ ?_ ?_;(focus simp;done);focus (simp;done)|refine zp c5 ?_|refine j4 ?_ ?_<;>intro h<;>try exact h.elim|with_reducible refine j7 ?_ ?_<;>intro h<;>have h0:=h<;>(try simp only[i8] at h)<;>have h2:=h<;>(try simp at h2)<;>replace hs:=za h0 (za h (za h2 hs))
      all_goals try clear hs
     all_goals exfalso
     all_goals omega
   ·rw[if_neg hm] at c2;have hs:=trivial;repeat' first|(with_reducible first|refine zz ?_|refine zr ?_|refine zE Ly ?_)|simp -dsimp[hs]|refine zp c1 ?_|refine zp c2 ?_|refine j4 ?_ ?_<;>intro h<;>try exact h.elim
    all_goals try clear hs
  ·rw[Z0,h5,Bool.true_and] at hE;rw[hE];simp only[kN,Bool.and_eq_true,decide_eq_true_eq] at h5;obtain⟨hm,⟨hm1,hm2⟩,⟨hl1,hl2⟩,hlen,hgap⟩:=h5;rw[if_pos hm] at c2;rw[hgap] at c5;rw[show ([c.machine].all λy=>decide (1<=y)&&decide (y<=999))=true by simp;omega] at c3;rw[show ([(c.loop.links.length:Int)].all λy=>decide (1<=y)&&decide (y<=8))=true by simp;omega] at c4;have hs:=hlen;repeat' first|(with_reducible first|refine zz ?_|refine zE Ly ?_)|simp -dsimp[hs]|refine zp c1 ?_|refine zp c2 ?_|refine zt c3 ?_ ?_ ?_;(focus simp;done);focus (simp;done)|refine zt c4 ?_ ?_ ?_;(focus simp;done);focus (simp;done)|refine zp c5 ?_|refine j4 ?_ ?_<;>intro h<;>try exact h.elim
   all_goals try clear hs
   have hno:((c.loop.links.zip c.pieces).all λq=>V3 c q.1 q.2)=((c.loop.links.zip c.pieces).drop 0).all λq=>V3 c q.1 q.2:=rfl;clear c1 c2 c3 c4 c5;generalize hA:((c.loop.links.zip c.pieces).all λq=>V3 c q.1 q.2)=A at *;refine i7 (ι:={ k:Nat // k<=c.loop.links.length/\A=((c.loop.links.zip c.pieces).drop k).all λq=>V3 c q.1 q.2 }) (λq=>⟨120,[(1,.one (.ptr 0 0)),(4,.one (.ptr 2 0)),(67,.one (.im (.sl (c.loop.links.map D6)))),(68,iv (c.loop.links.length:Int)),(69,iv (q.1:Int))],[.row ((i9 c).map .im),.vec 0 [] 0 true,.row [.im (.sl (c.p.n.reg.map h9))],.vec 1 [[.im (rI c.machine)]] 0 false,.vec 1 [[.im (rI (c.loop.links.length:Int))]] 0 false]⟩) (λq=>c.loop.links.length-q.1) ⟨0,by simp,hno⟩ (zv [1,4,67,68,69]) ?_;rintro⟨k,hk1,hrest⟩;simp only[iv];by_cases hlt:k<c.loop.links.length
   ·have hlt2:k<c.pieces.length:=by omega
    have hw:=zk k;have hst:=mW (f:=λq=>V3 c q.1 q.2) hlt hlt2 (hA.trans hrest);rw[hA] at hst;simp only at hst;rw[mh hr0] at hst;clear hno;generalize hx:c.pieces[k]=x at *;generalize hy:c.loop.links[k]=y at *;have c6:=Cg (G:=G) c.p.n.reg y.drawing 1 hG hk.p.n.1;have c7:=gt (G:=G) c.p.holders (λy=>decide (y.id=x.holder)) 121 [.ptr 0 0] [.row ((u7 x).map .im)] (by simp) (λy _=>wb x y) (by omega);have c8:=K1 (G:=G) 0 3 [y.dim] (by simp);have c9:=K1 (G:=G) 0 14610 [x.day] (by simp);have c10:=aU (G:=G) x.lo x.hi 0 1000000000;simp only[Z7,D3] at c6 c10;simp only[u7,rI,List.map_cons,List.map_nil] at c7;generalize (c.p.holders.any λy=>decide (y.id=x.holder))=b2 at *;generalize ([y.dim].all λy=>decide (0<=y)&&decide (y<=3))=b1 at *;generalize ([x.day].all λy=>decide (0<=y)&&decide (y<=14610))=b3 at *;generalize W8 x.lo x.hi 0 1000000000=b4 at *;generalize Ch c.p.n.reg y.drawing 1=e at *;generalize atR c.p.n.reg y.drawing 1=z at *;have hcs:(e=0/\¬ z.kind=1/\b1=true/\b2=true/\b3=true/\b4=true)\/(A=false/\((¬ e=0/\True/\True/\True/\True/\True)\/(e=0/\z.kind=1/\True/\True/\True/\True)\/(e=0/\¬ z.kind=1/\b1=false/\True/\True/\True)\/(e=0/\¬ z.kind=1/\b1=true/\b2=false/\True/\True)\/(e=0/\¬ z.kind=1/\b1=true/\b2=true/\b3=false/\True)\/(e=0/\¬ z.kind=1/\b1=true/\b2=true/\b3=true/\b4=false))):=by
     by_cases g1:e=0<;>by_cases g2:z.kind=1<;>cases b1<;>cases b2<;>cases b3<;>cases b4<;>simp_all
    have hs:True:=trivial;rcases hcs with⟨g1,g2,g3,g4,g5,g6⟩|⟨gA,hcs⟩
    ·have hs:=za hx (za hy (za hlt (za hlt2 (za hw (za g1 (za g2 (za g3 (za g4 (za g5 g6)))))))));repeat' first|(with_reducible first|refine zz ?_|refine zE Ly ?_)|simp -dsimp[hs]|refine zp c6 ?_|refine CallE.embed [9] (c7) ?_ ?_ ?_ ?_ ?_ ?_;(focus simp[p7];done);(focus simp;done);(focus simp;done);(focus simp;done);(focus refine n4 ?_;simp[p7,o6];done);try simp -dsimp[n3,p7,hs]|refine zt c8 ?_ ?_ ?_;(focus simp;done);focus (simp;done)|refine zt c9 ?_ ?_ ?_;(focus simp;done);focus (simp;done)|refine zp c10 ?_|refine j4 ?_ ?_<;>intro h<;>try exact h.elim
     all_goals try clear hs
     all_goals exact zn ⟨k+1,by omega,by rw[Bool.eq_iff_iff];exact hst.trans ⟨λh=>h.2,λh=>⟨⟨g1,g2,g3,g4,g5,g6⟩,h⟩⟩⟩ (zw [1,4,67,68,69] 5)
    ·rcases hcs with⟨g1,g2,g3,g4,g5,g6⟩|⟨g1,g2,g3,g4,g5,g6⟩|⟨g1,g2,g3,g4,g5,g6⟩|⟨g1,g2,g3,g4,g5,g6⟩|⟨g1,g2,g3,g4,g5,g6⟩|⟨g1,g2,g3,g4,g5,g6⟩
     all_goals
      have hs:=za hx (za hy (za hlt (za hlt2 (za hw (za g1 (za g2 (za g3 (za g4 (za g5 g6)))))))));repeat' first|(with_reducible first|refine zz ?_|refine zr ?_|refine zE Ly ?_)|simp -dsimp[hs]|refine zp c6 ?_|refine CallE.embed [9] (c7) ?_ ?_ ?_ ?_ ?_ ?_;(focus simp[p7];done);(focus simp;done);(focus simp;done);(focus simp;done);(focus refine n4 ?_;simp[p7,o6];done);try simp -dsimp[n3,p7,hs]|refine zt c8 ?_ ?_ ?_;(focus simp;done);focus (simp;done)|refine zt c9 ?_ ?_ ?_;(focus simp;done);focus (simp;done)|refine zp c10 ?_|refine j4 ?_ ?_<;>intro h<;>try exact h.elim
      all_goals try clear hs
     all_goals exact gA
   ·obtain rfl:k=c.loop.links.length:=by omega
    have hA1:A=true:=by rw[hrest,List.drop_eq_nil_of_le (by rw[List.length_zip];omega)];rfl
    subst hA1;have hs:=hlt;repeat' first|(with_reducible first|refine zz ?_|refine zr ?_|refine zE Ly ?_)|simp -dsimp[hs]|refine j4 ?_ ?_<;>intro h<;>try exact h.elim
    all_goals try clear hs
 ·have hE:q9 c=u9 c.p:=by unfold q9;rw[if_pos h0]
  rw[hE];have hs:=h0;repeat' first|(with_reducible first|refine zz ?_|refine zr ?_|refine zE Ly ?_)|simp -dsimp[hs]|refine zp c1 ?_|refine j4 ?_ ?_<;>intro h<;>try exact h.elim
  all_goals try clear hs
def H4 (s:Int×Int) (q:Link×Piece):Int×Int:=if q.1.back=true then (s.1-q.2.hi,s.2-q.2.lo) else (s.1+q.2.lo,s.2+q.2.hi)
def ay (l:List (Link×Piece)):Int×Int:=l.foldl H4 (0,0)
theorem ul {l:List (Link×Piece)} {k:Nat} (h:k<l.length):ay (l.take (k+1))=H4 (ay (l.take k)) l[k]:=by
 unfold ay;rw[List.take_succ_eq_append_getElem h,List.foldl_append];rfl
def ak (x:Piece):Prop:=0<=x.lo/\x.lo<=x.hi/\x.hi<=1000000000
theorem uk (l:List (Link×Piece)):∀ s:Int×Int,s.1<=s.2->(∀ q∈l,ak q.2)->(l.foldl H4 s).1<=(l.foldl H4 s).2/\s.1-1000000000*(l.length:Int)<=(l.foldl H4 s).1/\(l.foldl H4 s).2<=s.2+1000000000*(l.length:Int):=by
 induction l with
 | nil=>intro s h _;simp[h]
 | cons q l ih =>
   intro s h hq;have h1:=hq q List.mem_cons_self;unfold ak at h1;have hst:(H4 s q).1<=(H4 s q).2/\s.1-1000000000<=(H4 s q).1/\(H4 s q).2<=s.2+1000000000:=by
    unfold H4;split<;>simp only<;>omega
   have:=ih (H4 s q) hst.1 (λy hy=>hq y (List.mem_cons_of_mem _ hy));rw[List.foldl_cons,List.length_cons];omega
theorem jO {l:List (Link×Piece)} (h:∀ q∈l,ak q.2):(ay l).1<=(ay l).2/\- (1000000000*(l.length:Int))<=(ay l).1/\(ay l).2<=1000000000*(l.length:Int):=by
 have:=uk l (0,0) (Int.le_refl _) h;unfold ay;simp only at this;omega
structure CaseOk (c:Case):Prop where
 e:c.pieces.length=c.loop.links.length
 l:1<=c.loop.links.length/\c.loop.links.length<=8
 p:∀ q∈c.loop.links.zip c.pieces,ak q.2
 g:-8000000000<=c.loop.lo/\c.loop.lo<=c.loop.hi/\c.loop.hi<=8000000000
theorem U5 {c:Case} (h:eA c=true):CaseOk c:=by
 rw[Z0,kN] at h;simp only[Bool.and_eq_true,decide_eq_true_eq,W8,List.all_eq_true] at h;obtain⟨⟨_,_,h3,h4,h5⟩,h6⟩:=h;refine⟨h4,h3,λq hq=>?_,by omega⟩;have:=h6 q hq;simp only[V3,Bool.and_eq_true,W8,decide_eq_true_eq] at this;unfold ak;omega
noncomputable def V0 (c:Case):Int×Int:=if q9 c=0 then ay (c.loop.links.zip c.pieces) else (0,0)
theorem mV {c:Case} (h:CaseOk c) {k:Nat} (hk:k<=c.pieces.length):((c.loop.links.zip c.pieces).take k).length=k:=by
 rw[List.length_take,List.length_zip];have:=h.e;omega
theorem wZ {c:Case} (h:CaseOk c) {k:Nat} (hk:k<=c.pieces.length):(ay ((c.loop.links.zip c.pieces).take k)).1<=(ay ((c.loop.links.zip c.pieces).take k)).2/\-8000000000<=(ay ((c.loop.links.zip c.pieces).take k)).1/\(ay ((c.loop.links.zip c.pieces).take k)).2<=8000000000:=by
 have h1:=jO (l:=(c.loop.links.zip c.pieces).take k) λq hq=>h.p q (List.mem_of_mem_take hq);rw[mV h hk] at h1;have:=h.l;have:=h.e;omega
theorem wM {c:Case} (h:CaseOk c) {k:Nat} (h1:k<c.pieces.length) (h2:k<c.loop.links.length):ay ((c.loop.links.zip c.pieces).take (k+1))=H4 (ay ((c.loop.links.zip c.pieces).take k)) (c.loop.links[k],c.pieces[k]):=by
 have h3:k<(c.loop.links.zip c.pieces).length:=by rw[List.length_zip];omega
 rw[ul h3,List.getElem_zip]
theorem wN {c:Case} (h:CaseOk c) {k:Nat} (h1:k<c.pieces.length):ak c.pieces[k]:=by
 have h2:k<c.loop.links.length:=by have:=h.e;omega
 have h3:k<(c.loop.links.zip c.pieces).length:=by rw[List.length_zip];omega
 have:=h.p _ (List.getElem_mem h3);rw[List.getElem_zip] at this;exact this
@[simp] abbrev LA:List Nat:=[0,1,2,3,4,5,6,7,8,9,13,17,18,19,20,36]
theorem sN (c:Case) (hG:o4 G) (hN:C7 G) (hS:s8 G) (hR:u3 G) (hk:KC c):zP prog G 38 [n5 c] (.tup [D3 (V0 c).1 (V0 c).2,iv (q9 c)]):=by
 refine zf func38 ntmps38 ?_;try simp only[iv]
 have c1:=gz (G:=G) c hG hN hS hR hk;simp only[n5,i9] at c1;by_cases h0:q9 c=0
 ·have hok:=U5 (H0 h0).2;have hE:V0 c=ay (c.loop.links.zip c.pieces):=by unfold V0;rw[if_pos h0]
  rw[hE];rw[h0] at c1 ⊢;have hlen:=hok.e;have hl8:=hok.l;have hs:=trivial;repeat' first|(with_reducible first|refine zz ?_|refine zE LA ?_)|simp -dsimp[hs]|refine zp c1 ?_|refine j4 ?_ ?_<;>intro h<;>try exact h.elim
  refine i7 (ι:={ k:Nat // k<=c.pieces.length }) (λq=>⟨52,[(1,.one (.ptr 0 0)),(2,.one (.ptr 1 0)),(5,.one (.ptr 2 0)),(17,.one (.im (.sl (c.pieces.map u7)))),(18,iv (c.pieces.length:Int)),(19,iv (q.1:Int))],[.row ((i9 c).map .im),.row [.im (rI 0),.im (rI 0)],.row [.im (rI (ay ((c.loop.links.zip c.pieces).take q.1)).1),.im (rI (ay ((c.loop.links.zip c.pieces).take q.1)).2)]]⟩) (λq=>c.pieces.length-q.1) ⟨0,by simp⟩ (zv [1,2,5,17,18,19] (by simp[ay])) ?_;rintro⟨k,hk1⟩;simp only[iv];by_cases hlt:k<c.pieces.length
  ·have hlt2:k<c.loop.links.length:=by omega
   have hw:=zk k;have hb1:=wZ hok (Nat.le_of_lt hlt);have hb2:=wZ hok (show k+1<=c.pieces.length by omega);have hst:=wM hok hlt hlt2;have hp:=wN hok hlt;unfold ak at hp;rw[hst] at hb2;generalize hx:c.pieces[k]=x at *;generalize hy:c.loop.links[k]=y at *;generalize ay ((c.loop.links.zip c.pieces).take k)=s at *;unfold H4 at hst hb2;cases hbk:y.back
   ·rw[if_neg (by simp[hbk])] at hst hb2;simp only at hb2;have hw1:IntKind.i64.wrap (s.1+x.lo)=s.1+x.lo:=r9 (by omega) (by omega);have hw2:IntKind.i64.wrap (s.2+x.hi)=s.2+x.hi:=r9 (by omega) (by omega);have hs:=za hx (za hy (za hlt (za hlt2 (za hw (za hw1 (za hw2 hbk))))));repeat' first|with_reducible refine zz ?_|simp -dsimp[hs]|refine zM 8 52 8 LA ?_|with_reducible refine zE LA ?_|refine j4 ?_ ?_<;>intro h<;>try exact h.elim
    all_goals exact zn ⟨k+1,by omega⟩ (zw [1,2,5,17,18,19] 3 (by simp[hst]))
   ·rw[if_pos hbk] at hst hb2;simp only at hb2;have hw1:IntKind.i64.wrap (-x.hi)=-x.hi:=r9 (by omega) (by omega);have hw2:IntKind.i64.wrap (-x.lo)=-x.lo:=r9 (by omega) (by omega);have hw3:IntKind.i64.wrap (s.1 + -x.hi)=s.1-x.hi:=by rw[r9 (by omega) (by omega)];omega
    have hw4:IntKind.i64.wrap (s.2 + -x.lo)=s.2-x.lo:=by rw[r9 (by omega) (by omega)];omega
    have hs:=za hx (za hy (za hlt (za hlt2 (za hw (za hw1 (za hw2 (za hw3 (za hw4 hbk))))))));repeat' first|with_reducible refine zz ?_|simp -dsimp[hs]|refine zM 8 52 8 LA ?_|with_reducible refine zE LA ?_|refine j4 ?_ ?_<;>intro h<;>try exact h.elim
    all_goals exact zn ⟨k+1,by omega⟩ (zw [1,2,5,17,18,19] 3 (by simp[hst]))
  ·obtain rfl:k=c.pieces.length:=by omega
   have hall:(c.loop.links.zip c.pieces).take c.pieces.length=c.loop.links.zip c.pieces:=List.take_of_length_le (by rw[List.length_zip];omega);rw[hall];have hs:=hlt;repeat' first|(with_reducible first|refine zz ?_|refine zr ?_|refine zE LA ?_)|simp -dsimp[hs]|refine j4 ?_ ?_<;>intro h<;>try exact h.elim
 ·have hE:V0 c=(0,0):=by unfold V0;rw[if_neg h0]
  rw[hE];have hs:=h0;repeat' first|(with_reducible first|refine zz ?_|refine zr ?_|refine zE LA ?_)|simp -dsimp[hs]|refine zp c1 ?_|refine j4 ?_ ?_<;>intro h<;>try exact h.elim
def yL (c:Case) (s:Int×Int):Int:=if s.2<c.loop.lo\/s.1 > c.loop.hi then 0 else if c.loop.lo<=s.1/\s.2<=c.loop.hi then 2 else 1
noncomputable def W0 (c:Case):Int:=if q9 c=0 then yL c (V0 c) else 0
theorem yK {c:Case} {s:Int×Int} (h:s.1<=s.2):W8 s.1 s.2 c.loop.lo c.loop.hi=decide (c.loop.lo<=s.1/\s.2<=c.loop.hi):=by
 unfold W8;rw[decide_eq_decide];omega
@[simp] abbrev LS:List Nat:=[0,1,2,3,4,5,6,15,33]
theorem od (c:Case) (hG:o4 G) (hN:C7 G) (hS:s8 G) (hR:u3 G) (hk:KC c):zP prog G 39 [n5 c] (.tup [wJ (W0 c),iv (q9 c)]):=by
 refine zf func39 ntmps39 ?_;try simp only[iv]
 have c1:=sN (G:=G) c hG hN hS hR hk;simp only[n5,i9,D3] at c1;by_cases h0:q9 c=0
 ·have hok:=U5 (H0 h0).2;have hE:W0 c=yL c (V0 c):=by unfold W0;rw[if_pos h0]
  have hS:V0 c=ay (c.loop.links.zip c.pieces):=by unfold V0;rw[if_pos h0]
  have hle:(V0 c).1<=(V0 c).2:=by rw[hS];exact(jO hok.p).1
  have c2:=aU (G:=G) (V0 c).1 (V0 c).2 c.loop.lo c.loop.hi;rw[yK (c:=c) (s:=V0 c) hle] at c2;rw[hE];rw[h0] at c1 ⊢;unfold yL;generalize V0 c=s at *;simp only[D3] at c2;by_cases h1:s.2<c.loop.lo\/s.1 > c.loop.hi
  ·rw[if_pos h1];by_cases h2:s.2<c.loop.lo
   ·have hs:=h2;repeat' first|(with_reducible first|refine zz ?_|refine zr ?_|refine zE LS ?_)|simp -dsimp[hs]|refine zp c1 ?_|refine j4 ?_ ?_<;>intro h<;>try exact h.elim
   ·have h3:c.loop.hi<s.1:=by omega
    have hs:=za h2 h3;repeat' first|(with_reducible first|refine zz ?_|refine zr ?_|refine zE LS ?_)|simp -dsimp[hs]|refine zp c1 ?_|refine j4 ?_ ?_<;>intro h<;>try exact h.elim
  ·rw[if_neg h1];have h2:¬ s.2<c.loop.lo:=by omega
   have h3:¬ c.loop.hi<s.1:=by omega
   by_cases h4:c.loop.lo<=s.1/\s.2<=c.loop.hi
   ·rw[if_pos h4];rw[decide_eq_true h4] at c2;have hs:=za h2 h3;repeat' first|(with_reducible first|refine zz ?_|refine zr ?_|refine zE LS ?_)|simp -dsimp[hs]|refine zp c1 ?_|refine zp c2 ?_|refine j4 ?_ ?_<;>intro h<;>try exact h.elim
   ·rw[if_neg h4];rw[decide_eq_false h4] at c2;have hs:=za h2 h3;repeat' first|(with_reducible first|refine zz ?_|refine zr ?_|refine zE LS ?_)|simp -dsimp[hs]|refine zp c1 ?_|refine zp c2 ?_|refine j4 ?_ ?_<;>intro h<;>try exact h.elim
 ·have hE:W0 c=0:=by unfold W0;rw[if_neg h0]
  rw[hE];have hs:=h0;repeat' first|(with_reducible first|refine zz ?_|refine zr ?_|refine zE LS ?_)|simp -dsimp[hs]|refine zp c1 ?_|refine j4 ?_ ?_<;>intro h<;>try exact h.elim
noncomputable def H7 (c:Case) (k:Nat):List Int:=match c.pieces[k]?,c.loop.links[k]? with
 | some x,some y=>G0 c.p x.day x.holder y.drawing
 | _,_=>[]
theorem pi {c:Case} {k:Nat} (h1:k<c.pieces.length) (h2:k<c.loop.links.length):H7 c k=G0 c.p c.pieces[k].day c.pieces[k].holder c.loop.links[k].drawing:=by
 unfold H7;rw[List.getElem?_eq_getElem h1,List.getElem?_eq_getElem h2]
noncomputable def T8 (c:Case) (n:Int):Int:=if q9 c≠0 then q9 c else if 0<=n/\n<c.pieces.length then 0 else 2
noncomputable def fR (c:Case) (n:Int):List Int:=if T8 c n=0 then H7 c n.toNat else []
theorem xX (c:Case) (k:Nat) (h1:k<c.pieces.length) (h2:k<c.loop.links.length) (hG:o4 G) (hN:C7 G) (hS:s8 G) (hR:u3 G) (hk:KC c):zP prog G 81 [n5 c,iv (k:Int)] (A4 (H7 c k)):=by
 refine zf func81 ntmps81 ?_;try simp only[iv]
 rw[pi h1 h2];generalize hx:c.pieces[k]=x at *;generalize hy:c.loop.links[k]=y at *;have c1:=xz (G:=G) c.p x.day x.holder y.drawing hG hN hS hR hk.p;simp only[R6,A8] at c1;generalize G0 c.p x.day x.holder y.drawing=L at *;generalize J9 c.p x.day 1 x.holder y.drawing=e at *;have hs:=za hx (za hy (za h1 h2));repeat' first|(with_reducible first|refine zz ?_|refine zr ?_)|simp -dsimp[hs]|refine zq c1 ?_|refine zM 2 31 19 [0,1,2,4,5,6] ?_|with_reducible refine zE [0,1,2,4,5,6] ?_
@[simp] abbrev Kw:List Nat:=[0,1,2,4,5,6,10,19]
theorem bQ (c:Case) (n:Int) (hG:o4 G) (hN:C7 G) (hS:s8 G) (hR:u3 G) (hk:KC c):zP prog G 35 [n5 c,iv n] (.tup [A4 (fR c n),iv (T8 c n)]):=by
 refine zf func35 ntmps35 ?_;try simp only[iv]
 have c1:=gz (G:=G) c hG hN hS hR hk;have hq:=hk.q;by_cases h0:q9 c=0
 ·have hok:=U5 (H0 h0).2;have hE:T8 c n=if 0<=n/\n<c.pieces.length then 0 else 2:=by unfold T8;rw[if_neg (by simp[h0])]
  have hlen:=hok.e;have hl:=hok.l;have hw:IntKind.i64.wrap ((c.pieces.length:Int)-1)=(c.pieces.length:Int)-1:=r9 (by omega) (by omega);have c2:=K1 (G:=G) 0 ((c.pieces.length:Int)-1) [n] (by simp);unfold fR;rw[hE];rw[h0] at c1;by_cases hn:0<=n/\n<c.pieces.length
  ·rw[if_pos hn,if_pos rfl];obtain⟨k,rfl⟩:=Int.eq_ofNat_of_zero_le hn.1;rw[Int.toNat_natCast];have c3:=xX (G:=G) c k (by omega) (by omega) hG hN hS hR hk;rw[show ([(k:Int)].all λy=>decide (0<=y)&&decide (y<=(c.pieces.length:Int)-1))=true by simp;omega] at c2;generalize H7 c k=L at *;simp only[n5,i9] at c1 c3;have hs:=hw;repeat' first|(with_reducible first|refine zz ?_|refine zr ?_|refine zE Kw ?_)|simp -dsimp[hs]|refine zp c1 ?_|refine zt c2 ?_ ?_ ?_;(focus simp;done);focus (simp;done)|refine zp c3 ?_|refine j4 ?_ ?_<;>intro h<;>try exact h.elim
  ·rw[if_neg hn,if_neg (by decide)];rw[show ([n].all λy=>decide (0<=y)&&decide (y<=(c.pieces.length:Int)-1))=false by simp;omega] at c2;simp only[n5,i9] at c1;have hs:=hw;repeat' first|(with_reducible first|refine zz ?_|refine zr ?_|refine zE Kw ?_)|simp -dsimp[hs]|refine zp c1 ?_|refine zt c2 ?_ ?_ ?_;(focus simp;done);focus (simp;done)|refine j4 ?_ ?_<;>intro h<;>try exact h.elim
 ·have hE:T8 c n=q9 c:=by unfold T8;rw[if_pos h0]
  have hO:fR c n=[]:=by unfold fR;rw[if_neg (by rw[hE];exact h0)]
  rw[hE,hO];simp only[n5,i9] at c1;have hs:=h0;repeat' first|(with_reducible first|refine zz ?_|refine zr ?_|refine zE Kw ?_)|simp -dsimp[hs]|refine zp c1 ?_|refine j4 ?_ ?_<;>intro h<;>try exact h.elim
open Go Go.Ab
end Go.Proofs
namespace Go.Ab
open Go
def lexB:List Int->List Int->Bool
 | a :: x,b :: y=>if a=b then lexB x y else decide (a<b)
 | _,_=>false
theorem nF {l:List Int} (h:l.Nodup):(j9 l).Pairwise (· < ·):=by
 have h1:(j9 l).Nodup:=(List.mergeSort_perm l _).nodup_iff.2 h;have h2:=List.pairwise_mergeSort (le:=λx y:Int=>decide (x<=y)) (λa b c h1 h2=>by simp at *;omega) (λa b=>by simp;omega) l;rw[List.nodup_iff_pairwise_ne] at h1;refine(h1.and h2).imp ?_;rintro a b ⟨h3,h4⟩;simp at h4;omega
def aL (N:List Int) (s:Nat) (k:Nat):List Int:=((List.range k).filter λi=>s.testBit i).map λi=>N.getD i 0
theorem gF (N:List Int) (s k:Nat):aL N s (k+1)=aL N s k++(if s.testBit k=true then [N.getD k 0] else []):=by
 unfold aL;rw[List.range_succ,List.filter_append,List.map_append]
 congr 1
 by_cases h:s.testBit k=true<;>simp[h]
end Go.Ab
namespace Go.Proofs
open Go Go.Ab
end Go.Proofs
namespace Go.Ab
open Go
theorem Ew (s i:Nat):IntKind.i64.wrap ((BitVec.ofInt 64 ((s:Int).fdiv (2 ^ i)) &&& BitVec.ofInt 64 1).toNat:Int)=if s.testBit i=true then 1 else 0:=by
 have e1:(s:Int).fdiv (2 ^ i)=((s / 2 ^ i:Nat):Int):=by
  rw[Int.fdiv_eq_ediv_of_nonneg _ (by exact Int.pow_nonneg (by omega))];simp
 have e2:(BitVec.ofInt 64 ((s / 2 ^ i:Nat):Int) &&& BitVec.ofInt 64 1).toNat=(s / 2 ^ i) % 2:=by
  have h1:(BitVec.ofInt 64 1)=1#64:=by decide
  rw[h1,BitVec.ofInt_natCast,BitVec.toNat_and,BitVec.toNat_ofNat,BitVec.toNat_ofNat];rw[show (1 % 2 ^ 64:Nat)=1 by decide,Nat.and_one_is_mod];omega
 rw[e1,e2,Nat.testBit_eq_decide_div_mod_eq];rcases Nat.mod_two_eq_zero_or_one (s / 2 ^ i) with h|h
 ·rw[h];simp;decide
 ·rw[h];simp;decide
end Go.Ab
namespace Go.Proofs
open Go Go.Ab
variable {G:IK}
theorem yh (l:List Int):(j9 l).length=l.length:=(List.mergeSort_perm l _).length_eq
theorem oQ (N:List Int) (s k:Nat):(aL N s k).length<=k:=by
 induction k with
 | zero=>simp[aL]
 | succ k ih =>
   rw[gF];split<;>simp<;>omega
def Gv (l:List Int):List IC:=[.sl (l.map encI)]
def Ip (L:List (List Int)):DV:=.one (.im (.sl (L.map Gv)))
attribute [simp] Gv Ip
def qJ (O:List Int) (k:Nat):List (List Int):=(List.range k).map λs=>aL O s O.length
def fp (O:List Int):List (List Int):=qJ O (2 ^ O.length)
theorem oB (O:List Int) (k:Nat):(qJ O k).length=k:=by simp[qJ]
theorem oy (O:List Int):(fp O).length=2 ^ O.length:=oB _ _
theorem ue (O:List Int) (k:Nat):qJ O (k+1)=qJ O k++[aL O k O.length]:=by
 simp[qJ,List.range_succ]
end Go.Proofs
namespace Go.Ab
open Go
structure Str where
 frm:Int
 to:Int
 letter:Int
 deriving DecidableEq
def yR (x:Str):List IC:=[rI x.frm,rI x.to,rI x.letter]
def Hd (l:List Str):DV:=.one (.im (.sl (l.map yR)))
attribute [simp] yR Hd
end Go.Ab
namespace Go.Proofs
open Go Go.Ab
def aO (l:List Note):List Int:=1 :: l.flatMap λx=>[x.frm,x.to+1]
def X7 (l:List Note):List Int:=(o9 (j9 (aO l))).filter λm=>decide (m<=999)
theorem uN (l:List Note):(X7 l).length<=2*l.length+1:=by
 have h1:=List.length_filter_le (λm:Int=>decide (m<=999)) (o9 (j9 (aO l)));have h2:=Y9 (j9 (aO l));have h3:(aO l).length=2*l.length+1:=by
  unfold aO;have:∀ l:List Note,(l.flatMap λx=>[x.frm,x.to+1]).length=2*l.length:=λl=>by
   induction l with
   | nil=>rfl
   | cons a r ih=>rw[List.flatMap_cons,List.length_append,ih,List.length_cons,List.length_cons,List.length_cons,List.length_nil];omega
  rw[List.length_cons,this]
 rw[J3,h3] at h2;unfold X7;omega
theorem Dw {n:Notes} (hok:kX n) {x:Note} (hx:x∈n.notes):1<=x.frm/\x.frm<=x.to/\x.to<=999:=by
 obtain⟨i,hi,e⟩:=List.mem_iff_getElem.1 hx;have h:=hok i x (by rw[List.getElem?_eq_getElem hi,e]);simp only[wK,EK,Bool.and_eq_true,decide_eq_true_eq] at h;omega
def stepS (a b:List Int):List Int:=List.zipWith (λx y=>if y=x then x else 0) a b
variable {G:IK}
attribute [simp] p5 cr s6 w0 nilV H9 ZK
end Go.Proofs
namespace Go.Proofs
open Go Go.Ab
end Go.Proofs
namespace Go.Ab
open Go
def Ey (L:List Bool):List DC:=L.map λb=>.im (.raw (.bool b))
@[simp] theorem GZ (m:Nat) (O:List DObj) (L:List Bool):(Ey L).map (fz m O)=Ey L:=by
 simp only[Ey,List.map_map];rfl
end Go.Ab
namespace Go.Proofs
open Go Go.Ab
variable {G:IK}
end Go.Proofs
namespace Go.Proofs
open Go Go.Ab
variable {G:IK}
def EB (p:Prints):Prop:=Ac p.n/\p.holders.length<=8/\p.prints.length<=40/\∀ x∈p.holders,x.draws.length<=20
def tz (p:Prints):Bool:=ni p.n&&(decide (p.holders.length<=8)&&(decide (p.prints.length<=40)&&p.holders.all λx=>decide (x.draws.length<=20)))
def ir (c:Case):Prop:=EB c.p/\c.loop.links.length<=16/\c.pieces.length<=16
def nj (c:Case):Bool:=tz c.p&&(decide (c.loop.links.length<=16)&&decide (c.pieces.length<=16))
def tW (n:Notes):Prop:=(∀ x∈n.reg,0<=x.kind/\x.kind<=255)/\∀ x∈n.notes,0<=x.ways/\x.ways<=255/\0<=x.signed/\x.signed<=255
theorem ED {n:Notes} (hk:tW n) (h:ni n=true):Ac n/\EE n:=by
 simp only[ni,Bool.and_eq_true,decide_eq_true_eq] at h;refine⟨h,⟨h.1.1,λx hx=>⟨(hk.1 x hx).1,(hk.1 x hx).2,h.1.2 x hx⟩⟩,h.2,hk.2⟩
def jr (x:Print):Prop:=0<=x.lost/\x.lost<=255
def mT (p:Prints):Prop:=tW p.n/\∀ x∈p.prints,jr x
theorem qx {c:Case} (hk:mT c.p) (h:nj c=true):ir c/\KC c:=by
 simp only[nj,tz,Bool.and_eq_true,decide_eq_true_eq,List.all_eq_true] at h;obtain⟨⟨h1,h2,h3,h4⟩,h5,h6⟩:=h;obtain⟨hN,hM⟩:=ED hk.1 h1;have hr:=hM.1.1;have hnl:(nums c.p.n.reg).length<=c.p.n.reg.length:=B8 c.p.n.reg c.p.n.reg.length;exact⟨⟨⟨hN,h2,h3,h4⟩,h5,h6⟩,⟨⟨hM,⟨by omega,by omega,h2,h3,h4,hk.2⟩⟩,h5,h6⟩⟩
theorem jH (d i w:Int) (l:List Print):(U8 d i w l).length<=l.length+1:=by
 unfold U8;rw[List.length_drop];have h1:=Y9 (j9 (V2 d i w l++[Z6 d i w l]));rw[J3,List.length_append,List.length_singleton] at h1;have h2:=kb d i w l;omega
theorem yc (c:Case) (n:Int):(fR c n).length<=c.p.prints.length+1:=by
 unfold fR;split
 ·unfold H7;split
  ·unfold G0;split
   ·exact jH _ _ _ _
   ·simp
  ·simp
 ·simp
end Go.Proofs
