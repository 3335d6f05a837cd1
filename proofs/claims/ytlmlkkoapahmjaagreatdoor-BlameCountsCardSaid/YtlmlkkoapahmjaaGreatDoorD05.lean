/- Part 25 of the proofs. -/
import Derived.Shelf.Sort.Plain
import Derived.Shelf.Slices.In.SortNone
import Derived.Test.YtlmlkkoapahmjaaGreatDoorS14
import Derived.Test.YtlmlkkoapahmjaaGreatDoorS20
import Derived.Test.YtlmlkkoapahmjaaGreatDoorD04
set_option linter.all false
set_option maxHeartbeats 100000000
namespace Go.Ab
open Go
def bh (L:List N8):Int:=if (true,true)∈L then 2 else if (true,false)∈L\/(false,true)∈L then 1 else 0
def fY:List N8->Int->Int
 | [],n=>n
 | f :: r,n=>fY r (if f=(false,false) then n else if f=(true,true) then 2 else max n 1)
theorem Z2:∀ (L:List N8) (n:Int),(n=0\/n=1\/n=2)->fY L n=if n=2\/(true,true)∈L then 2 else if n=1\/(true,false)∈L\/(false,true)∈L then 1 else 0
 | [],n,h=>by simp[fY];omega
 | ⟨a,b⟩ :: r,n,h=>by
   rw[fY];cases a<;>cases b
   ·rw[if_pos rfl,Z2 r n h];simp
   ·rw[if_neg (by simp),if_neg (by simp),Z2 r _ (by omega)];rcases h with rfl|rfl|rfl<;>simp[show max (0:Int) 1=1 from rfl,show max (1:Int) 1=1 from rfl,show max (2:Int) 1=2 from rfl]
   ·rw[if_neg (by simp),if_neg (by simp),Z2 r _ (by omega)];rcases h with rfl|rfl|rfl<;>simp[show max (0:Int) 1=1 from rfl,show max (1:Int) 1=1 from rfl,show max (2:Int) 1=2 from rfl]
   ·rw[if_neg (by simp),if_pos rfl,Z2 r _ (by omega)];simp
theorem qP (L:List N8):fY L 0=bh L:=by
 rw[Z2 L 0 (.inl rfl)];unfold bh;simp
def ao (F:List (List N8)) (k:Nat):Int:=((F.take k).map bh).sum
def Q3 (d:Desk):Int:=(if d.notes=true then 1 else 0)+(d.faults.map bh).sum
theorem iY (L:List N8):0<=bh L/\bh L<=2:=by unfold bh;split<;>(try split)<;>omega
theorem gU {F:List (List N8)} {k:Nat} (h:k<F.length):ao F (k+1)=ao F k+bh F[k]:=by
 unfold ao;rw[List.take_succ_eq_append_getElem h,List.map_append,List.sum_append];simp
theorem bD (F:List (List N8)):∀ k:Nat,0<=ao F k/\ao F k<=2*k
 | 0=>by simp[ao]
 | k+1=>by
   have:=bD F k;by_cases h:k<F.length
   ·have h2:=iY F[k];rw[gU h];omega
   ·have:ao F (k+1)=ao F k:=by unfold ao;rw[List.take_of_length_le (by omega),List.take_of_length_le (by omega)]
    omega
def eW:List Int->Int
 | []=>0
 | x :: r=>r.foldl min x
def eY:List Int->Int
 | []=>0
 | x :: r=>r.foldl max x
end Go.Ab
namespace Go.Proofs
open Go Go.Ab
variable {G:Hn}
attribute [simp] w0 fA w5 C7 nilV Q2 ZK
theorem CH (L:List Int) (hne:L≠[]) (hl:L.length<1000000):zP Tryz.prog G 52 [n9 L] (iv (eW L)):=by
 refine zf Tryz.func52 Tryz.ntmps52 ?_;try simp only[n9]
 obtain⟨x0,r0,rfl⟩:∃ x r,L=x :: r:=by
  cases L with
  | nil=>exact absurd rfl hne
  | cons x r=>exact⟨x,r,rfl⟩
 have hE:eW (x0 :: r0)=((x0 :: r0).drop 1).foldl min x0:=rfl;have hl1:¬ ((x0 :: r0).length:Int)<1:=by simp;omega
 have hlp:0<(x0 :: r0).length:=by simp
 have hx1:(x0 :: r0)[0]?=some x0:=rfl;have hx2:(x0 :: r0)[0]=x0:=rfl;have hk1:1<=(x0 :: r0).length:=hlp;generalize (x0 :: r0)=L at *;generalize eW L=res at *;have hs:=za hl1 (za hx1 (za hx2 hlp));repeat' first|(with_reducible first|refine zz ?_|refine zE [0,2,3,4,7,15] ?_)|simp -dsimp[hs]|refine i7 ?_ ?_<;>intro h<;>try exact h.elim
 refine g9 (ι:={ p:Nat×Int // 1<=p.1/\p.1<=L.length/\res=(L.drop p.1).foldl min p.2 }) (λp=>⟨25,[(0,n9 L),(3,iv p.1.2),(4,iv (p.1.1:Int))],[]⟩) (λp=>L.length-p.1.1) ⟨(1,x0),Nat.le_refl _,hk1,hE⟩ (zw [0,3,4] 0) ?_;rintro⟨⟨k,m⟩,hk1',hk,hE2⟩;simp only at hk1' hk hE2;simp only[iv,n9];by_cases hlt:k<L.length
 ·have hlt':(k:Int)<L.length:=by omega
  have hw:=zk k;have hx:L[k]?=some L[k]:=by simp[hlt]
  rw[List.drop_eq_getElem_cons hlt,List.foldl_cons] at hE2;generalize hy:L[k]=y at *;have hs:=za hx (za hy (za hlt (za hlt' hw)));repeat' first|(with_reducible first|refine zz ?_|refine zE [0,2,3,4,7,15] ?_)|simp -dsimp[hs]|refine i7 ?_ ?_<;>intro h<;>try exact h.elim
  all_goals exact zn ⟨(k+1,min m y),by simp,by simp only;omega,hE2⟩ (zw [0,3,4] 0)
 ·have hlt':¬ (k:Int)<L.length:=by omega
  rw[List.drop_eq_nil_of_le (by omega)] at hE2;have hE3:res=m:=hE2;have hs:=za hlt hlt';repeat' first|(with_reducible first|refine zz ?_|refine zr ?_|refine zE [0,2,3,4,7,15] ?_)|simp -dsimp[hs]|refine i7 ?_ ?_<;>intro h<;>try exact h.elim
  all_goals simp[hE3]
theorem CI (L:List Int) (hne:L≠[]) (hl:L.length<1000000):zP Tryz.prog G 53 [n9 L] (iv (eY L)):=by
 refine zf Tryz.func53 Tryz.ntmps53 ?_;try simp only[n9]
 obtain⟨x0,r0,rfl⟩:∃ x r,L=x :: r:=by
  cases L with
  | nil=>exact absurd rfl hne
  | cons x r=>exact⟨x,r,rfl⟩
 have hE:eY (x0 :: r0)=((x0 :: r0).drop 1).foldl max x0:=rfl;have hl1:¬ ((x0 :: r0).length:Int)<1:=by simp;omega
 have hlp:0<(x0 :: r0).length:=by simp
 have hx1:(x0 :: r0)[0]?=some x0:=rfl;have hx2:(x0 :: r0)[0]=x0:=rfl;have hk1:1<=(x0 :: r0).length:=hlp;generalize (x0 :: r0)=L at *;generalize eY L=res at *;have hs:=za hl1 (za hx1 (za hx2 hlp));repeat' first|(with_reducible first|refine zz ?_|refine zE [0,2,3,4,7,15] ?_)|simp -dsimp[hs]|refine i7 ?_ ?_<;>intro h<;>try exact h.elim
 refine g9 (ι:={ p:Nat×Int // 1<=p.1/\p.1<=L.length/\res=(L.drop p.1).foldl max p.2 }) (λp=>⟨25,[(0,n9 L),(3,iv p.1.2),(4,iv (p.1.1:Int))],[]⟩) (λp=>L.length-p.1.1) ⟨(1,x0),Nat.le_refl _,hk1,hE⟩ (zw [0,3,4] 0) ?_;rintro⟨⟨k,m⟩,hk1',hk,hE2⟩;simp only at hk1' hk hE2;simp only[iv,n9];by_cases hlt:k<L.length
 ·have hlt':(k:Int)<L.length:=by omega
  have hw:=zk k;have hx:L[k]?=some L[k]:=by simp[hlt]
  rw[List.drop_eq_getElem_cons hlt,List.foldl_cons] at hE2;generalize hy:L[k]=y at *;have hs:=za hx (za hy (za hlt (za hlt' hw)));repeat' first|(with_reducible first|refine zz ?_|refine zE [0,2,3,4,7,15] ?_)|simp -dsimp[hs]|refine i7 ?_ ?_<;>intro h<;>try exact h.elim
  all_goals exact zn ⟨(k+1,max m y),by simp,by simp only;omega,hE2⟩ (zw [0,3,4] 0)
 ·have hlt':¬ (k:Int)<L.length:=by omega
  rw[List.drop_eq_nil_of_le (by omega)] at hE2;have hE3:res=m:=hE2;have hs:=za hlt hlt';repeat' first|(with_reducible first|refine zz ?_|refine zr ?_|refine zE [0,2,3,4,7,15] ?_)|simp -dsimp[hs]|refine i7 ?_ ?_<;>intro h<;>try exact h.elim
  all_goals simp[hE3]
theorem oW (d:Desk):0<=Q3 d/\Q3 d<=1+2*d.faults.length:=by
 have h:=bD d.faults d.faults.length;unfold ao at h;rw[List.take_length] at h;unfold Q3;split<;>omega
def xl (D:List Desk) (k:Nat):List Int:=(D.take k).map λd=>((I0 d).length:Int)
def xF (D:List Desk) (k:Nat):List Int:=(D.take k).map Q3
theorem xk {D:List Desk} {k:Nat} (h:k<D.length):xl D (k+1)=xl D k++[((I0 D[k]).length:Int)]:=by
 unfold xl;rw[List.take_succ_eq_append_getElem h,List.map_append];rfl
theorem xE {D:List Desk} {k:Nat} (h:k<D.length):xF D (k+1)=xF D k++[Q3 D[k]]:=by
 unfold xF;rw[List.take_succ_eq_append_getElem h,List.map_append];rfl
theorem sQ {D:List Desk} {k:Nat} (h:k<=D.length):(xl D k).length=k:=by simp[xl];omega
theorem sW {D:List Desk} {k:Nat} (h:k<=D.length):(xF D k).length=k:=by simp[xF];omega
theorem mq (d:Desk) (z:Int) (h:(if d.notes=true then 1 else 0)=z):z+ao d.faults d.faults.length=Q3 d:=by
 unfold Q3 ao;rw[List.take_length,h]
noncomputable def iK (c:Case):Int×Int:=if R8 c=0 then (eW ((r8 c).map λd=>((I0 d).length:Int)),eY ((r8 c).map Q3)) else (0,0)
@[simp] abbrev LI:List Nat:=[0,1,2,3,4,5,6,7,9,10,12,13,15,22,25,26,27,28,34,38,39,40,41,44,45,46,47,52,60]
@[simp] abbrev KY:List Nat:=[2,3,6,7,9,10,13,25,26,27,38,39,40,44,45,46]
theorem yy (c:Case) (hG:s9 G) (hN:N3 G) (hS:E7 G) (hU:aF G) (hR:E9 G) (hC:W6 G) (hF:kQ G) (hk:KC c):zP Tryz.prog G 13 [n7 c] (.tup [B1 (iK c).1 (iK c).2,iv (R8 c)]):=by
 refine zf Tryz.func13 Tryz.ntmps13 ?_;try simp only[iv]
 have g1:G 0=some [.raw (.bool false),.raw (.bool false)]:=hF.1;have c1:=nU (G:=G) c hG hN hS hR hC hk;have hq:=hk.q;by_cases h0:R8 c=0
 ·rw[h0,show tZ c=r8 c by unfold tZ;rw[if_pos h0]] at c1;have hdl:=dW (Q9 h0).1;have hdk:=bq hk;have c3:=λd (h:d∈r8 c)=>pp (G:=G) d c.pieces.length (bq hk d h) (by omega) (pA (Q9 h0).1 d h) hF hU;have hO:iK c=(eW ((r8 c).map λd=>((I0 d).length:Int)),eY ((r8 c).map Q3)):=by unfold iK;rw[if_pos h0]
  have hne:∀ f:Desk->Int,(r8 c).map f≠[]:=λf e=>by have:=congrArg List.length e;simp at this;rw[this] at hdl;simp at hdl
  have c4:=CH (G:=G) ((r8 c).map λd=>((I0 d).length:Int)) (hne _) (by simp;omega);have c5:=CI (G:=G) ((r8 c).map Q3) (hne _) (by simp;omega);rw[h0,hO];generalize eW ((r8 c).map λd=>((I0 d).length:Int))=r1 at *;generalize eY ((r8 c).map Q3)=r2 at *;clear hne hO;generalize r8 c=D at *;simp only[n7,j4,rC,jr,s7,List.map_cons,List.map_nil] at c1 c3 ⊢;have hs:=trivial;repeat' first|(with_reducible first|refine zz ?_|refine zE LI ?_)|simp -dsimp[hs]|refine zp c1 ?_|refine i7 ?_ ?_<;>intro h<;>try exact h.elim
  all_goals try clear hs
  refine g9 (ι:={ p:Nat×Nat×Bool×Nat×Bool // p.1<=D.length }) (λp=>⟨82,[(2,.one (.ptr 1 0)),(3,iv 0),(6,.one (.vec 2 p.1.2.1 0 p.1.1)),(7,.one (.vec 3 p.1.2.2.2.1 0 p.1.1)),(25,.one (.im (.sl (D.map aB)))),(26,iv (D.length:Int)),(27,iv (p.1.1:Int))],[.row ((j4 c).map .im),.row [.im (rI 0),.im (rI 0)],.vec 1 (l8 ((xl D p.1.1).map Ab.encI)) p.1.2.1 p.1.2.2.1,.vec 1 (l8 ((xF D p.1.1).map Ab.encI)) p.1.2.2.2.1 p.1.2.2.2.2]⟩) (λp=>D.length-p.1.1) ⟨(0,0,true,0,true),by simp⟩ (zv [2,3,6,7,25,26,27] (by simp[l8,xl,xF])) ?_;rintro⟨⟨k,ga,na,gb,nb⟩,hk1⟩;simp only at hk1;simp only[iv];by_cases hlt:k<D.length
  ·have hw:=zk k;have hx0:D[k]?=some D[k]:=by simp[hlt]
   have c6:=c3 D[k] (List.getElem_mem hlt);have hdd:=hdk D[k] (List.getElem_mem hlt);have e1:=xk hlt;have e2:=xE hlt;have hl1:=sQ (D:=D) hk1;have hl2:=sW (D:=D) hk1;generalize hx:D[k]=d at *;generalize xl D k=L1 at *;generalize xF D k=L2 at *;have hma:=mq d;have hF0:ao d.faults 0=0:=by simp[ao]
   have hdn:=hdd.n;have htk1:List.take k (l8 (L1.map Ab.encI))=l8 (L1.map Ab.encI):=List.take_of_length_le (by simp[l8,hl1]);have htk2:List.take k (l8 (L2.map Ab.encI))=l8 (L2.map Ab.encI):=List.take_of_length_le (by simp[l8,hl2]);generalize I0 d=fl at *;simp only[dm,aC] at c6;obtain⟨Z,hZ⟩:∃ Z:Int,(if d.notes=true then 1 else 0)=Z:=⟨_,rfl⟩
   have hma:=hma Z hZ;have hZr:0<=Z/\Z<=1:=by rw[<- hZ];split<;>omega
   have hs:True:=trivial;cases hnt:d.notes
   all_goals
    rw[hnt] at hZ;simp only[Bool.false_eq_true,if_false,if_true] at hZ;replace hZ:=hZ.symm;have hs:=za hx (za hx0 (za hlt hnt));repeat' first|(with_reducible first|refine zz ?_|refine zE LI ?_)|simp -dsimp[aB,dm,aC,hs]|refine i7 ?_ ?_<;>intro h<;>try exact h.elim
    all_goals try clear hs
   all_goals
    refine g9 (ι:={ q:Nat // q<=d.faults.length }) (λq=>⟨82,[(2,.one (.ptr 1 0)),(3,iv 0),(6,.one (.vec 2 ga 0 k)),(7,.one (.vec 3 gb 0 k)),(9,.one (.im (.ip (j4 d.c++[.raw (.bool d.notes),.sl (d.faults.map J6)])))),(10,iv (Z+ao d.faults q.1)),(25,.one (.im (.sl (D.map aB)))),(26,iv (D.length:Int)),(27,iv (k:Int)),(38,.one (.im (.sl (d.faults.map J6)))),(39,iv (d.faults.length:Int)),(40,iv (q.1:Int))],[.row ((j4 c).map .im),.row [.im (rI 0),.im (rI 0)],.vec 1 (l8 (L1.map Ab.encI)) ga na,.vec 1 (l8 (L2.map Ab.encI)) gb nb]⟩) (λq=>d.faults.length-q.1) ⟨0,by simp⟩ (zv [2,3,6,7,9,10,25,26,27,38,39,40] (by simp[hnt,hF0,hZ])) ?_;clear hnt hZ;rintro⟨q,hq1⟩;simp only[iv];have hsr:=bD d.faults q;by_cases hlq:q<d.faults.length
    ·have hwq:=zk q;have hy0:d.faults[q]?=some d.faults[q]:=by simp[hlq]
     have hst:=gU hlq;have hfl:=hdd.l _ (List.getElem_mem hlq);generalize hy:d.faults[q]=y at *;have hmz:=qP y;have hmr:=iY y;generalize ao d.faults q=S at *;have hwS:IntKind.i64.wrap (Z+S+bh y)=Z+S+bh y:=m9 (by omega) (by omega);rw[<- hmz] at hst hwS;clear hmz hmr;have hs:=za hy (za hy0 hlq);repeat' first|(with_reducible first|refine zz ?_|refine zE LI ?_)|simp -dsimp[hs]|refine i7 ?_ ?_<;>intro h<;>try exact h.elim
     all_goals try clear hs
     refine g9 (ι:={ p:Nat×Int // p.1<=y.length/\(p.2=0\/p.2=1\/p.2=2)/\fY y 0=fY (y.drop p.1) p.2 }) (λp=>⟨82,[(2,.one (.ptr 1 0)),(3,iv 0),(6,.one (.vec 2 ga 0 k)),(7,.one (.vec 3 gb 0 k)),(9,.one (.im (.ip (j4 d.c++[.raw (.bool d.notes),.sl (d.faults.map J6)])))),(10,iv (Z+S)),(13,iv p.1.2),(25,.one (.im (.sl (D.map aB)))),(26,iv (D.length:Int)),(27,iv (k:Int)),(38,.one (.im (.sl (d.faults.map J6)))),(39,iv (d.faults.length:Int)),(40,iv (q:Int)),(44,.one (.im (.sl (y.map D3)))),(45,iv (y.length:Int)),(46,iv (p.1.1:Int))],[.row ((j4 c).map .im),.row [.im (rI 0),.im (rI 0)],.vec 1 (l8 (L1.map Ab.encI)) ga na,.vec 1 (l8 (L2.map Ab.encI)) gb nb]⟩) (λp=>y.length-p.1.1) ⟨(0,0),by simp⟩ (zv [2,3,6,7,9,10,13,25,26,27,38,39,40,44,45,46]) ?_;rintro⟨⟨j,n⟩,hj,hn3,hE⟩;simp only at hj hn3 hE;simp only[iv];by_cases hlj:j<y.length
     ·have hwj:=zk j;have hv0:y[j]?=some y[j]:=by simp[hlj]
      have hE2:=hE;rw[List.drop_eq_getElem_cons hlj,fY] at hE2;generalize hv:y[j]=v at *;obtain⟨v1,v2⟩:=v;have hm1:max n 1=1\/max n 1=2:=by omega
      have hs:True:=trivial;cases v1<;>cases v2
      all_goals
       simp at hE2;have hs:=za hv (za hv0 (za hlj (za hwj g1)));repeat' first|(with_reducible first|refine zz ?_|refine zE LI ?_)|simp -dsimp[hs]|refine i7 ?_ ?_<;>intro h<;>try exact h.elim
       all_goals try clear hs
      ·exact zn ⟨(j+1,n),by omega,hn3,hE2⟩ (zw KY 4)
      ·exact zn ⟨(j+1,max n 1),by omega,by omega,hE2⟩ (zw KY 4)
      ·exact zn ⟨(j+1,max n 1),by omega,by omega,hE2⟩ (zw KY 4)
      ·exact zn ⟨(j+1,2),by omega,.inr (.inr rfl),hE2⟩ (zw KY 4)
     ·have hE2:=hE;rw[List.drop_eq_nil_of_le (by omega)] at hE2;have hE3:fY y 0=n:=hE2;rw[hE3] at hst hwS;have hs:=za hlj (za hwq hwS);repeat' first|(with_reducible first|refine zz ?_|refine zE LI ?_)|simp -dsimp[hs]|refine i7 ?_ ?_<;>intro h<;>try exact h.elim
      all_goals try clear hs
      all_goals exact zn ⟨q+1,by omega⟩ (zw [2,3,6,7,9,10,25,26,27,38,39,40] 4 (by simp[hst,Int.add_assoc]))
    ·obtain rfl:q=d.faults.length:=by omega
     rw[hma];generalize Q3 d=M at *;have hs:=za hlq (za hw (za htk1 (za htk2 (za hl1 hl2))));repeat' first|(with_reducible first|refine zz ?_|refine And.intro (by omega) ?_|refine zE LI ?_)|simp -dsimp[hs]|refine zp c6 ?_|refine i7 ?_ ?_<;>intro h<;>try exact h.elim
     all_goals try clear hs
     all_goals exact zn ⟨(k+1,ga+1,false,gb+1,false),by simp only;omega⟩ (zw [2,3,6,7,25,26,27] 4 (by simp[e1,e2,htk1,htk2,hl1,hl2]))
  ·obtain rfl:k=D.length:=by omega
   have hl1:=sQ (D:=D) hk1;have hl2:=sW (D:=D) hk1;have hE1:(D.map λd=>((I0 d).length:Int))=xl D D.length:=by simp[xl]
   have hE2:D.map Q3=xF D D.length:=by simp[xF]
   rw[hE1] at c4;rw[hE2] at c5;generalize xl D D.length=L1 at *;generalize xF D D.length=L2 at *;have htk1:List.take D.length (l8 (L1.map Ab.encI))=l8 (L1.map Ab.encI):=List.take_of_length_le (by simp[l8,hl1]);have htk2:List.take D.length (l8 (L2.map Ab.encI))=l8 (L2.map Ab.encI):=List.take_of_length_le (by simp[l8,hl2]);simp only[n9] at c4 c5;have hs:=za hlt (za htk1 (za htk2 (za hl1 hl2)));repeat' first|(with_reducible first|refine zz ?_|refine zr ?_|refine zE LI ?_)|simp -dsimp[hs]|refine CallE.thaw c4 ?_ ?_ ?_;(focus simp[htk1,hl1];done);(focus simp;done)|refine CallE.thaw c5 ?_ ?_ ?_;(focus simp[htk2,hl2];done);(focus simp;done)|refine i7 ?_ ?_<;>intro h<;>try exact h.elim
   all_goals try clear hs
 ·have hO:iK c=(0,0):=by unfold iK;rw[if_neg h0]
  rw[hO];simp only[n7,j4,jr,B1,List.map_cons,List.map_nil] at c1 ⊢;have hs:=h0;repeat' first|(with_reducible first|refine zz ?_|refine zr ?_|refine zE LI ?_)|simp -dsimp[hs]|refine zp c1 ?_|refine i7 ?_ ?_<;>intro h<;>try exact h.elim
  all_goals try clear hs
end Go.Proofs
namespace Go.Ab
open Go
def cB (p:Nat->Bool) (f:Nat->Susp) (k:Nat):List Susp:=(List.range k).flatMap λi=>cm (p i) (f i)
theorem dc (p:Nat->Bool) (f:Nat->Susp) (k:Nat):cB p f (k+1)=cB p f k++cm (p k) (f k):=by
 unfold cB;rw[List.range_succ,List.flatMap_append,List.flatMap_singleton]
theorem gq (p:Nat->Bool) (f:Nat->Susp):∀ k,(cB p f k).length<=k
 | 0=>by simp[cB]
 | k+1=>by
   have:=gq p f k;rw[dc,List.length_append,gp];split<;>omega
theorem um (b:Bool) (p h:Nat->Bool) (n:Nat):cX b p h n=(cm b ⟨1,0⟩++cB p aO n)++cB h cw n:=by
 unfold cX cB;rw[List.append_assoc]
theorem mT (F:List N8):W1 F=if decide ((false,false)∈F)=true then (false,false) else if decide ((true,false)∈F)=true then (true,false) else if decide ((false,true)∈F)=true then (false,true) else (true,true):=by
 unfold W1;simp only[decide_eq_true_eq]
end Go.Ab
namespace Go.Proofs
open Go Go.Ab
variable {G:Hn}
attribute [simp] w0 fA w5 C7 nilV Q2 ZK
theorem tY {a b:Susp}:cU a b=0↔a=b:=by
 obtain⟨a1,a2⟩:=a;obtain⟨b1,b2⟩:=b;unfold cU be be be;rw[Susp.mk.injEq];simp only;split
 ·split<;>omega
 ·omega
theorem oF (a b:Susp):zP Tryz.prog G 65 [Y9 a,Y9 b] (bv (decide (cU a b<0))):=by
 refine zf Tryz.func65 Tryz.ntmps65 ?_;try simp only[iv]
 have hE:decide (cU a b<0)=(decide (a.kind<b.kind)||(decide (a.kind=b.kind)&&decide (a.index<b.index))):=by
  rw[Bool.eq_iff_iff,decide_eq_true_eq,dM];simp[dy]
 rw[hE];simp only[Y9,j9,rI,List.map_cons,List.map_nil];have hs:=trivial;repeat' first|(with_reducible first|refine zz ?_|refine zr ?_|refine zE [0,1,2,3,4] ?_)|simp -dsimp[hs]|with_reducible refine j0 ?_ ?_<;>intro h<;>have h0:=h<;>(try simp only[i6] at h)<;>have h2:=h<;>(try simp at h2)<;>replace hs:=za h0 (za h (za h2 hs))
 all_goals try clear hs
 all_goals simp_all
@[simp] abbrev LJ:List Nat:=[0,1,4,5,10,19,30]
theorem qB (a b:List Susp) (ha:eH a) (hb:eH b):zP Tryz.prog G 18 [s7 a,s7 b] (bv (decide (lQ a b<0))):=by
 refine zf Tryz.func18 Tryz.ntmps18 ?_;try simp only[iv]
 have hal:=ha.2;have hbl:=hb.2;have hE0:lQ a b=be [(a.length:Int)-b.length,S4 a b]:=rfl;by_cases hl:a.length=b.length
 ·have hli:(a.length:Int)=b.length:=by omega
  have hE1:lQ a b=S4 a b:=by
   rw[hE0];unfold be be be;rw[if_pos (by omega)];split<;>omega
  rw[hE1];clear hE0 hE1;simp only[s7];have hs:=za hl hli;repeat' first|(with_reducible first|refine zz ?_|refine zE LJ ?_)|simp -dsimp[hs]|refine i7 ?_ ?_<;>intro h<;>try exact h.elim
  all_goals try clear hs
  refine g9 (ι:={ k:Nat // k<=b.length/\S4 a b=S4 (a.drop k) (b.drop k) }) (λp=>⟨40,[(0,.one (.im (.sl (a.map j9)))),(1,.one (.im (.sl (b.map j9)))),(5,iv (p.1:Int))],[]⟩) (λp=>b.length-p.1) ⟨0,by simp⟩ (zv [0,1,5]) ?_;rintro⟨k,hk,hE⟩;have hE2:=hE;simp only[iv];by_cases hlt:k<b.length
  ·have hlt':(k:Int)<b.length:=by omega
   have hla:k<a.length:=by omega
   have hw:=zk k;rw[List.drop_eq_getElem_cons hla,List.drop_eq_getElem_cons hlt,S4] at hE2;have hx0:a[k]?=some a[k]:=by simp[hla]
   have hy0:b[k]?=some b[k]:=by simp[hlt]
   generalize hx:a[k]=x at *;generalize hy:b[k]=y at *;have c1:=oF (G:=G) x y;have hz:=tY (a:=x) (b:=y);generalize cU x y=z at *;simp only[Y9,j9,rI,List.map_cons,List.map_nil] at c1;by_cases hxy:x=y
   ·rw[if_neg (by simp[hz.2 hxy])] at hE2;have hk1:x.kind=y.kind:=by rw[hxy]
    have hi1:x.index=y.index:=by rw[hxy]
    have hs:=za hx (za hx0 (za hy (za hy0 (za hl (za hli (za hlt (za hlt' (za hla (za hw (za hk1 hi1))))))))));repeat' first|with_reducible refine zz ?_|simp -dsimp[hs]|refine zM 6 40 9 LJ ?_|with_reducible refine zE LJ ?_|refine i7 ?_ ?_<;>intro h<;>try exact h.elim
    all_goals try clear hs
    all_goals exact zn ⟨k+1,by omega,hE2⟩ (zw [0,1,5] 0)
   ·rw[if_pos (λe=>hxy (hz.1 e))] at hE2;have hne:¬ (x.kind=y.kind/\x.index=y.index):=λh=>hxy (by obtain⟨p,q⟩:=x;obtain⟨r,s⟩:=y;simp at h;simp[h]);have hs:=za hx (za hx0 (za hy (za hy0 (za hl (za hli (za hlt (za hlt' (za hla (za hw hne)))))))));repeat' first|(with_reducible first|refine zz ?_|refine zr ?_)|simp -dsimp[hs]|refine zq c1 ?_|refine zM 6 40 9 LJ ?_|refine zM 7 40 10 LJ ?_|with_reducible refine zE LJ ?_|refine i7 ?_ ?_<;>intro h<;>try exact h.elim
    all_goals try clear hs
    all_goals first|exact absurd ‹_/\_› hne|simp[hE2]
  ·have hlt':¬ (k:Int)<b.length:=by omega
   rw[List.drop_eq_nil_of_le (by omega),List.drop_eq_nil_of_le (by omega),S4] at hE2;have hs:=za hl (za hli (za hlt hlt'));repeat' first|(with_reducible first|refine zz ?_|refine zr ?_|refine zE LJ ?_)|simp -dsimp[hs]|refine i7 ?_ ?_<;>intro h<;>try exact h.elim
   all_goals try clear hs
   all_goals simp[hE2]
 ·have hli:¬ (a.length:Int)=b.length:=by omega
  have hE1:decide (lQ a b<0)=decide ((a.length:Int)<b.length):=by
   rw[decide_eq_decide,hE0];unfold be;rw[if_neg (by omega)];omega
  rw[hE1];simp only[s7];have hs:=za hl hli;repeat' first|(with_reducible first|refine zz ?_|refine zr ?_|refine zE LJ ?_)|simp -dsimp[hs]|refine i7 ?_ ?_<;>intro h<;>try exact h.elim
  all_goals try clear hs
@[simp] abbrev Lk:List Nat:=[0,1,2,4,5,6,7,8,11,20,37,40,48]
theorem oC (c:Case) (t:List Int) (he:A4 c=0) (ht:F4 (l4 (j7 c.p.n.notes)) t=true) (htl:t.length<1000) (hk:KC c):zP Tryz.prog G 71 [n7 c,n9 t] (s7 (I0 (m4 c t))):=by
 refine zf Tryz.func71 Tryz.ntmps71 ?_;try simp only[n9]
 have c1:=eS (G:=G) c t he ht htl hk;have hq:=hk.q;have c2:=λk (h:k<c.pieces.length)=>cT (G:=G) c t k h he ht htl hk;have hP:∀ k,k<c.pieces.length->aS (m4 c t) k=(W1 (W4 c t k)).1/\aT (m4 c t) k=(W1 (W4 c t k)).2:=λk h=>by
  unfold aS aT;rw[iC t h];exact⟨rfl,rfl⟩
 have hR:I0 (m4 c t)=(cm (lC c t) ⟨1,0⟩++cB (aS (m4 c t)) aO c.pieces.length)++cB (aT (m4 c t)) cw c.pieces.length:=by
  have:(m4 c t).faults.length=c.pieces.length:=by simp[m4]
  unfold I0;rw[this,um];rfl
 rw[hR];clear hR;generalize aS (m4 c t)=P at *;generalize aT (m4 c t)=H at *;generalize hN:lC c t=nb at *;simp only[n7,j4,s7] at c1 c2 ⊢;obtain⟨Z,hZ⟩:∃ Z,Z=cm nb ⟨1,0⟩:=⟨_,rfl⟩
 rw[<- hZ];obtain⟨RES,hRES⟩:∃ r,r=(Z++cB P aO c.pieces.length)++cB H cw c.pieces.length:=⟨_,rfl⟩
 rw[<- hRES];have hZl:Z.length<=1:=by rw[hZ,gp];split<;>omega
 have hH0:cB H cw 0=[]:=rfl;have hP0:cB P aO 0=[]:=rfl;have hs:True:=trivial;cases hnb:nb
 all_goals
  rw[hnb] at c1 hZ;simp only[cm,if_true,Bool.false_eq_true,if_false] at hZ;have hs:=trivial;repeat' first|(with_reducible first|refine zz ?_|refine zE Lk ?_)|simp -dsimp[hs]|refine zp c1 ?_|refine i7 ?_ ?_<;>intro h<;>try exact h.elim
  all_goals try clear hs
 ·refine g9 (ι:={ p:Nat×Nat×Bool×Nat×Bool // p.1<=c.pieces.length }) (λp=>⟨59,[(1,n9 t),(2,.one (.ptr 0 0)),(5,.one (.vec 2 p.1.2.1 0 (Z++cB P aO p.1.1).length)),(6,.one (.vec 3 p.1.2.2.2.1 0 (cB H cw p.1.1).length)),(7,iv (p.1.1:Int))],[.row ((j4 c).map .im),.vec 2 [] 0 true,.vec 2 (l8 ((Z++cB P aO p.1.1).map j9)) p.1.2.1 p.1.2.2.1,.vec 2 (l8 ((cB H cw p.1.1).map j9)) p.1.2.2.2.1 p.1.2.2.2.2]⟩) (λp=>c.pieces.length-p.1.1) ⟨(0,0,true,0,true),by simp⟩ (zv [1,2,5,6,7] (by simp[hZ,hH0,hP0,l8])) ?_;clear hZ hH0 hP0 c1 hN;rintro⟨⟨k,ga,na,gb,nb⟩,hk1⟩;simp only at hk1;simp only[iv];have hl1:(Z++cB P aO k).length<=1+k:=by
   have:=gq P aO k;rw[List.length_append];omega
  have hl2:=gq H cw k;by_cases hlt:k<c.pieces.length
  ·have hlt':(k:Int)<c.pieces.length:=by omega
   have hw:=zk k;have e1:Z++cB P aO (k+1)=(Z++cB P aO k)++cm (P k) (aO k):=by rw[dc,List.append_assoc]
   have e2:=dc H cw k;obtain⟨p1,p2⟩:=hP k hlt;rw[p1] at e1;rw[p2] at e2;rw[mT] at e1 e2;have c4:=c2 k hlt;unfold jc at c4;simp only[tg,List.map_cons,List.map_nil] at c4;clear p1 p2;generalize decide ((false,false)∈W4 c t k)=f1 at *;generalize decide ((false,true)∈W4 c t k)=f2 at *;generalize decide ((true,false)∈W4 c t k)=f3 at *;generalize decide ((true,true)∈W4 c t k)=f4 at *;generalize Z++cB P aO k=L1 at *;generalize cB H cw k=L2 at *;have hs:True:=trivial;cases f1
   ·cases f3
    ·cases f2
     ·simp[cm,aO,cw] at e1 e2;have hs:=za hlt (za hlt' hw);repeat' first|(with_reducible first|refine zz ?_|refine And.intro (by omega) ?_|refine zE Lk ?_)|simp -dsimp[hs]|refine zp c4 ?_|refine i7 ?_ ?_<;>intro h<;>try exact h.elim
      all_goals try clear hs
      all_goals exact zn ⟨(k+1,ga+1,false,gb+1,false),by simp only;omega⟩ (zw [1,2,5,6,7] 4 (by first|(simp[e1,e2];done)|(have f1:=congrArg List.length e1;have g1:=congrArg (λz=>l8 (List.map j9 z)) e1;simp at f1 g1;simp[f1,g1,e1,e2])))
     ·simp[cm,aO,cw] at e1 e2;have hs:=za hlt (za hlt' hw);repeat' first|(with_reducible first|refine zz ?_|refine And.intro (by omega) ?_|refine zE Lk ?_)|simp -dsimp[hs]|refine zp c4 ?_|refine i7 ?_ ?_<;>intro h<;>try exact h.elim
      all_goals try clear hs
      all_goals exact zn ⟨(k+1,ga,na,gb+1,false),by simp only;omega⟩ (zw [1,2,5,6,7] 4 (by first|(simp[e1,e2];done)|(have f1:=congrArg List.length e1;have g1:=congrArg (λz=>l8 (List.map j9 z)) e1;simp at f1 g1;simp[f1,g1,e1,e2])))
    ·simp[cm,aO,cw] at e1 e2;have hs:=za hlt (za hlt' hw);repeat' first|(with_reducible first|refine zz ?_|refine And.intro (by omega) ?_|refine zE Lk ?_)|simp -dsimp[hs]|refine zp c4 ?_|refine i7 ?_ ?_<;>intro h<;>try exact h.elim
     all_goals try clear hs
     all_goals exact zn ⟨(k+1,ga+1,false,gb,nb),by simp only;omega⟩ (zw [1,2,5,6,7] 4 (by first|(simp[e1,e2];done)|(have f1:=congrArg List.length e1;have g1:=congrArg (λz=>l8 (List.map j9 z)) e1;simp at f1 g1;simp[f1,g1,e1,e2])))
   ·simp[cm,aO,cw] at e1 e2;have hs:=za hlt (za hlt' hw);repeat' first|(with_reducible first|refine zz ?_|refine zE Lk ?_)|simp -dsimp[hs]|refine zp c4 ?_|refine i7 ?_ ?_<;>intro h<;>try exact h.elim
    all_goals try clear hs
    all_goals exact zn ⟨(k+1,ga,na,gb,nb),by simp only;omega⟩ (zw [1,2,5,6,7] 4 (by first|(simp[e1,e2];done)|(have f1:=congrArg List.length e1;have g1:=congrArg (λz=>l8 (List.map j9 z)) e1;simp at f1 g1;simp[f1,g1,e1,e2])))
  ·obtain rfl:k=c.pieces.length:=by omega
   have hlt':¬ (c.pieces.length:Int)<c.pieces.length:=by omega
   generalize Z++cB P aO c.pieces.length=L1 at *;generalize cB H cw c.pieces.length=L2 at *;have htk1:List.take L1.length (l8 (L1.map j9))=l8 (L1.map j9):=List.take_of_length_le (by simp[l8]);by_cases hL:na=true/\L2=[]
   ·obtain⟨rfl,rfl⟩:=hL;have hs:=za hlt (za hlt' htk1);repeat' first|(with_reducible first|refine zz ?_|refine And.intro (by omega) ?_|refine zr ?_|refine zE Lk ?_)|simp -dsimp[hs]|refine i7 ?_ ?_<;>intro h<;>try exact h.elim
    all_goals try clear hs
    all_goals simp[hRES,htk1]
   ·have hap:l8 (L1.map j9)++l8 (L2.map j9)=l8 (RES.map j9):=by rw[hRES,List.map_append,L3]
    have hrl:RES.length=L1.length+L2.length:=by rw[hRES,List.length_append]
    have htk2:List.take (L1.length+L2.length) (l8 (RES.map j9))=l8 (RES.map j9):=List.take_of_length_le (by simp[l8,hrl]);clear hRES;have hs:=za hlt (za hlt' (za hL (za htk1 (za hap (za htk2 hrl)))));repeat' first|(with_reducible first|refine zz ?_|refine And.intro (by omega) ?_|refine zr ?_|refine zE Lk ?_)|simp -dsimp[hs]|refine i7 ?_ ?_<;>intro h<;>try exact h.elim
    all_goals try clear hs
    all_goals simp[hap,htk2,hrl]
 ·refine g9 (ι:={ p:Nat×Nat×Bool×Nat×Bool // p.1<=c.pieces.length }) (λp=>⟨59,[(1,n9 t),(2,.one (.ptr 0 0)),(5,.one (.vec 2 p.1.2.1 0 (Z++cB P aO p.1.1).length)),(6,.one (.vec 4 p.1.2.2.2.1 0 (cB H cw p.1.1).length)),(7,iv (p.1.1:Int))],[.row ((j4 c).map .im),.vec 2 [] 0 true,.vec 2 (l8 ((Z++cB P aO p.1.1).map j9)) p.1.2.1 p.1.2.2.1,.vec 2 [[.im (.raw (.int .u8 1)),.im (rI 0)]] 0 false,.vec 2 (l8 ((cB H cw p.1.1).map j9)) p.1.2.2.2.1 p.1.2.2.2.2]⟩) (λp=>c.pieces.length-p.1.1) ⟨(0,1,false,0,true),by simp⟩ (zv [1,2,5,6,7] (by simp[hZ,hH0,hP0,l8])) ?_;clear hZ hH0 hP0 c1 hN;rintro⟨⟨k,ga,na,gb,nb⟩,hk1⟩;simp only at hk1;simp only[iv];have hl1:(Z++cB P aO k).length<=1+k:=by
   have:=gq P aO k;rw[List.length_append];omega
  have hl2:=gq H cw k;by_cases hlt:k<c.pieces.length
  ·have hlt':(k:Int)<c.pieces.length:=by omega
   have hw:=zk k;have e1:Z++cB P aO (k+1)=(Z++cB P aO k)++cm (P k) (aO k):=by rw[dc,List.append_assoc]
   have e2:=dc H cw k;obtain⟨p1,p2⟩:=hP k hlt;rw[p1] at e1;rw[p2] at e2;rw[mT] at e1 e2;have c4:=c2 k hlt;unfold jc at c4;simp only[tg,List.map_cons,List.map_nil] at c4;clear p1 p2;generalize decide ((false,false)∈W4 c t k)=f1 at *;generalize decide ((false,true)∈W4 c t k)=f2 at *;generalize decide ((true,false)∈W4 c t k)=f3 at *;generalize decide ((true,true)∈W4 c t k)=f4 at *;generalize Z++cB P aO k=L1 at *;generalize cB H cw k=L2 at *;have hs:True:=trivial;cases f1
   ·cases f3
    ·cases f2
     ·simp[cm,aO,cw] at e1 e2;have hs:=za hlt (za hlt' hw);repeat' first|(with_reducible first|refine zz ?_|refine And.intro (by omega) ?_|refine zE Lk ?_)|simp -dsimp[hs]|refine zp c4 ?_|refine i7 ?_ ?_<;>intro h<;>try exact h.elim
      all_goals try clear hs
      all_goals exact zn ⟨(k+1,ga+1,false,gb+1,false),by simp only;omega⟩ (zw [1,2,5,6,7] 5 (by first|(simp[e1,e2];done)|(have f1:=congrArg List.length e1;have g1:=congrArg (λz=>l8 (List.map j9 z)) e1;simp at f1 g1;simp[f1,g1,e1,e2])))
     ·simp[cm,aO,cw] at e1 e2;have hs:=za hlt (za hlt' hw);repeat' first|(with_reducible first|refine zz ?_|refine And.intro (by omega) ?_|refine zE Lk ?_)|simp -dsimp[hs]|refine zp c4 ?_|refine i7 ?_ ?_<;>intro h<;>try exact h.elim
      all_goals try clear hs
      all_goals exact zn ⟨(k+1,ga,na,gb+1,false),by simp only;omega⟩ (zw [1,2,5,6,7] 5 (by first|(simp[e1,e2];done)|(have f1:=congrArg List.length e1;have g1:=congrArg (λz=>l8 (List.map j9 z)) e1;simp at f1 g1;simp[f1,g1,e1,e2])))
    ·simp[cm,aO,cw] at e1 e2;have hs:=za hlt (za hlt' hw);repeat' first|(with_reducible first|refine zz ?_|refine And.intro (by omega) ?_|refine zE Lk ?_)|simp -dsimp[hs]|refine zp c4 ?_|refine i7 ?_ ?_<;>intro h<;>try exact h.elim
     all_goals try clear hs
     all_goals exact zn ⟨(k+1,ga+1,false,gb,nb),by simp only;omega⟩ (zw [1,2,5,6,7] 5 (by first|(simp[e1,e2];done)|(have f1:=congrArg List.length e1;have g1:=congrArg (λz=>l8 (List.map j9 z)) e1;simp at f1 g1;simp[f1,g1,e1,e2])))
   ·simp[cm,aO,cw] at e1 e2;have hs:=za hlt (za hlt' hw);repeat' first|(with_reducible first|refine zz ?_|refine zE Lk ?_)|simp -dsimp[hs]|refine zp c4 ?_|refine i7 ?_ ?_<;>intro h<;>try exact h.elim
    all_goals try clear hs
    all_goals exact zn ⟨(k+1,ga,na,gb,nb),by simp only;omega⟩ (zw [1,2,5,6,7] 5 (by first|(simp[e1,e2];done)|(have f1:=congrArg List.length e1;have g1:=congrArg (λz=>l8 (List.map j9 z)) e1;simp at f1 g1;simp[f1,g1,e1,e2])))
  ·obtain rfl:k=c.pieces.length:=by omega
   have hlt':¬ (c.pieces.length:Int)<c.pieces.length:=by omega
   generalize Z++cB P aO c.pieces.length=L1 at *;generalize cB H cw c.pieces.length=L2 at *;have htk1:List.take L1.length (l8 (L1.map j9))=l8 (L1.map j9):=List.take_of_length_le (by simp[l8]);by_cases hL:na=true/\L2=[]
   ·obtain⟨rfl,rfl⟩:=hL;have hs:=za hlt (za hlt' htk1);repeat' first|(with_reducible first|refine zz ?_|refine And.intro (by omega) ?_|refine zr ?_|refine zE Lk ?_)|simp -dsimp[hs]|refine i7 ?_ ?_<;>intro h<;>try exact h.elim
    all_goals try clear hs
    all_goals simp[hRES,htk1]
   ·have hap:l8 (L1.map j9)++l8 (L2.map j9)=l8 (RES.map j9):=by rw[hRES,List.map_append,L3]
    have hrl:RES.length=L1.length+L2.length:=by rw[hRES,List.length_append]
    have htk2:List.take (L1.length+L2.length) (l8 (RES.map j9))=l8 (RES.map j9):=List.take_of_length_le (by simp[l8,hrl]);clear hRES;have hs:=za hlt (za hlt' (za hL (za htk1 (za hap (za htk2 hrl)))));repeat' first|(with_reducible first|refine zz ?_|refine And.intro (by omega) ?_|refine zr ?_|refine zE Lk ?_)|simp -dsimp[hs]|refine i7 ?_ ?_<;>intro h<;>try exact h.elim
    all_goals try clear hs
    all_goals simp[hap,htk2,hrl]
end Go.Proofs
namespace Go.Proofs
open Go Go.Ab Tryz
variable {G:Hn}
attribute [simp] w0 fA w5 C7 nilV Q2 ZK
@[simp] abbrev Kh:List Nat:=[0,1,2,3,5,6,7,8,9,16,21,36,44]
theorem tR (c:Case) (t:List Int) (s:Susp) (hs:iR c.pieces.length s) (he:A4 c=0) (ht:F4 (l4 (j7 c.p.n.notes)) t=true) (htl:t.length<1000) (hk:KC c):zP prog G 70 [n7 c,n9 t,Y9 s] (bv (I1 (m4 c t) s)):=by
 refine zf func70 ntmps70 ?_;try simp only[n9]
 have c1:=eS (G:=G) c t he ht htl hk;have hq:=hk.q;have c2:=λk (h:k<c.pieces.length)=>cT (G:=G) c t k h he ht htl hk;have hfl:(m4 c t).faults.length=c.pieces.length:=by simp[m4]
 have hno:∀ i,i<c.pieces.length->O4 s i∉W4 c t i->I1 (m4 c t) s=false:=λi h h2=>mU (by rw[hfl];exact h) (by rw[iC t h];exact h2);have hn2:(lC c t==decide (s.kind=1))=false->I1 (m4 c t) s=false:=λh=>by
  unfold I1;rw[show (m4 c t).notes=lC c t from rfl,h,Bool.and_false]
 have hyes:(∀ i,i<c.pieces.length->O4 s i∈W4 c t i)->(lC c t==decide (s.kind=1))=true->I1 (m4 c t) s=true:=λh h2=>by
  rw[lk λi hi=>by rw[hfl] at hi;rw[iC t hi];exact h i hi];exact h2
 generalize I1 (m4 c t) s=res at *;generalize lC c t=nb at *;obtain⟨kd,ix⟩:=s;have hkd:kd=1\/kd=2\/kd=3:=by rcases hs with h|⟨h|h,_⟩<;>simp at h<;>omega
 simp only[n7,j4,Y9,j9,rI,List.map_cons,List.map_nil] at c1 c2 ⊢;clear hs hfl;have hs:True:=trivial;have hkl:¬ (kd=1)->1<kd:=by omega
 have hcs:(nb==decide (kd=1))=false\/((nb==decide (kd=1))=true/\((kd=1/\nb=true)\/(kd=2/\nb=false)\/(kd=3/\nb=false))):=by
  rcases hkd with h|h|h<;>subst h<;>cases nb<;>simp
 rcases hcs with hn|⟨hn,hc3⟩
 ·have hr:=hn2 hn;rcases hkd with h|h|h
  all_goals
   subst h;cases nb
  all_goals first
   | (exfalso;simp at hn;done)
   | skip
  all_goals
   have hs:=trivial;repeat' first|(with_reducible first|refine zz ?_|refine zr ?_)|simp -dsimp[hs]|refine zq c1 ?_|refine zM 1 45 7 Kh ?_|with_reducible refine zE Kh ?_|refine i7 ?_ ?_<;>intro h<;>try exact h.elim
   all_goals try clear hs
  all_goals simp[hr]
 ·have hyes2:(∀ i,i<c.pieces.length->O4 ⟨kd,ix⟩ i∈W4 c t i)->res=true:=λh=>hyes h hn;clear hn2 hyes;rcases hc3 with⟨h1,h2⟩|⟨h1,h2⟩|⟨h1,h2⟩
  all_goals
   subst h2;have hat:∀ i:Nat,O4 ⟨kd,ix⟩ i=(if kd=2/\ix=i then (true,false) else if kd=3/\ix=i then (false,true) else (false,false)):=λi=>rfl;simp[h1] at hn;have hs:=h1;repeat' first|with_reducible refine zz ?_|simp -dsimp[hs]|refine zq c1 ?_|refine zM 1 45 7 Kh ?_|with_reducible refine zE Kh ?_|refine i7 ?_ ?_<;>intro h<;>try exact h.elim
   all_goals try clear hs
  all_goals
   refine g9 (ι:={ k:Nat // k<=c.pieces.length/\∀ i,i<k->O4 ⟨kd,ix⟩ i∈W4 c t i }) (λp=>⟨45,[(1,n9 t),(3,.one (.ptr 0 0)),(5,.one (.ptr 1 0)),(7,iv (p.1:Int))],[.row ((j4 c).map .im),.row [.im (.raw (.int .u8 kd)),.im (rI ix)]]⟩) (λp=>c.pieces.length-p.1) ⟨0,by simp⟩ (zv [1,3,5,7] (by simp[h1])) ?_;rintro⟨k,hk1,hall⟩;simp only[iv];by_cases hlt:k<c.pieces.length
   ·have hlt':(k:Int)<c.pieces.length:=by omega
    have hw:=zk k;have hwr1:IntKind.i64.wrap 1=1:=m9 (by omega) (by omega);have hwr2:IntKind.i64.wrap 2=2:=m9 (by omega) (by omega);have hwr3:IntKind.i64.wrap 3=3:=m9 (by omega) (by omega);have c4:=c2 k hlt;have hnk:=hno k hlt;have hst:O4 ⟨kd,ix⟩ k∈W4 c t k->∀ i,i<k+1->O4 ⟨kd,ix⟩ i∈W4 c t i:=λh i hi=>by
     by_cases e:i=k
     ·subst e;exact h
     ·exact hall i (by omega)
    have hwk:=hat k;clear hat hno hyes2;generalize O4 ⟨kd,ix⟩ k=w at *;have hst2:decide (w∈W4 c t k)=true->∀ i,i<k+1->O4 ⟨kd,ix⟩ i∈W4 c t i:=λh=>hst (of_decide_eq_true h);have hnk2:decide (w∈W4 c t k)=false->res=false:=λh=>hnk (of_decide_eq_false h);clear hst hnk;unfold jc at c4;simp only[tg,List.map_cons,List.map_nil] at c4;by_cases hix:ix=(k:Int)
    all_goals
     simp[h1,hix] at hwk;rw[hwk] at hst2 hnk2;clear hwk;generalize decide ((false,false)∈W4 c t k)=f1 at *;generalize decide ((false,true)∈W4 c t k)=f2 at *;generalize decide ((true,false)∈W4 c t k)=f3 at *;generalize decide ((true,true)∈W4 c t k)=f4 at *;have hs:True:=trivial;cases f1<;>cases f2<;>cases f3
    all_goals
     try have hr:=hnk2 rfl
     have hs:=za hlt (za hlt' (za hw (za h1 (za hix (za hwr1 (za hwr2 hwr3))))));repeat' first|(with_reducible first|refine zz ?_|refine zr ?_|refine zE Kh ?_)|simp -dsimp[hs]|refine zp c4 ?_|refine i7 ?_ ?_<;>intro h<;>try exact h.elim
     all_goals try clear hs
    all_goals first
     | exact zn ⟨k+1,by omega,hst2 rfl⟩ (zw [1,3,5,7] 2 (by simp[h1,hix]))
     | simp[hr]
   ·obtain rfl:k=c.pieces.length:=by omega
    have hlt':¬ (c.pieces.length:Int)<c.pieces.length:=by omega
    have hr:=hyes2 hall;have hs:=za hlt hlt';repeat' first|(with_reducible first|refine zz ?_|refine zr ?_|refine zE Kh ?_)|simp -dsimp[hs]|refine i7 ?_ ?_<;>intro h<;>try exact h.elim
    all_goals try clear hs
    all_goals simp[hr]
attribute [simp] w0 fA w5 C7 nilV Q2 ZK
@[simp] abbrev Lm:List Nat:=[0,1,4,5,10,14,25]
theorem mh (l:List Susp) (hl:l.length<100000):zP prog G 24 [s7 l,s7 l] (bv true):=by
 refine zf func24 ntmps24 ?_;try simp only[iv]
 simp only[s7];have hs:=trivial;repeat' first|(with_reducible first|refine zz ?_|refine zE Lm ?_)|simp -dsimp[hs]|refine i7 ?_ ?_<;>intro h<;>try exact h.elim
 refine g9 (ι:={ k:Nat // k<=l.length }) (λp=>⟨26,[(0,.one (.im (.sl (l.map j9)))),(1,.one (.im (.sl (l.map j9)))),(5,iv (p.1:Int))],[]⟩) (λp=>l.length-p.1) ⟨0,by simp⟩ (zv [0,1,5]) ?_;rintro⟨k,hk⟩;simp only[iv];by_cases hlt:k<l.length
 ·have hlt':(k:Int)<l.length:=by omega
  have hw:=zk k;generalize hx:l[k]=x at *;have hs:=za hx (za hlt (za hlt' hw));repeat' first|with_reducible refine zz ?_|simp -dsimp[hs]|refine zM 6 26 9 Lm ?_|with_reducible refine zE Lm ?_|refine i7 ?_ ?_<;>intro h<;>try exact h.elim
  all_goals exact zn ⟨k+1,by omega⟩ (zv [0,1,5])
 ·obtain rfl:k=l.length:=by omega
  have hlt':¬ (l.length:Int)<l.length:=by omega
  have hs:=za hlt hlt';repeat' first|(with_reducible first|refine zz ?_|refine zr ?_|refine zE Lm ?_)|simp -dsimp[hs]|refine i7 ?_ ?_<;>intro h<;>try exact h.elim
open Go Go.Ab
attribute [simp] w0 fA w5 C7 nilV Q2 ZK
attribute [simp] w0 fA w5 C7 nilV Q2 ZK
noncomputable def cz (c:Case) (s:Susp) (T:List (List Int)):Bool:=T.any λt=>I1 (m4 c t) s
theorem vg (c:Case) (s:Susp) {T:List (List Int)} {k:Nat} (h:k<T.length):cz c s (T.take (k+1))=(cz c s (T.take k)||I1 (m4 c T[k]) s):=by
 unfold cz;rw[List.take_succ_eq_append_getElem h,List.any_append];simp
structure TrOk (c:Case) (T:List (List Int)):Prop where
 h:∀ t∈T,F4 (l4 (j7 c.p.n.notes)) t=true/\t.length<1000
 l:T.length<=32
 p:1<=T.length
theorem BR {c:Case} (he:A4 c=0):TrOk c (E8 (l4 (j7 c.p.n.notes))):=by
 obtain⟨hp0,hcb⟩:=C1 he;obtain⟨hn0,hpb,hr0⟩:=B2 hp0;have hnk:=V3 hn0;have hO5:(l4 (j7 c.p.n.notes)).length<=5:=by rw[nB];exact hnk.2.2.2
 have hstr:=gi (cV hnk.2.2.1);have hPe:(2:Nat) ^ (l4 (j7 c.p.n.notes)).length<=2 ^ 5:=Nat.pow_le_pow_right (by omega) hO5;have h1:1<=(2:Nat) ^ (l4 (j7 c.p.n.notes)).length:=Nat.one_le_two_pow;exact⟨λt h=>⟨(lY hstr t h).1,by have:=(lY hstr t h).2;omega⟩,by rw[cC];omega,by rw[cC];omega⟩
@[simp] abbrev LK:List Nat:=[0,1,2,3,4,5,6,7,8,9,10,14,25,31,47]
theorem qE (c:Case) (hk:KC c):zP prog G 21 [n7 c] (.tup [s7 (gO c),iv (R8 c)]):=by
 refine zf func21 ntmps21 ?_;try simp only[iv]
 have c1:=eT (G:=G) c hk;have hq:=hk.q;by_cases h0:R8 c=0
 ·have c2:=Ck (G:=G) c (by omega);obtain⟨he,_⟩:=Q9 h0;obtain⟨hn0,_,_⟩:=B2 (C1 he).1;have hnk:=V3 hn0;have c3:=ie (G:=G) c.p.n hk.p.n hnk.2.2.1 hnk.2.2.2;rw[h0] at c1;obtain⟨hT1,hT2,hT3⟩:=BR he;have c4:=λs (hs:iR c.pieces.length s) t (h:t∈E8 (l4 (j7 c.p.n.notes)))=>tR (G:=G) c t s hs he (hT1 t h).1 (hT1 t h).2 hk;have hO:gO c=(cA c.pieces.length).filter λs=>cz c s (E8 (l4 (j7 c.p.n.notes))):=by
   unfold gO;rw[if_pos h0]
   congr 1
   funext s;unfold vh r8 cz;rw[List.any_map];rfl
  rw[h0,hO];have hAl:=lm c.pieces.length;have hAo:=λs (h:s∈cA c.pieces.length)=>(th h).1;clear hO hT1;generalize E8 (l4 (j7 c.p.n.notes))=T at *;generalize cA c.pieces.length=A at *;simp only[n7,j4,Y9,j9,s7,rI,l6,m7,EL,List.map_cons,List.map_nil] at c1 c2 c3 c4 ⊢;have hs:=trivial;repeat' first|with_reducible refine zz ?_|simp -dsimp[hs]|refine zp c1 ?_|refine zq c2 ?_|refine zq c3 ?_|refine zM 5 56 8 LK ?_|with_reducible refine zE LK ?_|refine i7 ?_ ?_<;>intro h<;>try exact h.elim
  all_goals try clear hs
  refine g9 (ι:={ p:Nat×Nat×Bool // p.1<=A.length }) (λp=>⟨56,[(1,.one (.ptr 0 0)),(5,.one (.vec 2 p.1.2.1 0 ((A.take p.1.1).filter λs=>cz c s T).length)),(6,.one (.im (.sl (A.map j9)))),(7,.one (.im (.sl (T.map nI)))),(8,iv (p.1.1:Int))],[.row ((j4 c).map .im),.vec 2 [] 0 true,.vec 2 (l8 (((A.take p.1.1).filter λs=>cz c s T).map j9)) p.1.2.1 p.1.2.2]⟩) (λp=>A.length-p.1.1) ⟨(0,0,true),by simp⟩ (zv [1,5,6,7,8] (by simp[l8])) ?_;rintro⟨⟨k,g,nl⟩,hk1⟩;simp only at hk1;simp only[iv];by_cases hlt:k<A.length
  ·have hlt':(k:Int)<A.length:=by omega
   have hw:=zk k;have hx0:A[k]?=some A[k]:=by simp[hlt]
   have hts:A.take (k+1)=A.take k++[A[k]]:=List.take_succ_eq_append_getElem hlt;have c5:=c4 A[k] (hAo _ (List.getElem_mem hlt));have hl1:=List.length_filter_le (λs=>cz c s T) (A.take k);rw[List.length_take] at hl1;generalize hx:A[k]=s at *;have e1:(A.take (k+1)).filter (λs=>cz c s T)=(A.take k).filter (λs=>cz c s T)++(if cz c s T=true then [s] else []):=by
    rw[hts,List.filter_append];simp[List.filter_cons]
   generalize (A.take k).filter (λs=>cz c s T)=L at *;have hs:=za hx (za hx0 (za hlt hlt'));repeat' first|(with_reducible first|refine zz ?_|refine zE LK ?_)|simp -dsimp[hs]|refine i7 ?_ ?_<;>intro h<;>try exact h.elim
   all_goals try clear hs
   refine g9 (ι:={ j:Nat // j<=T.length }) (λp=>⟨56,[(1,.one (.ptr 0 0)),(5,.one (.vec 2 g 0 L.length)),(6,.one (.im (.sl (A.map j9)))),(7,.one (.im (.sl (T.map nI)))),(8,iv (k:Int)),(9,bv (cz c s (T.take p.1))),(10,iv (p.1:Int))],[.row ((j4 c).map .im),.vec 2 [] 0 true,.vec 2 (l8 (L.map j9)) g nl]⟩) (λp=>T.length-p.1) ⟨0,by simp⟩ (zv [1,5,6,7,8,9,10] (by simp[cz])) ?_;rintro⟨j,hj⟩;simp only[iv,bv];by_cases hlj:j<T.length
   ·have hlj':(j:Int)<T.length:=by omega
    have hwj:=zk j;have hst:=vg c s hlj;have c6:=c5 T[j] (List.getElem_mem hlj);generalize hy:T[j]=t at *;generalize cz c s (T.take j)=b at *;generalize I1 (m4 c t) s=a at *;have hs:True:=trivial;cases b
    all_goals
     have hs:=za hx (za hx0 (za hlt (za hlt' (za hy (za hlj (za hlj' hwj))))));repeat' first|with_reducible refine zz ?_|simp -dsimp[hs]|refine zq c6 ?_|refine zM 13 56 14 LK ?_|with_reducible refine zE LK ?_|refine i7 ?_ ?_<;>intro h<;>try exact h.elim
     all_goals try clear hs
    all_goals exact zn ⟨j+1,by omega⟩ (zv [1,5,6,7,8,9,10] (by simp[hst]))
   ·obtain rfl:j=T.length:=by omega
    have hlj':¬ (T.length:Int)<T.length:=by omega
    simp only[List.take_length];have hs:True:=trivial;cases hf:cz c s T
    all_goals
     simp[hf] at e1;have hs:=za hx (za hx0 (za hlt (za hlt' (za hw (za hlj hlj')))));repeat' first|(with_reducible first|refine zz ?_|refine And.intro (by omega) ?_|refine zE LK ?_)|simp -dsimp[hs]|refine i7 ?_ ?_<;>intro h<;>try exact h.elim
     all_goals try clear hs
    ·all_goals exact zn ⟨(k+1,g,nl),by simp only;omega⟩ (zw [1,5,6,7,8] 3 (by first|(simp[e1];done)|(have f1:=congrArg List.length e1;have g1:=congrArg (λz=>l8 (List.map j9 z)) e1;simp at f1 g1;simp[f1,g1,e1])))
    ·all_goals exact zn ⟨(k+1,g+1,false),by simp only;omega⟩ (zw [1,5,6,7,8] 3 (by first|(simp[e1];done)|(have f1:=congrArg List.length e1;have g1:=congrArg (λz=>l8 (List.map j9 z)) e1;simp at f1 g1;simp[f1,g1,e1])))
  ·obtain rfl:k=A.length:=by omega
   have hlt':¬ (A.length:Int)<A.length:=by omega
   simp only[List.take_length];have hl1:=List.length_filter_le (λs=>cz c s T) A;generalize A.filter (λs=>cz c s T)=L at *;have hs:=za hlt hlt';repeat' first|(with_reducible first|refine zz ?_|refine zr ?_|refine zE LK ?_)|simp -dsimp[hs]|refine i7 ?_ ?_<;>intro h<;>try exact h.elim
   all_goals try clear hs
   all_goals simp
 ·have hO:gO c=[]:=by unfold gO;rw[if_neg h0]
  rw[hO];simp only[n7,j4,List.map_cons,List.map_nil] at c1 ⊢;have hs:=h0;repeat' first|(with_reducible first|refine zz ?_|refine zr ?_|refine zE LK ?_)|simp -dsimp[hs]|refine zp c1 ?_|refine i7 ?_ ?_<;>intro h<;>try exact h.elim
  all_goals try clear hs
@[simp] abbrev LL:List Nat:=[0,1,2,3,4,5,6,7,8,12,26,37]
theorem oE (c:Case) (hk:KC c):zP prog G 22 [n7 c] (.tup [s7 (gw c),iv (R8 c)]):=by
 refine zf func22 ntmps22 ?_;try simp only[iv]
 have c1:=eT (G:=G) c hk;have hq:=hk.q;by_cases h0:R8 c=0
 ·obtain⟨he,_⟩:=Q9 h0;obtain⟨hn0,_,_⟩:=B2 (C1 he).1;have hnk:=V3 hn0;have c3:=ie (G:=G) c.p.n hk.p.n hnk.2.2.1 hnk.2.2.2;rw[h0] at c1;obtain⟨hT1,hT2,hT3⟩:=BR he;have c4:=λt (h:t∈E8 (l4 (j7 c.p.n.notes)))=>oC (G:=G) c t he (hT1 t h).1 (hT1 t h).2 hk;have hO:gw c=jp ((E8 (l4 (j7 c.p.n.notes))).map λt=>I0 (m4 c t)):=by
   unfold gw r8;rw[if_pos h0,List.map_map];rfl
  have htm:=λt=>dT (nO hk t) (by omega);rw[h0,hO];clear hO hT1;generalize E8 (l4 (j7 c.p.n.notes))=T at *;obtain⟨f,hf⟩:∃ f:List Int->List Susp,f=λt=>I0 (m4 c t):=⟨_,rfl⟩
  have hfe:∀ t,I0 (m4 c t)=f t:=λt=>by rw[hf]
  simp only[hfe] at c4 htm ⊢;clear hfe hf;have hlp:0<T.length:=hT3;have hx0:T[0]?=some T[0]:=by simp[hlp]
  have hE:jp (T.map f)=(T.drop 1).foldl (λm t=>W3 m (f t)) (f T[0]):=by
   cases T with
   | nil=>simp at hlp
   | cons t r=>simp[jp,List.foldl_map]
  rw[hE];have c5:=c4 T[0] (List.getElem_mem hlp);generalize hxe:T[0]=t0 at *;obtain⟨RES,hRES⟩:∃ r,r=(T.drop 1).foldl (λm t=>W3 m (f t)) (f t0):=⟨_,rfl⟩
  rw[<- hRES];simp only[n7,j4,s7,l6,m7,EL,List.map_cons,List.map_nil] at c1 c3 c4 c5 ⊢;have hs:=za hx0 (za hxe hlp);repeat' first|with_reducible refine zz ?_|simp -dsimp[hs]|refine zp c1 ?_|refine zp c3 ?_|refine zq c5 ?_|refine zM 5 40 6 LL ?_|with_reducible refine zE LL ?_|refine i7 ?_ ?_<;>intro h<;>try exact h.elim
  all_goals try clear hs
  refine g9 (ι:={ p:Nat×List Susp // 1<=p.1/\p.1<=T.length/\eH p.2/\RES=(T.drop p.1).foldl (λm t=>W3 m (f t)) p.2 }) (λp=>⟨40,[(1,.one (.ptr 0 0)),(5,.one (.im (.sl (T.map nI)))),(6,.one (.im (.sl (p.1.2.map j9)))),(7,iv (p.1.1:Int))],[.row ((j4 c).map .im)]⟩) (λp=>T.length-p.1.1) ⟨(1,f t0),Nat.le_refl _,hT3,htm t0,hRES⟩ (zw [1,5,6,7] 1) ?_;rintro⟨⟨k,m⟩,hk1,hk2,hm,hE2⟩;simp only at hk1 hk2 hm hE2;simp only[iv];by_cases hlt:k<T.length
  ·have hlt':(k:Int)<T.length:=by omega
   have hw:=zk k;have hy0:T[k]?=some T[k]:=by simp[hlt]
   have c6:=c4 T[k] (List.getElem_mem hlt);rw[List.drop_eq_getElem_cons hlt,List.foldl_cons] at hE2;generalize hye:T[k]=t at *;have c7:=qB (G:=G) (f t) m (htm t) hm;have htt:=htm t;generalize f t=y at *;simp only[s7] at c7;unfold W3 at hE2;by_cases hc:lQ y m<0
   ·rw[if_pos hc] at hE2;rw[decide_eq_true hc] at c7;have hs:=za hy0 (za hye (za hlt (za hlt' hw)));repeat' first|with_reducible refine zz ?_|simp -dsimp[hs]|refine zq c6 ?_|refine zp c7 ?_|refine zM 9 40 7 LL ?_|with_reducible refine zE LL ?_|refine i7 ?_ ?_<;>intro h<;>try exact h.elim
    all_goals try clear hs
    all_goals exact zn ⟨(k+1,y),by simp only;omega,by simp only;omega,htt,by unfold W3;exact hE2⟩ (zw [1,5,6,7] 1)
   ·rw[if_neg hc] at hE2;rw[decide_eq_false hc] at c7;have hs:=za hy0 (za hye (za hlt (za hlt' hw)));repeat' first|with_reducible refine zz ?_|simp -dsimp[hs]|refine zq c6 ?_|refine zp c7 ?_|refine zM 9 40 7 LL ?_|with_reducible refine zE LL ?_|refine i7 ?_ ?_<;>intro h<;>try exact h.elim
    all_goals try clear hs
    all_goals exact zn ⟨(k+1,m),by simp only;omega,by simp only;omega,hm,by unfold W3;exact hE2⟩ (zw [1,5,6,7] 1)
  ·have hlt':¬ (k:Int)<T.length:=by omega
   rw[List.drop_eq_nil_of_le (by omega)] at hE2;have hE3:RES=m:=hE2;have hs:=za hlt hlt';repeat' first|(with_reducible first|refine zz ?_|refine zr ?_|refine zE LL ?_)|simp -dsimp[hs]|refine i7 ?_ ?_<;>intro h<;>try exact h.elim
   all_goals try clear hs
   all_goals simp[hE3]
 ·have hO:gw c=[]:=by unfold gw;rw[if_neg h0]
  rw[hO];simp only[n7,j4,List.map_cons,List.map_nil] at c1 ⊢;have hs:=h0;repeat' first|(with_reducible first|refine zz ?_|refine zr ?_|refine zE LL ?_)|simp -dsimp[hs]|refine zp c1 ?_|refine i7 ?_ ?_<;>intro h<;>try exact h.elim
  all_goals try clear hs
attribute [simp] w0 fA w5 C7 nilV Q2 ZK
theorem ui (L:List Int) (x:Int):eW (L++[x])=if L=[] then x else min (eW L) x:=by
 cases L with
 | nil=>rfl
 | cons y r=>simp[eW]
theorem uj (L:List Int) (x:Int):eY (L++[x])=if L=[] then x else max (eY L) x:=by
 cases L with
 | nil=>rfl
 | cons y r=>simp[eY]
theorem ug (F:List N8):bh F=if decide ((true,true)∈F)=true then 2 else if (decide ((false,true)∈F)||decide ((true,false)∈F))=true then 1 else 0:=by
 unfold bh;simp only[decide_eq_true_eq,Bool.or_eq_true];by_cases h1:(true,true)∈F
 ·rw[if_pos h1,if_pos h1]
 ·rw[if_neg h1,if_neg h1];by_cases h2:(true,false)∈F<;>by_cases h3:(false,true)∈F<;>simp[h2,h3]
@[simp] abbrev Li:List Nat:=[0,1,2,3,4,5,6,7,8,9,10,11,15,25,33,38,48,53,70]
@[simp] abbrev KZ:List Nat:=[1,2,3,5,6,7,8,9]
@[simp] abbrev Jr:List Nat:=[0,1,2,3,4,5,6,7,8,9,10,11,15,25,33,38,41,42,43,44,45,46,47,48,53,70]
theorem qC (c:Case) (hk:KC c):zP prog G 23 [n7 c] (.tup [B1 (iK c).1 (iK c).2,iv (R8 c)]):=by
 refine zf func23 ntmps23 ?_;try simp only[iv]
 have c1:=eT (G:=G) c hk;have hq:=hk.q;by_cases h0:R8 c=0
 ·obtain⟨he,_⟩:=Q9 h0;obtain⟨hn0,_,_⟩:=B2 (C1 he).1;have hnk:=V3 hn0;have c3:=ie (G:=G) c.p.n hk.p.n hnk.2.2.1 hnk.2.2.2;rw[h0] at c1;obtain⟨hT1,hT2,hT3⟩:=BR he;have c4:=λt (h:t∈E8 (l4 (j7 c.p.n.notes)))=>oC (G:=G) c t he (hT1 t h).1 (hT1 t h).2 hk;have c5:=λt (h:t∈E8 (l4 (j7 c.p.n.notes)))=>eS (G:=G) c t he (hT1 t h).1 (hT1 t h).2 hk;have c6:=λt (h:t∈E8 (l4 (j7 c.p.n.notes))) k (hkp:k<c.pieces.length)=>cT (G:=G) c t k hkp he (hT1 t h).1 (hT1 t h).2 hk;have hfl:=λt=>dT (nO hk t) (by omega);have hO:iK c=(eW ((E8 (l4 (j7 c.p.n.notes))).map λt=>((I0 (m4 c t)).length:Int)),eY ((E8 (l4 (j7 c.p.n.notes))).map λt=>Q3 (m4 c t))):=by
   unfold iK r8;rw[if_pos h0,List.map_map,List.map_map];rfl
  have hfa:∀ t,(m4 c t).faults.length=c.pieces.length:=λt=>by simp[m4]
  have hfk:∀ t k (h:k<c.pieces.length) (h2:k<(m4 c t).faults.length),(m4 c t).faults[k]=W4 c t k:=λt k h h2=>by simp[m4]
  rw[h0,hO];clear hO hT1;generalize E8 (l4 (j7 c.p.n.notes))=T at *;obtain⟨RES,hRES⟩:∃ r:Int×Int,r=(eW (T.map λt=>((I0 (m4 c t)).length:Int)),eY (T.map λt=>Q3 (m4 c t))):=⟨_,rfl⟩
  rw[<- hRES];obtain⟨X,hX⟩:∃ X:Nat->List Int,X=λk=>(T.take k).map λt=>((I0 (m4 c t)).length:Int):=⟨_,rfl⟩
  obtain⟨Y,hY⟩:∃ Y:Nat->List Int,Y=λk=>(T.take k).map λt=>Q3 (m4 c t):=⟨_,rfl⟩
  have hX0:X 0=[]:=by rw[hX];simp
  have hY0:Y 0=[]:=by rw[hY];simp
  have hXl:∀ k,k<=T.length->(X k=[]↔k=0):=λk h=>by rw[hX];simp;intro h2;rw[h2] at hT3;simp at hT3
  have hYl:∀ k,k<=T.length->(Y k=[]↔k=0):=λk h=>by rw[hY];simp;intro h2;rw[h2] at hT3;simp at hT3
  have hXs:∀ k (h:k<T.length),X (k+1)=X k++[((I0 (m4 c T[k])).length:Int)]:=λk h=>by rw[hX];simp only;rw[List.take_succ_eq_append_getElem h,List.map_append];rfl
  have hYs:∀ k (h:k<T.length),Y (k+1)=Y k++[Q3 (m4 c T[k])]:=λk h=>by rw[hY];simp only;rw[List.take_succ_eq_append_getElem h,List.map_append];rfl
  have hXT:RES=(eW (X T.length),eY (Y T.length)):=by rw[hRES,hX,hY];simp
  clear hX hY hRES;have hm0:eW []=0:=rfl;have hm1:eY []=0:=rfl;simp only[n7,j4,s7,l6,m7,EL,B1,List.map_cons,List.map_nil] at c1 c3 c4 c5 c6 ⊢;have hs:=trivial;repeat' first|(with_reducible first|refine zz ?_|refine zE Li ?_)|simp -dsimp[hs]|refine zp c1 ?_|refine zp c3 ?_|refine i7 ?_ ?_<;>intro h<;>try exact h.elim
  all_goals try clear hs
  refine g9 (ι:={ k:Nat // k<=T.length }) (λp=>⟨84,[(1,.one (.ptr 0 0)),(2,.one (.ptr 1 0)),(3,iv 0),(5,.one (.ptr 2 0)),(6,.one (.im (.sl (T.map nI)))),(7,iv (p.1:Int))],[.row ((j4 c).map .im),.row [.im (rI 0),.im (rI 0)],.row [.im (rI (eW (X p.1))),.im (rI (eY (Y p.1)))]]⟩) (λp=>T.length-p.1) ⟨0,by simp⟩ (zv [1,2,3,5,6,7] (by simp[hX0,hY0,hm0,hm1])) ?_;rintro⟨k,hk1⟩;simp only[iv];by_cases hlt:k<T.length
  ·have hlt':(k:Int)<T.length:=by omega
   have hw:=zk k;have hx0:T[k]?=some T[k]:=by simp[hlt]
   have e1:=hXs k hlt;have e2:=hYs k hlt;have f1:=ui (X k) ((I0 (m4 c T[k])).length:Int);have f2:=uj (Y k) (Q3 (m4 c T[k]));have g1:=hXl k hk1;have g2:=hYl k hk1;have d4:=c4 T[k] (List.getElem_mem hlt);have d5:=c5 T[k] (List.getElem_mem hlt);have d6:=c6 T[k] (List.getElem_mem hlt);generalize hx:T[k]=t at *;rw[<- e1] at f1;rw[<- e2] at f2;clear e1 e2 c4 c5 c6;have hf1:=(hfl t).2;have hma:=mq (m4 c t);have hmr:=oW (m4 c t);rw[hfa t] at hma hmr;have hsm:∀ j,j<c.pieces.length->ao (m4 c t).faults (j+1)=ao (m4 c t).faults j+bh (W4 c t j):=λj h=>by
    have h2:j<(m4 c t).faults.length:=by rw[hfa t];exact h
    rw[gU h2,hfk t j h h2]
   have hsr:=bD (m4 c t).faults;have hs0:ao (m4 c t).faults 0=0:=by simp[ao]
   have hnt:(m4 c t).notes=lC c t:=rfl;rw[hnt] at hma;generalize (m4 c t).faults=FF at *;generalize I0 (m4 c t)=fl at *;generalize Q3 (m4 c t)=M at *;generalize lC c t=nb at *;obtain⟨Z,hZ⟩:∃ Z:Int,Z=if nb=true then 1 else 0:=⟨_,rfl⟩
   have hmz:=hma Z hZ.symm;clear hma;have hZr:0<=Z/\Z<=1:=by rw[hZ];split<;>omega
   have hs:True:=trivial;cases nb
   all_goals
    simp only[Bool.false_eq_true,if_false,if_true] at hZ;have hs:=za hx (za hx0 (za hlt hlt'));repeat' first|with_reducible refine zz ?_|simp -dsimp[hs]|refine zq d5 ?_|refine zM 10 84 6 Li ?_|with_reducible refine zE Li ?_|refine i7 ?_ ?_<;>intro h<;>try exact h.elim
    all_goals try clear hs
   all_goals
    refine g9 (ι:={ q:Nat // q<=c.pieces.length }) (λq=>⟨84,[(1,.one (.ptr 0 0)),(2,.one (.ptr 1 0)),(3,iv 0),(5,.one (.ptr 2 0)),(6,.one (.im (.sl (T.map nI)))),(7,iv (k:Int)),(8,iv (Z+ao FF q.1)),(9,iv (q.1:Int))],[.row ((j4 c).map .im),.row [.im (rI 0),.im (rI 0)],.row [.im (rI (eW (X k))),.im (rI (eY (Y k)))]]⟩) (λq=>c.pieces.length-q.1) ⟨0,by simp⟩ (zv KZ (by simp[hZ,hs0])) ?_;clear hZ hs0;rintro⟨q,hq1⟩;simp only[iv];have hsq:=hsr q;by_cases hlq:q<c.pieces.length
    ·have hlq':(q:Int)<c.pieces.length:=by omega
     have hwq:=zk q;have hst:=hsm q hlq;have d7:=d6 q hlq;rw[ug] at hst;unfold jc at d7;simp only[tg,List.map_cons,List.map_nil] at d7;generalize decide ((false,false)∈W4 c t q)=b1 at *;generalize decide ((false,true)∈W4 c t q)=b2 at *;generalize decide ((true,false)∈W4 c t q)=b3 at *;generalize decide ((true,true)∈W4 c t q)=b4 at *;generalize ao FF q=S at *;have hw2:IntKind.i64.wrap (Z+S+2)=Z+S+2:=m9 (by omega) (by omega);have hw1:IntKind.i64.wrap (Z+S+1)=Z+S+1:=m9 (by omega) (by omega);have hs:True:=trivial;cases b4
     ·cases b2
      ·cases b3
       all_goals
        simp at hst;have hs:=za hx (za hx0 (za hlt (za hlt' (za hlq (za hlq' (za hwq (za hw1 hw2)))))));repeat' first|with_reducible refine zz ?_|simp -dsimp[hs]|refine zq d7 ?_|refine q8 (id:=15) (nt:=84) 8 [] Jr Li mixed rfl (by kernel_rfl) ?_|with_reducible refine zE Li ?_|refine i7 ?_ ?_<;>intro h<;>try exact h.elim
        all_goals try clear hs
       all_goals exact zn ⟨q+1,by omega⟩ (zw KZ 3 (by simp[hst,Int.add_assoc]))
      ·simp at hst;have hs:=za hx (za hx0 (za hlt (za hlt' (za hlq (za hlq' (za hwq (za hw1 hw2)))))));repeat' first|with_reducible refine zz ?_|simp -dsimp[hs]|refine zq d7 ?_|refine q8 (id:=15) (nt:=84) 8 [] Jr Li mixed rfl (by kernel_rfl) ?_|with_reducible refine zE Li ?_|refine i7 ?_ ?_<;>intro h<;>try exact h.elim
       all_goals try clear hs
       all_goals exact zn ⟨q+1,by omega⟩ (zw KZ 3 (by simp[hst,Int.add_assoc]))
     ·simp at hst;have hs:=za hx (za hx0 (za hlt (za hlt' (za hlq (za hlq' (za hwq (za hw1 hw2)))))));repeat' first|with_reducible refine zz ?_|simp -dsimp[hs]|refine zq d7 ?_|refine q8 (id:=15) (nt:=84) 8 [] Jr Li mixed rfl (by kernel_rfl) ?_|with_reducible refine zE Li ?_|refine i7 ?_ ?_<;>intro h<;>try exact h.elim
      all_goals try clear hs
      all_goals exact zn ⟨q+1,by omega⟩ (zw KZ 3 (by simp[hst,Int.add_assoc]))
    ·obtain rfl:q=c.pieces.length:=by omega
     have hlq':¬ (c.pieces.length:Int)<c.pieces.length:=by omega
     rw[hmz];by_cases hk0:k=0
     ·subst hk0;rw[if_pos (g1.2 rfl)] at f1;rw[if_pos (g2.2 rfl)] at f2;have hw1:IntKind.i64.wrap 1=1:=m9 (by omega) (by omega);have hs:=za hx (za hx0 (za hlt (za hlt' (za hlq (za hlq' (za hw hw1))))));repeat' first|with_reducible refine zz ?_|simp -dsimp[hs]|refine zq d4 ?_|refine zM 20 84 8 Li ?_|with_reducible refine zE Li ?_|refine i7 ?_ ?_<;>intro h<;>try exact h.elim
      all_goals try clear hs
      all_goals exact zn ⟨1,by omega⟩ (zw [1,2,3,5,6,7] 3 (by simp[f1,f2,hw1]))
     ·rw[if_neg λe=>hk0 (g1.1 e)] at f1;rw[if_neg λe=>hk0 (g2.1 e)] at f2;have hk0':¬ (k:Int)=0:=by omega
      have hs:=za hx (za hx0 (za hlt (za hlt' (za hlq (za hlq' (za hw (za hk0 hk0')))))));repeat' first|with_reducible refine zz ?_|simp -dsimp[hs]|refine zq d4 ?_|refine zM 20 84 8 Li ?_|with_reducible refine zE Li ?_|refine i7 ?_ ?_<;>intro h<;>try exact h.elim
      all_goals try clear hs
      all_goals exact zn ⟨k+1,by omega⟩ (zw [1,2,3,5,6,7] 3 (by simp[f1,f2]))
  ·obtain rfl:k=T.length:=by omega
   have hlt':¬ (T.length:Int)<T.length:=by omega
   have hs:=za hlt hlt';repeat' first|(with_reducible first|refine zz ?_|refine zr ?_|refine zE Li ?_)|simp -dsimp[hs]|refine i7 ?_ ?_<;>intro h<;>try exact h.elim
   all_goals try clear hs
   all_goals simp[hXT]
 ·have hO:iK c=(0,0):=by unfold iK;rw[if_neg h0]
  rw[hO];simp only[n7,j4,B1,List.map_cons,List.map_nil] at c1 ⊢;have hs:=h0;repeat' first|(with_reducible first|refine zz ?_|refine zr ?_|refine zE Li ?_)|simp -dsimp[hs]|refine zp c1 ?_|refine i7 ?_ ?_<;>intro h<;>try exact h.elim
  all_goals try clear hs
@[simp] abbrev Jv:List Nat:=[0,1,2,3,4,5,6,7,8,9,10,11,12,13,14,15,17]
theorem lS (c:Case) (hG:s9 G) (hN:N3 G) (hS:E7 G) (hU:aF G) (hR:E9 G) (hC:W6 G) (hF:kQ G) (hp:pP c.p):zP prog G 5 [n7 c] (bv true):=by
 refine zf func5 ntmps5 ?_;try simp only[iv]
 have c1:=uz (G:=G) c;cases hq:fJ c
 ·rw[hq] at c1;repeat' first|(with_reducible first|refine zz ?_|refine zx ?_|refine zE Jv ?_)|simp -dsimp|refine zp c1 ?_|refine i7 ?_ ?_<;>intro h<;>try exact h.elim
 ·obtain⟨hsk,hk⟩:=Fq hp hq;rw[hq] at c1;have c2:=wa (G:=G) c hsk;have c3:=yD (G:=G) c hG hN hS hU hR hC hF hk;have c4:=qE (G:=G) c hk;have c5:=vb (G:=G) c hG hN hS hU hR hC hF hk;have c6:=oE (G:=G) c hk;have c7:=yy (G:=G) c hG hN hS hU hR hC hF hk;have c8:=qC (G:=G) c hk;have c9:=ww (G:=G) c hsk;have h1:(gO c).length<100000:=by
   unfold gO;split
   ·have h1:=List.length_filter_le (vh c) (cA c.pieces.length);have h2:=lm c.pieces.length;have:=hk.q;omega
   ·simp
  have h2:(gw c).length<100000:=by
   unfold gw;split
   ·rename_i h0;have hdl:=dW (Q9 h0).1;have hm:∀ (L:List (List Susp)) (x:List Susp),(x.length<100000)->(∀ y∈L,y.length<100000)->(L.foldl W3 x).length<100000:=by
     intro L;induction L with
     | nil=>intro x h _;exact h
     | cons y r ih =>
       intro x h1 h2;rw[List.foldl_cons];refine ih _ ?_ λz hz=>h2 z (List.mem_cons_of_mem _ hz);unfold W3;split
       ·exact h2 y List.mem_cons_self
       ·exact h1
    have ht:∀ y∈(r8 c).map I0,y.length<100000:=λy hy=>by
     obtain⟨d,hd,rfl⟩:=List.mem_map.1 hy;exact(dT (bq hk d hd) (by have:=hk.q;omega)).2
    cases hL:(r8 c).map I0 with
    | nil=>simp[jp]
    | cons x r =>
      rw[hL] at ht;exact hm r x (ht x List.mem_cons_self) λy hy=>ht y (List.mem_cons_of_mem _ hy)
   ·simp
  have c10:=mh (G:=G) (gO c) h1;have c11:=mh (G:=G) (gw c) h2;generalize gO c=A1 at *;generalize gw c=A2 at *;generalize iK c=A3 at *;generalize R8 c=A7 at *;simp only[n7,j4,s7,B1,List.map_cons,List.map_nil] at c1 c2 c3 c4 c5 c6 c7 c8 c9 c10 c11 ⊢;repeat' first|(with_reducible first|refine zz ?_|refine zx ?_|refine zE Jv ?_)|simp -dsimp|refine zp c1 ?_|refine zp c2 ?_|refine zp c3 ?_|refine zp c4 ?_|refine zp c5 ?_|refine zp c6 ?_|refine zp c7 ?_|refine zp c8 ?_|refine zp c9 ?_|refine zp c10 ?_|refine zp c11 ?_|refine i7 ?_ ?_<;>intro h<;>try exact h.elim
end Go.Proofs
namespace Go.Ab
open Go Go.Sort
theorem RelM.grownS {G:Hn} {M:MS} {w':World} {os:Array Obj} (h:RelM G M) (hw:w'.heap=M.w.heap++os) (hio:SameIo M.w w'):RelM G { M with w:=w' }/\Ext M.objs.length M { M with w:=w' }:=by
 have hold:∀ {b:Nat},b<M.w.heap.size->w'.heap[b]?=M.w.heap[b]?:=λ{b} hb=>by rw[hw];simp[Array.getElem?_append,hb]
 have hsz:M.w.heap.size<=w'.heap.size:=by rw[hw];simp
 have he:Ext M.objs.length M { M with w:=w' }:=
  ⟨Nat.le_refl _,λb hb=>⟨⟨Nat.lt_of_lt_of_le hb.1 hsz,hb.2⟩,hold hb.1⟩,cv M,hsz,λp _ c' hc=>⟨⟨c',hc⟩,rfl⟩,
   λp _ sz es g nl hv=>⟨sz,es,g,nl,hv,Nat.le_refl _,λ_=>⟨rfl,rfl,λhn=>⟨rfl,by simp only[H3];rw[hold (h.lt p _ hv (by simp[DObj.blk,hn]))]⟩⟩⟩,λp _ ks es hm=>⟨⟨ks,es,hm⟩,rfl⟩,
   λp _ r hm=>⟨⟨r,hm⟩,rfl⟩,λp _ d hm hi=>⟨⟨d,hm,hi⟩,rfl⟩,λp _ r hm=>⟨⟨r,hm⟩,rfl⟩,hio⟩
 exact⟨⟨λo d ho=>(h.objs o d ho).ext he (λ_=>rfl) (λhb=>hold (h.lt o d ho hb)),λo d ho hb=>Nat.lt_of_lt_of_le (h.lt o d ho hb) hsz,h.inj,λg l hg=>(h.glob g l hg).mono he.ok,λb hF=>Nat.lt_of_lt_of_le (h.fl b hF) hsz,h.own⟩,he⟩
theorem nu {l:List Int} {c:Array Value} {i:Nat} (hi:i<l.length) (hc:i<c.size):(putCells (Value.int .i64) 0 l.toArray c)[i]?=some (.int .i64 l[i]):=by
 simp only[putCells,Array.getElem?_mapIdx,Array.getElem?_eq_getElem hc,Option.map_some];rw[if_pos ⟨Nat.zero_le _,by simpa using hi⟩];simp[hi]
theorem DCall.sort {P:Program} {G:Hn} {f:FuncId}
 (hS:∀ (blk cap:Nat) (zs:List Int) (w:World),Holds (Value.int .i64) w blk 0 zs.toArray->blk<w.heap.size->zs.length<4611686018427387904 ->
  Calls P f #[.slice (some ⟨blk,0,none⟩) zs.length cap] w λe w'=>e=.returned (.tuple #[])/\∃ n os,w'=grow (putRow (Value.int .i64) (Sort.ahead w n) blk 0 (zs.mergeSort λx y=>decide (x<=y)).toArray) os)
 (h0:∀ (a:Option Addr) (cap:Nat) (w:World),Calls P f #[.slice a 0 cap] w λe w'=>e=.returned (.tuple #[])/\w'=w)
 (l:List Int) (g sz:Nat) (nl:Bool) (hz:sz=1\/nl=true/\l=[]) (hl:l.length<1000000) :
 DCall P G f [.one (.vec 0 g 0 l.length)] [.vec sz (l8 (l.map Ab.encI)) g nl] (λd o=>d=.tup []/\o=[.vec sz (l8 ((l4 l).map Ab.encI)) g nl]):=by
 intro M vs hM ho hsz hr;obtain⟨v,rfl⟩:∃ v,vs=#[v]:=by
  obtain⟨vl⟩:=vs;match vl,hsz with
  | [v],_=>exact⟨v,rfl⟩
 have hv:=hr 0 _ v rfl rfl;have h1:M.objs[0]?=some (.vec sz (l8 (l.map Ab.encI)) g nl):=by rw[ho];rfl
 have hO:=hM.objs 0 _ h1;cases hv with
 | one _ _ hv =>
 cases hv with
 | vec _ _ _ _ _ _ _ hv =>
 obtain⟨_,hv⟩:=hv _ _ _ _ h1;obtain⟨hvt,hvf⟩:=hv rfl;have hnil:∀ (a:Option Addr) (cap:Nat),l=[]->Calls P f #[.slice a 0 cap] M.w λe w'=>∃ v d M',e=.returned v/\M'.w=w'/\RelM G M'/\RepV M' d v/\Ext 1 M M'/\d=.tup []/\M'.objs=[.vec sz (l8 ((l4 l).map Ab.encI)) g nl]:=λa cap hle=>by
  refine(h0 a cap M.w).mono λe w' ⟨he,hw⟩=>?_;subst hw;refine⟨_,.tup [],M,he,rfl,hM,.tup _ _ rfl (λj d v h=>by simp at h),(Ext.refl M).weaken (by simp[ho]),rfl,?_⟩;rw[ho,hle,show l4 []=[] from List.mergeSort_nil]
 cases nl with
 | true =>
   obtain⟨_,e,hv⟩:=hvt rfl;have e:l=[]:=List.eq_nil_of_length_eq_zero e;have:=hnil none 0 e;rw[hv];simpa using this
 | false =>
   obtain rfl:sz=1:=hz.resolve_right λh=>Bool.noConfusion h.1;obtain⟨x,cap,hv,hc,hx,hb⟩:=hvf rfl;by_cases e:l=[]
   ·have:=hnil (some ⟨M.β 0,x,none⟩) cap e;rw[hv];subst e;simpa using this
   have hlp:0<l.length:=List.length_pos_iff.2 e;have hx0:x=0:=by rcases hx with hx|hx<;>omega
   subst hx0;obtain⟨_,hO⟩:=hO;obtain⟨_,c,T,hh,hcs,hes,hrep⟩:=hO rfl;have hcl:l.length<=c.size:=by simpa[o3] using hcs
   have hcell:∀ j (hj:j<l.length),c[j]?=some (.int .i64 l[j]):=λj hj=>by
    have hjc:j<c.size:=by omega
    have:=hrep j [DC.im (.raw (.int .i64 l[j]))] 0 (.im (.raw (.int .i64 l[j]))) c[j] (by simp[l8,hj]) rfl (by simp[hjc]);have hcj:c[j]?=some c[j]:=by simp[hjc]
    generalize c[j]=y at this hcj;cases this with
    | im _ _ hi =>
      cases hi;exact hcj
   have hH:Holds (Value.int .i64) M.w (M.β 0) 0 l.toArray:=λj hj=>by
    have hj:j<l.length:=by simpa using hj
    refine⟨?_,?_⟩
    ·simp only[World.cell?,hh];simp[hcell j hj,hj]
    ·simp[World.frozen?,hh]
   have hlt:M.β 0<M.w.heap.size:=hM.lt 0 _ h1 rfl;rw[hv];refine(hS (M.β 0) cap l M.w hH hlt (by omega)).mono λe' w' ⟨he,n,os,hw⟩=>?_;have hmod:M.w.heap.modify (M.β 0) (onCells (putCells (Value.int .i64) 0 (l4 l).toArray))=M.w.heap.setIfInBounds (M.β 0) (.cells (putCells (Value.int .i64) 0 (l4 l).toArray c) T (0,0)):=by
    apply Array.ext_getElem?
    intro k;simp only[Array.getElem?_modify,Array.getElem?_setIfInBounds];by_cases hk:M.β 0=k
    ·subst hk;rw[if_pos rfl,if_pos rfl,if_pos hlt,hh];rfl
    ·simp[hk]
   have ha:(DObj.vec 1 (l8 (l.map Ab.encI)) g false).alike (.vec 1 (l8 ((l4 l).map Ab.encI)) g false):=⟨rfl,.inl ⟨rfl,rfl⟩⟩
   have hs:K7 (.cells (putCells (Value.int .i64) 0 (l4 l).toArray c) T (0,0))=K7 (.cells c T (0,0)):=by simp[K7,putCells]
   have hE:=Ext.turn (d':=.vec 1 (l8 ((l4 l).map Ab.encI)) g false) h1 rfl ha hh hs;have hR:=RelM.turn (d':=.vec 1 (l8 ((l4 l).map Ab.encI)) g false) hM h1 rfl ha hh hs (by
    refine⟨λh=>Bool.noConfusion h,λ_=>⟨by omega,putCells (Value.int .i64) 0 (l4 l).toArray c,T,by simp[MS.turn,Array.getElem?_setIfInBounds_self_of_lt hlt],by simpa[o3,T3,putCells] using hcl,λi x hx=>?_,λi x j d v hx hj hv=>?_⟩⟩
    ·simp only[l8,List.getElem?_map,Option.map_map] at hx;obtain⟨y,_,rfl⟩:=Option.map_eq_some_iff.1 hx;rfl
    ·simp only[l8,List.getElem?_map,Option.map_map] at hx;obtain⟨y,hy,rfl⟩:=Option.map_eq_some_iff.1 hx;have hil:i<(l4 l).length:=e7 hy;match j,hj with
     | 0,hj =>
       cases hj;have hic:i<c.size:=by rw[T3] at hil;omega
       rw[Nat.mul_one,Nat.add_zero,nu hil hic] at hv;have e:(l4 l)[i]'hil=y:=(List.getElem?_eq_some_iff.1 hy).2;cases hv;rw[e];exact .im _ _ (.raw _ rfl))
   have hg:=RelM.grownS (w':=w') (os:=os) hR (by rw[hw];simp only[grow,putRow,mapBlock,Sort.ahead,MS.turn];rw[show (l.mergeSort λx y=>decide (x<=y))=l4 l from rfl,hmod]) (by rw[hw];exact⟨rfl,rfl,rfl,Nat.le_add_right _ _⟩);refine⟨_,.tup [],_,he,?_,hg.1,.tup _ _ rfl (λj d v h=>by simp at h),?_,rfl,?_⟩
   ·rfl
   ·have hl1:M.objs.length=1:=by rw[ho];rfl
    have h2:=hg.2;rw[show (M.turn 0 (.cells (putCells (Value.int .i64) 0 (l4 l).toArray c) T (0,0)) (.vec 1 (l8 ((l4 l).map Ab.encI)) g false)).objs.length=1 by simp[MS.turn,ho]] at h2;rw[hl1] at hE;exact hE.trans h2
   ·simp[MS.turn,ho]
end Go.Ab
