/- Part 15 of the proofs. -/
import Derived.Test.YtlmlkkoapahmjaaGreatDoorR08
import Derived.Test.YtlmlkkoapahmjaaGreatDoorR13
import Derived.Test.YtlmlkkoapahmjaaGreatDoorR14
set_option linter.all false
set_option maxHeartbeats 100000000
namespace Go.Proofs
open Go Go.Ab Tryz
variable {G:LY}
def K5 (G:LY):Prop:=G 7=some [.fn (.func 345) [],.fn (.func 346) [],.fn (.func 347) []]
def mT (c:Chains):Prop:=W4 c.reg/\c.lets.length<=80/\c.loops.length<=10/\∀ x∈c.loops,x.links.length<=12
def T7 (c:Chains):List (Int×Int):=(co c.reg c.lets c.of).foldl (λm x=>O5 x.drawing x.count m) []
def iW (D:List (Int×Int)) (B:List (Int×Issue)) (x:ChLoop):Nat->Bool
 | 0=>uD x
 | 1=>sk x
 | _=>Y6 D B [] x.links
def P4 (D:List (Int×Int)) (B:List (Int×Issue)) (x:ChLoop):Bool:=uD x&&sk x&&Y6 D B [] x.links
theorem BS {D:List (Int×Int)} {B:List (Int×Issue)} {x:ChLoop} {i:Nat} (h:iW D B x i=false):P4 D B x=false:=by
 unfold P4;match i with
 | 0=>simp only[iW] at h;simp[h]
 | 1=>simp only[iW] at h;simp[h]
 | i+2=>simp only[iW] at h;simp[h]
theorem BT {D:List (Int×Int)} {B:List (Int×Issue)} {x:ChLoop} (h:∀ i<3,iW D B x i=true):P4 D B x=true:=by
 have h0:=h 0 (by omega);have h1:=h 1 (by omega);have h2:=h 2 (by omega);simp only[iW] at h0 h1 h2;simp[P4,h0,h1,h2]
def B7 (c:Chains):Int:=if j8 c.reg≠0 then j8 c.reg else if C4 c.reg c.lets c.of≠0\/¬ (1<=c.loops.length/\c.loops.length<=6) then 60 else if c.loops.all (P4 (T7 c) (br c.reg c.lets)) then 0 else 60
def bh (c:Chains):DV:=if B7 c=0 then .one (.im (K8 c (T7 c) (br c.reg c.lets))) else .one (.im (.raw (.pointer none)))
theorem BM (c:Chains):ImV (bh c):=by unfold bh;split<;>simp[K8]
attribute [simp] BM
theorem xS (l:List Issue) (lets:List Int) (d:Int):(co l lets d).length<=l.length:=by
 unfold co;split
 ·simp only[L9,List.length_map];have:=List.length_filter_le (λn=>decide (0<n7 (nr l lets d) n)) (nums l);have:=A7 l l.length;simp only[nums] at *;omega
 ·simp
@[simp] abbrev Qe:List Nat:=[0,1,2,3,4,5,6,7,8,10,11,13,15,17,22,43,55,56,57,58,81,82,83,84,97,98,99,100,103,104,105,112]
@[simp] abbrev WI:List Nat:=[2,3,7,15,97,98,99,103,104]
theorem BV (c:Chains) (hG:p8 G) (hC:K5 G) (hs:mT c):zP prog G 234 [CU c] (.tup [bh c,iv (B7 c)]):=by
 refine zf func234 ntmps234 ?_;try simp only[CU]
 obtain⟨hsr,hsl,hso,hsk⟩:=hs;have hC':G 7=some [.fn (.func 345) [],.fn (.func 346) [],.fn (.func 347) []]:=hC;have c1:=pi c.reg hG hsr;by_cases h0:j8 c.reg=0
 ·rw[h0] at c1;have c2:=xR c.reg c.lets c.of hG hsr (by omega);have c3:=cg (G:=G) 1 6 [(c.loops.length:Int)] (by simp);by_cases hT:C4 c.reg c.lets c.of≠0\/¬ (1<=c.loops.length/\c.loops.length<=6)
  ·have hE:B7 c=60:=by unfold B7;rw[if_neg (by simp[h0]),if_pos hT]
   by_cases hT0:C4 c.reg c.lets c.of=0
   ·rw[hT0] at c2;have hr:([(c.loops.length:Int)].all λx=>decide (1<=x)&&decide (x<=6))=false:=by
     simp;omega
    rw[hr] at c3;have hs:=trivial;repeat' first|(with_reducible first|refine zz ?_|refine zr ?_|refine zE Qe ?_)|simp -dsimp[hs]|refine zp c1 ?_|refine zp c2 ?_|refine zt c3 ?_ ?_ ?_;(focus simp;done);focus (simp;done)|refine i8 ?_ ?_<;>intro h<;>try exact h.elim
    all_goals try clear hs
    all_goals simp[bh,hE]
   ·have hs:=hT0;repeat' first|(with_reducible first|refine zz ?_|refine zr ?_|refine zE Qe ?_)|simp -dsimp[hs]|refine zp c1 ?_|refine zp c2 ?_|refine i8 ?_ ?_<;>intro h<;>try exact h.elim
    all_goals try clear hs
    all_goals simp[bh,hE]
  ·have hT0:C4 c.reg c.lets c.of=0:=Classical.byContradiction λh=>hT (.inl h);have hr6:1<=c.loops.length/\c.loops.length<=6:=Classical.byContradiction λh=>hT (.inr h);have hr:([(c.loops.length:Int)].all λx=>decide (1<=x)&&decide (x<=6))=true:=by
    simp;omega
   rw[hT0] at c2;rw[hr] at c3;have hlet:A1 c.reg c.lets=true:=by
    cases h:A1 c.reg c.lets
    ·simp[C4,h0,h] at hT0
    ·rfl
   have c4:=cT c.reg hG hsr;rw[h0,show eo c.reg=nums c.reg by simp[eo,h0]] at c4;have hE:B7 c=if c.loops.all (P4 (T7 c) (br c.reg c.lets)) then 0 else 60:=by simp[B7,h0,hT0];omega
   have hs:=trivial;repeat' first|with_reducible refine zz ?_|simp -dsimp[hs]|refine zp c1 ?_|refine zp c2 ?_|refine zt c3 ?_ ?_ ?_;(focus simp;done);focus (simp;done)|refine zp c4 ?_|with_reducible refine Q7 (id:=7) (nt:=116) Qe rfl ?_;simp -dsimp[hs]|with_reducible refine zE Qe ?_|refine i8 ?_ ?_<;>intro h<;>try exact h.elim
   all_goals try clear hs
   have hnd:(nums c.reg).Nodup:=(E1 h0).1.imp λh=>Int.ne_of_lt h;have hnl:(nums c.reg).length<=c.reg.length:=A7 c.reg c.reg.length;have hll:c.lets.length=(nums c.reg).length:=by
    simp only[A1,Bool.and_eq_true,decide_eq_true_eq] at hlet;exact hlet.1
   have hreg:=hsr.1;refine i6 (ι:={ k:Nat // k<=(nums c.reg).length }) (λp=>⟨116,[(1,.one (.ptr 0 0)),(2,.one (.im (.raw (.pointer none)))),(3,iv 0),(5,.one (.im (.sl ((co c.reg c.lets c.of).map A2)))),(7,.one (.ptr 7 0)),(55,v6 (nums c.reg)),(56,iv ((nums c.reg).length:Int)),(57,iv (p.1:Int))],[.row ((R4 c).map .im),.vec 1 [[.im (rI (c.loops.length:Int))]] 0 false,.map [.int .i64] [],.map [.int .i64] (J8 (((nums c.reg).take p.1).map λd=>(d,u9 c.reg c.lets d))),.vec 0 [] 0 true,.vec 0 [] 0 true,.vec 0 [] 0 true,.row ((R4 c).map .im++[.map 2,.map 3])]⟩) (λp=>(nums c.reg).length-p.1) ⟨0,by omega⟩ (zv [1,2,3,5,7,55,56,57] (by simp[J8])) ?_;rintro⟨k,hk⟩;simp only[iv,v6];by_cases hlt:k<(nums c.reg).length
   ·have hx:(nums c.reg)[k]?=some (nums c.reg)[k]:=by simp[hlt]
    have hkl:k<c.lets.length:=by omega
    have hy:c.lets[k]?=some c.lets[k]:=by simp[hkl]
    have hw:=zk k;have c5:=Fb c.reg (nums c.reg)[k] c.lets[k] hG hsr;have hta:=vr hnd hlt hkl;rw[show atR c.reg (nums c.reg)[k] c.lets[k]=u9 c.reg c.lets (nums c.reg)[k] by rw[hta];simp[atR,h0]] at c5;have hmp:fB (nums c.reg)[k] (u9 c.reg c.lets (nums c.reg)[k]) (((nums c.reg).take k).map λd=>(d,u9 c.reg c.lets d))=(((nums c.reg).take (k+1)).map λd=>(d,u9 c.reg c.lets d)):=by
     rw[jv,List.take_succ_eq_append_getElem hlt,List.map_append,List.map_singleton];rw[List.map_map];intro hm;obtain⟨z,hz,e⟩:=List.mem_map.1 hm;simp only[Function.comp] at e;subst e;obtain⟨i,hi,e⟩:=List.mem_take_iff_getElem.1 hz;have:=(List.getElem_inj hnd).1 e;omega
    generalize u9 c.reg c.lets (nums c.reg)[k]=y at *;have hmp':fB (nums c.reg)[k] ⟨y.drawing,y.letter,y.kind,y.items,y.dims⟩ (((nums c.reg).take k).map λd=>(d,u9 c.reg c.lets d))=(((nums c.reg).take (k+1)).map λd=>(d,u9 c.reg c.lets d)):=hmp;simp only[E0] at c5;simp only[List.map_take] at hmp';have hs:=za hx (za hy (za hlt (za hkl hw)));repeat' first|with_reducible refine zz ?_|simp -dsimp[hs]|refine zq c5 ?_|refine F8 (id:=12) (nt:=116) 18 [17] [0,1,2,3,4,5,6,7,8,10,11,13,15,17,22,43,55,56,57,58,62,63,64,65,66,67,68,69,70,71,72,73,74,75,76,77,78,81,82,83,84,97,98,99,100,103,104,105,112] Qe mixed rfl (by kernel_rfl) ?_|with_reducible refine zE Qe ?_|refine i8 ?_ ?_<;>intro h<;>try exact h.elim
    all_goals try clear hs
    exact zn ⟨k+1,by omega⟩ (zw [1,2,3,5,7,55,56,57] 8 (by simp[hmp']))
   have htk:(nums c.reg).take k=nums c.reg:=List.take_of_length_le (by omega);rw[htk];change DT _ _ _ _ ⟨_,_,[_,_,_,.map _ (J8 (br c.reg c.lets)),_,_,_,_]⟩ _;have hs:=hlt;repeat' first|(with_reducible first|refine zz ?_|refine zE Qe ?_)|simp -dsimp[hs]|refine i8 ?_ ?_<;>intro h<;>try exact h.elim
   all_goals try clear hs
   have hpl:=xS c.reg c.lets c.of;have hcD:T7 c=(co c.reg c.lets c.of).foldl (λm x=>O5 x.drawing x.count m) []:=rfl;generalize co c.reg c.lets c.of=ps at *;refine i6 (ι:={ p:Nat×List (Int×Int) // p.1<=ps.length/\T7 c=(ps.drop p.1).foldl (λm x=>O5 x.drawing x.count m) p.2 }) (λp=>⟨116,[(1,.one (.ptr 0 0)),(2,.one (.im (.raw (.pointer none)))),(3,iv 0),(7,.one (.ptr 7 0)),(81,.one (.im (.sl (ps.map A2)))),(82,iv (ps.length:Int)),(83,iv (p.1.1:Int))],[.row ((R4 c).map .im),.vec 1 [[.im (rI (c.loops.length:Int))]] 0 false,.map [.int .i64] (O7 p.1.2),.map [.int .i64] (J8 (br c.reg c.lets)),.vec 0 [] 0 true,.vec 0 [] 0 true,.vec 0 [] 0 true,.row ((R4 c).map .im++[.map 2,.map 3])]⟩) (λp=>ps.length-p.1.1) ⟨(0,[]),by simp[hcD]⟩ (zv [1,2,3,7,81,82,83] (by simp[O7])) ?_;rintro⟨⟨u,D⟩,hu,hD⟩;simp only at hu hD;simp only[iv];by_cases hlu:u<ps.length
   ·have hx:ps[u]?=some ps[u]:=by simp[hlu]
    have hw:=zk u;rw[List.drop_eq_getElem_cons hlu,List.foldl_cons] at hD;have hs:=za hx (za hlu hw);repeat' first|with_reducible refine zz ?_|simp -dsimp[hs]|refine zM 17 116 8 Qe ?_|with_reducible refine zE Qe ?_|refine i8 ?_ ?_<;>intro h<;>try exact h.elim
    all_goals try clear hs
    exact zn ⟨(u+1,O5 ps[u].drawing ps[u].count D),by omega,hD⟩ (zw [1,2,3,7,81,82,83] 8)
   have hDe:D=T7 c:=by rw[hD,List.drop_eq_nil_of_le (by omega)];rfl
   subst hDe;have hB:∀ n,(K3 (br c.reg c.lets) n).dims.length<1000000:=λn=>by
    rw[br,V7];split
    ·rename_i hn;obtain⟨hm,_⟩:=eJ h0 hlet hn;have:=(hsr.2 _ hm).2.2.2;omega
    ·decide
   have hs:=hlu;repeat' first|(with_reducible first|refine zz ?_|refine zE Qe ?_)|simp -dsimp[hs]|refine i8 ?_ ?_<;>intro h<;>try exact h.elim
   all_goals try clear hs
   refine i6 (ι:={ j:Nat // j<=c.loops.length/\c.loops.all (P4 (T7 c) (br c.reg c.lets))=(c.loops.drop j).all (P4 (T7 c) (br c.reg c.lets)) }) (λp=>⟨116,[(2,.one (.im (.raw (.pointer none)))),(3,iv 0),(7,.one (.im (K8 c (T7 c) (br c.reg c.lets)))),(97,.one (.im (.sl (c.loops.map I3)))),(98,iv (c.loops.length:Int)),(99,iv (p.1:Int))],[]⟩) (λp=>c.loops.length-p.1) ⟨0,by simp⟩ (zw [2,3,7,97,98,99] 0 (by simp[K8])) ?_;rintro⟨j,hj,hall⟩;simp only[iv];by_cases hlj:j<c.loops.length
   ·have hx:c.loops[j]?=some c.loops[j]:=by simp[hlj]
    have hw:=zk j;have hst:=cu hlj hall;have hln:=hsk c.loops[j] (List.getElem_mem hlj);have k1:=HA (G:=G) (K8 c (T7 c) (br c.reg c.lets)) c.loops[j];have k2:=Hz (G:=G) (K8 c (T7 c) (br c.reg c.lets)) c.loops[j];have k3:=Hy (G:=G) c (T7 c) (br c.reg c.lets) c.loops[j] (by omega) hB;have hbad:∀ i,iW (T7 c) (br c.reg c.lets) c.loops[j] i=false->B7 c=60:=λi h=>by
     rw[hE,F4 hst (by rw[BS h];exact Bool.false_ne_true)];rfl
    have hq1:iW (T7 c) (br c.reg c.lets) c.loops[j] 0=uD c.loops[j]:=rfl;have hq2:iW (T7 c) (br c.reg c.lets) c.loops[j] 1=sk c.loops[j]:=rfl;have hq3:iW (T7 c) (br c.reg c.lets) c.loops[j] 2=Y6 (T7 c) (br c.reg c.lets) [] c.loops[j].links:=rfl;rw[<- hq1] at k1;rw[<- hq2] at k2;rw[<- hq3] at k3;clear hq1 hq2 hq3;have hs:=za hx (za hlj hC');repeat' first|(with_reducible first|refine zz ?_|refine zE Qe ?_)|simp -dsimp[hs]|refine i8 ?_ ?_<;>intro h<;>try exact h.elim
    all_goals try clear hs
    refine i6 (ι:={ i:Nat // i<=3/\∀ e<i,iW (T7 c) (br c.reg c.lets) c.loops[j] e=true }) (λp=>⟨116,[(2,.one (.im (.raw (.pointer none)))),(3,iv 0),(7,.one (.im (K8 c (T7 c) (br c.reg c.lets)))),(15,.one (.ptr 1 0)),(97,.one (.im (.sl (c.loops.map I3)))),(98,iv (c.loops.length:Int)),(99,iv (j:Int)),(103,.agg [.im (.fn (.func 345) []),.im (.fn (.func 346) []),.im (.fn (.func 347) [])]),(104,iv (p.1:Int))],[.vec 0 [] 0 true,.row ((I3 c.loops[j]).map .im)]⟩) (λp=>3-p.1) ⟨0,by simp⟩ (zv [2,3,7,15,97,98,99,103,104]) ?_;rintro⟨i,hi,hcc⟩;simp only[iv];by_cases hi3:i<3
    ·have hwc:=zk i;match i,hi3,hi,hcc,hwc with
     | 0,hi3,hi,hcc,hwc =>
       cases hq:iW (T7 c) (br c.reg c.lets) c.loops[j] 0<;>simp only[hq] at k1
       ·have h60:=hbad 0 hq;have hs:=trivial;repeat' first|(with_reducible first|refine zz ?_|refine zr ?_|refine zE Qe ?_)|simp -dsimp[hs]|refine zp k1 ?_|refine i8 ?_ ?_<;>intro h<;>try exact h.elim
        all_goals try clear hs
        all_goals simp[bh,h60]
       ·have hs:=hwc;repeat' first|(with_reducible first|refine zz ?_|refine zE Qe ?_)|simp -dsimp[hs]|refine zp k1 ?_|refine i8 ?_ ?_<;>intro h<;>try exact h.elim
        all_goals try clear hs
        exact At.round ⟨1,by omega,λi hi=>by
         rcases Nat.lt_succ_iff_lt_or_eq.1 hi with h|rfl
         ·exact hcc i h
         ·exact hq⟩ (by simp) (zw WI 2 (by simp;exact o7 (by omega) (by omega)))
     | 1,hi3,hi,hcc,hwc =>
       cases hq:iW (T7 c) (br c.reg c.lets) c.loops[j] 1<;>simp only[hq] at k2
       ·have h60:=hbad 1 hq;have hs:=trivial;repeat' first|(with_reducible first|refine zz ?_|refine zr ?_|refine zE Qe ?_)|simp -dsimp[hs]|refine zp k2 ?_|refine i8 ?_ ?_<;>intro h<;>try exact h.elim
        all_goals try clear hs
        all_goals simp[bh,h60]
       ·have hs:=hwc;repeat' first|(with_reducible first|refine zz ?_|refine zE Qe ?_)|simp -dsimp[hs]|refine zp k2 ?_|refine i8 ?_ ?_<;>intro h<;>try exact h.elim
        all_goals try clear hs
        exact At.round ⟨2,by omega,λi hi=>by
         rcases Nat.lt_succ_iff_lt_or_eq.1 hi with h|rfl
         ·exact hcc i h
         ·exact hq⟩ (by simp) (zw WI 2 (by simp;exact o7 (by omega) (by omega)))
     | 2,hi3,hi,hcc,hwc =>
       cases hq:iW (T7 c) (br c.reg c.lets) c.loops[j] 2<;>simp only[hq] at k3
       ·have h60:=hbad 2 hq;have hs:=trivial;repeat' first|(with_reducible first|refine zz ?_|refine zr ?_|refine zE Qe ?_)|simp -dsimp[hs]|refine zp k3 ?_|refine i8 ?_ ?_<;>intro h<;>try exact h.elim
        all_goals try clear hs
        all_goals simp[bh,h60]
       ·have hs:=hwc;repeat' first|(with_reducible first|refine zz ?_|refine zE Qe ?_)|simp -dsimp[hs]|refine zp k3 ?_|refine i8 ?_ ?_<;>intro h<;>try exact h.elim
        all_goals try clear hs
        exact At.round ⟨3,by omega,λi hi=>by
         rcases Nat.lt_succ_iff_lt_or_eq.1 hi with h|rfl
         ·exact hcc i h
         ·exact hq⟩ (by simp) (zw WI 2 (by simp;exact o7 (by omega) (by omega)))
    ·obtain rfl:i=3:=by omega
     have hok:=BT hcc;have hs:=hw;repeat' first|(with_reducible first|refine zz ?_|refine zE Qe ?_)|simp -dsimp[hs]|refine i8 ?_ ?_<;>intro h<;>try exact h.elim
     all_goals try clear hs
     exact zn ⟨j+1,by omega,J2 hst hok⟩ (zw [2,3,7,97,98,99] 0)
   ·have hok:c.loops.all (P4 (T7 c) (br c.reg c.lets))=true:=by rw[hall,List.drop_eq_nil_of_le (by omega)];rfl
    rw[hok] at hE;have hs:=hlj;repeat' first|(with_reducible first|refine zz ?_|refine zr ?_|refine zE Qe ?_)|simp -dsimp[hs]|refine i8 ?_ ?_<;>intro h<;>try exact h.elim
    all_goals try clear hs
    simp[bh,hE]
 ·have hE:B7 c=j8 c.reg:=by simp[B7,h0]
  have hs:=h0;repeat' first|(with_reducible first|refine zz ?_|refine zr ?_|refine zE Qe ?_)|simp -dsimp[hs]|refine zp c1 ?_|refine i8 ?_ ?_<;>intro h<;>try exact h.elim
  all_goals try clear hs
  simp[bh,hE,h0]
end Go.Proofs
namespace Go.Proofs
open Go Go.Ab
theorem Gk:Rd 82 H2 (λ_=>True):=(Opens.struct Tryz.underlying82 (by kernel_rfl) (Av (λ_=>True) (λl=>∃ n:Int,l=[rI n]) (λl=>∃ n:Int,l=[rI n]) (λl=>∃ b:Bool,l=[rB b])) (λi f hf=>by
 rcases i with _|_|_|i<;>simp at hf<;>subst hf
 ·exact oInt
 ·exact oInt
 ·exact FC)).mono (by
 rintro l ⟨ls,h1,h2,rfl⟩;obtain⟨a,b,c,rfl⟩:=Ee h1;obtain⟨x,rfl⟩:=h2 0 a rfl;obtain⟨y,rfl⟩:=h2 1 b rfl;obtain⟨z,rfl⟩:=h2 2 c rfl;exact⟨⟨x,y,z⟩,trivial,rfl⟩)
theorem GA:Opens Tryz.prog 32 (λl=>∃ xs:List Link,l=[.sl (xs.map H2)]):=
 (Opens.sliceOf Tryz.underlying32 (sz:=3) (by kernel_rfl) (by decide) (λ_=>rfl) Gk).mono (by rintro l ⟨xs,_,h⟩;exact⟨xs,h⟩)
theorem IK:Opens Tryz.prog 34 (λl=>∃ n m:Int,l=[rI n,rI m]):=(Opens.struct Tryz.underlying34 (by kernel_rfl) (λ_ l=>∃ n:Int,l=[rI n]) (λi f hf=>by
 rcases i with _|_|i<;>simp at hf<;>subst hf<;>exact oInt)).mono (by
 rintro l ⟨ls,h1,h2,rfl⟩;obtain⟨a,b,rfl⟩:=xi h1;obtain⟨x,rfl⟩:=h2 0 a rfl;obtain⟨y,rfl⟩:=h2 1 b rfl;exact⟨x,y,rfl⟩)
theorem Ah:Rd 36 I3 (λ_=>True):=(Opens.struct Tryz.underlying36 (by kernel_rfl) (Av (λ_=>True) (λl=>∃ xs:List Link,l=[.sl (xs.map H2)]) (λl=>∃ n m:Int,l=[rI n,rI m]) (λ_=>True)) (λi f hf=>by
 rcases i with _|_|i<;>simp at hf<;>subst hf
 ·exact GA
 ·exact IK)).mono (by
 rintro l ⟨ls,h1,h2,rfl⟩;obtain⟨a,b,rfl⟩:=xi h1;obtain⟨x,rfl⟩:=h2 0 a rfl;obtain⟨y,z,rfl⟩:=h2 1 b rfl;exact⟨⟨x,y,z⟩,trivial,rfl⟩)
theorem Gz:Opens Tryz.prog 162 (λl=>∃ xs:List ChLoop,l=[.sl (xs.map I3)]):=
 (Opens.sliceOf Tryz.underlying162 (sz:=3) (by kernel_rfl) (by decide) (λ_=>rfl) Ah).mono (by rintro l ⟨xs,_,h⟩;exact⟨xs,h⟩)
theorem It:Rd 164 R4 (λc=>∀ x∈c.reg,fX x):=(Opens.struct Tryz.underlying164 (by kernel_rfl) (Fz (λ_=>True) (λl=>∃ xs:List Issue,(∀ x∈xs,fX x)/\l=[.sl (xs.map e9)]) (λl=>∃ xs:List Int,l=[.sl (xs.map encI)]) (λl=>∃ n:Int,l=[rI n]) (λl=>∃ xs:List ChLoop,l=[.sl (xs.map I3)]) (λ_=>True)) (λi f hf=>by
 rcases i with _|_|_|_|i<;>simp at hf<;>subst hf
 ·exact II
 ·exact FB
 ·exact oInt
 ·exact Gz)).mono (by
 rintro l ⟨ls,h1,h2,rfl⟩;obtain⟨a,b,c,d,rfl⟩:=Jj h1;obtain⟨x,hx,rfl⟩:=h2 0 a rfl;obtain⟨y,rfl⟩:=h2 1 b rfl;obtain⟨z,rfl⟩:=h2 2 c rfl;obtain⟨u,rfl⟩:=h2 3 d rfl;exact⟨⟨x,y,z,u⟩,hx,rfl⟩)
end Go.Proofs
namespace Go.Ab
open Go
structure Note where
 number:Int
 day:Int
 signed:Int
 drawing:Int
 letter:Int
 frm:Int
 to:Int
 cancels:Int
 useUp:Bool
 ways:Int
 deriving DecidableEq
structure Notes where
 reg:List Issue
 notes:List Note
 deriving DecidableEq
def j9 (x:Note):List IC:=[rI x.number,rI x.day,.raw (.int .u8 x.signed),rI x.drawing,rI x.letter,rI x.frm,rI x.to,rI x.cancels,rB x.useUp,.raw (.int .u8 x.ways)]
def u5 (n:Notes):List IC:=[.sl (n.reg.map e9),.sl (n.notes.map j9)]
def fA (x:Note):DV:=.agg ((j9 x).map .im)
def r5 (n:Notes):DV:=.agg ((u5 n).map .im)
attribute [simp] j9 u5 fA r5
end Go.Ab
namespace Go.Proofs
open Go Go.Ab
variable {G:LY}
def GI (x:Note):Bool:=(decide (1<=x.number)&&decide (x.number<=9999))&&(decide (0<=x.day)&&decide (x.day<=14610))
theorem IV (n:Notes) (i:Nat) (x:Note) (hx:n.notes[i]?=some x):zP Tryz.prog G 325 [r5 n,iv (i:Int)] (bv (GI x)):=by
 refine zf Tryz.func325 Tryz.ntmps325 ?_;try simp only[r5,iv]
 have hi:i<n.notes.length:=e7 hx;have hxe:n.notes[i]=x:=(List.getElem?_eq_some_iff.1 hx).2;have c1:=iw (G:=G) 1 9999 [x.number] (by simp);have c2:=iw (G:=G) 0 14610 [x.day] (by simp);have hs:=za hxe hi;repeat' first|(with_reducible first|refine zz ?_|refine zr ?_|refine zE [0,1,2,4] ?_)|simp -dsimp[hs]|refine zt c1 ?_ ?_ ?_;(focus simp;done);focus (simp;done)|refine zt c2 ?_ ?_ ?_;(focus simp;done);focus (simp;done)|with_reducible refine j0 ?_ ?_<;>intro h<;>have h0:=h<;>(try simp only[i7] at h)<;>have h2:=h<;>(try simp at h2)<;>replace hs:=za h0 (za h (za h2 hs))
 all_goals try clear hs
 all_goals simp_all [GI]
 all_goals omega
def GH (x:Note):Bool:=decide (x.signed<=2)&&decide (x.ways<=3)
theorem IU (n:Notes) (i:Nat) (x:Note) (hx:n.notes[i]?=some x):zP Tryz.prog G 326 [r5 n,iv (i:Int)] (bv (GH x)):=by
 refine zf Tryz.func326 Tryz.ntmps326 ?_;try simp only[r5,iv]
 have hi:i<n.notes.length:=e7 hx;have hxe:n.notes[i]=x:=(List.getElem?_eq_some_iff.1 hx).2;have hs:=za hxe hi;repeat' first|(with_reducible first|refine zz ?_|refine zr ?_|refine zE [0,1,2,4] ?_)|simp -dsimp[hs]|with_reducible refine j0 ?_ ?_<;>intro h<;>have h0:=h<;>(try simp only[i7] at h)<;>have h2:=h<;>(try simp at h2)<;>replace hs:=za h0 (za h (za h2 hs))
 all_goals try clear hs
 all_goals (clear hx;simp_all [GH])
 all_goals omega
def FE (x:Note):Bool:=(decide (1<=x.frm)&&decide (x.frm<=999))&&(decide (1<=x.to)&&decide (x.to<=999))&&decide (x.frm<=x.to)
theorem IT (n:Notes) (i:Nat) (x:Note) (hx:n.notes[i]?=some x):zP Tryz.prog G 327 [r5 n,iv (i:Int)] (bv (FE x)):=by
 refine zf Tryz.func327 Tryz.ntmps327 ?_;try simp only[r5,iv]
 have hi:i<n.notes.length:=e7 hx;have hxe:n.notes[i]=x:=(List.getElem?_eq_some_iff.1 hx).2;have c1:=iw (G:=G) 1 999 [x.frm,x.to] (by simp);have hs:=za hxe hi;repeat' first|(with_reducible first|refine zz ?_|refine zr ?_|refine zE [0,1,2,4,5] ?_)|simp -dsimp[hs]|refine zt c1 ?_ ?_ ?_;(focus simp;done);focus (simp;done)|with_reducible refine j0 ?_ ?_<;>intro h<;>have h0:=h<;>(try simp only[i7] at h)<;>have h2:=h<;>(try simp at h2)<;>replace hs:=za h0 (za h (za h2 hs))
 all_goals try clear hs
 all_goals (clear hx c1;simp_all [FE])
 all_goals omega
end Go.Proofs
namespace Go.Proofs
open Go Go.Ab Tryz
variable {G:LY}
@[simp] abbrev Qa:List Nat:=[0,1,4,5,7,8,9,16]
theorem mf (l:List Note) (p:Note->Bool) (k:Nat) (caps:List DC) (objs:List DObj) (hok:E2 prog k) (hf:∀ x∈l,DCall prog G k (fA x :: caps.map .one) objs (λd o=>d=bv (p x)/\o=objs)) (hl:l.length<1000000):DCall prog G 336 [.one (.im (.sl (l.map j9))),.one (.fn (.func k) caps)] objs (λd o=>d=iv (J1 p l)/\o=objs):=by
 refine g9 func336 rfl ntmps336 (by simp) rfl ?_;have hs:=trivial;repeat' first|(with_reducible first|refine zz ?_|refine zE Qa ?_)|simp -dsimp[hs]
 refine i6 (ι:={ k:Nat // k<=l.length/\∀ j x,j<k->l[j]?=some x->p x=false }) (λi=>⟨19,[(0,.one (.im (.sl (l.map j9)))),(1,.one (.fn (.func k) caps)),(7,iv (l.length:Int)),(8,iv (i.1:Int))],objs⟩) (λi=>l.length-i.1) ⟨0,by simp⟩ (zv [0,1,7,8]) ?_;rintro⟨i,hi,hno⟩;simp only[iv];by_cases hlt:i<l.length
 ·have hx:l[i]?=some l[i]:=by simp[hlt]
  have hw:=zk i;have hc:=hf l[i] (by simp);simp only[fA,j9,List.map_cons,List.map_nil,bv,rI] at hc;have hs:=za hx (za hw hok);repeat' first|(with_reducible first|refine zz ?_|refine And.intro (by omega) ?_|refine zr ?_|refine zE Qa ?_)|simp -dsimp[hs]|refine CallE.here hc ?_|refine i8 ?_ ?_<;>intro h<;>try exact h.elim|with_reducible refine And.intro ?_ ?_
  all_goals try omega
  ·exact(N4 hx (by assumption) hno).symm
  ·exact At.round ⟨i+1,by omega,λj x hj hjx=>by
    by_cases e:j=i
    ·subst e;rw[hx] at hjx;cases hjx;assumption
    ·exact hno j x (by omega) hjx⟩ (by simp;omega) (zv [0,1,7,8])
 ·have hs:=trivial;repeat' first|(with_reducible first|refine zz ?_|refine zr ?_|refine zE Qa ?_)|simp -dsimp[hs]|refine i8 ?_ ?_<;>intro h<;>try exact h.elim|with_reducible refine And.intro ?_ ?_
  all_goals try omega
  exact(T5 λj x hjx=>hno j x (by have:=e7 hjx;omega) hjx).symm
theorem bj (l:List Note) (p:Note->Bool) (k:Nat) (caps:List DC) (objs:List DObj) (hok:E2 prog k) (hf:∀ x∈l,DCall prog G k (fA x :: caps.map .one) objs (λd o=>d=bv (p x)/\o=objs)) (hl:l.length<1000000):DCall prog G 331 [.one (.im (.sl (l.map j9))),.one (.fn (.func k) caps)] objs (λd o=>d=bv (l.any p)/\o=objs):=by
 refine g9 func331 rfl ntmps331 (by simp) rfl ?_;have hc:=mf l p k caps objs hok hf hl;repeat' first|(with_reducible first|refine zz ?_|refine zx ?_|refine zE [0,1,4] ?_)|simp -dsimp|refine CallE.here hc ?_|with_reducible refine And.intro ?_ ?_
 simp[B6]
def GF (x:Note):Bool:=decide (2<=x.letter) || !x.useUp&&decide (x.ways=0)
theorem IR (n:Notes) (i:Nat) (x:Note) (hx:n.notes[i]?=some x):zP prog G 329 [r5 n,iv (i:Int)] (bv (GF x)):=by
 refine zf func329 ntmps329 ?_;try simp only[r5,iv]
 have hi:i<n.notes.length:=e7 hx;have hxe:n.notes[i]=x:=(List.getElem?_eq_some_iff.1 hx).2;have hs:=za hxe hi;repeat' first|(with_reducible first|refine zz ?_|refine zr ?_|refine zE [0,1,2,4,5] ?_)|simp -dsimp[hs]|with_reducible refine j0 ?_ ?_<;>intro h<;>have h0:=h<;>(try simp only[i7] at h)<;>have h2:=h<;>(try simp at h2)<;>replace hs:=za h0 (za h (za h2 hs))
 all_goals try clear hs
 all_goals (clear hx;simp_all [GF])
 all_goals omega
theorem GE (n:Notes) (x y:Note):DCall prog G 332 (fA y :: [DC.ptr 1 0].map .one) [.row ((u5 n).map .im),.row ((j9 x).map .im)] (λd o=>d=bv (decide (y.number=x.cancels))/\o=[.row ((u5 n).map .im),.row ((j9 x).map .im)]):=by
 refine DCall.drop ?_;refine g9 func332 rfl ntmps332 (by simp) rfl ?_;simp only[fA,j9,u5,rI,rB];repeat' first|(with_reducible first|refine zz ?_|refine zx ?_|refine zE [0,1,2,3] ?_)|simp -dsimp|with_reducible refine And.intro ?_ ?_
def CS (l:List Note) (i:Nat) (x:Note):Bool:=decide (x.cancels=0)||(l.take i).any λy=>decide (y.number=x.cancels)
theorem IQ (n:Notes) (i:Nat) (x:Note) (hx:n.notes[i]?=some x) (hl:n.notes.length<1000):zP prog G 330 [r5 n,iv (i:Int)] (bv (CS n.notes i x)):=by
 refine zf func330 ntmps330 ?_;try simp only[r5,iv]
 have hi:i<n.notes.length:=e7 hx;have hxe:n.notes[i]=x:=(List.getElem?_eq_some_iff.1 hx).2;have hlt:(n.notes.take i).length<1000000:=by simp;omega
 have hil:i<=n.notes.length:=by omega
 have c1:=bj (G:=G) (n.notes.take i) (λy=>decide (y.number=x.cancels)) 332 [.ptr 1 0] [.row ((u5 n).map .im),.row ((j9 x).map .im)] (by simp) (λy _=>GE n x y) hlt;simp only[j9,u5,rI,rB,List.map_take,List.map_cons,List.map_nil] at c1;have hs:=za hxe (za hi hil);repeat' first|(with_reducible first|refine zz ?_|refine zr ?_|refine zE [0,1,2,4,5] ?_)|simp -dsimp[hs]|refine zh c1 ?_|with_reducible refine j0 ?_ ?_<;>intro h<;>have h0:=h<;>(try simp only[i7] at h)<;>have h2:=h<;>(try simp at h2)<;>replace hs:=za h0 (za h (za h2 hs))
 all_goals try clear hs
 all_goals (clear hx c1;simp_all [CS])
theorem GD (n:Notes) (i:Nat) (x y:Note) (hx:n.notes[i]?=some x):DCall prog G 334 (fA y :: [DC.ptr 0 0,DC.ptr 1 0].map .one) [.row ((u5 n).map .im),.row [.im (rI (i:Int))]] (λd o=>d=bv (decide (y.number=x.number))/\o=[.row ((u5 n).map .im),.row [.im (rI (i:Int))]]):=by
 have hi:i<n.notes.length:=e7 hx;have hxe:n.notes[i]=x:=(List.getElem?_eq_some_iff.1 hx).2;refine DCall.drop ?_;refine g9 func334 rfl ntmps334 (by simp) rfl ?_;simp only[fA,j9,u5,rI,rB];have hs:=za hxe hi;repeat' first|(with_reducible first|refine zz ?_|refine zr ?_)|simp -dsimp[hs]|refine zM 1 14 10 [0,1,2,3,4] ?_|with_reducible refine zE [0,1,2,3,4] ?_|with_reducible refine And.intro ?_ ?_
def vG (l:List Note) (i:Nat) (x:Note):Bool:=!(l.take i).any λy=>decide (y.number=x.number)
theorem IP (n:Notes) (i:Nat) (x:Note) (hx:n.notes[i]?=some x) (hl:n.notes.length<1000):zP prog G 333 [r5 n,iv (i:Int)] (bv (vG n.notes i x)):=by
 refine zf func333 ntmps333 ?_;try simp only[r5,iv]
 have hi:i<n.notes.length:=e7 hx;have hlt:(n.notes.take i).length<1000000:=by simp;omega
 have hil:i<=n.notes.length:=by omega
 have c1:=bj (G:=G) (n.notes.take i) (λy=>decide (y.number=x.number)) 334 [.ptr 0 0,.ptr 1 0] [.row ((u5 n).map .im),.row [.im (rI (i:Int))]] (by simp) (λy _=>GD n i x y hx) hlt;simp only[j9,u5,rI,rB,List.map_take,List.map_cons,List.map_nil] at c1;have hs:=za hi hil;repeat' first|(with_reducible first|refine zz ?_|refine zr ?_|refine zE [0,1,2,3,4] ?_)|simp -dsimp[hs]|refine zh c1 ?_
 all_goals try clear hs
 all_goals (clear hx c1;simp_all [vG])
def DH:List Int->Int
 | []=>0
 | x :: r=>if x=0 then DH r else x
@[simp] abbrev QM:List Nat:=[0,2,3,5,6,7,8,9,14]
theorem Ko (l:List Int) (hl:l.length<1000000):zP prog G 59 [v6 l] (iv (DH l)):=by
 refine zf func59 ntmps59 ?_;try simp only[v6]
 have hs:=trivial;repeat' first|(with_reducible first|refine zz ?_|refine zE QM ?_)|simp -dsimp[hs]
 refine i6 (ι:={ p:Nat // p<=l.length/\DH l=DH (l.drop p) }) (λp=>⟨18,[(3,iv 0),(6,.one (.im (.sl (l.map encI)))),(7,iv (l.length:Int)),(8,iv (p.1:Int))],[]⟩) (λp=>l.length-p.1) ⟨0,by simp⟩ (zv [3,6,7,8]) ?_;rintro⟨k,hk,hu⟩;simp only[iv];by_cases hlt:k<l.length
 ·have hw:=zk k;rw[List.drop_eq_getElem_cons hlt,DH] at hu;generalize hx:l[k]=x at *;have hs:=za hx (za hw hlt);repeat' first|(with_reducible first|refine zz ?_|refine zr ?_|refine zE QM ?_)|simp -dsimp[hs]|refine i8 ?_ ?_<;>intro h<;>try exact h.elim
  ·rw[hu,if_neg (by assumption)]
  ·rw[if_pos (by assumption)] at hu;exact zn ⟨k+1,by omega,hu⟩ (zv [3,6,7,8])
 ·rw[List.drop_eq_nil_of_le (by omega)] at hu;have hs:=hlt;repeat' first|(with_reducible first|refine zz ?_|refine zr ?_|refine zE QM ?_)|simp -dsimp[hs]|refine i8 ?_ ?_<;>intro h<;>try exact h.elim
  rw[hu];rfl
def Cj (y x:Note):Bool:=decide (y.day<x.day)||decide (y.day=x.day)&&decide (y.number<x.number)
def zd (l:List Note) (i:Nat) (x:Note):Bool:=if i=0 then true else match l[i-1]? with|some y=>Cj y x|none=>false
theorem Gv (y x:Note):decide (DH [fr y.day x.day,fr y.number x.number]<0)=Cj y x:=by
 unfold Cj fr DH DH DH;rw[Bool.eq_iff_iff];simp only[decide_eq_true_eq,Bool.or_eq_true,Bool.and_eq_true];repeat' split
 all_goals omega
theorem IN (n:Notes) (i:Nat) (x:Note) (hx:n.notes[i]?=some x) (hl:n.notes.length<1000):zP prog G 335 [r5 n,iv (i:Int)] (bv (zd n.notes i x)):=by
 refine zf func335 ntmps335 ?_;try simp only[r5,iv]
 have hi:i<n.notes.length:=e7 hx;have hxe:n.notes[i]=x:=(List.getElem?_eq_some_iff.1 hx).2;by_cases h00:i=0
 ·subst h00;have hs:=za hxe hi;repeat' first|(with_reducible first|refine zz ?_|refine zr ?_)|simp -dsimp[hs]|refine zM 1 40 36 [0,1,2,4] ?_|with_reducible refine zE [0,1,2,4] ?_
  all_goals simp[zd]
 ·have hi1:i-1<n.notes.length:=by omega
  have hw:IntKind.i64.wrap ((i:Int)-1)=((i-1:Nat):Int):=by rw[o7 (by omega) (by omega)];omega
  have hne:((i:Int)=0)=False:=by simp[h00]
  generalize hy:n.notes[i-1]=y;have c1:=jL (G:=G) y.day x.day;have c2:=jL (G:=G) y.number x.number;have c3:=Ko (G:=G) [fr y.day x.day,fr y.number x.number] (by simp);have hs:=za hxe (za hi (za hi1 (za hw (za hne (za hy h00)))));repeat' first|(with_reducible first|refine zz ?_|refine zr ?_)|simp -dsimp[hs]|refine zq c1 ?_|refine zq c2 ?_|refine zq c3 ?_|refine zM 1 40 36 [0,1,2,4] ?_|with_reducible refine zE [0,1,2,4] ?_
  rw[Gv,zd,if_neg h00,List.getElem?_eq_getElem hi1,hy]
def FD (l:List Issue) (x:Note):Bool:=if x.drawing=0/\x.letter=0 then decide (x.cancels≠0) else decide (CV l x.drawing x.letter=0)
theorem IS (n:Notes) (i:Nat) (x:Note) (hx:n.notes[i]?=some x) (hG:p8 G) (hs:W4 n.reg):zP prog G 328 [r5 n,iv (i:Int)] (bv (FD n.reg x)):=by
 refine zf func328 ntmps328 ?_;try simp only[r5,iv]
 have hi:i<n.notes.length:=e7 hx;have hxe:n.notes[i]=x:=(List.getElem?_eq_some_iff.1 hx).2;have c1:=Fb (G:=G) n.reg x.drawing x.letter hG hs;simp only[E0] at c1;have hs:=za hxe hi;repeat' first|(with_reducible first|refine zz ?_|refine zr ?_|refine zE [0,1,2,4,5,7,19] ?_)|simp -dsimp[hs]|refine zp c1 ?_|refine i8 ?_ ?_<;>intro h<;>try exact h.elim
 all_goals try clear hs
 ·have h1:x.drawing=0/\x.letter=0:=⟨h.1.symm,h.2.symm⟩
  rw[FD,if_pos h1];simp
 ·rw[FD,if_neg (by omega)]
theorem rG (l:List Int) (n:Int) (hl:l.length<1000000):zP prog G 150 [v6 l,iv n] (iv (J1 (λx=>decide (n=x)) l)):=by
 refine zf func150 ntmps150 ?_;try simp only[v6,iv]
 have hs:=trivial;repeat' first|(with_reducible first|refine zz ?_|refine zE Qa ?_)|simp -dsimp[hs]
 refine i6 (ι:={ k:Nat // k<=l.length/\∀ j x,j<k->l[j]?=some x->decide (n=x)=false }) (λi=>⟨19,[(0,v6 l),(1,iv n),(7,iv (l.length:Int)),(8,iv (i.1:Int))],[]⟩) (λi=>l.length-i.1) ⟨0,by simp⟩ (zv [0,1,7,8]) ?_;rintro⟨i,hi,hno⟩;simp only[iv,v6];by_cases hlt:i<l.length
 ·have hx0:l[i]?=some l[i]:=by simp[hlt]
  have hw:=zk i;generalize hx:l[i]=x at *;have hs:=za hx (za hw hlt);repeat' first|(with_reducible first|refine zz ?_|refine zr ?_|refine zE Qa ?_)|simp -dsimp[hs]|refine i8 ?_ ?_<;>intro h<;>try exact h.elim
  ·exact(N4 hx0 (by simp;assumption) hno).symm
  ·exact At.round ⟨i+1,by omega,λj y hj hjx=>by
    by_cases e:j=i
    ·subst e;rw[hx0] at hjx;cases hjx;simp;assumption
    ·exact hno j y (by omega) hjx⟩ (by simp;omega) (zv [0,1,7,8])
 ·have hs:=hlt;repeat' first|(with_reducible first|refine zz ?_|refine zr ?_|refine zE Qa ?_)|simp -dsimp[hs]|refine i8 ?_ ?_<;>intro h<;>try exact h.elim
  exact(T5 λj x hjx=>hno j x (by have:=e7 hjx;omega) hjx).symm
theorem cV (l:List Int) (n:Int) (hl:l.length<1000000):zP prog G 146 [v6 l,iv n] (bv (decide (n∈l))):=by
 refine zf func146 ntmps146 ?_;try simp only[v6,iv]
 have hc:=rG (G:=G) l n hl;repeat' first|(with_reducible first|refine zz ?_|refine zx ?_|refine zE [0,1,4] ?_)|simp -dsimp|refine zp hc ?_
 have h1:=B6 (λx=>decide (n=x)) l;rw[<- decide_eq_true_iff (p:=0<=_),h1];simp
theorem jg (n lo hi:Int):zP prog G 219 [iv n,iv lo,iv hi] (bv (decide (lo<=n)&&decide (n<=hi))):=by
 refine zf func219 ntmps219 ?_;try simp only[iv,iv,iv]
 have hs:=trivial;repeat' first|(with_reducible first|refine zz ?_|refine zr ?_|refine zE [0,1,2,6] ?_)|simp -dsimp[hs]|with_reducible refine j0 ?_ ?_<;>intro h<;>have h0:=h<;>(try simp only[i7] at h)<;>have h2:=h<;>(try simp at h2)<;>replace hs:=za h0 (za h (za h2 hs))
 all_goals try clear hs
 all_goals simp_all
end Go.Proofs
namespace Go.Proofs
open Go Go.Ab
def vF (n:Notes) (i:Nat) (x:Note):Bool:=GI x&&GH x&&FE x&&FD n.reg x&&GF x&&CS n.notes i x&&vG n.notes i x&&zd n.notes i x
def re (n:Notes) (i:Nat) (x:Note):Nat->Bool
 | 0=>GI x
 | 1=>GH x
 | 2=>FE x
 | 3=>FD n.reg x
 | 4=>GF x
 | 5=>CS n.notes i x
 | 6=>vG n.notes i x
 | _=>zd n.notes i x
theorem DM {n:Notes} {i:Nat} {x:Note} {k:Nat} (h:re n i x k=false):vF n i x=false:=by
 unfold vF;match k with
 | 0|1|2|3|4|5|6=>simp only[re] at h;simp[h]
 | k+7=>simp only[re] at h;simp[h]
theorem DN {n:Notes} {i:Nat} {x:Note} (h:∀ k<8,re n i x k=true):vF n i x=true:=by
 have h0:=h 0 (by omega);have h1:=h 1 (by omega);have h2:=h 2 (by omega);have h3:=h 3 (by omega);have h4:=h 4 (by omega);have h5:=h 5 (by omega);have h6:=h 6 (by omega);have h7:=h 7 (by omega);simp only[re] at h0 h1 h2 h3 h4 h5 h6 h7;simp[vF,h0,h1,h2,h3,h4,h5,h6,h7]
def Gg (x:Note):Bool:=(decide (1<=x.number)&&decide (x.number<=9999))&&(decide (0<=x.day)&&decide (x.day<=14610))&&decide (x.signed<=2)&&(decide (1<=x.frm)&&decide (x.frm<=x.to))&&decide (x.to<=999)&&decide (x.ways<=3)
def Gf (l:List Issue) (x:Note):Bool:=if x.drawing=0/\x.letter=0 then decide (x.cancels≠0) else (p6 l x.drawing x.letter).isSome
def Ge (x:Note):Bool:=!(decide (x.letter<2)&&(x.useUp||decide (0<x.ways)))
def mZ (n:Notes) (i:Nat) (x:Note):Bool:=Gg x&&Gf n.reg x&&Ge x&&vG n.notes i x&&CS n.notes i x&&zd n.notes i x
theorem Ad {n:Notes} {i:Nat} {x:Note} (h0:j8 n.reg=0) (hw:0<=x.ways):mZ n i x=vF n i x:=by
 have hB:Gf n.reg x=FD n.reg x:=by
  unfold Gf FD CV;rw[if_neg (show ¬ j8 n.reg≠0 by simp[h0])];split
  ·rfl
  ·cases (p6 n.reg x.drawing x.letter).isSome<;>rfl
 have hC:Ge x=GF x:=by
  unfold Ge GF;rw[Bool.eq_iff_iff];cases x.useUp<;>simp<;>omega
 have hA:Gg x=(GI x&&GH x&&FE x):=by
  unfold Gg GI GH FE;rw[Bool.eq_iff_iff];simp only[Bool.and_eq_true,decide_eq_true_eq];omega
 unfold mZ vF;rw[hA,hB,hC];generalize CS n.notes i x=a;generalize vG n.notes i x=b;cases a<;>cases b<;>simp
def l7 (l:List Note):List Int:=(l.filter λx=>decide (x.signed=1)).map (·.number)
theorem cK (l:List Note) (k:Nat) (h:k<l.length):l7 (l.take (k+1))=l7 (l.take k)++(if l[k].signed=1 then [l[k].number] else []):=by
 unfold l7;rw[List.take_succ_eq_append_getElem h,List.filter_append,List.map_append]
 congr 1
 by_cases e:l[k].signed=1<;>simp[e]
theorem aj (l:List Note):(l7 l).length<=l.length:=by
 unfold l7;rw[List.length_map];exact List.length_filter_le _ _
def mN (n:Notes):Prop:=∀ (i:Nat) (x:Note),n.notes[i]?=some x->vF n i x=true
def dR (n:Notes):Bool:=decide (n.notes.length<=12)&&(List.range n.notes.length).all (λi=>match n.notes[i]? with|some x=>vF n i x|none=>true)&&decide ((l7 n.notes).length<=5)
def v7 (n:Notes):Int:=if j8 n.reg≠0 then j8 n.reg else if dR n then 0 else 30
theorem notesB_iff {n:Notes}:dR n=true↔n.notes.length<=12/\mN n/\(l7 n.notes).length<=5:=by
 simp only[dR,Bool.and_eq_true,decide_eq_true_eq,List.all_eq_true,List.mem_range,and_assoc];refine and_congr_right λ_=>and_congr_left λ_=>⟨λh i x hx=>?_,λh i hi=>?_⟩
 ·have:=h i (List.getElem?_eq_some_iff.1 hx).1;rw[hx] at this;exact this
 ·rw[List.getElem?_eq_getElem hi];exact h i _ (List.getElem?_eq_getElem hi)
theorem tC {n:Notes} (h:mN n):(n.notes.map (·.number)).Nodup:=by
 rw[List.nodup_iff_pairwise_ne,List.pairwise_iff_getElem];intro i j hi hj hij;simp only[List.length_map] at hi hj;simp only[List.getElem_map];have h1:=h j _ (List.getElem?_eq_getElem hj);simp only[vF,Bool.and_eq_true,vG,Bool.not_eq_true',List.any_eq_false,decide_eq_true_eq] at h1;refine h1.1.2 _ (List.mem_iff_getElem.2 ⟨i,by simp;omega,?_⟩);simp
theorem jU {n:Notes} (h:mN n):(l7 n.notes).Nodup:=by
 have:=tC h;unfold l7;exact this.sublist ((List.filter_sublist).map _)
def tc (o s:List Int):Prop:=∀ (i:Nat) (v:Int),s[i]?=some v->v∈o/\∀ j u,i=j+1->s[j]?=some u->u<v
def gG (o s:List Int) (v:Int):Nat->Bool
 | 0=>decide (v∈o)
 | j+1=>decide (v∈o)&&(match s[j]? with|some u=>decide (u<v)|none=>true)
def K2 (o s:List Int):Bool:=(List.range s.length).all λi=>match s[i]? with|some v=>gG o s v i|none=>true
theorem truthB_iff {o s:List Int}:K2 o s=true↔tc o s:=by
 simp only[K2,List.all_eq_true,List.mem_range];constructor
 ·intro h i v hv;have h1:=h i (List.getElem?_eq_some_iff.1 hv).1;rw[hv] at h1;simp only at h1;cases i with
  | zero =>
    simp only[gG,decide_eq_true_eq] at h1;exact⟨h1,λj u e=>by omega⟩
  | succ i =>
    simp only[gG,decide_eq_true_eq,Bool.and_eq_true] at h1;refine⟨h1.1,λj u e hu=>?_⟩;obtain rfl:j=i:=by omega
    rw[hu] at h1;simpa using h1.2
 ·intro h i hi;rw[List.getElem?_eq_getElem hi];simp only;obtain⟨h1,h2⟩:=h i _ (List.getElem?_eq_getElem hi);cases i with
  | zero=>simpa only[gG,decide_eq_true_eq] using h1
  | succ i =>
    have hj:i<s.length:=by omega
    simp only[gG,List.getElem?_eq_getElem hj,Bool.and_eq_true,decide_eq_true_eq];exact⟨h1,h2 i _ rfl (List.getElem?_eq_getElem hj)⟩
theorem nA {o s:List Int} {i:Nat} {v:Int} (h:s[i]?=some v) (hb:v∉o\/∃ j u,i=j+1/\s[j]?=some u/\v<=u):K2 o s=false:=by
 rw[<- Bool.not_eq_true,truthB_iff];intro ht;obtain⟨h1,h2⟩:=ht i v h;rcases hb with hb|⟨j,u,e,hu,hle⟩
 ·exact hb h1
 ·have:=h2 j u e hu;omega
theorem lh {o s:List Int} (h:tc o s):K2 o s=true:=truthB_iff.2 h
def eI (o s:List Int) (k:Nat):Prop:=∀ (i:Nat) (v:Int),i<k->s[i]?=some v->v∈o/\∀ j u,i=j+1->s[j]?=some u->u<v
theorem gF {o s:List Int} {k:Nat} {v:Int} (h:eI o s k) (hv:s[k]?=some v) (ho:v∈o) (hl:∀ j u,k=j+1->s[j]?=some u->u<v):eI o s (k+1):=by
 intro i w hi hw;by_cases e:i=k
 ·subst e;rw[hv] at hw;cases hw;exact⟨ho,hl⟩
 ·exact h i w (by omega) hw
theorem qB {o s:List Int} (h:eI o s s.length):tc o s:=λi v hv=>h i v (List.getElem?_eq_some_iff.1 hv).1 hv
theorem li {o s:List Int} {k:Nat} (h:eI o s k):∀ (j i:Nat) (u v:Int),i<j->j<k->s[i]?=some u->s[j]?=some v->u<v
 | 0,_,_,_,h1,_,_,_=>by omega
 | j+1,i,u,v,h1,h2,h3,h4=>by
   have hj:j<s.length:=by have:=(List.getElem?_eq_some_iff.1 h4).1;omega
   have hw:s[j]?=some s[j]:=List.getElem?_eq_getElem hj;have h5:=(h (j+1) v h2 h4).2 j s[j] rfl hw;by_cases e:i=j
   ·subst e;rw[hw] at h3;cases h3;exact h5
   ·have:=li h j i u s[j] (by omega) (by omega) h3 hw;omega
theorem qA {o s:List Int} {k:Nat} {v:Int} (h:eI o s (k+1)) (hk:k<s.length) (hv:s[k]<v):v∉s.take (k+1):=by
 intro hm;obtain⟨i,hi,e⟩:=List.mem_take_iff_getElem.1 hm;by_cases he:i=k
 ·subst he;omega
 ·have:=li h k i s[i] s[k] (by omega) (by omega) (List.getElem?_eq_getElem _) (List.getElem?_eq_getElem _);omega
open Go Go.Ab Tryz
variable {G:LY}
def uS (n:Notes):Prop:=ko n.reg/\n.notes.length<=16
def cD (n:Notes):Bool:=open Classical in decide (ko n.reg)&&decide (n.notes.length<=16)
theorem Br (n:Notes):zP prog G 110 [r5 n] (bv (!cD n)):=by
 refine zf func110 ntmps110 ?_;try simp only[r5]
 have c1:=Ey (G:=G) n.reg;have hE:cD n=(open Classical in decide (ko n.reg)&&decide (n.notes.length<=16)):=rfl;by_cases hS:ko n.reg
 ·have c1':∀ objs,DCall prog G 167 [G8 n.reg] objs (λd objs'=>d=bv false/\objs'=objs):=λobjs=>(c1 objs).mono λd o ⟨h1,h2⟩=>⟨by rw[h1];simp[hS],h2⟩
  rw[decide_eq_true hS,Bool.true_and] at hE;repeat' first|(with_reducible first|refine zz ?_|refine zx ?_|refine zE [0,1,2] ?_)|simp -dsimp|refine zp c1' ?_
  rw[hE,<- decide_not,decide_eq_decide];omega
 ·have c1':∀ objs,DCall prog G 167 [G8 n.reg] objs (λd objs'=>d=bv true/\objs'=objs):=λobjs=>(c1 objs).mono λd o ⟨h1,h2⟩=>⟨by rw[h1];simp[hS],h2⟩
  rw[decide_eq_false hS,Bool.false_and] at hE;repeat' first|(with_reducible first|refine zz ?_|refine zx ?_|refine zE [0,1,2] ?_)|simp -dsimp|refine zp c1' ?_
  rw[hE];try rfl
@[simp] abbrev Wr:List Nat:=[0,1,2,3,4,5,20,25,38]
theorem Do (n:Notes) (hs:uS n):zP prog G 117 [r5 n,r5 n] (bv true):=by
 refine zf func117 ntmps117 ?_;try simp only[r5,r5]
 have c1:=Gc (G:=G) n.reg n.reg hs.1;simp only[decide_true] at c1;have hl:=hs.2;have hs:=trivial;repeat' first|(with_reducible first|refine zz ?_|refine zE Wr ?_)|simp -dsimp[hs]|refine zp c1 ?_|refine i8 ?_ ?_<;>intro h<;>try exact h.elim
 all_goals try clear hs
 refine i6 (ι:={ k:Nat // k<=n.notes.length }) (λp=>⟨39,[(2,.one (.ptr 0 0)),(3,.one (.ptr 1 0)),(4,bv false),(5,iv (p.1:Int))],[.row ((u5 n).map .im),.row ((u5 n).map .im)]⟩) (λp=>n.notes.length-p.1) ⟨0,by simp⟩ (zv [2,3,4,5]) ?_;rintro⟨k,hk⟩;simp only[iv,bv];by_cases hlt:k<n.notes.length
 ·have hw:=zk k;generalize hx:n.notes[k]=x;have hs:=za hx (za hlt hw);repeat' first|with_reducible refine zz ?_|simp -dsimp[hs]|refine zM 6 39 11 Wr ?_|with_reducible refine zE Wr ?_|refine i8 ?_ ?_<;>intro h<;>try exact h.elim
  all_goals try clear hs
  exact zn ⟨k+1,by omega⟩ (zv [2,3,4,5])
 ·have hs:=hlt;repeat' first|(with_reducible first|refine zz ?_|refine zr ?_|refine zE Wr ?_)|simp -dsimp[hs]|refine i8 ?_ ?_<;>intro h<;>try exact h.elim
  all_goals try clear hs
end Go.Proofs
namespace Go.Ab
open Go
def um (b:Bool):List IC:=[rB b]
def LJ (l:List Bool):DV:=.one (.im (.sl (l.map um)))
attribute [simp] um LJ
def uF (l:List Note) (b:List Bool) (d:Int):Nat->Int
 | 0=>-1
 | k+1=>if b[k]?=some true/\(l[k]?.map (·.drawing))=some d then (k:Int) else uF l b d k
theorem BX (l:List Note) (b:List Bool) (d:Int):∀ k,-1<=uF l b d k/\uF l b d k<k
 | 0=>by simp[uF]
 | k+1=>by
   have:=BX l b d k;unfold uF;split<;>omega
def pD (l:List Note) (b:List Bool) (d:Int):Int:=if uF l b d b.length<0 then 1 else match l[(uF l b d b.length).toNat]? with|some x=>x.letter|none=>0
end Go.Ab
namespace Go.Proofs
open Go Go.Ab
variable {G:LY}
end Go.Proofs
namespace Go.Proofs
open Go Go.Ab
variable {G:LY}
end Go.Proofs
namespace Go.Ab
open Go
def Bw (signed without:List Int) (m:Int) (x:Note):Bool:=(decide (x.signed=2)||decide (x.number∈signed)) && !decide (x.number∈without)&&(decide (x.frm<=m)&&decide (m<=x.to))
def ky (n:Int):List Note->List Bool->Bool
 | y :: l,b :: o=>!(b&&decide (y.cancels=n))&&ky n l o
 | _,_=>true
def Y1 (signed without:List Int) (m:Int):List Note->List Bool
 | []=>[]
 | x :: r=>(Bw signed without m x&&ky x.number r (Y1 signed without m r)) :: Y1 signed without m r
theorem dY (signed without:List Int) (m:Int):∀ l,(Y1 signed without m l).length=l.length
 | []=>rfl
 | x :: r=>by simp[Y1,dY signed without m r]
@[simp] theorem Jq (L:List Bool) (k:Nat) (v:Bool):(n3 (L.map um)).set k [DC.im (.raw (.bool v))]=n3 ((L.set k v).map um):=by
 simp only[n3,List.map_set,um,rB,List.map_cons,List.map_nil]
@[simp] theorem Jv (L:List Bool) (k:Nat) (h:k<(n3 (L.map um)).length):(n3 (L.map um))[k]=[DC.im (.raw (.bool (L[k]'(by simpa[r8] using h))))]:=by
 simp[n3]
end Go.Ab
namespace Go.Proofs
open Go Go.Ab
variable {G:LY}
end Go.Proofs
namespace Go.Proofs
open Go Go.Ab
def R2 (l:List Note) (i:Nat):Int:=((l[i]?).map (·.number)).getD 0
def qZ (l:List Note) (i:Nat):Bool:=match l[i]? with|some x=>decide (x.signed=1)|none=>false
structure OpenTo (l:List Note) (k:Nat) (S:List Nat):Prop where
 perm:S.Perm ((List.range k).filter (qZ l))
 srt:S.Pairwise λa b=>R2 l a<=R2 l b
theorem OpenTo.nil (l:List Note):OpenTo l 0 []:=⟨by simp,by simp⟩
theorem OpenTo.lt {l:List Note} {k:Nat} {S:List Nat} (h:OpenTo l k S):∀ i∈S,i<k/\qZ l i=true:=λi hi=>by
 have:=h.perm.mem_iff.1 hi;simpa using this
theorem OpenTo.len {l:List Note} {k:Nat} {S:List Nat} (h:OpenTo l k S):S.length<=k:=by
 rw[h.perm.length_eq];have:=List.length_filter_le (qZ l) (List.range k);simpa using this
theorem OpenTo.skip {l:List Note} {k:Nat} {S:List Nat} (h:OpenTo l k S) (hk:qZ l k=false):OpenTo l (k+1) S:=
 ⟨by rw[List.range_succ,List.filter_append];simpa[hk] using h.perm,h.srt⟩
theorem OpenTo.put {l:List Note} {k:Nat} {S:List Nat} (h:OpenTo l k S) (hk:qZ l k=true) (q:Nat)
 (h1:∀ i∈S.take q,R2 l i<=R2 l k) (h2:∀ i∈S.drop q,R2 l k<=R2 l i):OpenTo l (k+1) (S.take q++k :: S.drop q):=by
 constructor
 ·rw[List.range_succ,List.filter_append];simp only[List.filter_cons,hk,if_true,List.filter_nil];refine List.perm_middle.trans ?_;rw[List.take_append_drop];exact(List.perm_append_singleton k _).symm.trans (List.Perm.append_right _ h.perm)
 ·have h3:=h.srt;rw[<- List.take_append_drop q S,List.pairwise_append] at h3;obtain⟨p1,p2,p3⟩:=h3;rw[List.pairwise_append,List.pairwise_cons];refine⟨p1,⟨h2,p2⟩,λa ha b hb=>?_⟩;rcases List.mem_cons.1 hb with rfl|hb
  ·exact h1 a ha
  ·exact p3 a ha b hb
theorem OpenTo.first {l:List Note} {k:Nat} {S:List Nat} (h:OpenTo l k S) {q:Nat} (hq:q<S.length) {v:Int} (hv:R2 l S[q]<=v):∀ i∈S.take (q+1),R2 l i<=v:=λi hi=>by
 obtain⟨j,hj,e⟩:=List.mem_take_iff_getElem.1 hi;have h3:=List.pairwise_iff_getElem.1 h.srt;by_cases he:j=q
 ·subst he;rw[<- e];exact hv
 ·have:=h3 j q (by omega) hq (by omega);rw[e] at this;omega
theorem iF (l:List Note):∀ k,k<=l.length->((List.range k).filter (qZ l)).map (R2 l)=l7 (l.take k)
 | 0,_=>by simp[l7]
 | k+1,h=>by
   have hk:k<l.length:=by omega
   rw[List.range_succ,List.filter_append,List.map_append,iF l k (by omega),cK l k hk]
   congr 1
   have e:l[k]?=some l[k]:=by simp[hk]
   by_cases h1:l[k].signed=1
   ·simp[qZ,e,h1,R2]
   ·simp[qZ,e,h1]
theorem OpenTo.nums {l:List Note} {S:List Nat} (h:OpenTo l l.length S):S.map (R2 l)=l6 (l7 l):=by
 have h1:(S.map (R2 l)).Perm (l6 (l7 l)):=by
  refine(h.perm.map _).trans ?_;rw[iF l _ (Nat.le_refl _),List.take_length];exact(List.mergeSort_perm _ _).symm
 refine h1.eq_of_pairwise (le:=(·<=·)) (λa b _ _ h2 h3=>by omega) (by rw[List.pairwise_map];exact h.srt) ?_;have:=List.pairwise_mergeSort (le:=λx y:Int=>decide (x<=y)) (λa b c h1 h2=>by simp at *;omega) (λa b=>by simp;omega) (l7 l);exact this.imp λh=>by simpa using h
theorem isort_mem {l:List Int} {n:Int}:n∈l6 l↔n∈l:=(List.mergeSort_perm l _).mem_iff
theorem rE {l:List Int} (h:l.Nodup):(l6 l).Nodup:=(List.mergeSort_perm l _).nodup_iff.2 h
theorem pJ (l:List Int):(l6 l).Pairwise (·<=·):=by
 have:=List.pairwise_mergeSort (le:=λx y:Int=>decide (x<=y)) (λa b c h1 h2=>by simp at *;omega) (λa b=>by simp;omega) l;exact this.imp λh=>by simpa using h
theorem gg (signed without:List Int) (m:Int):∀ (l:List Note) (k:Nat),(Y1 signed without m l).drop k=Y1 signed without m (l.drop k)
 | _,0=>rfl
 | [],_+1=>rfl
 | x :: r,k+1=>by simp[Y1,gg signed without m r k]
theorem EI {s w:List Int} {m:Int} {l:List Note} {k:Nat} (hk:k<l.length) (hk':k<(Y1 s w m l).length):(Y1 s w m l)[k]=(Bw s w m l[k]&&ky l[k].number (l.drop (k+1)) ((Y1 s w m l).drop (k+1))):=by
 have h1:=gg s w m l k;rw[List.drop_eq_getElem_cons hk,List.drop_eq_getElem_cons hk',Y1] at h1;rw[gg];exact(List.cons.inj h1).1
theorem xK {n:Int} {l:List Note} {F:List Bool} {k:Nat} (hk:k<l.length) (hf:k<F.length):ky n (l.drop k) (F.drop k)=(!(F[k]&&decide (l[k].cancels=n))&&ky n (l.drop (k+1)) (F.drop (k+1))):=by
 rw[List.drop_eq_getElem_cons hk,List.drop_eq_getElem_cons hf,ky]
theorem Bv {n:Int} {l:List Note} {F:List Bool} {k:Nat} (hk:l.length<=k):ky n (l.drop k) (F.drop k)=true:=by
 rw[List.drop_eq_nil_of_le hk];rfl
def lQ:Note:=⟨0,0,0,0,1,0,0,0,false,0⟩
def HD (l:List Note) (b:List Bool) (d:Int):Nat->Note
 | 0=>lQ
 | k+1=>match l[k]? with
   | some x=>if b[k]?=some true/\x.drawing=d then x else HD l b d k
   | none=>lQ
theorem FM (l:List Note) (b:List Bool) (d:Int):∀ k,k<=l.length->HD l b d k=if uF l b d k<0 then lQ else match l[(uF l b d k).toNat]? with|some x=>x|none=>lQ
 | 0,_=>by simp[HD,uF]
 | k+1,h=>by
   have hk:k<l.length:=by omega
   have e:l[k]?=some l[k]:=by simp[hk]
   simp only[HD,uF,e,Option.map_some,Option.some.injEq];split
   ·rw[if_neg (by omega)];simp[e]
   ·exact FM l b d k (by omega)
open Go Go.Ab Tryz
variable {G:LY}
theorem Iq {n:Notes} {i:Nat} {x:Note} (h:¬ (1<=x.number/\x.number<=9999/\0<=x.day/\x.day<=14610/\x.signed<=2/\1<=x.frm/\x.frm<=x.to/\x.to<=999/\x.ways<=3)):mZ n i x=false:=by
 have:Gg x=false:=by
  rw[<- Bool.not_eq_true];simp only[Gg,Bool.and_eq_true,decide_eq_true_eq];omega
 simp[mZ,this]
theorem Ip {n:Notes} {i:Nat} {x:Note} {f:Bool} (hf:(p6 n.reg x.drawing x.letter).isSome=f) (h:¬ ((x.drawing=0/\x.letter=0->x.cancels≠0)/\(¬ (x.drawing=0/\x.letter=0)->f=true))):mZ n i x=false:=by
 have:Gf n.reg x=false:=by
  rw[<- Bool.not_eq_true];unfold Gf;rw[hf];split<;>simp_all
 simp[mZ,this]
theorem Io {n:Notes} {i:Nat} {x:Note} (h:x.letter<2/\(x.useUp=true\/0<x.ways)):mZ n i x=false:=by
 have:Ge x=false:=by
  obtain⟨h1,h2⟩:=h;rw[Ge,Bool.not_eq_false'];rcases h2 with h2|h2<;>simp[h1,h2]
 simp[mZ,this]
theorem In {n:Notes} {i:Nat} {x:Note} (h:vG n.notes i x=false):mZ n i x=false:=by simp[mZ,h]
theorem Im {n:Notes} {i:Nat} {x:Note} {f:Bool} (hf:(p6 n.reg x.drawing x.letter).isSome=f) (h:1<=x.number/\x.number<=9999/\0<=x.day/\x.day<=14610/\x.signed<=2/\1<=x.frm/\x.frm<=x.to/\x.to<=999/\x.ways<=3)
 (hb:(x.drawing=0/\x.letter=0->x.cancels≠0)/\(¬ (x.drawing=0/\x.letter=0)->f=true)) (hd:¬ (x.letter<2/\(x.useUp=true\/0<x.ways))) (he:vG n.notes i x=true):mZ n i x=(CS n.notes i x&&zd n.notes i x):=by
 have h1:Gg x=true:=by simp only[Gg,Bool.and_eq_true,decide_eq_true_eq];omega
 have h2:Gf n.reg x=true:=by
  unfold Gf;rw[hf];split<;>simp_all
 have h3:Ge x=true:=by
  rw[Ge,Bool.not_eq_true',<- Bool.not_eq_true];simpa using hd
 simp[mZ,h1,h2,h3,he]
def FO (l:List Note) (x:Note) (k:Nat):Bool:=decide (x.cancels=0)||(l.take k).any λy=>decide (y.number=x.cancels)
theorem Ce {l:List Note} {x:Note} {k:Nat} (hk:k<l.length):FO l x (k+1)=(FO l x k||decide (l[k].number=x.cancels)):=by
 unfold FO;rw[List.take_succ_eq_append_getElem hk,List.any_append];simp[Bool.or_assoc]
def lR (l:List Note) (x:Note) (k:Nat):Prop:=((l.take k).any λy=>decide (y.number=x.number))=false
theorem rc {l:List Note} {x:Note} {k:Nat} (hk:k<l.length) (h:lR l x k) (h2:¬ l[k].number=x.number):lR l x (k+1):=by
 unfold lR at *;rw[List.take_succ_eq_append_getElem hk,List.any_append,h];simp[h2]
theorem DO {l:List Note} {x:Note} {k i:Nat} (hki:k<i) (hk:k<l.length) (h2:l[k].number=x.number):vG l i x=false:=by
 unfold vG;rw[Bool.not_eq_false',List.any_eq_true];exact⟨l[k],List.mem_take_iff_getElem.2 ⟨k,by omega,rfl⟩,by simp[h2]⟩
@[simp] abbrev Ws:List Nat:=[0,1,2,4,5,7,8,9,10,11,49,57,60,73,85,91,103,113]
theorem DL (n:Notes) (i:Nat) (x:Note) (hx:n.notes[i]?=some x) (hl:n.notes.length<1000) (hr:n.reg.length<1000):zP prog G 231 [r5 n,iv (i:Int)] (bv (mZ n i x)):=by
 refine zf func231 ntmps231 ?_;try simp only[r5,iv]
 have hi:i<n.notes.length:=e7 hx;have hxe:n.notes[i]=x:=(List.getElem?_eq_some_iff.1 hx).2;have c1:=jg (G:=G) x.number 1 9999;have c2:=jg (G:=G) x.day 0 14610;have c3:=jg (G:=G) x.frm 1 x.to;have c4:=uh (G:=G) n.reg x.drawing x.letter (by omega);simp only[E0] at c4;generalize hf:(p6 n.reg x.drawing x.letter).isSome=f at *;have c5:∀ (h:x.drawing=0) objs,DCall prog G 137 [G8 n.reg,E0 0 x.letter] objs (λr objs'=>r=.tup [N3 ((p6 n.reg x.drawing x.letter).getD K1),bv f]/\objs'=objs):=λh=>by
  rw[h] at c4 ⊢;exact c4
 simp only[E0] at c5;have hs:=za hxe hi;repeat' first|(with_reducible first|refine zz ?_|refine zr ?_|refine zE Ws ?_)|simp -dsimp[hs]|refine zp c1 ?_|refine zp c2 ?_|refine zp c3 ?_|refine zp c4 ?_|refine zp (c5 ‹_›) ?_|refine i8 ?_ ?_<;>intro h<;>try exact h.elim|with_reducible refine j0 ?_ ?_<;>intro h<;>have h0:=h<;>(try simp only[i7] at h)<;>have h2:=h<;>(try simp at h2)<;>replace hs:=za h0 (za h (za h2 hs))
 all_goals try clear hs
 all_goals clear c1 c2 c3 c4 c5 hx
 all_goals try (refine Iq ?_;omega)
 all_goals try (refine Ip hf ?_;clear hf hxe;simp_all;done)
 all_goals try (refine Io ?_;clear hf hxe;simp_all;done)
 all_goals
  have hF:vG n.notes i x=true->mZ n i x=(CS n.notes i x&&zd n.notes i x):=by
   refine Im hf (by omega) ?_ ?_
   ·clear hxe hf;simp_all
   ·clear hxe hf;simp_all;try omega
 all_goals refine i6 (ι:={ k:Nat // k<=i/\lR n.notes x k }) (λp=>⟨143,[(1,iv (i:Int)),(2,.one (.ptr 0 0)),(5,.one (.ptr 1 0)),(8,bv (FO n.notes x p.1)),(9,iv (p.1:Int))],[.row ((u5 n).map .im),.row ((j9 x).map .im)]⟩) (λp=>i-p.1) ⟨0,by simp[lR]⟩ (zw [1,2,5,8,9] 2 (by clear hF hf hxe;simp[FO, *])) ?_
 all_goals
  rintro⟨k,hk,hno⟩;simp only[iv,bv];by_cases hlt:k<i
  ·have hlk:k<n.notes.length:=by omega
   have hw:=zk k;have hsu:=Ce (x:=x) hlk;have hn2:=rc hlk hno;have hbad:=DO (x:=x) hlt hlk;generalize hy:n.notes[k]=y at *;generalize hb:FO n.notes x k=b at *;cases b
   all_goals
    have hs:=za hxe (za hi (za hy (za hlt (za hlk hw))));repeat' first|(with_reducible first|refine zz ?_|refine zr ?_|refine zE Ws ?_)|simp -dsimp[hs]|refine i8 ?_ ?_<;>intro h<;>try exact h.elim
    all_goals try clear hs
   all_goals try (rw[show mZ n i x=false from In (hbad (by assumption))];done)
   all_goals exact zn ⟨k+1,by omega,hn2 (by assumption)⟩ (zw [1,2,5,8,9] 2 (by simp[hsu]))
  ·have e:k=i:=by omega
   subst e;have hT:=hF (by unfold vG;rw[show ((n.notes.take k).any λy=>decide (y.number=x.number))=false from hno];rfl);rw[show CS n.notes k x=FO n.notes x k from rfl] at hT;by_cases h00:k=0
   ·have hk0:(k:Int)=0:=by omega
    have hs:=za hlt hk0;repeat' first|(with_reducible first|refine zz ?_|refine zr ?_|refine zE Ws ?_)|simp -dsimp[hs]|refine i8 ?_ ?_<;>intro h<;>try exact h.elim
    all_goals try clear hs
    rw[hT,zd,if_pos h00,Bool.and_true]
   ·have hk1:k-1<n.notes.length:=by omega
    have hk0:¬ (k:Int)=0:=by omega
    have hw:IntKind.i64.wrap ((k:Int)-1)=((k-1:Nat):Int):=by rw[o7 (by omega) (by omega)];omega
    have h8:zd n.notes k x=Cj n.notes[k-1] x:=by rw[zd,if_neg h00,List.getElem?_eq_getElem hk1]
    rw[h8] at hT;generalize hy:n.notes[k-1]=y at *;generalize hb:FO n.notes x k=b at *;cases b
    all_goals
     have hs:=za hxe (za hi (za hy (za hk1 (za hw (za hk0 h00)))));repeat' first|(with_reducible first|refine zz ?_|refine zr ?_|refine zE Ws ?_)|simp -dsimp[hs]|refine i8 ?_ ?_<;>intro h<;>try exact h.elim|with_reducible refine j0 ?_ ?_<;>intro h<;>have h0:=h<;>(try simp only[i7] at h)<;>have h2:=h<;>(try simp at h2)<;>replace hs:=za h0 (za h (za h2 hs))
     all_goals try clear hs
    all_goals rw[hT]
    all_goals try (rfl;done)
    all_goals (rw[Bool.true_and,Bool.eq_iff_iff];simp only[Cj,Bool.or_eq_true,Bool.and_eq_true,decide_eq_true_eq,iff_true,iff_false,Bool.false_eq_true];omega)
def CW (n:Notes):Prop:=W4 n.reg/\n.notes.length<=16/\∀ x∈n.notes,0<=x.ways/\x.ways<=255/\0<=x.signed/\x.signed<=255
theorem lP {l:List Note} {k:Nat} (h:k<l.length):((l7 (l.take (k+1))).length:Int)=(l7 (l.take k)).length+(if l[k].signed=1 then 1 else 0):=by
 rw[cK l k h];split<;>simp
def gP (n:Notes):Bool:=decide (n.notes.length<=12)&&(List.range n.notes.length).all (λi=>match n.notes[i]? with|some x=>mZ n i x|none=>true)&&decide ((l7 n.notes).length<=5)
theorem rnotesB_iff {n:Notes}:gP n=true↔n.notes.length<=12/\(∀ (i:Nat) (x:Note),n.notes[i]?=some x->mZ n i x=true)/\(l7 n.notes).length<=5:=by
 simp only[gP,Bool.and_eq_true,decide_eq_true_eq,List.all_eq_true,List.mem_range,and_assoc];refine and_congr_right λ_=>and_congr_left λ_=>⟨λh i x hx=>?_,λh i hi=>?_⟩
 ·have:=h i (List.getElem?_eq_some_iff.1 hx).1;rw[hx] at this;exact this
 ·rw[List.getElem?_eq_getElem hi];exact h i _ (List.getElem?_eq_getElem hi)
theorem wC {n:Notes} (h0:j8 n.reg=0) (hx:∀ x∈n.notes,0<=x.ways):gP n=dR n:=by
 rw[Bool.eq_iff_iff,rnotesB_iff,notesB_iff];refine and_congr_right λ_=>and_congr_left λ_=>forall_congr' λi=>forall_congr' λx=>?_;exact⟨λh hi=>by rw[<- Ad h0 (hx x (List.mem_of_getElem? hi))];exact h hi,λh hi=>by rw[Ad h0 (hx x (List.mem_of_getElem? hi))];exact h hi⟩
@[simp] abbrev Wa:List Nat:=[0,1,2,3,4,8,13,19,26]
theorem wX (n:Notes) (hs:CW n):zP prog G 181 [r5 n] (bv (gP n)):=by
 refine zf func181 ntmps181 ?_;try simp only[r5]
 obtain⟨hsr,hsn,hsx⟩:=hs;have hr:=hsr.1;by_cases hl:n.notes.length<=12
 ·have hli:¬ (12:Int)<n.notes.length:=by omega
  have hs:=hli;repeat' first|(with_reducible first|refine zz ?_|refine zE Wa ?_)|simp -dsimp[hs]|refine i8 ?_ ?_<;>intro h<;>try exact h.elim
  all_goals try clear hs
  refine i6 (ι:={ k:Nat // k<=n.notes.length/\∀ (j:Nat) (x:Note),j<k->n.notes[j]?=some x->mZ n j x=true }) (λp=>⟨31,[(1,.one (.ptr 0 0)),(3,iv ((l7 (n.notes.take p.1)).length:Int)),(4,iv (p.1:Int))],[.row ((u5 n).map .im)]⟩) (λp=>n.notes.length-p.1) ⟨0,by simp⟩ (zv [1,3,4] (by simp[l7])) ?_;rintro⟨k,hk,hok⟩;simp only[iv];by_cases hlt:k<n.notes.length
  ·have hx0:n.notes[k]?=some n.notes[k]:=by simp[hlt]
   have hw:=zk k;have hos:=lP hlt;have hol:=aj (n.notes.take k);rw[List.length_take] at hol;have hw2:IntKind.i64.wrap (((l7 (n.notes.take k)).length:Int)+1)=((l7 (n.notes.take k)).length:Int)+1:=o7 (by omega) (by omega);have hsx':=hsx n.notes[k] (List.getElem_mem hlt);generalize hx:n.notes[k]=x at *;have c1:=DL (G:=G) n k x hx0 (by omega) (by omega);have hbad:mZ n k x=false->gP n=false:=λh=>by
    rw[<- Bool.not_eq_true];intro hb;have:=(rnotesB_iff.1 hb).2.1 k x hx0;rw[h] at this;cases this
   have hstep:mZ n k x=true->∀ (j:Nat) (z:Note),j<k+1->n.notes[j]?=some z->mZ n j z=true:=λh j z hj hz=>by
    by_cases e:j=k
    ·subst e;rw[hx0] at hz;cases hz;exact h
    ·exact hok j z (by omega) hz
   generalize mZ n k x=q at *;cases q
   ·have hs:=za hx (za hlt hw);repeat' first|(with_reducible first|refine zz ?_|refine zr ?_|refine zE Wa ?_)|simp -dsimp[hs]|refine zp c1 ?_|refine i8 ?_ ?_<;>intro h<;>try exact h.elim
    all_goals try clear hs
    exact hbad rfl
   ·have hs:=za hx (za hlt (za hw hw2));repeat' first|(with_reducible first|refine zz ?_|refine zE Wa ?_)|simp -dsimp[hs]|refine zp c1 ?_|refine i8 ?_ ?_<;>intro h<;>try exact h.elim
    all_goals try clear hs
    all_goals exact zn ⟨k+1,by omega,hstep rfl⟩ (zv [1,3,4] (by simp[hos, *]))
  ·have e:k=n.notes.length:=by omega
   subst e;rw[List.take_length];have hs:=hlt;repeat' first|(with_reducible first|refine zz ?_|refine zr ?_|refine zE Wa ?_)|simp -dsimp[hs]|refine i8 ?_ ?_<;>intro h<;>try exact h.elim
   all_goals try clear hs
   rw[Bool.eq_iff_iff,rnotesB_iff];simp only[decide_eq_true_eq];constructor
   ·intro h;exact⟨hl,λj x hx=>hok j x (e7 hx) hx,by omega⟩
   ·intro h;have:=h.2.2;omega
 ·have hli:(12:Int)<n.notes.length:=by omega
  have hs:=hli;repeat' first|(with_reducible first|refine zz ?_|refine zr ?_|refine zE Wa ?_)|simp -dsimp[hs]|refine i8 ?_ ?_<;>intro h<;>try exact h.elim
  all_goals try clear hs
  exact Bool.eq_false_iff.2 λh=>hl (rnotesB_iff.1 h).1
theorem AB (n:Notes) (hs:CW n) (h0:j8 n.reg=0) (objs:List DObj):DCall prog G 181 [r5 n] objs (λrr objs'=>rr=bv (dR n)/\objs'=objs):=by
 rw[<- wC h0 λx hx=>(hs.2.2 x hx).1];exact wX n hs objs
theorem BU (n:Notes) (hs:CW n):zP prog G 133 [r5 n] (iv (v7 n)):=by
 refine zf func133 ntmps133 ?_;try simp only[r5]
 have c1:=Aj (G:=G) n.reg hs.1;by_cases h0:j8 n.reg=0
 ·have c2:=AB (G:=G) n hs h0;have hE:v7 n=if dR n then 0 else 30:=by unfold v7;rw[if_neg (by simp[h0])]
  rw[h0] at c1;generalize dR n=q at *;cases q
  ·have hs:=trivial;repeat' first|(with_reducible first|refine zz ?_|refine zr ?_|refine zE [0,1,2,3,8,12] ?_)|simp -dsimp[hs]|refine zp c1 ?_|refine zp c2 ?_|refine i8 ?_ ?_<;>intro h<;>try exact h.elim
   all_goals try clear hs
   all_goals simp[hE]
  ·have hs:=trivial;repeat' first|(with_reducible first|refine zz ?_|refine zr ?_|refine zE [0,1,2,3,8,12] ?_)|simp -dsimp[hs]|refine zp c1 ?_|refine zp c2 ?_|refine i8 ?_ ?_<;>intro h<;>try exact h.elim
   all_goals try clear hs
   all_goals simp[hE]
 ·have hE:v7 n=j8 n.reg:=by unfold v7;rw[if_pos h0]
  have hs:=h0;repeat' first|(with_reducible first|refine zz ?_|refine zr ?_|refine zE [0,1,2,3,8,12] ?_)|simp -dsimp[hs]|refine zp c1 ?_|refine i8 ?_ ?_<;>intro h<;>try exact h.elim
  all_goals try clear hs
  all_goals simp[hE]
def E5 (G:LY):Prop:=G 5=some [.fn (.func 325) [],.fn (.func 326) [],.fn (.func 327) [],.fn (.func 328) [],.fn (.func 329) [],.fn (.func 330) [],.fn (.func 333) [],.fn (.func 335) []]
def v8 (G:LY):Prop:=∀ (l:List Int) (g sz:Nat) (nl:Bool),(sz=1\/nl=true/\l=[])->l.length<1000000->DCall prog G 148 [.one (.vec 0 g 0 l.length)] [.vec sz (n3 (l.map encI)) g nl] (λd o=>d=.tup []/\o=[.vec sz (n3 ((l6 l).map encI)) g nl])
def I1 (n:Notes):IC:=.ip [.sl (n.reg.map e9),.sl (n.notes.map j9),.sl ((nums n.reg).map encI),.sl ((l6 (l7 n.notes)).map encI)]
def dh (n:Notes):DV:=if v7 n=0 then .one (.im (I1 n)) else .one (.im (.raw (.pointer none)))
theorem BB (n:Notes):ImV (dh n):=by unfold dh;split<;>simp[I1]
attribute [simp] BB
theorem tD {n:Notes} {i:Nat} {x:Note} (h0:j8 n.reg=0) (hx:n.notes[i]?=some x) (h:vF n i x=false):v7 n=30:=by
 unfold v7;rw[if_neg (by simp[h0]),if_neg];intro hb;have:=(notesB_iff.1 hb).2.1 i x hx;rw[h] at this;cases this
@[simp] abbrev Ql:List Nat:=[0,1,2,3,4,5,6,7,8,9,11,19,24,30,31,32,33,37,38,39,46,50,71]
@[simp] abbrev WJ:List Nat:=[1,2,3,6,7,30,31,32]
theorem qY (n:Notes) (hG:p8 G) (hN:E5 G) (hS:v8 G) (hs:CW n):zP prog G 160 [r5 n] (.tup [dh n,iv (v7 n)]):=by
 refine zf func160 ntmps160 ?_;try simp only[r5]
 have hN':G 5=some [.fn (.func 325) [],.fn (.func 326) [],.fn (.func 327) [],.fn (.func 328) [],.fn (.func 329) [],.fn (.func 330) [],.fn (.func 333) [],.fn (.func 335) []]:=hN;obtain⟨hsr,hsn,hsx⟩:=hs;have c1:=cT n.reg hG hsr;by_cases h0:j8 n.reg=0
 ·rw[h0,show eo n.reg=nums n.reg by simp[eo,h0]] at c1;by_cases hl:n.notes.length<=12
  ·have hli:¬ (12:Int)<n.notes.length:=by omega
   have hE:v7 n=if dR n then 0 else 30:=by unfold v7;rw[if_neg (by simp[h0])]
   have hs:=hli;repeat' first|with_reducible refine zz ?_|simp -dsimp[hs]|refine zp c1 ?_|with_reducible refine Q7 (id:=6) (nt:=78) Ql rfl ?_;simp -dsimp[hs]|with_reducible refine zE Ql ?_|refine i8 ?_ ?_<;>intro h<;>try exact h.elim
   all_goals try clear hs
   refine i6 (ι:={ p:Nat×Nat×Nat×Bool // p.1<=n.notes.length/\(p.2.2.1=1\/p.2.2.2=true/\l7 (n.notes.take p.1)=[])/\∀ (j:Nat) (x:Note),j<p.1->n.notes[j]?=some x->vF n j x=true }) (λp=>⟨78,[(1,.one (.ptr 0 0)),(2,.one (.im (.raw (.pointer none)))),(3,iv 0),(6,.one (.ptr 5 0)),(7,bv false),(30,.one (.im (.sl (n.notes.map j9)))),(31,iv (n.notes.length:Int)),(32,iv (p.1.1:Int))],[.row ((u5 n).map .im),.vec 0 [] 0 true,.vec 0 [] 0 true,.vec 0 [] 0 true,.vec p.1.2.2.1 (n3 ((l7 (n.notes.take p.1.1)).map encI)) p.1.2.1 p.1.2.2.2,.row [.im (.sl (n.reg.map e9)),.im (.sl (n.notes.map j9)),.im (.sl ((nums n.reg).map encI)),.vec 4 p.1.2.1 0 (l7 (n.notes.take p.1.1)).length]]⟩) (λp=>n.notes.length-p.1.1) ⟨(0,0,0,true),by simp[l7]⟩ (zw WJ 6 (by simp[l7])) ?_;rintro⟨⟨k,g,sz,nl⟩,hk,hsz,hok⟩;simp only at hk hsz hok;simp only[iv,bv];by_cases hlt:k<n.notes.length
   ·have hx0:n.notes[k]?=some n.notes[k]:=by simp[hlt]
    have hw:=zk k;have hos:=cK n.notes k hlt;have hol:=aj (n.notes.take k);rw[List.length_take] at hol;generalize hx:n.notes[k]=x at *;have k1:=IV (G:=G) n k x hx0;have k2:=IU (G:=G) n k x hx0;have k3:=IT (G:=G) n k x hx0;have k4:=IS (G:=G) n k x hx0 hG hsr;have k5:=IR (G:=G) n k x hx0;have k6:=IQ (G:=G) n k x hx0 (by omega);have k7:=IP (G:=G) n k x hx0 (by omega);have k8:=IN (G:=G) n k x hx0 (by omega);rw[show GI x=re n k x 0 from rfl] at k1;rw[show GH x=re n k x 1 from rfl] at k2;rw[show FE x=re n k x 2 from rfl] at k3;rw[show FD n.reg x=re n k x 3 from rfl] at k4;rw[show GF x=re n k x 4 from rfl] at k5;rw[show CS n.notes k x=re n k x 5 from rfl] at k6;rw[show vG n.notes k x=re n k x 6 from rfl] at k7;rw[show zd n.notes k x=re n k x 7 from rfl] at k8;have hbad:∀ c,re n k x c=false->v7 n=30:=λc h=>tD h0 hx0 (DM h);have hstep:vF n k x=true->∀ (j:Nat) (z:Note),j<k+1->n.notes[j]?=some z->vF n j z=true:=λh j z hj hz=>by
     by_cases e:j=k
     ·subst e;rw[hx0] at hz;cases hz;exact h
     ·exact hok j z (by omega) hz
    have hs:=za hx (za hlt hN');repeat' first|(with_reducible first|refine zz ?_|refine zE Ql ?_)|simp -dsimp[hs]|refine i8 ?_ ?_<;>intro h<;>try exact h.elim
    all_goals try clear hs
    refine i6 (ι:={ c:Nat // c<=8/\∀ e<c,re n k x e=true }) (λp=>⟨78,[(1,.one (.ptr 0 0)),(2,.one (.im (.raw (.pointer none)))),(3,iv 0),(6,.one (.ptr 5 0)),(7,bv false),(8,iv (k:Int)),(9,.one (.ptr 6 0)),(30,.one (.im (.sl (n.notes.map j9)))),(31,iv (n.notes.length:Int)),(32,iv (k:Int)),(37,.agg [.im (.fn (.func 325) []),.im (.fn (.func 326) []),.im (.fn (.func 327) []),.im (.fn (.func 328) []),.im (.fn (.func 329) []),.im (.fn (.func 330) []),.im (.fn (.func 333) []),.im (.fn (.func 335) [])]),(38,iv (p.1:Int))],[.row ((u5 n).map .im),.vec 0 [] 0 true,.vec 0 [] 0 true,.vec 0 [] 0 true,.vec sz (n3 ((l7 (n.notes.take k)).map encI)) g nl,.row [.im (.sl (n.reg.map e9)),.im (.sl (n.notes.map j9)),.im (.sl ((nums n.reg).map encI)),.vec 4 g 0 (l7 (n.notes.take k)).length],.row ((j9 x).map .im)]⟩) (λp=>8-p.1) ⟨0,by simp⟩ (zv [1,2,3,6,7,8,9,30,31,32,37,38]) ?_;rintro⟨c,hc,hcc⟩;simp only[iv,bv];by_cases hc8:c<8
    ·have hm:re n k x c=true->∀ e<c+1,re n k x e=true:=λh e he=>by
      rcases Nat.lt_succ_iff_lt_or_eq.1 he with h1|rfl
      ·exact hcc e h1
      ·exact h
     have hbc:=hbad c;have hi8:c=0\/c=1\/c=2\/c=3\/c=4\/c=5\/c=6\/c=7:=by omega
     rcases hi8 with rfl|rfl|rfl|rfl|rfl|rfl|rfl|rfl
     all_goals
      have hs:=hli;repeat' first|(with_reducible first|refine zz ?_|refine La (by decide) ?_|refine zr ?_|refine zE Ql ?_)|simp -dsimp[hs]|refine zp k1 ?_|refine zp k2 ?_|refine zp k3 ?_|refine zp k4 ?_|refine zp k5 ?_|refine zp k6 ?_|refine zp k7 ?_|refine zp k8 ?_|refine i8 ?_ ?_<;>intro h<;>try exact h.elim
      all_goals try clear hs
     all_goals try (have h30:=hbc (by assumption);simp[dh,h30];done)
     all_goals exact At.round ⟨_,by omega,hm (by assumption)⟩ (by simp) (zw [1,2,3,6,7,8,9,30,31,32,37,38] 7 (by simp;exact o7 (by omega) (by omega)))
    ·obtain rfl:c=8:=by omega
     have hok1:=hstep (DN hcc);have hsz':sz=1\/nl=true:=hsz.imp id And.left;clear k1 k2 k3 k4 k5 k6 k7 k8;by_cases hsg:x.signed=1
     ·rw[if_pos hsg] at hos;have hs:=za hx (za hlt (za hsg (za hw hsz')));repeat' first|(with_reducible first|refine zz ?_|refine And.intro (by omega) ?_)|simp -dsimp[hs]|refine F8 (id:=18) (nt:=78) 8 [0] [0,1,2,3,4,5,6,7,8,9,11,19,24,30,31,32,33,37,38,39,46,50,52,53,54,55,56,57,58,71] Ql mixed rfl (by kernel_rfl) ?_|with_reducible refine zE Ql ?_|refine i8 ?_ ?_<;>intro h<;>try exact h.elim
      all_goals try clear hs
      exact zn ⟨(k+1,g+1,1,false),by omega,.inl rfl,hok1⟩ (zw WJ 6 (by simp[hos]))
     ·rw[if_neg hsg,List.append_nil] at hos;have hszn:sz=1\/nl=true/\l7 (n.notes.take (k+1))=[]:=by rw[hos];exact hsz
      have hs:=za hx (za hlt (za hsg hw));repeat' first|(with_reducible first|refine zz ?_|refine zE Ql ?_)|simp -dsimp[hs]|refine i8 ?_ ?_<;>intro h<;>try exact h.elim
      all_goals try clear hs
      exact zn ⟨(k+1,g,sz,nl),by omega,hszn,hok1⟩ (zw WJ 6 (by simp[hos]))
   ·obtain rfl:k=n.notes.length:=by omega
    rw[List.take_length] at *;have hall:mN n:=λi x hx=>hok i x (e7 hx) hx;have hol:=aj n.notes;have c2:=hS (l7 n.notes) g sz nl hsz (by omega);have hil:=O1 (l7 n.notes);by_cases h5:(l7 n.notes).length<=5
    ·have hE0:v7 n=0:=by rw[hE,if_pos (notesB_iff.2 ⟨hl,hall,h5⟩)]
     have h5i:¬ (5:Int)<(l7 n.notes).length:=by omega
     have hsz':sz=1\/nl=true:=hsz.imp id And.left;have htk:(n3 ((l6 (l7 n.notes)).map encI)).take (l7 n.notes).length=n3 ((l6 (l7 n.notes)).map encI):=List.take_of_length_le (by simp[r8,hil]);have hs:=za hlt (za h5i (za hsz' (za htk hil)));repeat' first|(with_reducible first|refine zz ?_|refine zr ?_|refine zE Ql ?_)|simp -dsimp[hs]|refine CallE.embed [4] (c2) ?_ ?_ ?_ ?_ ?_ ?_;(focus simp[u7];done);(focus simp;done);(focus simp;done);(focus simp;done);(focus refine o9 ?_;simp[u7,r9];done);try simp -dsimp[o6,u7,hs]|refine i8 ?_ ?_<;>intro h<;>try exact h.elim
     all_goals try clear hs
     all_goals simp[dh,hE0,I1,hil,htk]
    ·have hE0:v7 n=30:=by rw[hE,if_neg λh=>h5 (notesB_iff.1 h).2.2]
     have h5i:(5:Int)<(l7 n.notes).length:=by omega
     have hs:=za hlt h5i;repeat' first|(with_reducible first|refine zz ?_|refine zr ?_|refine zE Ql ?_)|simp -dsimp[hs]|refine i8 ?_ ?_<;>intro h<;>try exact h.elim
     all_goals try clear hs
     all_goals simp[dh,hE0]
  ·have hE:v7 n=30:=by
    unfold v7;rw[if_neg (by simp[h0]),if_neg λh=>hl (notesB_iff.1 h).1]
   have hli:(12:Int)<n.notes.length:=by omega
   have hs:=hli;repeat' first|(with_reducible first|refine zz ?_|refine zr ?_|refine zE Ql ?_)|simp -dsimp[hs]|refine zp c1 ?_|refine i8 ?_ ?_<;>intro h<;>try exact h.elim
   all_goals try clear hs
   all_goals simp[dh,hE]
 ·have hE:v7 n=j8 n.reg:=by unfold v7;rw[if_pos h0]
  have hs:=h0;repeat' first|(with_reducible first|refine zz ?_|refine zr ?_|refine zE Ql ?_)|simp -dsimp[hs]|refine zp c1 ?_|refine i8 ?_ ?_<;>intro h<;>try exact h.elim
  all_goals try clear hs
  all_goals simp[dh,hE,h0]
end Go.Proofs
