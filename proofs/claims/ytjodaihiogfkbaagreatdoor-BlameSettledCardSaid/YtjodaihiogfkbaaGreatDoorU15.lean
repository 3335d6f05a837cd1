/- Part 15 of the proofs. -/
import Derived.Test.YtjodaihiogfkbaaGreatDoorU09
import Derived.Test.YtjodaihiogfkbaaGreatDoorU13
import Derived.Test.YtjodaihiogfkbaaGreatDoorU14
set_option linter.all false
set_option maxHeartbeats 100000000
namespace Go.Proofs
open Go Go.Ab Tryz
variable {G:MF}
def K7 (G:MF):Prop:=G 7=some [.fn (.func 372) [],.fn (.func 373) [],.fn (.func 374) []]
def np (c:Chains):Prop:=X3 c.reg/\c.lets.length<=80/\c.loops.length<=10/\∀ x∈c.loops,x.links.length<=12
def U8 (c:Chains):List (Int×Int):=(cG c.reg c.lets c.of).foldl (λm x=>P2 x.drawing x.count m) []
def jh (D:List (Int×Int)) (B:List (Int×Issue)) (x:ChLoop):Nat->Bool
 | 0=>vg x
 | 1=>sH x
 | _=>Z8 D B [] x.links
def Q7 (D:List (Int×Int)) (B:List (Int×Issue)) (x:ChLoop):Bool:=vg x&&sH x&&Z8 D B [] x.links
theorem CC {D:List (Int×Int)} {B:List (Int×Issue)} {x:ChLoop} {i:Nat} (h:jh D B x i=false):Q7 D B x=false:=by
 unfold Q7;match i with
 | 0=>simp only[jh] at h;simp[h]
 | 1=>simp only[jh] at h;simp[h]
 | i+2=>simp only[jh] at h;simp[h]
theorem CD {D:List (Int×Int)} {B:List (Int×Issue)} {x:ChLoop} (h:∀ i<3,jh D B x i=true):Q7 D B x=true:=by
 have h0:=h 0 (by omega);have h1:=h 1 (by omega);have h2:=h 2 (by omega);simp only[jh] at h0 h1 h2;simp[Q7,h0,h1,h2]
def B1 (c:Chains):Int:=if l6 c.reg≠0 then l6 c.reg else if C1 c.reg c.lets c.of≠0\/¬ (1<=c.loops.length/\c.loops.length<=6) then 60 else if c.loops.all (Q7 (U8 c) (bP c.reg c.lets)) then 0 else 60
def bE (c:Chains):DV:=if B1 c=0 then .one (.im (L3 c (U8 c) (bP c.reg c.lets))) else .one (.im (.raw (.pointer none)))
theorem Cv (c:Chains):ImV (bE c):=by unfold bE;split<;>simp[L3]
attribute [simp] Cv
theorem yx (l:List Issue) (lets:List Int) (d:Int):(cG l lets d).length<=l.length:=by
 unfold cG;split
 ·simp only[N0,List.length_map];have:=List.length_filter_le (λn=>decide (0<n7 (nK l lets d) n)) (nums l);have:=w5 l l.length;simp only[nums] at *;omega
 ·simp
@[simp] abbrev Qf:List Nat:=[0,1,2,3,4,5,6,7,8,10,11,13,15,17,22,43,55,56,57,58,81,82,83,84,97,98,99,100,103,104,105,112]
@[simp] abbrev WG:List Nat:=[2,3,7,15,97,98,99,103,104]
theorem CF (c:Chains) (hG:p5 G) (hC:K7 G) (hs:np c):zP prog G 261 [DE c] (.tup [bE c,iv (B1 c)]):=by
 refine zf func261 ntmps261 ?_;try simp only[DE]
 obtain⟨hsr,hsl,hso,hsk⟩:=hs;have hC':G 7=some [.fn (.func 372) [],.fn (.func 373) [],.fn (.func 374) []]:=hC;have c1:=pH c.reg hG hsr;by_cases h0:l6 c.reg=0
 ·rw[h0] at c1;have c2:=yw c.reg c.lets c.of hG hsr (by omega);have c3:=cC (G:=G) 1 6 [(c.loops.length:Int)] (by simp);by_cases hT:C1 c.reg c.lets c.of≠0\/¬ (1<=c.loops.length/\c.loops.length<=6)
  ·have hE:B1 c=60:=by unfold B1;rw[if_neg (by simp[h0]),if_pos hT]
   by_cases hT0:C1 c.reg c.lets c.of=0
   ·rw[hT0] at c2;have hr:([(c.loops.length:Int)].all λx=>decide (1<=x)&&decide (x<=6))=false:=by
     simp;omega
    rw[hr] at c3;have hs:=trivial;repeat' first|(with_reducible first|refine zz ?_|refine zr ?_|refine zE Qf ?_)|simp -dsimp[hs]|refine zp c1 ?_|refine zp c2 ?_|refine zt c3 ?_ ?_ ?_;(focus simp;done);focus (simp;done)|refine i9 ?_ ?_<;>intro h<;>try exact h.elim
    all_goals try clear hs
    all_goals simp[bE,hE]
   ·have hs:=hT0;repeat' first|(with_reducible first|refine zz ?_|refine zr ?_|refine zE Qf ?_)|simp -dsimp[hs]|refine zp c1 ?_|refine zp c2 ?_|refine i9 ?_ ?_<;>intro h<;>try exact h.elim
    all_goals try clear hs
    all_goals simp[bE,hE]
  ·have hT0:C1 c.reg c.lets c.of=0:=Classical.byContradiction λh=>hT (.inl h);have hr6:1<=c.loops.length/\c.loops.length<=6:=Classical.byContradiction λh=>hT (.inr h);have hr:([(c.loops.length:Int)].all λx=>decide (1<=x)&&decide (x<=6))=true:=by
    simp;omega
   rw[hT0] at c2;rw[hr] at c3;have hlet:w9 c.reg c.lets=true:=by
    cases h:w9 c.reg c.lets
    ·simp[C1,h0,h] at hT0
    ·rfl
   have c4:=dm c.reg hG hsr;rw[h0,show eJ c.reg=nums c.reg by simp[eJ,h0]] at c4;have hE:B1 c=if c.loops.all (Q7 (U8 c) (bP c.reg c.lets)) then 0 else 60:=by simp[B1,h0,hT0];omega
   have hs:=trivial;repeat' first|with_reducible refine zz ?_|simp -dsimp[hs]|refine zp c1 ?_|refine zp c2 ?_|refine zt c3 ?_ ?_ ?_;(focus simp;done);focus (simp;done)|refine zp c4 ?_|with_reducible refine O4 (id:=7) (nt:=116) Qf rfl ?_;simp -dsimp[hs]|with_reducible refine zE Qf ?_|refine i9 ?_ ?_<;>intro h<;>try exact h.elim
   all_goals try clear hs
   have hnd:(nums c.reg).Nodup:=(E4 h0).1.imp λh=>Int.ne_of_lt h;have hnl:(nums c.reg).length<=c.reg.length:=w5 c.reg c.reg.length;have hll:c.lets.length=(nums c.reg).length:=by
    simp only[w9,Bool.and_eq_true,decide_eq_true_eq] at hlet;exact hlet.1
   have hreg:=hsr.1;refine i6 (ι:={ k:Nat // k<=(nums c.reg).length }) (λp=>⟨116,[(1,.one (.ptr 0 0)),(2,.one (.im (.raw (.pointer none)))),(3,iv 0),(5,.one (.im (.sl ((cG c.reg c.lets c.of).map A1)))),(7,.one (.ptr 7 0)),(55,v8 (nums c.reg)),(56,iv ((nums c.reg).length:Int)),(57,iv (p.1:Int))],[.row ((T0 c).map .im),.vec 1 [[.im (rI (c.loops.length:Int))]] 0 false,.map [.int .i64] [],.map [.int .i64] (K0 (((nums c.reg).take p.1).map λd=>(d,v7 c.reg c.lets d))),.vec 0 [] 0 true,.vec 0 [] 0 true,.vec 0 [] 0 true,.row ((T0 c).map .im++[.map 2,.map 3])]⟩) (λp=>(nums c.reg).length-p.1) ⟨0,by omega⟩ (zv [1,2,3,5,7,55,56,57] (by simp[K0])) ?_;rintro⟨k,hk⟩;simp only[iv,v8];by_cases hlt:k<(nums c.reg).length
   ·have hx:(nums c.reg)[k]?=some (nums c.reg)[k]:=by simp[hlt]
    have hkl:k<c.lets.length:=by omega
    have hy:c.lets[k]?=some c.lets[k]:=by simp[hkl]
    have hw:=zk k;have c5:=FM c.reg (nums c.reg)[k] c.lets[k] hG hsr;have hta:=vW hnd hlt hkl;rw[show atR c.reg (nums c.reg)[k] c.lets[k]=v7 c.reg c.lets (nums c.reg)[k] by rw[hta];simp[atR,h0]] at c5;have hmp:fS (nums c.reg)[k] (v7 c.reg c.lets (nums c.reg)[k]) (((nums c.reg).take k).map λd=>(d,v7 c.reg c.lets d))=(((nums c.reg).take (k+1)).map λd=>(d,v7 c.reg c.lets d)):=by
     rw[jC,List.take_succ_eq_append_getElem hlt,List.map_append,List.map_singleton];rw[List.map_map];intro hm;obtain⟨z,hz,e⟩:=List.mem_map.1 hm;simp only[Function.comp] at e;subst e;obtain⟨i,hi,e⟩:=List.mem_take_iff_getElem.1 hz;have:=(List.getElem_inj hnd).1 e;omega
    generalize v7 c.reg c.lets (nums c.reg)[k]=y at *;have hmp':fS (nums c.reg)[k] ⟨y.drawing,y.letter,y.kind,y.items,y.dims⟩ (((nums c.reg).take k).map λd=>(d,v7 c.reg c.lets d))=(((nums c.reg).take (k+1)).map λd=>(d,v7 c.reg c.lets d)):=hmp;simp only[E0] at c5;simp only[List.map_take] at hmp';have hs:=za hx (za hy (za hlt (za hkl hw)));repeat' first|with_reducible refine zz ?_|simp -dsimp[hs]|refine zq c5 ?_|refine F9 (id:=12) (nt:=116) 18 [17] [0,1,2,3,4,5,6,7,8,10,11,13,15,17,22,43,55,56,57,58,62,63,64,65,66,67,68,69,70,71,72,73,74,75,76,77,78,81,82,83,84,97,98,99,100,103,104,105,112] Qf mixed rfl (by kernel_rfl) ?_|with_reducible refine zE Qf ?_|refine i9 ?_ ?_<;>intro h<;>try exact h.elim
    all_goals try clear hs
    exact zn ⟨k+1,by omega⟩ (zw [1,2,3,5,7,55,56,57] 8 (by simp[hmp']))
   have htk:(nums c.reg).take k=nums c.reg:=List.take_of_length_le (by omega);rw[htk];change DT _ _ _ _ ⟨_,_,[_,_,_,.map _ (K0 (bP c.reg c.lets)),_,_,_,_]⟩ _;have hs:=hlt;repeat' first|(with_reducible first|refine zz ?_|refine zE Qf ?_)|simp -dsimp[hs]|refine i9 ?_ ?_<;>intro h<;>try exact h.elim
   all_goals try clear hs
   have hpl:=yx c.reg c.lets c.of;have hcD:U8 c=(cG c.reg c.lets c.of).foldl (λm x=>P2 x.drawing x.count m) []:=rfl;generalize cG c.reg c.lets c.of=ps at *;refine i6 (ι:={ p:Nat×List (Int×Int) // p.1<=ps.length/\U8 c=(ps.drop p.1).foldl (λm x=>P2 x.drawing x.count m) p.2 }) (λp=>⟨116,[(1,.one (.ptr 0 0)),(2,.one (.im (.raw (.pointer none)))),(3,iv 0),(7,.one (.ptr 7 0)),(81,.one (.im (.sl (ps.map A1)))),(82,iv (ps.length:Int)),(83,iv (p.1.1:Int))],[.row ((T0 c).map .im),.vec 1 [[.im (rI (c.loops.length:Int))]] 0 false,.map [.int .i64] (P3 p.1.2),.map [.int .i64] (K0 (bP c.reg c.lets)),.vec 0 [] 0 true,.vec 0 [] 0 true,.vec 0 [] 0 true,.row ((T0 c).map .im++[.map 2,.map 3])]⟩) (λp=>ps.length-p.1.1) ⟨(0,[]),by simp[hcD]⟩ (zv [1,2,3,7,81,82,83] (by simp[P3])) ?_;rintro⟨⟨u,D⟩,hu,hD⟩;simp only at hu hD;simp only[iv];by_cases hlu:u<ps.length
   ·have hx:ps[u]?=some ps[u]:=by simp[hlu]
    have hw:=zk u;rw[List.drop_eq_getElem_cons hlu,List.foldl_cons] at hD;have hs:=za hx (za hlu hw);repeat' first|with_reducible refine zz ?_|simp -dsimp[hs]|refine zM 17 116 8 Qf ?_|with_reducible refine zE Qf ?_|refine i9 ?_ ?_<;>intro h<;>try exact h.elim
    all_goals try clear hs
    exact zn ⟨(u+1,P2 ps[u].drawing ps[u].count D),by omega,hD⟩ (zw [1,2,3,7,81,82,83] 8)
   have hDe:D=U8 c:=by rw[hD,List.drop_eq_nil_of_le (by omega)];rfl
   subst hDe;have hB:∀ n,(K5 (bP c.reg c.lets) n).dims.length<1000000:=λn=>by
    rw[bP,W6];split
    ·rename_i hn;obtain⟨hm,_⟩:=eX h0 hlet hn;have:=(hsr.2 _ hm).2.2.2;omega
    ·decide
   have hs:=hlu;repeat' first|(with_reducible first|refine zz ?_|refine zE Qf ?_)|simp -dsimp[hs]|refine i9 ?_ ?_<;>intro h<;>try exact h.elim
   all_goals try clear hs
   refine i6 (ι:={ j:Nat // j<=c.loops.length/\c.loops.all (Q7 (U8 c) (bP c.reg c.lets))=(c.loops.drop j).all (Q7 (U8 c) (bP c.reg c.lets)) }) (λp=>⟨116,[(2,.one (.im (.raw (.pointer none)))),(3,iv 0),(7,.one (.im (L3 c (U8 c) (bP c.reg c.lets)))),(97,.one (.im (.sl (c.loops.map H9)))),(98,iv (c.loops.length:Int)),(99,iv (p.1:Int))],[]⟩) (λp=>c.loops.length-p.1) ⟨0,by simp⟩ (zw [2,3,7,97,98,99] 0 (by simp[L3])) ?_;rintro⟨j,hj,hall⟩;simp only[iv];by_cases hlj:j<c.loops.length
   ·have hx:c.loops[j]?=some c.loops[j]:=by simp[hlj]
    have hw:=zk j;have hst:=cL hlj hall;have hln:=hsk c.loops[j] (List.getElem_mem hlj);have k1:=Ie (G:=G) (L3 c (U8 c) (bP c.reg c.lets)) c.loops[j];have k2:=Id (G:=G) (L3 c (U8 c) (bP c.reg c.lets)) c.loops[j];have k3:=Ic (G:=G) c (U8 c) (bP c.reg c.lets) c.loops[j] (by omega) hB;have hbad:∀ i,jh (U8 c) (bP c.reg c.lets) c.loops[j] i=false->B1 c=60:=λi h=>by
     rw[hE,F8 hst (by rw[CC h];exact Bool.false_ne_true)];rfl
    have hq1:jh (U8 c) (bP c.reg c.lets) c.loops[j] 0=vg c.loops[j]:=rfl;have hq2:jh (U8 c) (bP c.reg c.lets) c.loops[j] 1=sH c.loops[j]:=rfl;have hq3:jh (U8 c) (bP c.reg c.lets) c.loops[j] 2=Z8 (U8 c) (bP c.reg c.lets) [] c.loops[j].links:=rfl;rw[<- hq1] at k1;rw[<- hq2] at k2;rw[<- hq3] at k3;clear hq1 hq2 hq3;have hs:=za hx (za hlj hC');repeat' first|(with_reducible first|refine zz ?_|refine zE Qf ?_)|simp -dsimp[hs]|refine i9 ?_ ?_<;>intro h<;>try exact h.elim
    all_goals try clear hs
    refine i6 (ι:={ i:Nat // i<=3/\∀ e<i,jh (U8 c) (bP c.reg c.lets) c.loops[j] e=true }) (λp=>⟨116,[(2,.one (.im (.raw (.pointer none)))),(3,iv 0),(7,.one (.im (L3 c (U8 c) (bP c.reg c.lets)))),(15,.one (.ptr 1 0)),(97,.one (.im (.sl (c.loops.map H9)))),(98,iv (c.loops.length:Int)),(99,iv (j:Int)),(103,.agg [.im (.fn (.func 372) []),.im (.fn (.func 373) []),.im (.fn (.func 374) [])]),(104,iv (p.1:Int))],[.vec 0 [] 0 true,.row ((H9 c.loops[j]).map .im)]⟩) (λp=>3-p.1) ⟨0,by simp⟩ (zv [2,3,7,15,97,98,99,103,104]) ?_;rintro⟨i,hi,hcc⟩;simp only[iv];by_cases hi3:i<3
    ·have hwc:=zk i;match i,hi3,hi,hcc,hwc with
     | 0,hi3,hi,hcc,hwc =>
       cases hq:jh (U8 c) (bP c.reg c.lets) c.loops[j] 0<;>simp only[hq] at k1
       ·have h60:=hbad 0 hq;have hs:=trivial;repeat' first|(with_reducible first|refine zz ?_|refine zr ?_|refine zE Qf ?_)|simp -dsimp[hs]|refine zp k1 ?_|refine i9 ?_ ?_<;>intro h<;>try exact h.elim
        all_goals try clear hs
        all_goals simp[bE,h60]
       ·have hs:=hwc;repeat' first|(with_reducible first|refine zz ?_|refine zE Qf ?_)|simp -dsimp[hs]|refine zp k1 ?_|refine i9 ?_ ?_<;>intro h<;>try exact h.elim
        all_goals try clear hs
        exact At.round ⟨1,by omega,λi hi=>by
         rcases Nat.lt_succ_iff_lt_or_eq.1 hi with h|rfl
         ·exact hcc i h
         ·exact hq⟩ (by simp) (zw WG 2 (by simp;exact p9 (by omega) (by omega)))
     | 1,hi3,hi,hcc,hwc =>
       cases hq:jh (U8 c) (bP c.reg c.lets) c.loops[j] 1<;>simp only[hq] at k2
       ·have h60:=hbad 1 hq;have hs:=trivial;repeat' first|(with_reducible first|refine zz ?_|refine zr ?_|refine zE Qf ?_)|simp -dsimp[hs]|refine zp k2 ?_|refine i9 ?_ ?_<;>intro h<;>try exact h.elim
        all_goals try clear hs
        all_goals simp[bE,h60]
       ·have hs:=hwc;repeat' first|(with_reducible first|refine zz ?_|refine zE Qf ?_)|simp -dsimp[hs]|refine zp k2 ?_|refine i9 ?_ ?_<;>intro h<;>try exact h.elim
        all_goals try clear hs
        exact At.round ⟨2,by omega,λi hi=>by
         rcases Nat.lt_succ_iff_lt_or_eq.1 hi with h|rfl
         ·exact hcc i h
         ·exact hq⟩ (by simp) (zw WG 2 (by simp;exact p9 (by omega) (by omega)))
     | 2,hi3,hi,hcc,hwc =>
       cases hq:jh (U8 c) (bP c.reg c.lets) c.loops[j] 2<;>simp only[hq] at k3
       ·have h60:=hbad 2 hq;have hs:=trivial;repeat' first|(with_reducible first|refine zz ?_|refine zr ?_|refine zE Qf ?_)|simp -dsimp[hs]|refine zp k3 ?_|refine i9 ?_ ?_<;>intro h<;>try exact h.elim
        all_goals try clear hs
        all_goals simp[bE,h60]
       ·have hs:=hwc;repeat' first|(with_reducible first|refine zz ?_|refine zE Qf ?_)|simp -dsimp[hs]|refine zp k3 ?_|refine i9 ?_ ?_<;>intro h<;>try exact h.elim
        all_goals try clear hs
        exact At.round ⟨3,by omega,λi hi=>by
         rcases Nat.lt_succ_iff_lt_or_eq.1 hi with h|rfl
         ·exact hcc i h
         ·exact hq⟩ (by simp) (zw WG 2 (by simp;exact p9 (by omega) (by omega)))
    ·obtain rfl:i=3:=by omega
     have hok:=CD hcc;have hs:=hw;repeat' first|(with_reducible first|refine zz ?_|refine zE Qf ?_)|simp -dsimp[hs]|refine i9 ?_ ?_<;>intro h<;>try exact h.elim
     all_goals try clear hs
     exact zn ⟨j+1,by omega,J2 hst hok⟩ (zw [2,3,7,97,98,99] 0)
   ·have hok:c.loops.all (Q7 (U8 c) (bP c.reg c.lets))=true:=by rw[hall,List.drop_eq_nil_of_le (by omega)];rfl
    rw[hok] at hE;have hs:=hlj;repeat' first|(with_reducible first|refine zz ?_|refine zr ?_|refine zE Qf ?_)|simp -dsimp[hs]|refine i9 ?_ ?_<;>intro h<;>try exact h.elim
    all_goals try clear hs
    simp[bE,hE]
 ·have hE:B1 c=l6 c.reg:=by simp[B1,h0]
  have hs:=h0;repeat' first|(with_reducible first|refine zz ?_|refine zr ?_|refine zE Qf ?_)|simp -dsimp[hs]|refine zp c1 ?_|refine i9 ?_ ?_<;>intro h<;>try exact h.elim
  all_goals try clear hs
  simp[bE,hE,h0]
end Go.Proofs
namespace Go.Proofs
open Go Go.Ab
theorem GS:Rd 111 H3 (λ_=>True):=(Opens.struct Tryz.underlying111 (by kernel_rfl) (Ba (λ_=>True) (λl=>∃ n:Int,l=[rI n]) (λl=>∃ n:Int,l=[rI n]) (λl=>∃ b:Bool,l=[rB b])) (λi f hf=>by
 rcases i with _|_|_|i<;>simp at hf<;>subst hf
 ·exact oInt
 ·exact oInt
 ·exact Gl)).mono (by
 rintro l ⟨ls,h1,h2,rfl⟩;obtain⟨a,b,c,rfl⟩:=EQ h1;obtain⟨x,rfl⟩:=h2 0 a rfl;obtain⟨y,rfl⟩:=h2 1 b rfl;obtain⟨z,rfl⟩:=h2 2 c rfl;exact⟨⟨x,y,z⟩,trivial,rfl⟩)
theorem Hg:Opens Tryz.prog 32 (λl=>∃ xs:List Link,l=[.sl (xs.map H3)]):=
 (Opens.sliceOf Tryz.underlying32 (sz:=3) (by kernel_rfl) (by decide) (λ_=>rfl) GS).mono (by rintro l ⟨xs,_,h⟩;exact⟨xs,h⟩)
theorem Jp:Opens Tryz.prog 34 (λl=>∃ n m:Int,l=[rI n,rI m]):=(Opens.struct Tryz.underlying34 (by kernel_rfl) (λ_ l=>∃ n:Int,l=[rI n]) (λi f hf=>by
 rcases i with _|_|i<;>simp at hf<;>subst hf<;>exact oInt)).mono (by
 rintro l ⟨ls,h1,h2,rfl⟩;obtain⟨a,b,rfl⟩:=xQ h1;obtain⟨x,rfl⟩:=h2 0 a rfl;obtain⟨y,rfl⟩:=h2 1 b rfl;exact⟨x,y,rfl⟩)
theorem AO:Rd 36 H9 (λ_=>True):=(Opens.struct Tryz.underlying36 (by kernel_rfl) (Ba (λ_=>True) (λl=>∃ xs:List Link,l=[.sl (xs.map H3)]) (λl=>∃ n m:Int,l=[rI n,rI m]) (λ_=>True)) (λi f hf=>by
 rcases i with _|_|i<;>simp at hf<;>subst hf
 ·exact Hg
 ·exact Jp)).mono (by
 rintro l ⟨ls,h1,h2,rfl⟩;obtain⟨a,b,rfl⟩:=xQ h1;obtain⟨x,rfl⟩:=h2 0 a rfl;obtain⟨y,z,rfl⟩:=h2 1 b rfl;exact⟨⟨x,y,z⟩,trivial,rfl⟩)
theorem Hf:Opens Tryz.prog 165 (λl=>∃ xs:List ChLoop,l=[.sl (xs.map H9)]):=
 (Opens.sliceOf Tryz.underlying165 (sz:=3) (by kernel_rfl) (by decide) (λ_=>rfl) AO).mono (by rintro l ⟨xs,_,h⟩;exact⟨xs,h⟩)
theorem Ja:Rd 167 T0 (λc=>∀ x∈c.reg,gw x):=(Opens.struct Tryz.underlying167 (by kernel_rfl) (Gi (λ_=>True) (λl=>∃ xs:List Issue,(∀ x∈xs,gw x)/\l=[.sl (xs.map e8)]) (λl=>∃ xs:List Int,l=[.sl (xs.map encI)]) (λl=>∃ n:Int,l=[rI n]) (λl=>∃ xs:List ChLoop,l=[.sl (xs.map H9)]) (λ_=>True)) (λi f hf=>by
 rcases i with _|_|_|_|i<;>simp at hf<;>subst hf
 ·exact Jn
 ·exact Gk
 ·exact oInt
 ·exact Hf)).mono (by
 rintro l ⟨ls,h1,h2,rfl⟩;obtain⟨a,b,c,d,rfl⟩:=JM h1;obtain⟨x,hx,rfl⟩:=h2 0 a rfl;obtain⟨y,rfl⟩:=h2 1 b rfl;obtain⟨z,rfl⟩:=h2 2 c rfl;obtain⟨u,rfl⟩:=h2 3 d rfl;exact⟨⟨x,y,z,u⟩,hx,rfl⟩)
end Go.Proofs
namespace Go.Ab
open Go
structure Note where
 number:Int
 day:Int
 signed:Int
 drawing:Int
 letter:Int
 frm:Int
 to:Int
 cancels:Int
 useUp:Bool
 ways:Int
 deriving DecidableEq
structure Notes where
 reg:List Issue
 notes:List Note
 deriving DecidableEq
def j9 (x:Note):List IC:=[rI x.number,rI x.day,.raw (.int .u8 x.signed),rI x.drawing,rI x.letter,rI x.frm,rI x.to,rI x.cancels,rB x.useUp,.raw (.int .u8 x.ways)]
def u5 (n:Notes):List IC:=[.sl (n.reg.map e8),.sl (n.notes.map j9)]
def eg (x:Note):DV:=.agg ((j9 x).map .im)
def o8 (n:Notes):DV:=.agg ((u5 n).map .im)
attribute [simp] j9 u5 eg o8
end Go.Ab
namespace Go.Proofs
open Go Go.Ab
variable {G:MF}
def Bk (x:Note):Bool:=(decide (1<=x.number)&&decide (x.number<=9999))&&(decide (0<=x.day)&&decide (x.day<=14610))
theorem Jz (n:Notes) (i:Nat) (x:Note) (hx:n.notes[i]?=some x):zP Tryz.prog G 346 [o8 n,iv (i:Int)] (bv (Bk x)):=by
 refine zf Tryz.func346 Tryz.ntmps346 ?_;try simp only[o8,iv]
 have hi:i<n.notes.length:=e7 hx;have hxe:n.notes[i]=x:=(List.getElem?_eq_some_iff.1 hx).2;have c1:=iN (G:=G) 1 9999 [x.number] (by simp);have c2:=iN (G:=G) 0 14610 [x.day] (by simp);have hs:=za hxe hi;repeat' first|(with_reducible first|refine zz ?_|refine zr ?_|refine zE [0,1,2,4] ?_)|simp -dsimp[hs]|refine zt c1 ?_ ?_ ?_;(focus simp;done);focus (simp;done)|refine zt c2 ?_ ?_ ?_;(focus simp;done);focus (simp;done)|with_reducible refine j0 ?_ ?_<;>intro h<;>have h0:=h<;>(try simp only[i7] at h)<;>have h2:=h<;>(try simp at h2)<;>replace hs:=za h0 (za h (za h2 hs))
 all_goals try clear hs
 all_goals simp_all [Bk]
 all_goals omega
def EC (x:Note):Bool:=decide (x.signed<=2)&&decide (x.ways<=3)
theorem Jy (n:Notes) (i:Nat) (x:Note) (hx:n.notes[i]?=some x):zP Tryz.prog G 347 [o8 n,iv (i:Int)] (bv (EC x)):=by
 refine zf Tryz.func347 Tryz.ntmps347 ?_;try simp only[o8,iv]
 have hi:i<n.notes.length:=e7 hx;have hxe:n.notes[i]=x:=(List.getElem?_eq_some_iff.1 hx).2;have hs:=za hxe hi;repeat' first|(with_reducible first|refine zz ?_|refine zr ?_|refine zE [0,1,2,4] ?_)|simp -dsimp[hs]|with_reducible refine j0 ?_ ?_<;>intro h<;>have h0:=h<;>(try simp only[i7] at h)<;>have h2:=h<;>(try simp at h2)<;>replace hs:=za h0 (za h (za h2 hs))
 all_goals try clear hs
 all_goals (clear hx;simp_all [EC])
 all_goals omega
def zY (x:Note):Bool:=(decide (1<=x.frm)&&decide (x.frm<=999))&&(decide (1<=x.to)&&decide (x.to<=999))&&decide (x.frm<=x.to)
theorem Jx (n:Notes) (i:Nat) (x:Note) (hx:n.notes[i]?=some x):zP Tryz.prog G 348 [o8 n,iv (i:Int)] (bv (zY x)):=by
 refine zf Tryz.func348 Tryz.ntmps348 ?_;try simp only[o8,iv]
 have hi:i<n.notes.length:=e7 hx;have hxe:n.notes[i]=x:=(List.getElem?_eq_some_iff.1 hx).2;have c1:=iN (G:=G) 1 999 [x.frm,x.to] (by simp);have hs:=za hxe hi;repeat' first|(with_reducible first|refine zz ?_|refine zr ?_|refine zE [0,1,2,4,5] ?_)|simp -dsimp[hs]|refine zt c1 ?_ ?_ ?_;(focus simp;done);focus (simp;done)|with_reducible refine j0 ?_ ?_<;>intro h<;>have h0:=h<;>(try simp only[i7] at h)<;>have h2:=h<;>(try simp at h2)<;>replace hs:=za h0 (za h (za h2 hs))
 all_goals try clear hs
 all_goals (clear hx c1;simp_all [zY])
 all_goals omega
end Go.Proofs
namespace Go.Proofs
open Go Go.Ab Tryz
variable {G:MF}
@[simp] abbrev Qb:List Nat:=[0,1,4,5,7,8,9,16]
theorem eq (l:List Note) (p:Note->Bool) (k:Nat) (caps:List DC) (objs:List DObj) (hok:E6 prog k) (hf:∀ x∈l,DCall prog G k (eg x :: caps.map .one) objs (λd o=>d=bv (p x)/\o=objs)) (hl:l.length<1000000):DCall prog G 111 [.one (.im (.sl (l.map j9))),.one (.fn (.func k) caps)] objs (λd o=>d=iv (H8 p l)/\o=objs):=by
 refine g9 func111 rfl ntmps111 (by simp) rfl ?_;have hs:=trivial;repeat' first|(with_reducible first|refine zz ?_|refine zE Qb ?_)|simp -dsimp[hs]
 refine i6 (ι:={ k:Nat // k<=l.length/\∀ j x,j<k->l[j]?=some x->p x=false }) (λi=>⟨19,[(0,.one (.im (.sl (l.map j9)))),(1,.one (.fn (.func k) caps)),(7,iv (l.length:Int)),(8,iv (i.1:Int))],objs⟩) (λi=>l.length-i.1) ⟨0,by simp⟩ (zv [0,1,7,8]) ?_;rintro⟨i,hi,hno⟩;simp only[iv];by_cases hlt:i<l.length
 ·have hx:l[i]?=some l[i]:=by simp[hlt]
  have hw:=zk i;have hc:=hf l[i] (by simp);simp only[eg,j9,List.map_cons,List.map_nil,bv,rI] at hc;have hs:=za hx (za hw hok);repeat' first|(with_reducible first|refine zz ?_|refine And.intro (by omega) ?_|refine zr ?_|refine zE Qb ?_)|simp -dsimp[hs]|refine CallE.here hc ?_|refine i9 ?_ ?_<;>intro h<;>try exact h.elim|with_reducible refine And.intro ?_ ?_
  all_goals try omega
  ·exact(J7 hx (by assumption) hno).symm
  ·exact At.round ⟨i+1,by omega,λj x hj hjx=>by
    by_cases e:j=i
    ·subst e;rw[hx] at hjx;cases hjx;assumption
    ·exact hno j x (by omega) hjx⟩ (by simp;omega) (zv [0,1,7,8])
 ·have hs:=trivial;repeat' first|(with_reducible first|refine zz ?_|refine zr ?_|refine zE Qb ?_)|simp -dsimp[hs]|refine i9 ?_ ?_<;>intro h<;>try exact h.elim|with_reducible refine And.intro ?_ ?_
  all_goals try omega
  exact(U6 λj x hjx=>hno j x (by have:=e7 hjx;omega) hjx).symm
theorem bG (l:List Note) (p:Note->Bool) (k:Nat) (caps:List DC) (objs:List DObj) (hok:E6 prog k) (hf:∀ x∈l,DCall prog G k (eg x :: caps.map .one) objs (λd o=>d=bv (p x)/\o=objs)) (hl:l.length<1000000):DCall prog G 352 [.one (.im (.sl (l.map j9))),.one (.fn (.func k) caps)] objs (λd o=>d=bv (l.any p)/\o=objs):=by
 refine g9 func352 rfl ntmps352 (by simp) rfl ?_;have hc:=eq l p k caps objs hok hf hl;repeat' first|(with_reducible first|refine zz ?_|refine zx ?_|refine zE [0,1,4] ?_)|simp -dsimp|refine CallE.here hc ?_|with_reducible refine And.intro ?_ ?_
 simp[B0]
def Bj (x:Note):Bool:=decide (2<=x.letter) || !x.useUp&&decide (x.ways=0)
theorem Jv (n:Notes) (i:Nat) (x:Note) (hx:n.notes[i]?=some x):zP prog G 350 [o8 n,iv (i:Int)] (bv (Bj x)):=by
 refine zf func350 ntmps350 ?_;try simp only[o8,iv]
 have hi:i<n.notes.length:=e7 hx;have hxe:n.notes[i]=x:=(List.getElem?_eq_some_iff.1 hx).2;have hs:=za hxe hi;repeat' first|(with_reducible first|refine zz ?_|refine zr ?_|refine zE [0,1,2,4,5] ?_)|simp -dsimp[hs]|with_reducible refine j0 ?_ ?_<;>intro h<;>have h0:=h<;>(try simp only[i7] at h)<;>have h2:=h<;>(try simp at h2)<;>replace hs:=za h0 (za h (za h2 hs))
 all_goals try clear hs
 all_goals (clear hx;simp_all [Bj])
 all_goals omega
theorem Hk (n:Notes) (x y:Note):DCall prog G 353 (eg y :: [DC.ptr 1 0].map .one) [.row ((u5 n).map .im),.row ((j9 x).map .im)] (λd o=>d=bv (decide (y.number=x.cancels))/\o=[.row ((u5 n).map .im),.row ((j9 x).map .im)]):=by
 refine DCall.drop ?_;refine g9 func353 rfl ntmps353 (by simp) rfl ?_;simp only[eg,j9,u5,rI,rB];repeat' first|(with_reducible first|refine zz ?_|refine zx ?_|refine zE [0,1,2,3] ?_)|simp -dsimp|with_reducible refine And.intro ?_ ?_
def wh (l:List Note) (i:Nat) (x:Note):Bool:=decide (x.cancels=0)||(l.take i).any λy=>decide (y.number=x.cancels)
theorem Ju (n:Notes) (i:Nat) (x:Note) (hx:n.notes[i]?=some x) (hl:n.notes.length<1000):zP prog G 351 [o8 n,iv (i:Int)] (bv (wh n.notes i x)):=by
 refine zf func351 ntmps351 ?_;try simp only[o8,iv]
 have hi:i<n.notes.length:=e7 hx;have hxe:n.notes[i]=x:=(List.getElem?_eq_some_iff.1 hx).2;have hlt:(n.notes.take i).length<1000000:=by simp;omega
 have hil:i<=n.notes.length:=by omega
 have c1:=bG (G:=G) (n.notes.take i) (λy=>decide (y.number=x.cancels)) 353 [.ptr 1 0] [.row ((u5 n).map .im),.row ((j9 x).map .im)] (by simp) (λy _=>Hk n x y) hlt;simp only[j9,u5,rI,rB,List.map_take,List.map_cons,List.map_nil] at c1;have hs:=za hxe (za hi hil);repeat' first|(with_reducible first|refine zz ?_|refine zr ?_|refine zE [0,1,2,4,5] ?_)|simp -dsimp[hs]|refine zh c1 ?_|with_reducible refine j0 ?_ ?_<;>intro h<;>have h0:=h<;>(try simp only[i7] at h)<;>have h2:=h<;>(try simp at h2)<;>replace hs:=za h0 (za h (za h2 hs))
 all_goals try clear hs
 all_goals (clear hx c1;simp_all [wh])
theorem Hj (n:Notes) (i:Nat) (x y:Note) (hx:n.notes[i]?=some x):DCall prog G 355 (eg y :: [DC.ptr 0 0,DC.ptr 1 0].map .one) [.row ((u5 n).map .im),.row [.im (rI (i:Int))]] (λd o=>d=bv (decide (y.number=x.number))/\o=[.row ((u5 n).map .im),.row [.im (rI (i:Int))]]):=by
 have hi:i<n.notes.length:=e7 hx;have hxe:n.notes[i]=x:=(List.getElem?_eq_some_iff.1 hx).2;refine DCall.drop ?_;refine g9 func355 rfl ntmps355 (by simp) rfl ?_;simp only[eg,j9,u5,rI,rB];have hs:=za hxe hi;repeat' first|(with_reducible first|refine zz ?_|refine zr ?_)|simp -dsimp[hs]|refine zM 1 14 10 [0,1,2,3,4] ?_|with_reducible refine zE [0,1,2,3,4] ?_|with_reducible refine And.intro ?_ ?_
def qN (l:List Note) (i:Nat) (x:Note):Bool:=!(l.take i).any λy=>decide (y.number=x.number)
theorem Jt (n:Notes) (i:Nat) (x:Note) (hx:n.notes[i]?=some x) (hl:n.notes.length<1000):zP prog G 354 [o8 n,iv (i:Int)] (bv (qN n.notes i x)):=by
 refine zf func354 ntmps354 ?_;try simp only[o8,iv]
 have hi:i<n.notes.length:=e7 hx;have hlt:(n.notes.take i).length<1000000:=by simp;omega
 have hil:i<=n.notes.length:=by omega
 have c1:=bG (G:=G) (n.notes.take i) (λy=>decide (y.number=x.number)) 355 [.ptr 0 0,.ptr 1 0] [.row ((u5 n).map .im),.row [.im (rI (i:Int))]] (by simp) (λy _=>Hj n i x y hx) hlt;simp only[j9,u5,rI,rB,List.map_take,List.map_cons,List.map_nil] at c1;have hs:=za hi hil;repeat' first|(with_reducible first|refine zz ?_|refine zr ?_|refine zE [0,1,2,3,4] ?_)|simp -dsimp[hs]|refine zh c1 ?_
 all_goals try clear hs
 all_goals (clear hx c1;simp_all [qN])
def Et:List Int->Int
 | []=>0
 | x :: r=>if x=0 then Et r else x
@[simp] abbrev QN:List Nat:=[0,2,3,5,6,7,8,9,14]
theorem KS (l:List Int) (hl:l.length<1000000):zP prog G 84 [v8 l] (iv (Et l)):=by
 refine zf func84 ntmps84 ?_;try simp only[v8]
 have hs:=trivial;repeat' first|(with_reducible first|refine zz ?_|refine zE QN ?_)|simp -dsimp[hs]
 refine i6 (ι:={ p:Nat // p<=l.length/\Et l=Et (l.drop p) }) (λp=>⟨18,[(3,iv 0),(6,.one (.im (.sl (l.map encI)))),(7,iv (l.length:Int)),(8,iv (p.1:Int))],[]⟩) (λp=>l.length-p.1) ⟨0,by simp⟩ (zv [3,6,7,8]) ?_;rintro⟨k,hk,hu⟩;simp only[iv];by_cases hlt:k<l.length
 ·have hw:=zk k;rw[List.drop_eq_getElem_cons hlt,Et] at hu;generalize hx:l[k]=x at *;have hs:=za hx (za hw hlt);repeat' first|(with_reducible first|refine zz ?_|refine zr ?_|refine zE QN ?_)|simp -dsimp[hs]|refine i9 ?_ ?_<;>intro h<;>try exact h.elim
  ·rw[hu,if_neg (by assumption)]
  ·rw[if_pos (by assumption)] at hu;exact zn ⟨k+1,by omega,hu⟩ (zv [3,6,7,8])
 ·rw[List.drop_eq_nil_of_le (by omega)] at hu;have hs:=hlt;repeat' first|(with_reducible first|refine zz ?_|refine zr ?_|refine zE QN ?_)|simp -dsimp[hs]|refine i9 ?_ ?_<;>intro h<;>try exact h.elim
  rw[hu];rfl
def CU (y x:Note):Bool:=decide (y.day<x.day)||decide (y.day=x.day)&&decide (y.number<x.number)
def tl (l:List Note) (i:Nat) (x:Note):Bool:=if i=0 then true else match l[i-1]? with|some y=>CU y x|none=>false
theorem Hb (y x:Note):decide (Et [fL y.day x.day,fL y.number x.number]<0)=CU y x:=by
 unfold CU fL Et Et Et;rw[Bool.eq_iff_iff];simp only[decide_eq_true_eq,Bool.or_eq_true,Bool.and_eq_true];repeat' split
 all_goals omega
theorem Js (n:Notes) (i:Nat) (x:Note) (hx:n.notes[i]?=some x) (hl:n.notes.length<1000):zP prog G 356 [o8 n,iv (i:Int)] (bv (tl n.notes i x)):=by
 refine zf func356 ntmps356 ?_;try simp only[o8,iv]
 have hi:i<n.notes.length:=e7 hx;have hxe:n.notes[i]=x:=(List.getElem?_eq_some_iff.1 hx).2;by_cases h00:i=0
 ·subst h00;have hs:=za hxe hi;repeat' first|(with_reducible first|refine zz ?_|refine zr ?_)|simp -dsimp[hs]|refine zM 1 40 36 [0,1,2,4] ?_|with_reducible refine zE [0,1,2,4] ?_
  all_goals simp[tl]
 ·have hi1:i-1<n.notes.length:=by omega
  have hw:IntKind.i64.wrap ((i:Int)-1)=((i-1:Nat):Int):=by rw[p9 (by omega) (by omega)];omega
  have hne:((i:Int)=0)=False:=by simp[h00]
  generalize hy:n.notes[i-1]=y;have c1:=jV (G:=G) y.day x.day;have c2:=jV (G:=G) y.number x.number;have c3:=KS (G:=G) [fL y.day x.day,fL y.number x.number] (by simp);have hs:=za hxe (za hi (za hi1 (za hw (za hne (za hy h00)))));repeat' first|(with_reducible first|refine zz ?_|refine zr ?_)|simp -dsimp[hs]|refine zq c1 ?_|refine zq c2 ?_|refine zq c3 ?_|refine zM 1 40 36 [0,1,2,4] ?_|with_reducible refine zE [0,1,2,4] ?_
  rw[Hb,tl,if_neg h00,List.getElem?_eq_getElem hi1,hy]
def zX (l:List Issue) (x:Note):Bool:=if x.drawing=0/\x.letter=0 then decide (x.cancels≠0) else decide (DF l x.drawing x.letter=0)
theorem Jw (n:Notes) (i:Nat) (x:Note) (hx:n.notes[i]?=some x) (hG:p5 G) (hs:X3 n.reg):zP prog G 349 [o8 n,iv (i:Int)] (bv (zX n.reg x)):=by
 refine zf func349 ntmps349 ?_;try simp only[o8,iv]
 have hi:i<n.notes.length:=e7 hx;have hxe:n.notes[i]=x:=(List.getElem?_eq_some_iff.1 hx).2;have c1:=FM (G:=G) n.reg x.drawing x.letter hG hs;simp only[E0] at c1;have hs:=za hxe hi;repeat' first|(with_reducible first|refine zz ?_|refine zr ?_|refine zE [0,1,2,4,5,7,19] ?_)|simp -dsimp[hs]|refine zp c1 ?_|refine i9 ?_ ?_<;>intro h<;>try exact h.elim
 all_goals try clear hs
 ·have h1:x.drawing=0/\x.letter=0:=⟨h.1.symm,h.2.symm⟩
  rw[zX,if_pos h1];simp
 ·rw[zX,if_neg (by omega)]
theorem rT (l:List Int) (n:Int) (hl:l.length<1000000):zP prog G 174 [v8 l,iv n] (iv (H8 (λx=>decide (n=x)) l)):=by
 refine zf func174 ntmps174 ?_;try simp only[v8,iv]
 have hs:=trivial;repeat' first|(with_reducible first|refine zz ?_|refine zE Qb ?_)|simp -dsimp[hs]
 refine i6 (ι:={ k:Nat // k<=l.length/\∀ j x,j<k->l[j]?=some x->decide (n=x)=false }) (λi=>⟨19,[(0,v8 l),(1,iv n),(7,iv (l.length:Int)),(8,iv (i.1:Int))],[]⟩) (λi=>l.length-i.1) ⟨0,by simp⟩ (zv [0,1,7,8]) ?_;rintro⟨i,hi,hno⟩;simp only[iv,v8];by_cases hlt:i<l.length
 ·have hx0:l[i]?=some l[i]:=by simp[hlt]
  have hw:=zk i;generalize hx:l[i]=x at *;have hs:=za hx (za hw hlt);repeat' first|(with_reducible first|refine zz ?_|refine zr ?_|refine zE Qb ?_)|simp -dsimp[hs]|refine i9 ?_ ?_<;>intro h<;>try exact h.elim
  ·exact(J7 hx0 (by simp;assumption) hno).symm
  ·exact At.round ⟨i+1,by omega,λj y hj hjx=>by
    by_cases e:j=i
    ·subst e;rw[hx0] at hjx;cases hjx;simp;assumption
    ·exact hno j y (by omega) hjx⟩ (by simp;omega) (zv [0,1,7,8])
 ·have hs:=hlt;repeat' first|(with_reducible first|refine zz ?_|refine zr ?_|refine zE Qb ?_)|simp -dsimp[hs]|refine i9 ?_ ?_<;>intro h<;>try exact h.elim
  exact(U6 λj x hjx=>hno j x (by have:=e7 hjx;omega) hjx).symm
theorem X0 (l:List Int) (n:Int) (hl:l.length<1000000):zP prog G 107 [v8 l,iv n] (bv (decide (n∈l))):=by
 refine zf func107 ntmps107 ?_;try simp only[v8,iv]
 have hc:=rT (G:=G) l n hl;repeat' first|(with_reducible first|refine zz ?_|refine zx ?_|refine zE [0,1,4] ?_)|simp -dsimp|refine zp hc ?_
 have h1:=B0 (λx=>decide (n=x)) l;rw[<- decide_eq_true_iff (p:=0<=_),h1];simp
theorem jo (n lo hi:Int):zP prog G 252 [iv n,iv lo,iv hi] (bv (decide (lo<=n)&&decide (n<=hi))):=by
 refine zf func252 ntmps252 ?_;try simp only[iv,iv,iv]
 have hs:=trivial;repeat' first|(with_reducible first|refine zz ?_|refine zr ?_|refine zE [0,1,2,6] ?_)|simp -dsimp[hs]|with_reducible refine j0 ?_ ?_<;>intro h<;>have h0:=h<;>(try simp only[i7] at h)<;>have h2:=h<;>(try simp at h2)<;>replace hs:=za h0 (za h (za h2 hs))
 all_goals try clear hs
 all_goals simp_all
end Go.Proofs
namespace Go.Proofs
open Go Go.Ab
def tj (n:Notes) (i:Nat) (x:Note):Bool:=Bk x&&EC x&&zY x&&zX n.reg x&&Bj x&&wh n.notes i x&&qN n.notes i x&&tl n.notes i x
def rC (n:Notes) (i:Nat) (x:Note):Nat->Bool
 | 0=>Bk x
 | 1=>EC x
 | 2=>zY x
 | 3=>zX n.reg x
 | 4=>Bj x
 | 5=>wh n.notes i x
 | 6=>qN n.notes i x
 | _=>tl n.notes i x
theorem Ez {n:Notes} {i:Nat} {x:Note} {k:Nat} (h:rC n i x k=false):tj n i x=false:=by
 unfold tj;match k with
 | 0|1|2|3|4|5|6=>simp only[rC] at h;simp[h]
 | k+7=>simp only[rC] at h;simp[h]
theorem EA {n:Notes} {i:Nat} {x:Note} (h:∀ k<8,rC n i x k=true):tj n i x=true:=by
 have h0:=h 0 (by omega);have h1:=h 1 (by omega);have h2:=h 2 (by omega);have h3:=h 3 (by omega);have h4:=h 4 (by omega);have h5:=h 5 (by omega);have h6:=h 6 (by omega);have h7:=h 7 (by omega);simp only[rC] at h0 h1 h2 h3 h4 h5 h6 h7;simp[tj,h0,h1,h2,h3,h4,h5,h6,h7]
def GO (x:Note):Bool:=(decide (1<=x.number)&&decide (x.number<=9999))&&(decide (0<=x.day)&&decide (x.day<=14610))&&decide (x.signed<=2)&&(decide (1<=x.frm)&&decide (x.frm<=x.to))&&decide (x.to<=999)&&decide (x.ways<=3)
def GN (l:List Issue) (x:Note):Bool:=if x.drawing=0/\x.letter=0 then decide (x.cancels≠0) else (p6 l x.drawing x.letter).isSome
def GM (x:Note):Bool:=!(decide (x.letter<2)&&(x.useUp||decide (0<x.ways)))
def ny (n:Notes) (i:Nat) (x:Note):Bool:=GO x&&GN n.reg x&&GM x&&qN n.notes i x&&wh n.notes i x&&tl n.notes i x
theorem AK {n:Notes} {i:Nat} {x:Note} (h0:l6 n.reg=0) (hw:0<=x.ways):ny n i x=tj n i x:=by
 have hB:GN n.reg x=zX n.reg x:=by
  unfold GN zX DF;rw[if_neg (show ¬ l6 n.reg≠0 by simp[h0])];split
  ·rfl
  ·cases (p6 n.reg x.drawing x.letter).isSome<;>rfl
 have hC:GM x=Bj x:=by
  unfold GM Bj;rw[Bool.eq_iff_iff];cases x.useUp<;>simp<;>omega
 have hA:GO x=(Bk x&&EC x&&zY x):=by
  unfold GO Bk EC zY;rw[Bool.eq_iff_iff];simp only[Bool.and_eq_true,decide_eq_true_eq];omega
 unfold ny tj;rw[hA,hB,hC];generalize wh n.notes i x=a;generalize qN n.notes i x=b;cases a<;>cases b<;>simp
def j7 (l:List Note):List Int:=(l.filter λx=>decide (x.signed=1)).map (·.number)
theorem aQ (l:List Note) (k:Nat) (h:k<l.length):j7 (l.take (k+1))=j7 (l.take k)++(if l[k].signed=1 then [l[k].number] else []):=by
 unfold j7;rw[List.take_succ_eq_append_getElem h,List.filter_append,List.map_append]
 congr 1
 by_cases e:l[k].signed=1<;>simp[e]
theorem S7 (l:List Note):(j7 l).length<=l.length:=by
 unfold j7;rw[List.length_map];exact List.length_filter_le _ _
def ak (n:Notes):Prop:=∀ (i:Nat) (x:Note),n.notes[i]?=some x->tj n i x=true
def ei (n:Notes):Bool:=decide (n.notes.length<=12)&&(List.range n.notes.length).all (λi=>match n.notes[i]? with|some x=>tj n i x|none=>true)&&decide ((j7 n.notes).length<=5)
def p7 (n:Notes):Int:=if l6 n.reg≠0 then l6 n.reg else if ei n then 0 else 30
theorem notesB_iff {n:Notes}:ei n=true↔n.notes.length<=12/\ak n/\(j7 n.notes).length<=5:=by
 simp only[ei,Bool.and_eq_true,decide_eq_true_eq,List.all_eq_true,List.mem_range,and_assoc];refine and_congr_right λ_=>and_congr_left λ_=>⟨λh i x hx=>?_,λh i hi=>?_⟩
 ·have:=h i (List.getElem?_eq_some_iff.1 hx).1;rw[hx] at this;exact this
 ·rw[List.getElem?_eq_getElem hi];exact h i _ (List.getElem?_eq_getElem hi)
theorem ml {n:Notes} (h:ak n):(n.notes.map (·.number)).Nodup:=by
 rw[List.nodup_iff_pairwise_ne,List.pairwise_iff_getElem];intro i j hi hj hij;simp only[List.length_map] at hi hj;simp only[List.getElem_map];have h1:=h j _ (List.getElem?_eq_getElem hj);simp only[tj,Bool.and_eq_true,qN,Bool.not_eq_true',List.any_eq_false,decide_eq_true_eq] at h1;refine h1.1.2 _ (List.mem_iff_getElem.2 ⟨i,by simp;omega,?_⟩);simp
theorem N4 {n:Notes} (h:ak n):(j7 n.notes).Nodup:=by
 have:=ml h;unfold j7;exact this.sublist ((List.filter_sublist).map _)
def tx (o s:List Int):Prop:=∀ (i:Nat) (v:Int),s[i]?=some v->v∈o/\∀ j u,i=j+1->s[j]?=some u->u<v
def gZ (o s:List Int) (v:Int):Nat->Bool
 | 0=>decide (v∈o)
 | j+1=>decide (v∈o)&&(match s[j]? with|some u=>decide (u<v)|none=>true)
def J0 (o s:List Int):Bool:=(List.range s.length).all λi=>match s[i]? with|some v=>gZ o s v i|none=>true
theorem truthB_iff {o s:List Int}:J0 o s=true↔tx o s:=by
 simp only[J0,List.all_eq_true,List.mem_range];constructor
 ·intro h i v hv;have h1:=h i (List.getElem?_eq_some_iff.1 hv).1;rw[hv] at h1;simp only at h1;cases i with
  | zero =>
    simp only[gZ,decide_eq_true_eq] at h1;exact⟨h1,λj u e=>by omega⟩
  | succ i =>
    simp only[gZ,decide_eq_true_eq,Bool.and_eq_true] at h1;refine⟨h1.1,λj u e hu=>?_⟩;obtain rfl:j=i:=by omega
    rw[hu] at h1;simpa using h1.2
 ·intro h i hi;rw[List.getElem?_eq_getElem hi];simp only;obtain⟨h1,h2⟩:=h i _ (List.getElem?_eq_getElem hi);cases i with
  | zero=>simpa only[gZ,decide_eq_true_eq] using h1
  | succ i =>
    have hj:i<s.length:=by omega
    simp only[gZ,List.getElem?_eq_getElem hj,Bool.and_eq_true,decide_eq_true_eq];exact⟨h1,h2 i _ rfl (List.getElem?_eq_getElem hj)⟩
theorem nS {o s:List Int} {i:Nat} {v:Int} (h:s[i]?=some v) (hb:v∉o\/∃ j u,i=j+1/\s[j]?=some u/\v<=u):J0 o s=false:=by
 rw[<- Bool.not_eq_true,truthB_iff];intro ht;obtain⟨h1,h2⟩:=ht i v h;rcases hb with hb|⟨j,u,e,hu,hle⟩
 ·exact hb h1
 ·have:=h2 j u e hu;omega
theorem gh {o s:List Int} (h:tx o s):J0 o s=true:=truthB_iff.2 h
def eW (o s:List Int) (k:Nat):Prop:=∀ (i:Nat) (v:Int),i<k->s[i]?=some v->v∈o/\∀ j u,i=j+1->s[j]?=some u->u<v
theorem gY {o s:List Int} {k:Nat} {v:Int} (h:eW o s k) (hv:s[k]?=some v) (ho:v∈o) (hl:∀ j u,k=j+1->s[j]?=some u->u<v):eW o s (k+1):=by
 intro i w hi hw;by_cases e:i=k
 ·subst e;rw[hv] at hw;cases hw;exact⟨ho,hl⟩
 ·exact h i w (by omega) hw
theorem qT {o s:List Int} (h:eW o s s.length):tx o s:=λi v hv=>h i v (List.getElem?_eq_some_iff.1 hv).1 hv
theorem lM {o s:List Int} {k:Nat} (h:eW o s k):∀ (j i:Nat) (u v:Int),i<j->j<k->s[i]?=some u->s[j]?=some v->u<v
 | 0,_,_,_,h1,_,_,_=>by omega
 | j+1,i,u,v,h1,h2,h3,h4=>by
   have hj:j<s.length:=by have:=(List.getElem?_eq_some_iff.1 h4).1;omega
   have hw:s[j]?=some s[j]:=List.getElem?_eq_getElem hj;have h5:=(h (j+1) v h2 h4).2 j s[j] rfl hw;by_cases e:i=j
   ·subst e;rw[hw] at h3;cases h3;exact h5
   ·have:=lM h j i u s[j] (by omega) (by omega) h3 hw;omega
theorem qS {o s:List Int} {k:Nat} {v:Int} (h:eW o s (k+1)) (hk:k<s.length) (hv:s[k]<v):v∉s.take (k+1):=by
 intro hm;obtain⟨i,hi,e⟩:=List.mem_take_iff_getElem.1 hm;by_cases he:i=k
 ·subst he;omega
 ·have:=lM h k i s[i] s[k] (by omega) (by omega) (List.getElem?_eq_getElem _) (List.getElem?_eq_getElem _);omega
open Go Go.Ab Tryz
variable {G:MF}
def kf (n:Notes):Prop:=kJ n.reg/\n.notes.length<=16
def U0 (n:Notes):Bool:=open Classical in decide (kJ n.reg)&&decide (n.notes.length<=16)
theorem BZ (n:Notes):zP prog G 124 [o8 n] (bv (!U0 n)):=by
 refine zf func124 ntmps124 ?_;try simp only[o8]
 have c1:=Fi (G:=G) n.reg;have hE:U0 n=(open Classical in decide (kJ n.reg)&&decide (n.notes.length<=16)):=rfl;by_cases hS:kJ n.reg
 ·have c1':∀ objs,DCall prog G 189 [H0 n.reg] objs (λd objs'=>d=bv false/\objs'=objs):=λobjs=>(c1 objs).mono λd o ⟨h1,h2⟩=>⟨by rw[h1];simp[hS],h2⟩
  rw[decide_eq_true hS,Bool.true_and] at hE;repeat' first|(with_reducible first|refine zz ?_|refine zx ?_|refine zE [0,1,2] ?_)|simp -dsimp|refine zp c1' ?_
  rw[hE,<- decide_not,decide_eq_decide];omega
 ·have c1':∀ objs,DCall prog G 189 [H0 n.reg] objs (λd objs'=>d=bv true/\objs'=objs):=λobjs=>(c1 objs).mono λd o ⟨h1,h2⟩=>⟨by rw[h1];simp[hS],h2⟩
  rw[decide_eq_false hS,Bool.false_and] at hE;repeat' first|(with_reducible first|refine zz ?_|refine zx ?_|refine zE [0,1,2] ?_)|simp -dsimp|refine zp c1' ?_
  rw[hE];try rfl
theorem DM (n:Notes) (hs:kf n):zP prog G 125 [o8 n] (o8 n):=by
 refine zf func125 ntmps125 ?_;try simp only[o8]
 have c1:=GA (G:=G) n.reg hs.1;have hl:=hs.2;have hs:=trivial;repeat' first|(with_reducible first|refine zz ?_|refine And.intro (by omega) ?_|refine zr ?_)|simp -dsimp[hs]|refine zq c1 ?_|refine zM 1 11 8 [0,1,2] ?_|with_reducible refine zE [0,1,2] ?_
 all_goals try clear hs
end Go.Proofs
namespace Go.Ab
open Go
def uM (b:Bool):List IC:=[rB b]
def Mq (l:List Bool):DV:=.one (.im (.sl (l.map uM)))
attribute [simp] uM Mq
def qC (l:List Note) (b:List Bool) (d:Int):Nat->Int
 | 0=>-1
 | k+1=>if b[k]?=some true/\(l[k]?.map (·.drawing))=some d then (k:Int) else qC l b d k
theorem CH (l:List Note) (b:List Bool) (d:Int):∀ k,-1<=qC l b d k/\qC l b d k<k
 | 0=>by simp[qC]
 | k+1=>by
   have:=CH l b d k;unfold qC;split<;>omega
def de (l:List Note) (b:List Bool) (d:Int):Int:=if qC l b d b.length<0 then 1 else match l[(qC l b d b.length).toNat]? with|some x=>x.letter|none=>0
end Go.Ab
namespace Go.Proofs
open Go Go.Ab
variable {G:MF}
end Go.Proofs
namespace Go.Proofs
open Go Go.Ab
variable {G:MF}
end Go.Proofs
namespace Go.Ab
open Go
def nI (signed without:List Int) (m:Int) (x:Note):Bool:=(decide (x.signed=2)||decide (x.number∈signed)) && !decide (x.number∈without)&&(decide (x.frm<=m)&&decide (m<=x.to))
def gD (n:Int):List Note->List Bool->Bool
 | y :: l,b :: o=>!(b&&decide (y.cancels=n))&&gD n l o
 | _,_=>true
def L6 (signed without:List Int) (m:Int):List Note->List Bool
 | []=>[]
 | x :: r=>(nI signed without m x&&gD x.number r (L6 signed without m r)) :: L6 signed without m r
theorem ev (signed without:List Int) (m:Int):∀ l,(L6 signed without m l).length=l.length
 | []=>rfl
 | x :: r=>by simp[L6,ev signed without m r]
@[simp] theorem JT (L:List Bool) (k:Nat) (v:Bool):(l7 (L.map uM)).set k [DC.im (.raw (.bool v))]=l7 ((L.set k v).map uM):=by
 simp only[l7,List.map_set,uM,rB,List.map_cons,List.map_nil]
@[simp] theorem JY (L:List Bool) (k:Nat) (h:k<(l7 (L.map uM)).length):(l7 (L.map uM))[k]=[DC.im (.raw (.bool (L[k]'(by simpa[q8] using h))))]:=by
 simp[l7]
end Go.Ab
namespace Go.Proofs
open Go Go.Ab
variable {G:MF}
end Go.Proofs
namespace Go.Proofs
open Go Go.Ab
def S8 (l:List Note) (i:Nat):Int:=((l[i]?).map (·.number)).getD 0
def rv (l:List Note) (i:Nat):Bool:=match l[i]? with|some x=>decide (x.signed=1)|none=>false
structure OpenTo (l:List Note) (k:Nat) (S:List Nat):Prop where
 perm:S.Perm ((List.range k).filter (rv l))
 srt:S.Pairwise λa b=>S8 l a<=S8 l b
theorem OpenTo.nil (l:List Note):OpenTo l 0 []:=⟨by simp,by simp⟩
theorem OpenTo.lt {l:List Note} {k:Nat} {S:List Nat} (h:OpenTo l k S):∀ i∈S,i<k/\rv l i=true:=λi hi=>by
 have:=h.perm.mem_iff.1 hi;simpa using this
theorem OpenTo.len {l:List Note} {k:Nat} {S:List Nat} (h:OpenTo l k S):S.length<=k:=by
 rw[h.perm.length_eq];have:=List.length_filter_le (rv l) (List.range k);simpa using this
theorem OpenTo.skip {l:List Note} {k:Nat} {S:List Nat} (h:OpenTo l k S) (hk:rv l k=false):OpenTo l (k+1) S:=
 ⟨by rw[List.range_succ,List.filter_append];simpa[hk] using h.perm,h.srt⟩
theorem OpenTo.put {l:List Note} {k:Nat} {S:List Nat} (h:OpenTo l k S) (hk:rv l k=true) (q:Nat)
 (h1:∀ i∈S.take q,S8 l i<=S8 l k) (h2:∀ i∈S.drop q,S8 l k<=S8 l i):OpenTo l (k+1) (S.take q++k :: S.drop q):=by
 constructor
 ·rw[List.range_succ,List.filter_append];simp only[List.filter_cons,hk,if_true,List.filter_nil];refine List.perm_middle.trans ?_;rw[List.take_append_drop];exact(List.perm_append_singleton k _).symm.trans (List.Perm.append_right _ h.perm)
 ·have h3:=h.srt;rw[<- List.take_append_drop q S,List.pairwise_append] at h3;obtain⟨p1,p2,p3⟩:=h3;rw[List.pairwise_append,List.pairwise_cons];refine⟨p1,⟨h2,p2⟩,λa ha b hb=>?_⟩;rcases List.mem_cons.1 hb with rfl|hb
  ·exact h1 a ha
  ·exact p3 a ha b hb
theorem OpenTo.first {l:List Note} {k:Nat} {S:List Nat} (h:OpenTo l k S) {q:Nat} (hq:q<S.length) {v:Int} (hv:S8 l S[q]<=v):∀ i∈S.take (q+1),S8 l i<=v:=λi hi=>by
 obtain⟨j,hj,e⟩:=List.mem_take_iff_getElem.1 hi;have h3:=List.pairwise_iff_getElem.1 h.srt;by_cases he:j=q
 ·subst he;rw[<- e];exact hv
 ·have:=h3 j q (by omega) hq (by omega);rw[e] at this;omega
theorem iR (l:List Note):∀ k,k<=l.length->((List.range k).filter (rv l)).map (S8 l)=j7 (l.take k)
 | 0,_=>by simp[j7]
 | k+1,h=>by
   have hk:k<l.length:=by omega
   rw[List.range_succ,List.filter_append,List.map_append,iR l k (by omega),aQ l k hk]
   congr 1
   have e:l[k]?=some l[k]:=by simp[hk]
   by_cases h1:l[k].signed=1
   ·simp[rv,e,h1,S8]
   ·simp[rv,e,h1]
theorem OpenTo.nums {l:List Note} {S:List Nat} (h:OpenTo l l.length S):S.map (S8 l)=l5 (j7 l):=by
 have h1:(S.map (S8 l)).Perm (l5 (j7 l)):=by
  refine(h.perm.map _).trans ?_;rw[iR l _ (Nat.le_refl _),List.take_length];exact(List.mergeSort_perm _ _).symm
 refine h1.eq_of_pairwise (le:=(·<=·)) (λa b _ _ h2 h3=>by omega) (by rw[List.pairwise_map];exact h.srt) ?_;have:=List.pairwise_mergeSort (le:=λx y:Int=>decide (x<=y)) (λa b c h1 h2=>by simp at *;omega) (λa b=>by simp;omega) (j7 l);exact this.imp λh=>by simpa using h
theorem isort_mem {l:List Int} {n:Int}:n∈l5 l↔n∈l:=(List.mergeSort_perm l _).mem_iff
theorem rR {l:List Int} (h:l.Nodup):(l5 l).Nodup:=(List.mergeSort_perm l _).nodup_iff.2 h
theorem qd (l:List Int):(l5 l).Pairwise (·<=·):=by
 have:=List.pairwise_mergeSort (le:=λx y:Int=>decide (x<=y)) (λa b c h1 h2=>by simp at *;omega) (λa b=>by simp;omega) l;exact this.imp λh=>by simpa using h
theorem gE (signed without:List Int) (m:Int):∀ (l:List Note) (k:Nat),(L6 signed without m l).drop k=L6 signed without m (l.drop k)
 | _,0=>rfl
 | [],_+1=>rfl
 | x :: r,k+1=>by simp[L6,gE signed without m r k]
theorem Fu {s w:List Int} {m:Int} {l:List Note} {k:Nat} (hk:k<l.length) (hk':k<(L6 s w m l).length):(L6 s w m l)[k]=(nI s w m l[k]&&gD l[k].number (l.drop (k+1)) ((L6 s w m l).drop (k+1))):=by
 have h1:=gE s w m l k;rw[List.drop_eq_getElem_cons hk,List.drop_eq_getElem_cons hk',L6] at h1;rw[gE];exact(List.cons.inj h1).1
theorem yo {n:Int} {l:List Note} {F:List Bool} {k:Nat} (hk:k<l.length) (hf:k<F.length):gD n (l.drop k) (F.drop k)=(!(F[k]&&decide (l[k].cancels=n))&&gD n (l.drop (k+1)) (F.drop (k+1))):=by
 rw[List.drop_eq_getElem_cons hk,List.drop_eq_getElem_cons hf,gD]
theorem Cd {n:Int} {l:List Note} {F:List Bool} {k:Nat} (hk:l.length<=k):gD n (l.drop k) (F.drop k)=true:=by
 rw[List.drop_eq_nil_of_le hk];rfl
def mn:Note:=⟨0,0,0,0,1,0,0,0,false,0⟩
def Ih (l:List Note) (b:List Bool) (d:Int):Nat->Note
 | 0=>mn
 | k+1=>match l[k]? with
   | some x=>if b[k]?=some true/\x.drawing=d then x else Ih l b d k
   | none=>mn
theorem Gu (l:List Note) (b:List Bool) (d:Int):∀ k,k<=l.length->Ih l b d k=if qC l b d k<0 then mn else match l[(qC l b d k).toNat]? with|some x=>x|none=>mn
 | 0,_=>by simp[Ih,qC]
 | k+1,h=>by
   have hk:k<l.length:=by omega
   have e:l[k]?=some l[k]:=by simp[hk]
   simp only[Ih,qC,e,Option.map_some,Option.some.injEq];split
   ·rw[if_neg (by omega)];simp[e]
   ·exact Gu l b d k (by omega)
open Go Go.Ab Tryz
variable {G:MF}
theorem IW {n:Notes} {i:Nat} {x:Note} (h:¬ (1<=x.number/\x.number<=9999/\0<=x.day/\x.day<=14610/\x.signed<=2/\1<=x.frm/\x.frm<=x.to/\x.to<=999/\x.ways<=3)):ny n i x=false:=by
 have:GO x=false:=by
  rw[<- Bool.not_eq_true];simp only[GO,Bool.and_eq_true,decide_eq_true_eq];omega
 simp[ny,this]
theorem IV {n:Notes} {i:Nat} {x:Note} {f:Bool} (hf:(p6 n.reg x.drawing x.letter).isSome=f) (h:¬ ((x.drawing=0/\x.letter=0->x.cancels≠0)/\(¬ (x.drawing=0/\x.letter=0)->f=true))):ny n i x=false:=by
 have:GN n.reg x=false:=by
  rw[<- Bool.not_eq_true];unfold GN;rw[hf];split<;>simp_all
 simp[ny,this]
theorem IU {n:Notes} {i:Nat} {x:Note} (h:x.letter<2/\(x.useUp=true\/0<x.ways)):ny n i x=false:=by
 have:GM x=false:=by
  obtain⟨h1,h2⟩:=h;rw[GM,Bool.not_eq_false'];rcases h2 with h2|h2<;>simp[h1,h2]
 simp[ny,this]
theorem IT {n:Notes} {i:Nat} {x:Note} (h:qN n.notes i x=false):ny n i x=false:=by simp[ny,h]
theorem IS {n:Notes} {i:Nat} {x:Note} {f:Bool} (hf:(p6 n.reg x.drawing x.letter).isSome=f) (h:1<=x.number/\x.number<=9999/\0<=x.day/\x.day<=14610/\x.signed<=2/\1<=x.frm/\x.frm<=x.to/\x.to<=999/\x.ways<=3)
 (hb:(x.drawing=0/\x.letter=0->x.cancels≠0)/\(¬ (x.drawing=0/\x.letter=0)->f=true)) (hd:¬ (x.letter<2/\(x.useUp=true\/0<x.ways))) (he:qN n.notes i x=true):ny n i x=(wh n.notes i x&&tl n.notes i x):=by
 have h1:GO x=true:=by simp only[GO,Bool.and_eq_true,decide_eq_true_eq];omega
 have h2:GN n.reg x=true:=by
  unfold GN;rw[hf];split<;>simp_all
 have h3:GM x=true:=by
  rw[GM,Bool.not_eq_true',<- Bool.not_eq_true];simpa using hd
 simp[ny,h1,h2,h3,he]
def Gw (l:List Note) (x:Note) (k:Nat):Bool:=decide (x.cancels=0)||(l.take k).any λy=>decide (y.number=x.cancels)
theorem CP {l:List Note} {x:Note} {k:Nat} (hk:k<l.length):Gw l x (k+1)=(Gw l x k||decide (l[k].number=x.cancels)):=by
 unfold Gw;rw[List.take_succ_eq_append_getElem hk,List.any_append];simp[Bool.or_assoc]
def mo (l:List Note) (x:Note) (k:Nat):Prop:=((l.take k).any λy=>decide (y.number=x.number))=false
theorem rA {l:List Note} {x:Note} {k:Nat} (hk:k<l.length) (h:mo l x k) (h2:¬ l[k].number=x.number):mo l x (k+1):=by
 unfold mo at *;rw[List.take_succ_eq_append_getElem hk,List.any_append,h];simp[h2]
theorem EB {l:List Note} {x:Note} {k i:Nat} (hki:k<i) (hk:k<l.length) (h2:l[k].number=x.number):qN l i x=false:=by
 unfold qN;rw[Bool.not_eq_false',List.any_eq_true];exact⟨l[k],List.mem_take_iff_getElem.2 ⟨k,by omega,rfl⟩,by simp[h2]⟩
@[simp] abbrev Wp:List Nat:=[0,1,2,4,5,7,8,9,10,11,49,57,60,73,85,91,103,113]
theorem Ey (n:Notes) (i:Nat) (x:Note) (hx:n.notes[i]?=some x) (hl:n.notes.length<1000) (hr:n.reg.length<1000):zP prog G 267 [o8 n,iv (i:Int)] (bv (ny n i x)):=by
 refine zf func267 ntmps267 ?_;try simp only[o8,iv]
 have hi:i<n.notes.length:=e7 hx;have hxe:n.notes[i]=x:=(List.getElem?_eq_some_iff.1 hx).2;have c1:=jo (G:=G) x.number 1 9999;have c2:=jo (G:=G) x.day 0 14610;have c3:=jo (G:=G) x.frm 1 x.to;have c4:=uG (G:=G) n.reg x.drawing x.letter (by omega);simp only[E0] at c4;generalize hf:(p6 n.reg x.drawing x.letter).isSome=f at *;have c5:∀ (h:x.drawing=0) objs,DCall prog G 171 [H0 n.reg,E0 0 x.letter] objs (λr objs'=>r=.tup [N9 ((p6 n.reg x.drawing x.letter).getD K4),bv f]/\objs'=objs):=λh=>by
  rw[h] at c4 ⊢;exact c4
 simp only[E0] at c5;have hs:=za hxe hi;repeat' first|(with_reducible first|refine zz ?_|refine zr ?_|refine zE Wp ?_)|simp -dsimp[hs]|refine zp c1 ?_|refine zp c2 ?_|refine zp c3 ?_|refine zp c4 ?_|refine zp (c5 ‹_›) ?_|refine i9 ?_ ?_<;>intro h<;>try exact h.elim|with_reducible refine j0 ?_ ?_<;>intro h<;>have h0:=h<;>(try simp only[i7] at h)<;>have h2:=h<;>(try simp at h2)<;>replace hs:=za h0 (za h (za h2 hs))
 all_goals try clear hs
 all_goals clear c1 c2 c3 c4 c5 hx
 all_goals try (refine IW ?_;omega)
 all_goals try (refine IV hf ?_;clear hf hxe;simp_all;done)
 all_goals try (refine IU ?_;clear hf hxe;simp_all;done)
 all_goals
  have hF:qN n.notes i x=true->ny n i x=(wh n.notes i x&&tl n.notes i x):=by
   refine IS hf (by omega) ?_ ?_
   ·clear hxe hf;simp_all
   ·clear hxe hf;simp_all;try omega
 all_goals refine i6 (ι:={ k:Nat // k<=i/\mo n.notes x k }) (λp=>⟨143,[(1,iv (i:Int)),(2,.one (.ptr 0 0)),(5,.one (.ptr 1 0)),(8,bv (Gw n.notes x p.1)),(9,iv (p.1:Int))],[.row ((u5 n).map .im),.row ((j9 x).map .im)]⟩) (λp=>i-p.1) ⟨0,by simp[mo]⟩ (zw [1,2,5,8,9] 2 (by clear hF hf hxe;simp[Gw, *])) ?_
 all_goals
  rintro⟨k,hk,hno⟩;simp only[iv,bv];by_cases hlt:k<i
  ·have hlk:k<n.notes.length:=by omega
   have hw:=zk k;have hsu:=CP (x:=x) hlk;have hn2:=rA hlk hno;have hbad:=EB (x:=x) hlt hlk;generalize hy:n.notes[k]=y at *;generalize hb:Gw n.notes x k=b at *;cases b
   all_goals
    have hs:=za hxe (za hi (za hy (za hlt (za hlk hw))));repeat' first|(with_reducible first|refine zz ?_|refine zr ?_|refine zE Wp ?_)|simp -dsimp[hs]|refine i9 ?_ ?_<;>intro h<;>try exact h.elim
    all_goals try clear hs
   all_goals try (rw[show ny n i x=false from IT (hbad (by assumption))];done)
   all_goals exact zn ⟨k+1,by omega,hn2 (by assumption)⟩ (zw [1,2,5,8,9] 2 (by simp[hsu]))
  ·have e:k=i:=by omega
   subst e;have hT:=hF (by unfold qN;rw[show ((n.notes.take k).any λy=>decide (y.number=x.number))=false from hno];rfl);rw[show wh n.notes k x=Gw n.notes x k from rfl] at hT;by_cases h00:k=0
   ·have hk0:(k:Int)=0:=by omega
    have hs:=za hlt hk0;repeat' first|(with_reducible first|refine zz ?_|refine zr ?_|refine zE Wp ?_)|simp -dsimp[hs]|refine i9 ?_ ?_<;>intro h<;>try exact h.elim
    all_goals try clear hs
    rw[hT,tl,if_pos h00,Bool.and_true]
   ·have hk1:k-1<n.notes.length:=by omega
    have hk0:¬ (k:Int)=0:=by omega
    have hw:IntKind.i64.wrap ((k:Int)-1)=((k-1:Nat):Int):=by rw[p9 (by omega) (by omega)];omega
    have h8:tl n.notes k x=CU n.notes[k-1] x:=by rw[tl,if_neg h00,List.getElem?_eq_getElem hk1]
    rw[h8] at hT;generalize hy:n.notes[k-1]=y at *;generalize hb:Gw n.notes x k=b at *;cases b
    all_goals
     have hs:=za hxe (za hi (za hy (za hk1 (za hw (za hk0 h00)))));repeat' first|(with_reducible first|refine zz ?_|refine zr ?_|refine zE Wp ?_)|simp -dsimp[hs]|refine i9 ?_ ?_<;>intro h<;>try exact h.elim|with_reducible refine j0 ?_ ?_<;>intro h<;>have h0:=h<;>(try simp only[i7] at h)<;>have h2:=h<;>(try simp at h2)<;>replace hs:=za h0 (za h (za h2 hs))
     all_goals try clear hs
    all_goals rw[hT]
    all_goals try (rfl;done)
    all_goals (rw[Bool.true_and,Bool.eq_iff_iff];simp only[CU,Bool.or_eq_true,Bool.and_eq_true,decide_eq_true_eq,iff_true,iff_false,Bool.false_eq_true];omega)
def wG (n:Notes):Prop:=X3 n.reg/\n.notes.length<=16/\∀ x∈n.notes,0<=x.ways/\x.ways<=255/\0<=x.signed/\x.signed<=255
theorem mj {l:List Note} {k:Nat} (h:k<l.length):((j7 (l.take (k+1))).length:Int)=(j7 (l.take k)).length+(if l[k].signed=1 then 1 else 0):=by
 rw[aQ l k h];split<;>simp
def ir (n:Notes):Bool:=decide (n.notes.length<=12)&&(List.range n.notes.length).all (λi=>match n.notes[i]? with|some x=>ny n i x|none=>true)&&decide ((j7 n.notes).length<=5)
theorem rnotesB_iff {n:Notes}:ir n=true↔n.notes.length<=12/\(∀ (i:Nat) (x:Note),n.notes[i]?=some x->ny n i x=true)/\(j7 n.notes).length<=5:=by
 simp only[ir,Bool.and_eq_true,decide_eq_true_eq,List.all_eq_true,List.mem_range,and_assoc];refine and_congr_right λ_=>and_congr_left λ_=>⟨λh i x hx=>?_,λh i hi=>?_⟩
 ·have:=h i (List.getElem?_eq_some_iff.1 hx).1;rw[hx] at this;exact this
 ·rw[List.getElem?_eq_getElem hi];exact h i _ (List.getElem?_eq_getElem hi)
theorem xh {n:Notes} (h0:l6 n.reg=0) (hx:∀ x∈n.notes,0<=x.ways):ir n=ei n:=by
 rw[Bool.eq_iff_iff,rnotesB_iff,notesB_iff];refine and_congr_right λ_=>and_congr_left λ_=>forall_congr' λi=>forall_congr' λx=>?_;exact⟨λh hi=>by rw[<- AK h0 (hx x (List.mem_of_getElem? hi))];exact h hi,λh hi=>by rw[AK h0 (hx x (List.mem_of_getElem? hi))];exact h hi⟩
@[simp] abbrev Wb:List Nat:=[0,1,2,3,4,8,13,19,26]
theorem xG (n:Notes) (hs:wG n):zP prog G 218 [o8 n] (bv (ir n)):=by
 refine zf func218 ntmps218 ?_;try simp only[o8]
 obtain⟨hsr,hsn,hsx⟩:=hs;have hr:=hsr.1;by_cases hl:n.notes.length<=12
 ·have hli:¬ (12:Int)<n.notes.length:=by omega
  have hs:=hli;repeat' first|(with_reducible first|refine zz ?_|refine zE Wb ?_)|simp -dsimp[hs]|refine i9 ?_ ?_<;>intro h<;>try exact h.elim
  all_goals try clear hs
  refine i6 (ι:={ k:Nat // k<=n.notes.length/\∀ (j:Nat) (x:Note),j<k->n.notes[j]?=some x->ny n j x=true }) (λp=>⟨31,[(1,.one (.ptr 0 0)),(3,iv ((j7 (n.notes.take p.1)).length:Int)),(4,iv (p.1:Int))],[.row ((u5 n).map .im)]⟩) (λp=>n.notes.length-p.1) ⟨0,by simp⟩ (zv [1,3,4] (by simp[j7])) ?_;rintro⟨k,hk,hok⟩;simp only[iv];by_cases hlt:k<n.notes.length
  ·have hx0:n.notes[k]?=some n.notes[k]:=by simp[hlt]
   have hw:=zk k;have hos:=mj hlt;have hol:=S7 (n.notes.take k);rw[List.length_take] at hol;have hw2:IntKind.i64.wrap (((j7 (n.notes.take k)).length:Int)+1)=((j7 (n.notes.take k)).length:Int)+1:=p9 (by omega) (by omega);have hsx':=hsx n.notes[k] (List.getElem_mem hlt);generalize hx:n.notes[k]=x at *;have c1:=Ey (G:=G) n k x hx0 (by omega) (by omega);have hbad:ny n k x=false->ir n=false:=λh=>by
    rw[<- Bool.not_eq_true];intro hb;have:=(rnotesB_iff.1 hb).2.1 k x hx0;rw[h] at this;cases this
   have hstep:ny n k x=true->∀ (j:Nat) (z:Note),j<k+1->n.notes[j]?=some z->ny n j z=true:=λh j z hj hz=>by
    by_cases e:j=k
    ·subst e;rw[hx0] at hz;cases hz;exact h
    ·exact hok j z (by omega) hz
   generalize ny n k x=q at *;cases q
   ·have hs:=za hx (za hlt hw);repeat' first|(with_reducible first|refine zz ?_|refine zr ?_|refine zE Wb ?_)|simp -dsimp[hs]|refine zp c1 ?_|refine i9 ?_ ?_<;>intro h<;>try exact h.elim
    all_goals try clear hs
    exact hbad rfl
   ·have hs:=za hx (za hlt (za hw hw2));repeat' first|(with_reducible first|refine zz ?_|refine zE Wb ?_)|simp -dsimp[hs]|refine zp c1 ?_|refine i9 ?_ ?_<;>intro h<;>try exact h.elim
    all_goals try clear hs
    all_goals exact zn ⟨k+1,by omega,hstep rfl⟩ (zv [1,3,4] (by simp[hos, *]))
  ·have e:k=n.notes.length:=by omega
   subst e;rw[List.take_length];have hs:=hlt;repeat' first|(with_reducible first|refine zz ?_|refine zr ?_|refine zE Wb ?_)|simp -dsimp[hs]|refine i9 ?_ ?_<;>intro h<;>try exact h.elim
   all_goals try clear hs
   rw[Bool.eq_iff_iff,rnotesB_iff];simp only[decide_eq_true_eq];constructor
   ·intro h;exact⟨hl,λj x hx=>hok j x (e7 hx) hx,by omega⟩
   ·intro h;have:=h.2.2;omega
 ·have hli:(12:Int)<n.notes.length:=by omega
  have hs:=hli;repeat' first|(with_reducible first|refine zz ?_|refine zr ?_|refine zE Wb ?_)|simp -dsimp[hs]|refine i9 ?_ ?_<;>intro h<;>try exact h.elim
  all_goals try clear hs
  exact Bool.eq_false_iff.2 λh=>hl (rnotesB_iff.1 h).1
theorem Bh (n:Notes) (hs:wG n) (h0:l6 n.reg=0) (objs:List DObj):DCall prog G 218 [o8 n] objs (λrr objs'=>rr=bv (ei n)/\objs'=objs):=by
 rw[<- xh h0 λx hx=>(hs.2.2 x hx).1];exact xG n hs objs
theorem CE (n:Notes) (hs:wG n):zP prog G 169 [o8 n] (iv (p7 n)):=by
 refine zf func169 ntmps169 ?_;try simp only[o8]
 have c1:=AQ (G:=G) n.reg hs.1;by_cases h0:l6 n.reg=0
 ·have c2:=Bh (G:=G) n hs h0;have hE:p7 n=if ei n then 0 else 30:=by unfold p7;rw[if_neg (by simp[h0])]
  rw[h0] at c1;generalize ei n=q at *;cases q
  ·have hs:=trivial;repeat' first|(with_reducible first|refine zz ?_|refine zr ?_|refine zE [0,1,2,3,8,12] ?_)|simp -dsimp[hs]|refine zp c1 ?_|refine zp c2 ?_|refine i9 ?_ ?_<;>intro h<;>try exact h.elim
   all_goals try clear hs
   all_goals simp[hE]
  ·have hs:=trivial;repeat' first|(with_reducible first|refine zz ?_|refine zr ?_|refine zE [0,1,2,3,8,12] ?_)|simp -dsimp[hs]|refine zp c1 ?_|refine zp c2 ?_|refine i9 ?_ ?_<;>intro h<;>try exact h.elim
   all_goals try clear hs
   all_goals simp[hE]
 ·have hE:p7 n=l6 n.reg:=by unfold p7;rw[if_pos h0]
  have hs:=h0;repeat' first|(with_reducible first|refine zz ?_|refine zr ?_|refine zE [0,1,2,3,8,12] ?_)|simp -dsimp[hs]|refine zp c1 ?_|refine i9 ?_ ?_<;>intro h<;>try exact h.elim
  all_goals try clear hs
  all_goals simp[hE]
def D5 (G:MF):Prop:=G 4=some [.fn (.func 346) [],.fn (.func 347) [],.fn (.func 348) [],.fn (.func 349) [],.fn (.func 350) [],.fn (.func 351) [],.fn (.func 354) [],.fn (.func 356) []]
def u6 (G:MF):Prop:=∀ (l:List Int) (g sz:Nat) (nl:Bool),(sz=1\/nl=true/\l=[])->l.length<1000000->DCall prog G 173 [.one (.vec 0 g 0 l.length)] [.vec sz (l7 (l.map encI)) g nl] (λd o=>d=.tup []/\o=[.vec sz (l7 ((l5 l).map encI)) g nl])
def G7 (n:Notes):IC:=.ip [.sl (n.reg.map e8),.sl (n.notes.map j9),.sl ((nums n.reg).map encI),.sl ((l5 (j7 n.notes)).map encI)]
def bD (n:Notes):DV:=if p7 n=0 then .one (.im (G7 n)) else .one (.im (.raw (.pointer none)))
theorem Cl (n:Notes):ImV (bD n):=by unfold bD;split<;>simp[G7]
attribute [simp] Cl
theorem tV {n:Notes} {i:Nat} {x:Note} (h0:l6 n.reg=0) (hx:n.notes[i]?=some x) (h:tj n i x=false):p7 n=30:=by
 unfold p7;rw[if_neg (by simp[h0]),if_neg];intro hb;have:=(notesB_iff.1 hb).2.1 i x hx;rw[h] at this;cases this
@[simp] abbrev Ql:List Nat:=[0,1,2,3,4,5,6,7,8,9,11,19,24,30,31,32,33,37,38,39,46,50,71]
@[simp] abbrev WH:List Nat:=[1,2,3,6,7,30,31,32]
theorem iB (n:Notes) (hG:p5 G) (hN:D5 G) (hS:u6 G) (hs:wG n):zP prog G 106 [o8 n] (.tup [bD n,iv (p7 n)]):=by
 refine zf func106 ntmps106 ?_;try simp only[o8]
 have hN':G 4=some [.fn (.func 346) [],.fn (.func 347) [],.fn (.func 348) [],.fn (.func 349) [],.fn (.func 350) [],.fn (.func 351) [],.fn (.func 354) [],.fn (.func 356) []]:=hN;obtain⟨hsr,hsn,hsx⟩:=hs;have c1:=dm n.reg hG hsr;by_cases h0:l6 n.reg=0
 ·rw[h0,show eJ n.reg=nums n.reg by simp[eJ,h0]] at c1;by_cases hl:n.notes.length<=12
  ·have hli:¬ (12:Int)<n.notes.length:=by omega
   have hE:p7 n=if ei n then 0 else 30:=by unfold p7;rw[if_neg (by simp[h0])]
   have hs:=hli;repeat' first|with_reducible refine zz ?_|simp -dsimp[hs]|refine zp c1 ?_|with_reducible refine O4 (id:=6) (nt:=78) Ql rfl ?_;simp -dsimp[hs]|with_reducible refine zE Ql ?_|refine i9 ?_ ?_<;>intro h<;>try exact h.elim
   all_goals try clear hs
   refine i6 (ι:={ p:Nat×Nat×Nat×Bool // p.1<=n.notes.length/\(p.2.2.1=1\/p.2.2.2=true/\j7 (n.notes.take p.1)=[])/\∀ (j:Nat) (x:Note),j<p.1->n.notes[j]?=some x->tj n j x=true }) (λp=>⟨78,[(1,.one (.ptr 0 0)),(2,.one (.im (.raw (.pointer none)))),(3,iv 0),(6,.one (.ptr 5 0)),(7,bv false),(30,.one (.im (.sl (n.notes.map j9)))),(31,iv (n.notes.length:Int)),(32,iv (p.1.1:Int))],[.row ((u5 n).map .im),.vec 0 [] 0 true,.vec 0 [] 0 true,.vec 0 [] 0 true,.vec p.1.2.2.1 (l7 ((j7 (n.notes.take p.1.1)).map encI)) p.1.2.1 p.1.2.2.2,.row [.im (.sl (n.reg.map e8)),.im (.sl (n.notes.map j9)),.im (.sl ((nums n.reg).map encI)),.vec 4 p.1.2.1 0 (j7 (n.notes.take p.1.1)).length]]⟩) (λp=>n.notes.length-p.1.1) ⟨(0,0,0,true),by simp[j7]⟩ (zw WH 6 (by simp[j7])) ?_;rintro⟨⟨k,g,sz,nl⟩,hk,hsz,hok⟩;simp only at hk hsz hok;simp only[iv,bv];by_cases hlt:k<n.notes.length
   ·have hx0:n.notes[k]?=some n.notes[k]:=by simp[hlt]
    have hw:=zk k;have hos:=aQ n.notes k hlt;have hol:=S7 (n.notes.take k);rw[List.length_take] at hol;generalize hx:n.notes[k]=x at *;have k1:=Jz (G:=G) n k x hx0;have k2:=Jy (G:=G) n k x hx0;have k3:=Jx (G:=G) n k x hx0;have k4:=Jw (G:=G) n k x hx0 hG hsr;have k5:=Jv (G:=G) n k x hx0;have k6:=Ju (G:=G) n k x hx0 (by omega);have k7:=Jt (G:=G) n k x hx0 (by omega);have k8:=Js (G:=G) n k x hx0 (by omega);rw[show Bk x=rC n k x 0 from rfl] at k1;rw[show EC x=rC n k x 1 from rfl] at k2;rw[show zY x=rC n k x 2 from rfl] at k3;rw[show zX n.reg x=rC n k x 3 from rfl] at k4;rw[show Bj x=rC n k x 4 from rfl] at k5;rw[show wh n.notes k x=rC n k x 5 from rfl] at k6;rw[show qN n.notes k x=rC n k x 6 from rfl] at k7;rw[show tl n.notes k x=rC n k x 7 from rfl] at k8;have hbad:∀ c,rC n k x c=false->p7 n=30:=λc h=>tV h0 hx0 (Ez h);have hstep:tj n k x=true->∀ (j:Nat) (z:Note),j<k+1->n.notes[j]?=some z->tj n j z=true:=λh j z hj hz=>by
     by_cases e:j=k
     ·subst e;rw[hx0] at hz;cases hz;exact h
     ·exact hok j z (by omega) hz
    have hs:=za hx (za hlt hN');repeat' first|(with_reducible first|refine zz ?_|refine zE Ql ?_)|simp -dsimp[hs]|refine i9 ?_ ?_<;>intro h<;>try exact h.elim
    all_goals try clear hs
    refine i6 (ι:={ c:Nat // c<=8/\∀ e<c,rC n k x e=true }) (λp=>⟨78,[(1,.one (.ptr 0 0)),(2,.one (.im (.raw (.pointer none)))),(3,iv 0),(6,.one (.ptr 5 0)),(7,bv false),(8,iv (k:Int)),(9,.one (.ptr 6 0)),(30,.one (.im (.sl (n.notes.map j9)))),(31,iv (n.notes.length:Int)),(32,iv (k:Int)),(37,.agg [.im (.fn (.func 346) []),.im (.fn (.func 347) []),.im (.fn (.func 348) []),.im (.fn (.func 349) []),.im (.fn (.func 350) []),.im (.fn (.func 351) []),.im (.fn (.func 354) []),.im (.fn (.func 356) [])]),(38,iv (p.1:Int))],[.row ((u5 n).map .im),.vec 0 [] 0 true,.vec 0 [] 0 true,.vec 0 [] 0 true,.vec sz (l7 ((j7 (n.notes.take k)).map encI)) g nl,.row [.im (.sl (n.reg.map e8)),.im (.sl (n.notes.map j9)),.im (.sl ((nums n.reg).map encI)),.vec 4 g 0 (j7 (n.notes.take k)).length],.row ((j9 x).map .im)]⟩) (λp=>8-p.1) ⟨0,by simp⟩ (zv [1,2,3,6,7,8,9,30,31,32,37,38]) ?_;rintro⟨c,hc,hcc⟩;simp only[iv,bv];by_cases hc8:c<8
    ·have hm:rC n k x c=true->∀ e<c+1,rC n k x e=true:=λh e he=>by
      rcases Nat.lt_succ_iff_lt_or_eq.1 he with h1|rfl
      ·exact hcc e h1
      ·exact h
     have hbc:=hbad c;have hi8:c=0\/c=1\/c=2\/c=3\/c=4\/c=5\/c=6\/c=7:=by omega
     rcases hi8 with rfl|rfl|rfl|rfl|rfl|rfl|rfl|rfl
     all_goals
      have hs:=hli;repeat' first|(with_reducible first|refine zz ?_|refine LD (by decide) ?_|refine zr ?_|refine zE Ql ?_)|simp -dsimp[hs]|refine zp k1 ?_|refine zp k2 ?_|refine zp k3 ?_|refine zp k4 ?_|refine zp k5 ?_|refine zp k6 ?_|refine zp k7 ?_|refine zp k8 ?_|refine i9 ?_ ?_<;>intro h<;>try exact h.elim
      all_goals try clear hs
     all_goals try (have h30:=hbc (by assumption);simp[bD,h30];done)
     all_goals exact At.round ⟨_,by omega,hm (by assumption)⟩ (by simp) (zw [1,2,3,6,7,8,9,30,31,32,37,38] 7 (by simp;exact p9 (by omega) (by omega)))
    ·obtain rfl:c=8:=by omega
     have hok1:=hstep (EA hcc);have hsz':sz=1\/nl=true:=hsz.imp id And.left;clear k1 k2 k3 k4 k5 k6 k7 k8;by_cases hsg:x.signed=1
     ·rw[if_pos hsg] at hos;have hs:=za hx (za hlt (za hsg (za hw hsz')));repeat' first|(with_reducible first|refine zz ?_|refine And.intro (by omega) ?_)|simp -dsimp[hs]|refine F9 (id:=18) (nt:=78) 8 [0] [0,1,2,3,4,5,6,7,8,9,11,19,24,30,31,32,33,37,38,39,46,50,52,53,54,55,56,57,58,71] Ql mixed rfl (by kernel_rfl) ?_|with_reducible refine zE Ql ?_|refine i9 ?_ ?_<;>intro h<;>try exact h.elim
      all_goals try clear hs
      exact zn ⟨(k+1,g+1,1,false),by omega,.inl rfl,hok1⟩ (zw WH 6 (by simp[hos]))
     ·rw[if_neg hsg,List.append_nil] at hos;have hszn:sz=1\/nl=true/\j7 (n.notes.take (k+1))=[]:=by rw[hos];exact hsz
      have hs:=za hx (za hlt (za hsg hw));repeat' first|(with_reducible first|refine zz ?_|refine zE Ql ?_)|simp -dsimp[hs]|refine i9 ?_ ?_<;>intro h<;>try exact h.elim
      all_goals try clear hs
      exact zn ⟨(k+1,g,sz,nl),by omega,hszn,hok1⟩ (zw WH 6 (by simp[hos]))
   ·obtain rfl:k=n.notes.length:=by omega
    rw[List.take_length] at *;have hall:ak n:=λi x hx=>hok i x (e7 hx) hx;have hol:=S7 n.notes;have c2:=hS (j7 n.notes) g sz nl hsz (by omega);have hil:=O9 (j7 n.notes);by_cases h5:(j7 n.notes).length<=5
    ·have hE0:p7 n=0:=by rw[hE,if_pos (notesB_iff.2 ⟨hl,hall,h5⟩)]
     have h5i:¬ (5:Int)<(j7 n.notes).length:=by omega
     have hsz':sz=1\/nl=true:=hsz.imp id And.left;have htk:(l7 ((l5 (j7 n.notes)).map encI)).take (j7 n.notes).length=l7 ((l5 (j7 n.notes)).map encI):=List.take_of_length_le (by simp[q8,hil]);have hs:=za hlt (za h5i (za hsz' (za htk hil)));repeat' first|(with_reducible first|refine zz ?_|refine zr ?_|refine zE Ql ?_)|simp -dsimp[hs]|refine CallE.embed [4] (c2) ?_ ?_ ?_ ?_ ?_ ?_;(focus simp[v6];done);(focus simp;done);(focus simp;done);(focus simp;done);(focus refine o9 ?_;simp[v6,s8];done);try simp -dsimp[o6,v6,hs]|refine i9 ?_ ?_<;>intro h<;>try exact h.elim
     all_goals try clear hs
     all_goals simp[bD,hE0,G7,hil,htk]
    ·have hE0:p7 n=30:=by rw[hE,if_neg λh=>h5 (notesB_iff.1 h).2.2]
     have h5i:(5:Int)<(j7 n.notes).length:=by omega
     have hs:=za hlt h5i;repeat' first|(with_reducible first|refine zz ?_|refine zr ?_|refine zE Ql ?_)|simp -dsimp[hs]|refine i9 ?_ ?_<;>intro h<;>try exact h.elim
     all_goals try clear hs
     all_goals simp[bD,hE0]
  ·have hE:p7 n=30:=by
    unfold p7;rw[if_neg (by simp[h0]),if_neg λh=>hl (notesB_iff.1 h).1]
   have hli:(12:Int)<n.notes.length:=by omega
   have hs:=hli;repeat' first|(with_reducible first|refine zz ?_|refine zr ?_|refine zE Ql ?_)|simp -dsimp[hs]|refine zp c1 ?_|refine i9 ?_ ?_<;>intro h<;>try exact h.elim
   all_goals try clear hs
   all_goals simp[bD,hE]
 ·have hE:p7 n=l6 n.reg:=by unfold p7;rw[if_pos h0]
  have hs:=h0;repeat' first|(with_reducible first|refine zz ?_|refine zr ?_|refine zE Ql ?_)|simp -dsimp[hs]|refine zp c1 ?_|refine i9 ?_ ?_<;>intro h<;>try exact h.elim
  all_goals try clear hs
  all_goals simp[bD,hE,h0]
end Go.Proofs
