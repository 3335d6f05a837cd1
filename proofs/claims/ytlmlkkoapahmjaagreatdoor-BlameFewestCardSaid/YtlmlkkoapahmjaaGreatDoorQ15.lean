/- Part 15 of the proofs. -/
import Derived.Test.YtlmlkkoapahmjaaGreatDoorQ08
import Derived.Test.YtlmlkkoapahmjaaGreatDoorQ13
import Derived.Test.YtlmlkkoapahmjaaGreatDoorQ14
set_option linter.all false
set_option maxHeartbeats 100000000
namespace Go.Ab
open Go
structure Link where
 drawing:Int
 dim:Int
 back:Bool
 deriving DecidableEq
structure ChLoop where
 links:List Link
 lo:Int
 hi:Int
 deriving DecidableEq
structure Chains where
 reg:List Issue
 lets:List Int
 of:Int
 loops:List ChLoop
 deriving DecidableEq
def G9 (x:Link):List IC:=[rI x.drawing,rI x.dim,rB x.back]
def G8 (x:ChLoop):List IC:=[.sl (x.links.map G9),rI x.lo,rI x.hi]
def N7 (c:Chains):List IC:=[.sl (c.reg.map e9),.sl (c.lets.map encI),rI c.of,.sl (c.loops.map G8)]
def AG (x:Link):DV:=.agg ((G9 x).map .im)
def mg (x:ChLoop):DV:=.agg ((G8 x).map .im)
def BG (c:Chains):DV:=.agg ((N7 c).map .im)
attribute [simp] G9 G8 N7 AG mg BG
end Go.Ab
namespace Go.Proofs
open Go Go.Ab
variable {G:LI}
theorem xt (x lo hi:Int):DCall Tryz.prog G 189 (iv x :: [DC.ptr 0 0,DC.ptr 1 0].map .one) [.row [.im (rI lo)],.row [.im (rI hi)]] (λd o=>d=bv (decide (x<lo)||decide (hi<x))/\o=[.row [.im (rI lo)],.row [.im (rI hi)]]):=by
 refine h9 Tryz.func189 rfl Tryz.ntmps189 (by simp) rfl ?_;simp only[rI];have hs:=trivial;repeat' first|(with_reducible first|refine zz ?_|refine zr ?_|refine zE [0,1,2,4] ?_)|simp -dsimp[hs]|with_reducible refine j0 ?_ ?_<;>intro h<;>have h0:=h<;>(try simp only[i7] at h)<;>have h2:=h<;>(try simp at h2)<;>replace hs:=za h0 (za h (za h2 hs))|with_reducible refine And.intro ?_ ?_
 all_goals try clear hs
 all_goals simp[*]
theorem bV (lo hi:Int) (l:List Int) (hl:l.length<1000000):zP Tryz.prog G 142 [iv lo,iv hi,q9 l] (bv (l.all λx=>decide (lo<=x)&&decide (x<=hi))):=by
 refine zf Tryz.func142 Tryz.ntmps142 ?_;try simp only[iv,iv,q9]
 have hc:=D3 (G:=G) l (λx=>decide (x<lo)||decide (hi<x)) 189 [.ptr 0 0,.ptr 1 0] [.row [.im (rI lo)],.row [.im (rI hi)]] (by simp) (λx _=>xt x lo hi) hl;simp only[rI] at hc;repeat' first|(with_reducible first|refine zz ?_|refine zx ?_|refine zE [0,1,2,3,4,6] ?_)|simp -dsimp|refine CallE.here hc ?_
 rw[Bool.eq_iff_iff];simp;exact exists_congr λx=>and_congr_right λ_=>by omega
def K5 (c:Chains) (D:List (Int×Int)) (B:List (Int×Issue)):IC:=.ip [.sl (c.reg.map e9),.sl (c.lets.map encI),rI c.of,.sl (c.loops.map G8),.mp [.int .i64] (aG D),.mp [.int .i64] (dY B)]
def uA (x:ChLoop):Bool:=decide (1<=x.links.length)&&decide (x.links.length<=8)
def rT (x:ChLoop):Bool:=(decide (-8000000000<=x.lo)&&decide (x.lo<=8000000000))&&(decide (-8000000000<=x.hi)&&decide (x.hi<=8000000000))&&decide (x.lo<=x.hi)
def Y6 (D:List (Int×Int)) (B:List (Int×Issue)):List (Int×Int)->List Link->Bool
 | _,[]=>true
 | U,y :: r=>decide (n3 U y.drawing+1<=n3 D y.drawing)&&(decide (0<=y.dim)&&decide (y.dim<=((K1 B y.drawing).dims.length:Int)-1))&&Y6 D B (N8 y.drawing (n3 U y.drawing+1) U) r
theorem Hk (d:IC) (x:ChLoop):zP Tryz.prog G 345 [.one (.im d),mg x] (bv (uA x)):=by
 refine zf Tryz.func345 Tryz.ntmps345 ?_;try simp only[mg]
 have c1:=bV (G:=G) 1 8 [(x.links.length:Int)] (by simp);repeat' first|(with_reducible first|refine zz ?_|refine zx ?_|refine zE [1,3,4] ?_)|simp -dsimp|refine zt c1 ?_ ?_ ?_;(focus simp;done);focus (simp;done)
 rw[Bool.eq_iff_iff];simp[uA];omega
theorem BF (x:ChLoop):rT x=true↔-8000000000<=x.lo/\x.lo<=8000000000/\-8000000000<=x.hi/\x.hi<=8000000000/\x.lo<=x.hi:=by
 simp[rT];omega
theorem Hj (d:IC) (x:ChLoop):zP Tryz.prog G 346 [.one (.im d),mg x] (bv (rT x)):=by
 refine zf Tryz.func346 Tryz.ntmps346 ?_;try simp only[mg]
 have c1:=bV (G:=G) (-8000000000) 8000000000 [x.lo,x.hi] (by simp);have hi:=BF x;cases hq:([x.lo,x.hi].all λy=>decide (-8000000000<=y)&&decide (y<=8000000000))
 ·rw[hq] at c1;repeat' first|(with_reducible first|refine zz ?_|refine zx ?_|refine zE [1,3,4] ?_)|simp -dsimp|refine zt c1 ?_ ?_ ?_;(focus simp;done);focus (simp;done)
  all_goals simp at hq
  all_goals exact dX hi (by omega)
 ·rw[hq] at c1;repeat' first|(with_reducible first|refine zz ?_|refine zx ?_|refine zE [1,3,4] ?_)|simp -dsimp|refine zt c1 ?_ ?_ ?_;(focus simp;done);focus (simp;done)
  all_goals simp at hq
  all_goals rw[Bool.eq_iff_iff,hi]
  all_goals simp
  all_goals omega
@[simp] abbrev Qk:List Nat:=[0,1,3,4,5,7,10,11,12,13,48]
theorem Hi (c:Chains) (D:List (Int×Int)) (B:List (Int×Issue)) (x:ChLoop) (hl:x.links.length<1000000) (hB:∀ n,(K1 B n).dims.length<1000000):zP Tryz.prog G 347 [.one (.im (K5 c D B)),mg x] (bv (Y6 D B [] x.links)):=by
 refine zf Tryz.func347 Tryz.ntmps347 ?_;try simp only[mg]
 simp only[K5];have hs:=trivial;repeat' first|(with_reducible first|refine zz ?_|refine zE Qk ?_)|simp -dsimp[hs]
 refine i6 (ι:={ p:Nat×List (Int×Int) // p.1<=x.links.length/\Y6 D B [] x.links=Y6 D B p.2 (x.links.drop p.1)/\bd p.2 p.1 }) (λp=>⟨50,[(0,.one (.im (K5 c D B))),(5,.one (.map 1)),(10,.one (.im (.sl (x.links.map G9)))),(11,iv (x.links.length:Int)),(12,iv (p.1.1:Int))],[.row ((G8 x).map .im),.map [.int .i64] (O0 p.1.2)]⟩) (λp=>x.links.length-p.1.1) ⟨(0,[]),by simp[bd]⟩ (zv [0,5,10,11,12] (by simp[K5,O0])) ?_;rintro⟨⟨k,U⟩,hk,hu,hb⟩;simp only at hk hu hb;simp only[iv,K5];by_cases hlt:k<x.links.length
 ·have hx:x.links[k]?=some x.links[k]:=by simp[hlt]
  have hw:=zk k;have hbl:=vW hb x.links[k].drawing;have hwu:IntKind.i64.wrap (n3 U x.links[k].drawing+1)=n3 U x.links[k].drawing+1:=n4 (by omega) (by omega);have hput:n3 (N8 x.links[k].drawing (n3 U x.links[k].drawing+1) U) x.links[k].drawing=n3 U x.links[k].drawing+1:=by rw[aj,if_pos rfl]
  have hBn:=hB x.links[k].drawing;have hwd:IntKind.i64.wrap (((K1 B x.links[k].drawing).dims.length:Int)-1)=((K1 B x.links[k].drawing).dims.length:Int)-1:=n4 (by omega) (by omega);have c1:=bV (G:=G) 0 (((K1 B x.links[k].drawing).dims.length:Int)-1) [x.links[k].dim] (by simp);have hbn:bd (N8 x.links[k].drawing (n3 U x.links[k].drawing+1) U) (k+1):=uI (eY hb (by omega)) (by omega) (by omega);rw[List.drop_eq_getElem_cons hlt,Y6] at hu;by_cases hle:n3 U x.links[k].drawing+1<=n3 D x.links[k].drawing
  ·rw[decide_eq_true hle,Bool.true_and] at hu;cases hq:([x.links[k].dim].all λy=>decide (0<=y)&&decide (y<=((K1 B x.links[k].drawing).dims.length:Int)-1))
   ·rw[hq] at c1;have hq':(decide (0<=x.links[k].dim)&&decide (x.links[k].dim<=((K1 B x.links[k].drawing).dims.length:Int)-1))=false:=by simpa using hq
    rw[hq',Bool.false_and] at hu;have hs:=za hx (za hw (za hlt (za hwu (za hput (za hwd hle)))));repeat' first|(with_reducible first|refine zz ?_|refine zr ?_)|simp -dsimp[hs]|refine zq c1 ?_|refine zM 6 50 28 Qk ?_|with_reducible refine zE Qk ?_|refine i8 ?_ ?_<;>intro h<;>try exact h.elim
    rw[hu]
   ·rw[hq] at c1;have hq':(decide (0<=x.links[k].dim)&&decide (x.links[k].dim<=((K1 B x.links[k].drawing).dims.length:Int)-1))=true:=by simpa using hq
    rw[hq',Bool.true_and] at hu;have hs:=za hx (za hw (za hlt (za hwu (za hput (za hwd hle)))));repeat' first|with_reducible refine zz ?_|simp -dsimp[hs]|refine zq c1 ?_|refine zM 6 50 28 Qk ?_|with_reducible refine zE Qk ?_|refine i8 ?_ ?_<;>intro h<;>try exact h.elim
    exact zn ⟨(k+1,N8 x.links[k].drawing (n3 U x.links[k].drawing+1) U),by omega,hu,hbn⟩ (zw [0,5,10,11,12] 2 (by simp[K5]))
  ·rw[decide_eq_false hle,Bool.false_and,Bool.false_and] at hu;have hs:=za hx (za hw (za hlt (za hwu (za hput (za hwd hle)))));repeat' first|(with_reducible first|refine zz ?_|refine zr ?_)|simp -dsimp[hs]|refine zM 6 50 28 Qk ?_|with_reducible refine zE Qk ?_|refine i8 ?_ ?_<;>intro h<;>try exact h.elim
   rw[hu]
 ·rw[List.drop_eq_nil_of_le (by omega)] at hu;have hs:=hlt;repeat' first|(with_reducible first|refine zz ?_|refine zr ?_|refine zE Qk ?_)|simp -dsimp[hs]|refine i8 ?_ ?_<;>intro h<;>try exact h.elim
  rw[hu];rfl
end Go.Proofs
namespace Go.Proofs
open Go Go.Ab Tryz
variable {G:LI}
def J0 (G:LI):Prop:=G 7=some [.fn (.func 345) [],.fn (.func 346) [],.fn (.func 347) []]
def jH (c:Chains):Prop:=W2 c.reg/\c.lets.length<=80/\c.loops.length<=10/\∀ x∈c.loops,x.links.length<=12
def T7 (c:Chains):List (Int×Int):=(bZ c.reg c.lets c.of).foldl (λm x=>N8 x.drawing x.count m) []
def iM (D:List (Int×Int)) (B:List (Int×Issue)) (x:ChLoop):Nat->Bool
 | 0=>uA x
 | 1=>rT x
 | _=>Y6 D B [] x.links
def O9 (D:List (Int×Int)) (B:List (Int×Issue)) (x:ChLoop):Bool:=uA x&&rT x&&Y6 D B [] x.links
theorem BH {D:List (Int×Int)} {B:List (Int×Issue)} {x:ChLoop} {i:Nat} (h:iM D B x i=false):O9 D B x=false:=by
 unfold O9;match i with
 | 0=>simp only[iM] at h;simp[h]
 | 1=>simp only[iM] at h;simp[h]
 | i+2=>simp only[iM] at h;simp[h]
theorem BI {D:List (Int×Int)} {B:List (Int×Issue)} {x:ChLoop} (h:∀ i<3,iM D B x i=true):O9 D B x=true:=by
 have h0:=h 0 (by omega);have h1:=h 1 (by omega);have h2:=h 2 (by omega);simp only[iM] at h0 h1 h2;simp[O9,h0,h1,h2]
def B4 (c:Chains):Int:=if l4 c.reg≠0 then l4 c.reg else if C2 c.reg c.lets c.of≠0\/¬ (1<=c.loops.length/\c.loops.length<=6) then 60 else if c.loops.all (O9 (T7 c) (bn c.reg c.lets)) then 0 else 60
def bb (c:Chains):DV:=if B4 c=0 then .one (.im (K5 c (T7 c) (bn c.reg c.lets))) else .one (.im (.raw (.pointer none)))
theorem BA (c:Chains):ImV (bb c):=by unfold bb;split<;>simp[K5]
attribute [simp] BA
theorem xM (l:List Issue) (lets:List Int) (d:Int):(bZ l lets d).length<=l.length:=by
 unfold bZ;split
 ·simp only[L6,List.length_map];have:=List.length_filter_le (λn=>decide (0<n3 (nz l lets d) n)) (nums l);have:=s7 l l.length;simp only[nums] at *;omega
 ·simp
@[simp] abbrev LP:List Nat:=[0,1,2,3,4,5,6,7,8,10,11,13,15,17,22,43,55,56,57,58,81,82,83,84,97,98,99,100,103,104,105,112]
@[simp] abbrev Wu:List Nat:=[2,3,7,15,97,98,99,103,104]
theorem BK (c:Chains) (hG:o3 G) (hC:J0 G) (hs:jH c):zP prog G 234 [BG c] (.tup [bb c,iv (B4 c)]):=by
 refine zf func234 ntmps234 ?_;try simp only[BG]
 obtain⟨hsr,hsl,hso,hsk⟩:=hs;have hC':G 7=some [.fn (.func 345) [],.fn (.func 346) [],.fn (.func 347) []]:=hC;have c1:=pk c.reg hG hsr;by_cases h0:l4 c.reg=0
 ·rw[h0] at c1;have c2:=xL c.reg c.lets c.of hG hsr (by omega);have c3:=bV (G:=G) 1 6 [(c.loops.length:Int)] (by simp);by_cases hT:C2 c.reg c.lets c.of≠0\/¬ (1<=c.loops.length/\c.loops.length<=6)
  ·have hE:B4 c=60:=by unfold B4;rw[if_neg (by simp[h0]),if_pos hT]
   by_cases hT0:C2 c.reg c.lets c.of=0
   ·rw[hT0] at c2;have hr:([(c.loops.length:Int)].all λx=>decide (1<=x)&&decide (x<=6))=false:=by
     simp;omega
    rw[hr] at c3;have hs:=trivial;repeat' first|(with_reducible first|refine zz ?_|refine zr ?_|refine zE LP ?_)|simp -dsimp[hs]|refine zp c1 ?_|refine zp c2 ?_|refine zt c3 ?_ ?_ ?_;(focus simp;done);focus (simp;done)|refine i8 ?_ ?_<;>intro h<;>try exact h.elim
    all_goals try clear hs
    all_goals simp[bb,hE]
   ·have hs:=hT0;repeat' first|(with_reducible first|refine zz ?_|refine zr ?_|refine zE LP ?_)|simp -dsimp[hs]|refine zp c1 ?_|refine zp c2 ?_|refine i8 ?_ ?_<;>intro h<;>try exact h.elim
    all_goals try clear hs
    all_goals simp[bb,hE]
  ·have hT0:C2 c.reg c.lets c.of=0:=Classical.byContradiction λh=>hT (.inl h);have hr6:1<=c.loops.length/\c.loops.length<=6:=Classical.byContradiction λh=>hT (.inr h);have hr:([(c.loops.length:Int)].all λx=>decide (1<=x)&&decide (x<=6))=true:=by
    simp;omega
   rw[hT0] at c2;rw[hr] at c3;have hlet:s6 c.reg c.lets=true:=by
    cases h:s6 c.reg c.lets
    ·simp[C2,h0,h] at hT0
    ·rfl
   have c4:=cK c.reg hG hsr;rw[h0,show ec c.reg=nums c.reg by simp[ec,h0]] at c4;have hE:B4 c=if c.loops.all (O9 (T7 c) (bn c.reg c.lets)) then 0 else 60:=by simp[B4,h0,hT0];omega
   have hs:=trivial;repeat' first|with_reducible refine zz ?_|simp -dsimp[hs]|refine zp c1 ?_|refine zp c2 ?_|refine zt c3 ?_ ?_ ?_;(focus simp;done);focus (simp;done)|refine zp c4 ?_|with_reducible refine Q5 (id:=7) (nt:=116) LP rfl ?_;simp -dsimp[hs]|with_reducible refine zE LP ?_|refine i8 ?_ ?_<;>intro h<;>try exact h.elim
   all_goals try clear hs
   have hnd:(nums c.reg).Nodup:=(D4 h0).1.imp λh=>Int.ne_of_lt h;have hnl:(nums c.reg).length<=c.reg.length:=s7 c.reg c.reg.length;have hll:c.lets.length=(nums c.reg).length:=by
    simp only[s6,Bool.and_eq_true,decide_eq_true_eq] at hlet;exact hlet.1
   have hreg:=hsr.1;refine i6 (ι:={ k:Nat // k<=(nums c.reg).length }) (λp=>⟨116,[(1,.one (.ptr 0 0)),(2,.one (.im (.raw (.pointer none)))),(3,iv 0),(5,.one (.im (.sl ((bZ c.reg c.lets c.of).map B1)))),(7,.one (.ptr 7 0)),(55,q9 (nums c.reg)),(56,iv ((nums c.reg).length:Int)),(57,iv (p.1:Int))],[.row ((N7 c).map .im),.vec 1 [[.im (rI (c.loops.length:Int))]] 0 false,.map [.int .i64] [],.map [.int .i64] (J8 (((nums c.reg).take p.1).map λd=>(d,u5 c.reg c.lets d))),.vec 0 [] 0 true,.vec 0 [] 0 true,.vec 0 [] 0 true,.row ((N7 c).map .im++[.map 2,.map 3])]⟩) (λp=>(nums c.reg).length-p.1) ⟨0,by omega⟩ (zv [1,2,3,5,7,55,56,57] (by simp[J8])) ?_;rintro⟨k,hk⟩;simp only[iv,q9];by_cases hlt:k<(nums c.reg).length
   ·have hx:(nums c.reg)[k]?=some (nums c.reg)[k]:=by simp[hlt]
    have hkl:k<c.lets.length:=by omega
    have hy:c.lets[k]?=some c.lets[k]:=by simp[hkl]
    have hw:=zk k;have c5:=Ci c.reg (nums c.reg)[k] c.lets[k] hG hsr;have hta:=vp hnd hlt hkl;rw[show atR c.reg (nums c.reg)[k] c.lets[k]=u5 c.reg c.lets (nums c.reg)[k] by rw[hta];simp[atR,h0]] at c5;have hmp:fo (nums c.reg)[k] (u5 c.reg c.lets (nums c.reg)[k]) (((nums c.reg).take k).map λd=>(d,u5 c.reg c.lets d))=(((nums c.reg).take (k+1)).map λd=>(d,u5 c.reg c.lets d)):=by
     rw[ji,List.take_succ_eq_append_getElem hlt,List.map_append,List.map_singleton];rw[List.map_map];intro hm;obtain⟨z,hz,e⟩:=List.mem_map.1 hm;simp only[Function.comp] at e;subst e;obtain⟨i,hi,e⟩:=List.mem_take_iff_getElem.1 hz;have:=(List.getElem_inj hnd).1 e;omega
    generalize u5 c.reg c.lets (nums c.reg)[k]=y at *;have hmp':fo (nums c.reg)[k] ⟨y.drawing,y.letter,y.kind,y.items,y.dims⟩ (((nums c.reg).take k).map λd=>(d,u5 c.reg c.lets d))=(((nums c.reg).take (k+1)).map λd=>(d,u5 c.reg c.lets d)):=hmp;simp only[D9] at c5;simp only[List.map_take] at hmp';have hs:=za hx (za hy (za hlt (za hkl hw)));repeat' first|with_reducible refine zz ?_|simp -dsimp[hs]|refine zq c5 ?_|refine H7 (id:=12) (nt:=116) 18 [17] [0,1,2,3,4,5,6,7,8,10,11,13,15,17,22,43,55,56,57,58,62,63,64,65,66,67,68,69,70,71,72,73,74,75,76,77,78,81,82,83,84,97,98,99,100,103,104,105,112] LP mixed rfl (by kernel_rfl) ?_|with_reducible refine zE LP ?_|refine i8 ?_ ?_<;>intro h<;>try exact h.elim
    all_goals try clear hs
    exact zn ⟨k+1,by omega⟩ (zw [1,2,3,5,7,55,56,57] 8 (by simp[hmp']))
   have htk:(nums c.reg).take k=nums c.reg:=List.take_of_length_le (by omega);rw[htk];change DT _ _ _ _ ⟨_,_,[_,_,_,.map _ (J8 (bn c.reg c.lets)),_,_,_,_]⟩ _;have hs:=hlt;repeat' first|(with_reducible first|refine zz ?_|refine zE LP ?_)|simp -dsimp[hs]|refine i8 ?_ ?_<;>intro h<;>try exact h.elim
   all_goals try clear hs
   have hpl:=xM c.reg c.lets c.of;have hcD:T7 c=(bZ c.reg c.lets c.of).foldl (λm x=>N8 x.drawing x.count m) []:=rfl;generalize bZ c.reg c.lets c.of=ps at *;refine i6 (ι:={ p:Nat×List (Int×Int) // p.1<=ps.length/\T7 c=(ps.drop p.1).foldl (λm x=>N8 x.drawing x.count m) p.2 }) (λp=>⟨116,[(1,.one (.ptr 0 0)),(2,.one (.im (.raw (.pointer none)))),(3,iv 0),(7,.one (.ptr 7 0)),(81,.one (.im (.sl (ps.map B1)))),(82,iv (ps.length:Int)),(83,iv (p.1.1:Int))],[.row ((N7 c).map .im),.vec 1 [[.im (rI (c.loops.length:Int))]] 0 false,.map [.int .i64] (O0 p.1.2),.map [.int .i64] (J8 (bn c.reg c.lets)),.vec 0 [] 0 true,.vec 0 [] 0 true,.vec 0 [] 0 true,.row ((N7 c).map .im++[.map 2,.map 3])]⟩) (λp=>ps.length-p.1.1) ⟨(0,[]),by simp[hcD]⟩ (zv [1,2,3,7,81,82,83] (by simp[O0])) ?_;rintro⟨⟨u,D⟩,hu,hD⟩;simp only at hu hD;simp only[iv];by_cases hlu:u<ps.length
   ·have hx:ps[u]?=some ps[u]:=by simp[hlu]
    have hw:=zk u;rw[List.drop_eq_getElem_cons hlu,List.foldl_cons] at hD;have hs:=za hx (za hlu hw);repeat' first|with_reducible refine zz ?_|simp -dsimp[hs]|refine zM 17 116 8 LP ?_|with_reducible refine zE LP ?_|refine i8 ?_ ?_<;>intro h<;>try exact h.elim
    all_goals try clear hs
    exact zn ⟨(u+1,N8 ps[u].drawing ps[u].count D),by omega,hD⟩ (zw [1,2,3,7,81,82,83] 8)
   have hDe:D=T7 c:=by rw[hD,List.drop_eq_nil_of_le (by omega)];rfl
   subst hDe;have hB:∀ n,(K1 (bn c.reg c.lets) n).dims.length<1000000:=λn=>by
    rw[bn,V6];split
    ·rename_i hn;obtain⟨hm,_⟩:=eA h0 hlet hn;have:=(hsr.2 _ hm).2.2.2;omega
    ·decide
   have hs:=hlu;repeat' first|(with_reducible first|refine zz ?_|refine zE LP ?_)|simp -dsimp[hs]|refine i8 ?_ ?_<;>intro h<;>try exact h.elim
   all_goals try clear hs
   refine i6 (ι:={ j:Nat // j<=c.loops.length/\c.loops.all (O9 (T7 c) (bn c.reg c.lets))=(c.loops.drop j).all (O9 (T7 c) (bn c.reg c.lets)) }) (λp=>⟨116,[(2,.one (.im (.raw (.pointer none)))),(3,iv 0),(7,.one (.im (K5 c (T7 c) (bn c.reg c.lets)))),(97,.one (.im (.sl (c.loops.map G8)))),(98,iv (c.loops.length:Int)),(99,iv (p.1:Int))],[]⟩) (λp=>c.loops.length-p.1) ⟨0,by simp⟩ (zw [2,3,7,97,98,99] 0 (by simp[K5])) ?_;rintro⟨j,hj,hall⟩;simp only[iv];by_cases hlj:j<c.loops.length
   ·have hx:c.loops[j]?=some c.loops[j]:=by simp[hlj]
    have hw:=zk j;have hst:=aQ hlj hall;have hln:=hsk c.loops[j] (List.getElem_mem hlj);have k1:=Hk (G:=G) (K5 c (T7 c) (bn c.reg c.lets)) c.loops[j];have k2:=Hj (G:=G) (K5 c (T7 c) (bn c.reg c.lets)) c.loops[j];have k3:=Hi (G:=G) c (T7 c) (bn c.reg c.lets) c.loops[j] (by omega) hB;have hbad:∀ i,iM (T7 c) (bn c.reg c.lets) c.loops[j] i=false->B4 c=60:=λi h=>by
     rw[hE,E5 hst (by rw[BH h];exact Bool.false_ne_true)];rfl
    have hq1:iM (T7 c) (bn c.reg c.lets) c.loops[j] 0=uA c.loops[j]:=rfl;have hq2:iM (T7 c) (bn c.reg c.lets) c.loops[j] 1=rT c.loops[j]:=rfl;have hq3:iM (T7 c) (bn c.reg c.lets) c.loops[j] 2=Y6 (T7 c) (bn c.reg c.lets) [] c.loops[j].links:=rfl;rw[<- hq1] at k1;rw[<- hq2] at k2;rw[<- hq3] at k3;clear hq1 hq2 hq3;have hs:=za hx (za hlj hC');repeat' first|(with_reducible first|refine zz ?_|refine zE LP ?_)|simp -dsimp[hs]|refine i8 ?_ ?_<;>intro h<;>try exact h.elim
    all_goals try clear hs
    refine i6 (ι:={ i:Nat // i<=3/\∀ e<i,iM (T7 c) (bn c.reg c.lets) c.loops[j] e=true }) (λp=>⟨116,[(2,.one (.im (.raw (.pointer none)))),(3,iv 0),(7,.one (.im (K5 c (T7 c) (bn c.reg c.lets)))),(15,.one (.ptr 1 0)),(97,.one (.im (.sl (c.loops.map G8)))),(98,iv (c.loops.length:Int)),(99,iv (j:Int)),(103,.agg [.im (.fn (.func 345) []),.im (.fn (.func 346) []),.im (.fn (.func 347) [])]),(104,iv (p.1:Int))],[.vec 0 [] 0 true,.row ((G8 c.loops[j]).map .im)]⟩) (λp=>3-p.1) ⟨0,by simp⟩ (zv [2,3,7,15,97,98,99,103,104]) ?_;rintro⟨i,hi,hcc⟩;simp only[iv];by_cases hi3:i<3
    ·have hwc:=zk i;match i,hi3,hi,hcc,hwc with
     | 0,hi3,hi,hcc,hwc =>
       cases hq:iM (T7 c) (bn c.reg c.lets) c.loops[j] 0<;>simp only[hq] at k1
       ·have h60:=hbad 0 hq;have hs:=trivial;repeat' first|(with_reducible first|refine zz ?_|refine zr ?_|refine zE LP ?_)|simp -dsimp[hs]|refine zp k1 ?_|refine i8 ?_ ?_<;>intro h<;>try exact h.elim
        all_goals try clear hs
        all_goals simp[bb,h60]
       ·have hs:=hwc;repeat' first|(with_reducible first|refine zz ?_|refine zE LP ?_)|simp -dsimp[hs]|refine zp k1 ?_|refine i8 ?_ ?_<;>intro h<;>try exact h.elim
        all_goals try clear hs
        exact At.round ⟨1,by omega,λi hi=>by
         rcases Nat.lt_succ_iff_lt_or_eq.1 hi with h|rfl
         ·exact hcc i h
         ·exact hq⟩ (by simp) (zw Wu 2 (by simp;exact n4 (by omega) (by omega)))
     | 1,hi3,hi,hcc,hwc =>
       cases hq:iM (T7 c) (bn c.reg c.lets) c.loops[j] 1<;>simp only[hq] at k2
       ·have h60:=hbad 1 hq;have hs:=trivial;repeat' first|(with_reducible first|refine zz ?_|refine zr ?_|refine zE LP ?_)|simp -dsimp[hs]|refine zp k2 ?_|refine i8 ?_ ?_<;>intro h<;>try exact h.elim
        all_goals try clear hs
        all_goals simp[bb,h60]
       ·have hs:=hwc;repeat' first|(with_reducible first|refine zz ?_|refine zE LP ?_)|simp -dsimp[hs]|refine zp k2 ?_|refine i8 ?_ ?_<;>intro h<;>try exact h.elim
        all_goals try clear hs
        exact At.round ⟨2,by omega,λi hi=>by
         rcases Nat.lt_succ_iff_lt_or_eq.1 hi with h|rfl
         ·exact hcc i h
         ·exact hq⟩ (by simp) (zw Wu 2 (by simp;exact n4 (by omega) (by omega)))
     | 2,hi3,hi,hcc,hwc =>
       cases hq:iM (T7 c) (bn c.reg c.lets) c.loops[j] 2<;>simp only[hq] at k3
       ·have h60:=hbad 2 hq;have hs:=trivial;repeat' first|(with_reducible first|refine zz ?_|refine zr ?_|refine zE LP ?_)|simp -dsimp[hs]|refine zp k3 ?_|refine i8 ?_ ?_<;>intro h<;>try exact h.elim
        all_goals try clear hs
        all_goals simp[bb,h60]
       ·have hs:=hwc;repeat' first|(with_reducible first|refine zz ?_|refine zE LP ?_)|simp -dsimp[hs]|refine zp k3 ?_|refine i8 ?_ ?_<;>intro h<;>try exact h.elim
        all_goals try clear hs
        exact At.round ⟨3,by omega,λi hi=>by
         rcases Nat.lt_succ_iff_lt_or_eq.1 hi with h|rfl
         ·exact hcc i h
         ·exact hq⟩ (by simp) (zw Wu 2 (by simp;exact n4 (by omega) (by omega)))
    ·obtain rfl:i=3:=by omega
     have hok:=BI hcc;have hs:=hw;repeat' first|(with_reducible first|refine zz ?_|refine zE LP ?_)|simp -dsimp[hs]|refine i8 ?_ ?_<;>intro h<;>try exact h.elim
     all_goals try clear hs
     exact zn ⟨j+1,by omega,H6 hst hok⟩ (zw [2,3,7,97,98,99] 0)
   ·have hok:c.loops.all (O9 (T7 c) (bn c.reg c.lets))=true:=by rw[hall,List.drop_eq_nil_of_le (by omega)];rfl
    rw[hok] at hE;have hs:=hlj;repeat' first|(with_reducible first|refine zz ?_|refine zr ?_|refine zE LP ?_)|simp -dsimp[hs]|refine i8 ?_ ?_<;>intro h<;>try exact h.elim
    all_goals try clear hs
    simp[bb,hE]
 ·have hE:B4 c=l4 c.reg:=by simp[B4,h0]
  have hs:=h0;repeat' first|(with_reducible first|refine zz ?_|refine zr ?_|refine zE LP ?_)|simp -dsimp[hs]|refine zp c1 ?_|refine i8 ?_ ?_<;>intro h<;>try exact h.elim
  all_goals try clear hs
  simp[bb,hE,h0]
end Go.Proofs
namespace Go.Proofs
open Go Go.Ab
theorem FR:Rd 82 G9 (λ_=>True):=(Opens.struct Tryz.underlying82 (by kernel_rfl) (Ai (λ_=>True) (λl=>∃ n:Int,l=[rI n]) (λl=>∃ n:Int,l=[rI n]) (λl=>∃ b:Bool,l=[rB b])) (λi f hf=>by
 rcases i with _|_|_|i<;>simp at hf<;>subst hf
 ·exact oInt
 ·exact oInt
 ·exact Fr)).mono (by
 rintro l ⟨ls,h1,h2,rfl⟩;obtain⟨a,b,c,rfl⟩:=DP h1;obtain⟨x,rfl⟩:=h2 0 a rfl;obtain⟨y,rfl⟩:=h2 1 b rfl;obtain⟨z,rfl⟩:=h2 2 c rfl;exact⟨⟨x,y,z⟩,trivial,rfl⟩)
theorem Gh:Opens Tryz.prog 32 (λl=>∃ xs:List Link,l=[.sl (xs.map G9)]):=
 (Opens.sliceOf Tryz.underlying32 (sz:=3) (by kernel_rfl) (by decide) (λ_=>rfl) FR).mono (by rintro l ⟨xs,_,h⟩;exact⟨xs,h⟩)
theorem Is:Opens Tryz.prog 34 (λl=>∃ n m:Int,l=[rI n,rI m]):=(Opens.struct Tryz.underlying34 (by kernel_rfl) (λ_ l=>∃ n:Int,l=[rI n]) (λi f hf=>by
 rcases i with _|_|i<;>simp at hf<;>subst hf<;>exact oInt)).mono (by
 rintro l ⟨ls,h1,h2,rfl⟩;obtain⟨a,b,rfl⟩:=xe h1;obtain⟨x,rfl⟩:=h2 0 a rfl;obtain⟨y,rfl⟩:=h2 1 b rfl;exact⟨x,y,rfl⟩)
theorem zW:Rd 36 G8 (λ_=>True):=(Opens.struct Tryz.underlying36 (by kernel_rfl) (Ai (λ_=>True) (λl=>∃ xs:List Link,l=[.sl (xs.map G9)]) (λl=>∃ n m:Int,l=[rI n,rI m]) (λ_=>True)) (λi f hf=>by
 rcases i with _|_|i<;>simp at hf<;>subst hf
 ·exact Gh
 ·exact Is)).mono (by
 rintro l ⟨ls,h1,h2,rfl⟩;obtain⟨a,b,rfl⟩:=xe h1;obtain⟨x,rfl⟩:=h2 0 a rfl;obtain⟨y,z,rfl⟩:=h2 1 b rfl;exact⟨⟨x,y,z⟩,trivial,rfl⟩)
theorem Gg:Opens Tryz.prog 162 (λl=>∃ xs:List ChLoop,l=[.sl (xs.map G8)]):=
 (Opens.sliceOf Tryz.underlying162 (sz:=3) (by kernel_rfl) (by decide) (λ_=>rfl) zW).mono (by rintro l ⟨xs,_,h⟩;exact⟨xs,h⟩)
theorem Ic:Rd 164 N7 (λc=>∀ x∈c.reg,fP x):=(Opens.struct Tryz.underlying164 (by kernel_rfl) (Fm (λ_=>True) (λl=>∃ xs:List Issue,(∀ x∈xs,fP x)/\l=[.sl (xs.map e9)]) (λl=>∃ xs:List Int,l=[.sl (xs.map encI)]) (λl=>∃ n:Int,l=[rI n]) (λl=>∃ xs:List ChLoop,l=[.sl (xs.map G8)]) (λ_=>True)) (λi f hf=>by
 rcases i with _|_|_|_|i<;>simp at hf<;>subst hf
 ·exact Iq
 ·exact Fq
 ·exact oInt
 ·exact Gg)).mono (by
 rintro l ⟨ls,h1,h2,rfl⟩;obtain⟨a,b,c,d,rfl⟩:=IR h1;obtain⟨x,hx,rfl⟩:=h2 0 a rfl;obtain⟨y,rfl⟩:=h2 1 b rfl;obtain⟨z,rfl⟩:=h2 2 c rfl;obtain⟨u,rfl⟩:=h2 3 d rfl;exact⟨⟨x,y,z,u⟩,hx,rfl⟩)
end Go.Proofs
namespace Go.Ab
open Go
structure Note where
 number:Int
 day:Int
 signed:Int
 drawing:Int
 letter:Int
 frm:Int
 to:Int
 cancels:Int
 useUp:Bool
 ways:Int
 deriving DecidableEq
structure Notes where
 reg:List Issue
 notes:List Note
 deriving DecidableEq
def l6 (x:Note):List IC:=[rI x.number,rI x.day,.raw (.int .u8 x.signed),rI x.drawing,rI x.letter,rI x.frm,rI x.to,rI x.cancels,rB x.useUp,.raw (.int .u8 x.ways)]
def p7 (n:Notes):List IC:=[.sl (n.reg.map e9),.sl (n.notes.map l6)]
def fm (x:Note):DV:=.agg ((l6 x).map .im)
def o5 (n:Notes):DV:=.agg ((p7 n).map .im)
attribute [simp] l6 p7 fm o5
end Go.Ab
namespace Go.Proofs
open Go Go.Ab
variable {G:LI}
def Gr (x:Note):Bool:=(decide (1<=x.number)&&decide (x.number<=9999))&&(decide (0<=x.day)&&decide (x.day<=14610))
theorem ID (n:Notes) (i:Nat) (x:Note) (hx:n.notes[i]?=some x):zP Tryz.prog G 325 [o5 n,iv (i:Int)] (bv (Gr x)):=by
 refine zf Tryz.func325 Tryz.ntmps325 ?_;try simp only[o5,iv]
 have hi:i<n.notes.length:=e7 hx;have hxe:n.notes[i]=x:=(List.getElem?_eq_some_iff.1 hx).2;have c1:=ig (G:=G) 1 9999 [x.number] (by simp);have c2:=ig (G:=G) 0 14610 [x.day] (by simp);have hs:=za hxe hi;repeat' first|(with_reducible first|refine zz ?_|refine zr ?_|refine zE [0,1,2,4] ?_)|simp -dsimp[hs]|refine zt c1 ?_ ?_ ?_;(focus simp;done);focus (simp;done)|refine zt c2 ?_ ?_ ?_;(focus simp;done);focus (simp;done)|with_reducible refine j0 ?_ ?_<;>intro h<;>have h0:=h<;>(try simp only[i7] at h)<;>have h2:=h<;>(try simp at h2)<;>replace hs:=za h0 (za h (za h2 hs))
 all_goals try clear hs
 all_goals simp_all [Gr]
 all_goals omega
def Gq (x:Note):Bool:=decide (x.signed<=2)&&decide (x.ways<=3)
theorem IB (n:Notes) (i:Nat) (x:Note) (hx:n.notes[i]?=some x):zP Tryz.prog G 326 [o5 n,iv (i:Int)] (bv (Gq x)):=by
 refine zf Tryz.func326 Tryz.ntmps326 ?_;try simp only[o5,iv]
 have hi:i<n.notes.length:=e7 hx;have hxe:n.notes[i]=x:=(List.getElem?_eq_some_iff.1 hx).2;have hs:=za hxe hi;repeat' first|(with_reducible first|refine zz ?_|refine zr ?_|refine zE [0,1,2,4] ?_)|simp -dsimp[hs]|with_reducible refine j0 ?_ ?_<;>intro h<;>have h0:=h<;>(try simp only[i7] at h)<;>have h2:=h<;>(try simp at h2)<;>replace hs:=za h0 (za h (za h2 hs))
 all_goals try clear hs
 all_goals (clear hx;simp_all [Gq])
 all_goals omega
def Fs (x:Note):Bool:=(decide (1<=x.frm)&&decide (x.frm<=999))&&(decide (1<=x.to)&&decide (x.to<=999))&&decide (x.frm<=x.to)
theorem IA (n:Notes) (i:Nat) (x:Note) (hx:n.notes[i]?=some x):zP Tryz.prog G 327 [o5 n,iv (i:Int)] (bv (Fs x)):=by
 refine zf Tryz.func327 Tryz.ntmps327 ?_;try simp only[o5,iv]
 have hi:i<n.notes.length:=e7 hx;have hxe:n.notes[i]=x:=(List.getElem?_eq_some_iff.1 hx).2;have c1:=ig (G:=G) 1 999 [x.frm,x.to] (by simp);have hs:=za hxe hi;repeat' first|(with_reducible first|refine zz ?_|refine zr ?_|refine zE [0,1,2,4,5] ?_)|simp -dsimp[hs]|refine zt c1 ?_ ?_ ?_;(focus simp;done);focus (simp;done)|with_reducible refine j0 ?_ ?_<;>intro h<;>have h0:=h<;>(try simp only[i7] at h)<;>have h2:=h<;>(try simp at h2)<;>replace hs:=za h0 (za h (za h2 hs))
 all_goals try clear hs
 all_goals (clear hx c1;simp_all [Fs])
 all_goals omega
end Go.Proofs
namespace Go.Proofs
open Go Go.Ab Tryz
variable {G:LI}
@[simp] abbrev LL:List Nat:=[0,1,4,5,7,8,9,16]
theorem mt (l:List Note) (p:Note->Bool) (k:Nat) (caps:List DC) (objs:List DObj) (hok:E6 prog k) (hf:∀ x∈l,DCall prog G k (fm x :: caps.map .one) objs (λd o=>d=bv (p x)/\o=objs)) (hl:l.length<1000000):DCall prog G 336 [.one (.im (.sl (l.map l6))),.one (.fn (.func k) caps)] objs (λd o=>d=iv (I9 p l)/\o=objs):=by
 refine h9 func336 rfl ntmps336 (by simp) rfl ?_;have hs:=trivial;repeat' first|(with_reducible first|refine zz ?_|refine zE LL ?_)|simp -dsimp[hs]
 refine i6 (ι:={ k:Nat // k<=l.length/\∀ j x,j<k->l[j]?=some x->p x=false }) (λi=>⟨19,[(0,.one (.im (.sl (l.map l6)))),(1,.one (.fn (.func k) caps)),(7,iv (l.length:Int)),(8,iv (i.1:Int))],objs⟩) (λi=>l.length-i.1) ⟨0,by simp⟩ (zv [0,1,7,8]) ?_;rintro⟨i,hi,hno⟩;simp only[iv];by_cases hlt:i<l.length
 ·have hx:l[i]?=some l[i]:=by simp[hlt]
  have hw:=zk i;have hc:=hf l[i] (by simp);simp only[fm,l6,List.map_cons,List.map_nil,bv,rI] at hc;have hs:=za hx (za hw hok);repeat' first|(with_reducible first|refine zz ?_|refine And.intro (by omega) ?_|refine zr ?_|refine zE LL ?_)|simp -dsimp[hs]|refine CallE.here hc ?_|refine i8 ?_ ?_<;>intro h<;>try exact h.elim|with_reducible refine And.intro ?_ ?_
  all_goals try omega
  ·exact(M8 hx (by assumption) hno).symm
  ·exact At.round ⟨i+1,by omega,λj x hj hjx=>by
    by_cases e:j=i
    ·subst e;rw[hx] at hjx;cases hjx;assumption
    ·exact hno j x (by omega) hjx⟩ (by simp;omega) (zv [0,1,7,8])
 ·have hs:=trivial;repeat' first|(with_reducible first|refine zz ?_|refine zr ?_|refine zE LL ?_)|simp -dsimp[hs]|refine i8 ?_ ?_<;>intro h<;>try exact h.elim|with_reducible refine And.intro ?_ ?_
  all_goals try omega
  exact(T5 λj x hjx=>hno j x (by have:=e7 hjx;omega) hjx).symm
theorem be (l:List Note) (p:Note->Bool) (k:Nat) (caps:List DC) (objs:List DObj) (hok:E6 prog k) (hf:∀ x∈l,DCall prog G k (fm x :: caps.map .one) objs (λd o=>d=bv (p x)/\o=objs)) (hl:l.length<1000000):DCall prog G 331 [.one (.im (.sl (l.map l6))),.one (.fn (.func k) caps)] objs (λd o=>d=bv (l.any p)/\o=objs):=by
 refine h9 func331 rfl ntmps331 (by simp) rfl ?_;have hc:=mt l p k caps objs hok hf hl;repeat' first|(with_reducible first|refine zz ?_|refine zx ?_|refine zE [0,1,4] ?_)|simp -dsimp|refine CallE.here hc ?_|with_reducible refine And.intro ?_ ?_
 simp[B0]
def Gm (x:Note):Bool:=decide (2<=x.letter) || !x.useUp&&decide (x.ways=0)
theorem Iy (n:Notes) (i:Nat) (x:Note) (hx:n.notes[i]?=some x):zP prog G 329 [o5 n,iv (i:Int)] (bv (Gm x)):=by
 refine zf func329 ntmps329 ?_;try simp only[o5,iv]
 have hi:i<n.notes.length:=e7 hx;have hxe:n.notes[i]=x:=(List.getElem?_eq_some_iff.1 hx).2;have hs:=za hxe hi;repeat' first|(with_reducible first|refine zz ?_|refine zr ?_|refine zE [0,1,2,4,5] ?_)|simp -dsimp[hs]|with_reducible refine j0 ?_ ?_<;>intro h<;>have h0:=h<;>(try simp only[i7] at h)<;>have h2:=h<;>(try simp at h2)<;>replace hs:=za h0 (za h (za h2 hs))
 all_goals try clear hs
 all_goals (clear hx;simp_all [Gm])
 all_goals omega
theorem Gl (n:Notes) (x y:Note):DCall prog G 332 (fm y :: [DC.ptr 1 0].map .one) [.row ((p7 n).map .im),.row ((l6 x).map .im)] (λd o=>d=bv (decide (y.number=x.cancels))/\o=[.row ((p7 n).map .im),.row ((l6 x).map .im)]):=by
 refine DCall.drop ?_;refine h9 func332 rfl ntmps332 (by simp) rfl ?_;simp only[fm,l6,p7,rI,rB];repeat' first|(with_reducible first|refine zz ?_|refine zx ?_|refine zE [0,1,2,3] ?_)|simp -dsimp|with_reducible refine And.intro ?_ ?_
def CJ (l:List Note) (i:Nat) (x:Note):Bool:=decide (x.cancels=0)||(l.take i).any λy=>decide (y.number=x.cancels)
theorem Ix (n:Notes) (i:Nat) (x:Note) (hx:n.notes[i]?=some x) (hl:n.notes.length<1000):zP prog G 330 [o5 n,iv (i:Int)] (bv (CJ n.notes i x)):=by
 refine zf func330 ntmps330 ?_;try simp only[o5,iv]
 have hi:i<n.notes.length:=e7 hx;have hxe:n.notes[i]=x:=(List.getElem?_eq_some_iff.1 hx).2;have hlt:(n.notes.take i).length<1000000:=by simp;omega
 have hil:i<=n.notes.length:=by omega
 have c1:=be (G:=G) (n.notes.take i) (λy=>decide (y.number=x.cancels)) 332 [.ptr 1 0] [.row ((p7 n).map .im),.row ((l6 x).map .im)] (by simp) (λy _=>Gl n x y) hlt;simp only[l6,p7,rI,rB,List.map_take,List.map_cons,List.map_nil] at c1;have hs:=za hxe (za hi hil);repeat' first|(with_reducible first|refine zz ?_|refine zr ?_|refine zE [0,1,2,4,5] ?_)|simp -dsimp[hs]|refine zh c1 ?_|with_reducible refine j0 ?_ ?_<;>intro h<;>have h0:=h<;>(try simp only[i7] at h)<;>have h2:=h<;>(try simp at h2)<;>replace hs:=za h0 (za h (za h2 hs))
 all_goals try clear hs
 all_goals (clear hx c1;simp_all [CJ])
theorem Gk (n:Notes) (i:Nat) (x y:Note) (hx:n.notes[i]?=some x):DCall prog G 334 (fm y :: [DC.ptr 0 0,DC.ptr 1 0].map .one) [.row ((p7 n).map .im),.row [.im (rI (i:Int))]] (λd o=>d=bv (decide (y.number=x.number))/\o=[.row ((p7 n).map .im),.row [.im (rI (i:Int))]]):=by
 have hi:i<n.notes.length:=e7 hx;have hxe:n.notes[i]=x:=(List.getElem?_eq_some_iff.1 hx).2;refine DCall.drop ?_;refine h9 func334 rfl ntmps334 (by simp) rfl ?_;simp only[fm,l6,p7,rI,rB];have hs:=za hxe hi;repeat' first|(with_reducible first|refine zz ?_|refine zr ?_)|simp -dsimp[hs]|refine zM 1 14 10 [0,1,2,3,4] ?_|with_reducible refine zE [0,1,2,3,4] ?_|with_reducible refine And.intro ?_ ?_
def vA (l:List Note) (i:Nat) (x:Note):Bool:=!(l.take i).any λy=>decide (y.number=x.number)
theorem Iw (n:Notes) (i:Nat) (x:Note) (hx:n.notes[i]?=some x) (hl:n.notes.length<1000):zP prog G 333 [o5 n,iv (i:Int)] (bv (vA n.notes i x)):=by
 refine zf func333 ntmps333 ?_;try simp only[o5,iv]
 have hi:i<n.notes.length:=e7 hx;have hlt:(n.notes.take i).length<1000000:=by simp;omega
 have hil:i<=n.notes.length:=by omega
 have c1:=be (G:=G) (n.notes.take i) (λy=>decide (y.number=x.number)) 334 [.ptr 0 0,.ptr 1 0] [.row ((p7 n).map .im),.row [.im (rI (i:Int))]] (by simp) (λy _=>Gk n i x y hx) hlt;simp only[l6,p7,rI,rB,List.map_take,List.map_cons,List.map_nil] at c1;have hs:=za hi hil;repeat' first|(with_reducible first|refine zz ?_|refine zr ?_|refine zE [0,1,2,3,4] ?_)|simp -dsimp[hs]|refine zh c1 ?_
 all_goals try clear hs
 all_goals (clear hx c1;simp_all [vA])
def Dt:List Int->Int
 | []=>0
 | x :: r=>if x=0 then Dt r else x
@[simp] abbrev QA:List Nat:=[0,2,3,5,6,7,8,9,14]
theorem JX (l:List Int) (hl:l.length<1000000):zP prog G 59 [q9 l] (iv (Dt l)):=by
 refine zf func59 ntmps59 ?_;try simp only[q9]
 have hs:=trivial;repeat' first|(with_reducible first|refine zz ?_|refine zE QA ?_)|simp -dsimp[hs]
 refine i6 (ι:={ p:Nat // p<=l.length/\Dt l=Dt (l.drop p) }) (λp=>⟨18,[(3,iv 0),(6,.one (.im (.sl (l.map encI)))),(7,iv (l.length:Int)),(8,iv (p.1:Int))],[]⟩) (λp=>l.length-p.1) ⟨0,by simp⟩ (zv [3,6,7,8]) ?_;rintro⟨k,hk,hu⟩;simp only[iv];by_cases hlt:k<l.length
 ·have hw:=zk k;rw[List.drop_eq_getElem_cons hlt,Dt] at hu;generalize hx:l[k]=x at *;have hs:=za hx (za hw hlt);repeat' first|(with_reducible first|refine zz ?_|refine zr ?_|refine zE QA ?_)|simp -dsimp[hs]|refine i8 ?_ ?_<;>intro h<;>try exact h.elim
  ·rw[hu,if_neg (by assumption)]
  ·rw[if_pos (by assumption)] at hu;exact zn ⟨k+1,by omega,hu⟩ (zv [3,6,7,8])
 ·rw[List.drop_eq_nil_of_le (by omega)] at hu;have hs:=hlt;repeat' first|(with_reducible first|refine zz ?_|refine zr ?_|refine zE QA ?_)|simp -dsimp[hs]|refine i8 ?_ ?_<;>intro h<;>try exact h.elim
  rw[hu];rfl
def BZ (y x:Note):Bool:=decide (y.day<x.day)||decide (y.day=x.day)&&decide (y.number<x.number)
def yW (l:List Note) (i:Nat) (x:Note):Bool:=if i=0 then true else match l[i-1]? with|some y=>BZ y x|none=>false
theorem Gc (y x:Note):decide (Dt [ff y.day x.day,ff y.number x.number]<0)=BZ y x:=by
 unfold BZ ff Dt Dt Dt;rw[Bool.eq_iff_iff];simp only[decide_eq_true_eq,Bool.or_eq_true,Bool.and_eq_true];repeat' split
 all_goals omega
theorem Iv (n:Notes) (i:Nat) (x:Note) (hx:n.notes[i]?=some x) (hl:n.notes.length<1000):zP prog G 335 [o5 n,iv (i:Int)] (bv (yW n.notes i x)):=by
 refine zf func335 ntmps335 ?_;try simp only[o5,iv]
 have hi:i<n.notes.length:=e7 hx;have hxe:n.notes[i]=x:=(List.getElem?_eq_some_iff.1 hx).2;by_cases h00:i=0
 ·subst h00;have hs:=za hxe hi;repeat' first|(with_reducible first|refine zz ?_|refine zr ?_)|simp -dsimp[hs]|refine zM 1 40 36 [0,1,2,4] ?_|with_reducible refine zE [0,1,2,4] ?_
  all_goals simp[yW]
 ·have hi1:i-1<n.notes.length:=by omega
  have hw:IntKind.i64.wrap ((i:Int)-1)=((i-1:Nat):Int):=by rw[n4 (by omega) (by omega)];omega
  have hne:((i:Int)=0)=False:=by simp[h00]
  generalize hy:n.notes[i-1]=y;have c1:=jA (G:=G) y.day x.day;have c2:=jA (G:=G) y.number x.number;have c3:=JX (G:=G) [ff y.day x.day,ff y.number x.number] (by simp);have hs:=za hxe (za hi (za hi1 (za hw (za hne (za hy h00)))));repeat' first|(with_reducible first|refine zz ?_|refine zr ?_)|simp -dsimp[hs]|refine zq c1 ?_|refine zq c2 ?_|refine zq c3 ?_|refine zM 1 40 36 [0,1,2,4] ?_|with_reducible refine zE [0,1,2,4] ?_
  rw[Gc,yW,if_neg h00,List.getElem?_eq_getElem hi1,hy]
def DD (l:List Issue) (x:Note):Bool:=if x.drawing=0/\x.letter=0 then decide (x.cancels≠0) else decide (yZ l x.drawing x.letter=0)
theorem Iz (n:Notes) (i:Nat) (x:Note) (hx:n.notes[i]?=some x) (hG:o3 G) (hs:W2 n.reg):zP prog G 328 [o5 n,iv (i:Int)] (bv (DD n.reg x)):=by
 refine zf func328 ntmps328 ?_;try simp only[o5,iv]
 have hi:i<n.notes.length:=e7 hx;have hxe:n.notes[i]=x:=(List.getElem?_eq_some_iff.1 hx).2;have c1:=Ci (G:=G) n.reg x.drawing x.letter hG hs;simp only[D9] at c1;have hs:=za hxe hi;repeat' first|(with_reducible first|refine zz ?_|refine zr ?_|refine zE [0,1,2,4,5,7,19] ?_)|simp -dsimp[hs]|refine zp c1 ?_|refine i8 ?_ ?_<;>intro h<;>try exact h.elim
 all_goals try clear hs
 ·have h1:x.drawing=0/\x.letter=0:=⟨h.1.symm,h.2.symm⟩
  rw[DD,if_pos h1];simp
 ·rw[DD,if_neg (by omega)]
theorem rf (l:List Int) (n:Int) (hl:l.length<1000000):zP prog G 150 [q9 l,iv n] (iv (I9 (λx=>decide (n=x)) l)):=by
 refine zf func150 ntmps150 ?_;try simp only[q9,iv]
 have hs:=trivial;repeat' first|(with_reducible first|refine zz ?_|refine zE LL ?_)|simp -dsimp[hs]
 refine i6 (ι:={ k:Nat // k<=l.length/\∀ j x,j<k->l[j]?=some x->decide (n=x)=false }) (λi=>⟨19,[(0,q9 l),(1,iv n),(7,iv (l.length:Int)),(8,iv (i.1:Int))],[]⟩) (λi=>l.length-i.1) ⟨0,by simp⟩ (zv [0,1,7,8]) ?_;rintro⟨i,hi,hno⟩;simp only[iv,q9];by_cases hlt:i<l.length
 ·have hx0:l[i]?=some l[i]:=by simp[hlt]
  have hw:=zk i;generalize hx:l[i]=x at *;have hs:=za hx (za hw hlt);repeat' first|(with_reducible first|refine zz ?_|refine zr ?_|refine zE LL ?_)|simp -dsimp[hs]|refine i8 ?_ ?_<;>intro h<;>try exact h.elim
  ·exact(M8 hx0 (by simp;assumption) hno).symm
  ·exact At.round ⟨i+1,by omega,λj y hj hjx=>by
    by_cases e:j=i
    ·subst e;rw[hx0] at hjx;cases hjx;simp;assumption
    ·exact hno j y (by omega) hjx⟩ (by simp;omega) (zv [0,1,7,8])
 ·have hs:=hlt;repeat' first|(with_reducible first|refine zz ?_|refine zr ?_|refine zE LL ?_)|simp -dsimp[hs]|refine i8 ?_ ?_<;>intro h<;>try exact h.elim
  exact(T5 λj x hjx=>hno j x (by have:=e7 hjx;omega) hjx).symm
theorem cM (l:List Int) (n:Int) (hl:l.length<1000000):zP prog G 146 [q9 l,iv n] (bv (decide (n∈l))):=by
 refine zf func146 ntmps146 ?_;try simp only[q9,iv]
 have hc:=rf (G:=G) l n hl;repeat' first|(with_reducible first|refine zz ?_|refine zx ?_|refine zE [0,1,4] ?_)|simp -dsimp|refine zp hc ?_
 have h1:=B0 (λx=>decide (n=x)) l;rw[<- decide_eq_true_iff (p:=0<=_),h1];simp
theorem iV (n lo hi:Int):zP prog G 219 [iv n,iv lo,iv hi] (bv (decide (lo<=n)&&decide (n<=hi))):=by
 refine zf func219 ntmps219 ?_;try simp only[iv,iv,iv]
 have hs:=trivial;repeat' first|(with_reducible first|refine zz ?_|refine zr ?_|refine zE [0,1,2,6] ?_)|simp -dsimp[hs]|with_reducible refine j0 ?_ ?_<;>intro h<;>have h0:=h<;>(try simp only[i7] at h)<;>have h2:=h<;>(try simp at h2)<;>replace hs:=za h0 (za h (za h2 hs))
 all_goals try clear hs
 all_goals simp_all
end Go.Proofs
namespace Go.Proofs
open Go Go.Ab
def tw (n:Notes) (i:Nat) (x:Note):Bool:=Gr x&&Gq x&&Fs x&&DD n.reg x&&Gm x&&CJ n.notes i x&&vA n.notes i x&&yW n.notes i x
def qL (n:Notes) (i:Nat) (x:Note):Nat->Bool
 | 0=>Gr x
 | 1=>Gq x
 | 2=>Fs x
 | 3=>DD n.reg x
 | 4=>Gm x
 | 5=>CJ n.notes i x
 | 6=>vA n.notes i x
 | _=>yW n.notes i x
theorem Dz {n:Notes} {i:Nat} {x:Note} {k:Nat} (h:qL n i x k=false):tw n i x=false:=by
 unfold tw;match k with
 | 0|1|2|3|4|5|6=>simp only[qL] at h;simp[h]
 | k+7=>simp only[qL] at h;simp[h]
theorem DA {n:Notes} {i:Nat} {x:Note} (h:∀ k<8,qL n i x k=true):tw n i x=true:=by
 have h0:=h 0 (by omega);have h1:=h 1 (by omega);have h2:=h 2 (by omega);have h3:=h 3 (by omega);have h4:=h 4 (by omega);have h5:=h 5 (by omega);have h6:=h 6 (by omega);have h7:=h 7 (by omega);simp only[qL] at h0 h1 h2 h3 h4 h5 h6 h7;simp[tw,h0,h1,h2,h3,h4,h5,h6,h7]
def FN (x:Note):Bool:=(decide (1<=x.number)&&decide (x.number<=9999))&&(decide (0<=x.day)&&decide (x.day<=14610))&&decide (x.signed<=2)&&(decide (1<=x.frm)&&decide (x.frm<=x.to))&&decide (x.to<=999)&&decide (x.ways<=3)
def FM (l:List Issue) (x:Note):Bool:=if x.drawing=0/\x.letter=0 then decide (x.cancels≠0) else (n9 l x.drawing x.letter).isSome
def FL (x:Note):Bool:=!(decide (x.letter<2)&&(x.useUp||decide (0<x.ways)))
def nj (n:Notes) (i:Nat) (x:Note):Bool:=FN x&&FM n.reg x&&FL x&&vA n.notes i x&&CJ n.notes i x&&yW n.notes i x
theorem zT {n:Notes} {i:Nat} {x:Note} (h0:l4 n.reg=0) (hw:0<=x.ways):nj n i x=tw n i x:=by
 have hB:FM n.reg x=DD n.reg x:=by
  unfold FM DD yZ;rw[if_neg (show ¬ l4 n.reg≠0 by simp[h0])];split
  ·rfl
  ·cases (n9 n.reg x.drawing x.letter).isSome<;>rfl
 have hC:FL x=Gm x:=by
  unfold FL Gm;rw[Bool.eq_iff_iff];cases x.useUp<;>simp<;>omega
 have hA:FN x=(Gr x&&Gq x&&Fs x):=by
  unfold FN Gr Gq Fs;rw[Bool.eq_iff_iff];simp only[Bool.and_eq_true,decide_eq_true_eq];omega
 unfold nj tw;rw[hA,hB,hC];generalize CJ n.notes i x=a;generalize vA n.notes i x=b;cases a<;>cases b<;>simp
def j7 (l:List Note):List Int:=(l.filter λx=>decide (x.signed=1)).map (·.number)
theorem cB (l:List Note) (k:Nat) (h:k<l.length):j7 (l.take (k+1))=j7 (l.take k)++(if l[k].signed=1 then [l[k].number] else []):=by
 unfold j7;rw[List.take_succ_eq_append_getElem h,List.filter_append,List.map_append]
 congr 1
 by_cases e:l[k].signed=1<;>simp[e]
theorem ai (l:List Note):(j7 l).length<=l.length:=by
 unfold j7;rw[List.length_map];exact List.length_filter_le _ _
def di (n:Notes):Prop:=∀ (i:Nat) (x:Note),n.notes[i]?=some x->tw n i x=true
def dJ (n:Notes):Bool:=decide (n.notes.length<=12)&&(List.range n.notes.length).all (λi=>match n.notes[i]? with|some x=>tw n i x|none=>true)&&decide ((j7 n.notes).length<=5)
def v7 (n:Notes):Int:=if l4 n.reg≠0 then l4 n.reg else if dJ n then 0 else 30
theorem notesB_iff {n:Notes}:dJ n=true↔n.notes.length<=12/\di n/\(j7 n.notes).length<=5:=by
 simp only[dJ,Bool.and_eq_true,decide_eq_true_eq,List.all_eq_true,List.mem_range,and_assoc];refine and_congr_right λ_=>and_congr_left λ_=>⟨λh i x hx=>?_,λh i hi=>?_⟩
 ·have:=h i (List.getElem?_eq_some_iff.1 hx).1;rw[hx] at this;exact this
 ·rw[List.getElem?_eq_getElem hi];exact h i _ (List.getElem?_eq_getElem hi)
theorem lZ {n:Notes} (h:di n):(n.notes.map (·.number)).Nodup:=by
 rw[List.nodup_iff_pairwise_ne,List.pairwise_iff_getElem];intro i j hi hj hij;simp only[List.length_map] at hi hj;simp only[List.getElem_map];have h1:=h j _ (List.getElem?_eq_getElem hj);simp only[tw,Bool.and_eq_true,vA,Bool.not_eq_true',List.any_eq_false,decide_eq_true_eq] at h1;refine h1.1.2 _ (List.mem_iff_getElem.2 ⟨i,by simp;omega,?_⟩);simp
theorem dI {n:Notes} (h:di n):(j7 n.notes).Nodup:=by
 have:=lZ h;unfold j7;exact this.sublist ((List.filter_sublist).map _)
def sO (o s:List Int):Prop:=∀ (i:Nat) (v:Int),s[i]?=some v->v∈o/\∀ j u,i=j+1->s[j]?=some u->u<v
def gw (o s:List Int) (v:Int):Nat->Bool
 | 0=>decide (v∈o)
 | j+1=>decide (v∈o)&&(match s[j]? with|some u=>decide (u<v)|none=>true)
def G1 (o s:List Int):Bool:=(List.range s.length).all λi=>match s[i]? with|some v=>gw o s v i|none=>true
theorem truthB_iff {o s:List Int}:G1 o s=true↔sO o s:=by
 simp only[G1,List.all_eq_true,List.mem_range];constructor
 ·intro h i v hv;have h1:=h i (List.getElem?_eq_some_iff.1 hv).1;rw[hv] at h1;simp only at h1;cases i with
  | zero =>
    simp only[gw,decide_eq_true_eq] at h1;exact⟨h1,λj u e=>by omega⟩
  | succ i =>
    simp only[gw,decide_eq_true_eq,Bool.and_eq_true] at h1;refine⟨h1.1,λj u e hu=>?_⟩;obtain rfl:j=i:=by omega
    rw[hu] at h1;simpa using h1.2
 ·intro h i hi;rw[List.getElem?_eq_getElem hi];simp only;obtain⟨h1,h2⟩:=h i _ (List.getElem?_eq_getElem hi);cases i with
  | zero=>simpa only[gw,decide_eq_true_eq] using h1
  | succ i =>
    have hj:i<s.length:=by omega
    simp only[gw,List.getElem?_eq_getElem hj,Bool.and_eq_true,decide_eq_true_eq];exact⟨h1,h2 i _ rfl (List.getElem?_eq_getElem hj)⟩
theorem nJ {o s:List Int} {i:Nat} {v:Int} (h:s[i]?=some v) (hb:v∉o\/∃ j u,i=j+1/\s[j]?=some u/\v<=u):G1 o s=false:=by
 rw[<- Bool.not_eq_true,truthB_iff];intro ht;obtain⟨h1,h2⟩:=ht i v h;rcases hb with hb|⟨j,u,e,hu,hle⟩
 ·exact hb h1
 ·have:=h2 j u e hu;omega
theorem lq {o s:List Int} (h:sO o s):G1 o s=true:=truthB_iff.2 h
def ew (o s:List Int) (k:Nat):Prop:=∀ (i:Nat) (v:Int),i<k->s[i]?=some v->v∈o/\∀ j u,i=j+1->s[j]?=some u->u<v
theorem gv {o s:List Int} {k:Nat} {v:Int} (h:ew o s k) (hv:s[k]?=some v) (ho:v∈o) (hl:∀ j u,k=j+1->s[j]?=some u->u<v):ew o s (k+1):=by
 intro i w hi hw;by_cases e:i=k
 ·subst e;rw[hv] at hw;cases hw;exact⟨ho,hl⟩
 ·exact h i w (by omega) hw
theorem qq {o s:List Int} (h:ew o s s.length):sO o s:=λi v hv=>h i v (List.getElem?_eq_some_iff.1 hv).1 hv
theorem lu {o s:List Int} {k:Nat} (h:ew o s k):∀ (j i:Nat) (u v:Int),i<j->j<k->s[i]?=some u->s[j]?=some v->u<v
 | 0,_,_,_,h1,_,_,_=>by omega
 | j+1,i,u,v,h1,h2,h3,h4=>by
   have hj:j<s.length:=by have:=(List.getElem?_eq_some_iff.1 h4).1;omega
   have hw:s[j]?=some s[j]:=List.getElem?_eq_getElem hj;have h5:=(h (j+1) v h2 h4).2 j s[j] rfl hw;by_cases e:i=j
   ·subst e;rw[hw] at h3;cases h3;exact h5
   ·have:=lu h j i u s[j] (by omega) (by omega) h3 hw;omega
theorem qp {o s:List Int} {k:Nat} {v:Int} (h:ew o s (k+1)) (hk:k<s.length) (hv:s[k]<v):v∉s.take (k+1):=by
 intro hm;obtain⟨i,hi,e⟩:=List.mem_take_iff_getElem.1 hm;by_cases he:i=k
 ·subst he;omega
 ·have:=lu h k i s[i] s[k] (by omega) (by omega) (List.getElem?_eq_getElem _) (List.getElem?_eq_getElem _);omega
open Go Go.Ab Tryz
variable {G:LI}
def Cs (n:Notes):Prop:=mY n.reg/\n.notes.length<=16
def ct (n:Notes):Bool:=open Classical in decide (mY n.reg)&&decide (n.notes.length<=16)
theorem Bc (n:Notes):zP prog G 110 [o5 n] (bv (!ct n)):=by
 refine zf func110 ntmps110 ?_;try simp only[o5]
 have c1:=Eh (G:=G) n.reg;have hE:ct n=(open Classical in decide (mY n.reg)&&decide (n.notes.length<=16)):=rfl;by_cases hS:mY n.reg
 ·have c1':∀ objs,DCall prog G 167 [F9 n.reg] objs (λd objs'=>d=bv false/\objs'=objs):=λobjs=>(c1 objs).mono λd o ⟨h1,h2⟩=>⟨by rw[h1];simp[hS],h2⟩
  rw[decide_eq_true hS,Bool.true_and] at hE;repeat' first|(with_reducible first|refine zz ?_|refine zx ?_|refine zE [0,1,2] ?_)|simp -dsimp|refine zp c1' ?_
  rw[hE,<- decide_not,decide_eq_decide];omega
 ·have c1':∀ objs,DCall prog G 167 [F9 n.reg] objs (λd objs'=>d=bv true/\objs'=objs):=λobjs=>(c1 objs).mono λd o ⟨h1,h2⟩=>⟨by rw[h1];simp[hS],h2⟩
  rw[decide_eq_false hS,Bool.false_and] at hE;repeat' first|(with_reducible first|refine zz ?_|refine zx ?_|refine zE [0,1,2] ?_)|simp -dsimp|refine zp c1' ?_
  rw[hE];try rfl
end Go.Proofs
namespace Go.Ab
open Go
def ui (b:Bool):List IC:=[rB b]
def Lu (l:List Bool):DV:=.one (.im (.sl (l.map ui)))
attribute [simp] ui Lu
def qb (l:List Note) (b:List Bool) (d:Int):Nat->Int
 | 0=>-1
 | k+1=>if b[k]?=some true/\(l[k]?.map (·.drawing))=some d then (k:Int) else qb l b d k
theorem BM (l:List Note) (b:List Bool) (d:Int):∀ k,-1<=qb l b d k/\qb l b d k<k
 | 0=>by simp[qb]
 | k+1=>by
   have:=BM l b d k;unfold qb;split<;>omega
def gY (l:List Note) (b:List Bool) (d:Int):Int:=if qb l b d b.length<0 then 1 else match l[(qb l b d b.length).toNat]? with|some x=>x.letter|none=>0
end Go.Ab
namespace Go.Proofs
open Go Go.Ab
variable {G:LI}
end Go.Proofs
namespace Go.Proofs
open Go Go.Ab
variable {G:LI}
end Go.Proofs
namespace Go.Ab
open Go
def Bg (signed without:List Int) (m:Int) (x:Note):Bool:=(decide (x.signed=2)||decide (x.number∈signed)) && !decide (x.number∈without)&&(decide (x.frm<=m)&&decide (m<=x.to))
def ky (n:Int):List Note->List Bool->Bool
 | y :: l,b :: o=>!(b&&decide (y.cancels=n))&&ky n l o
 | _,_=>true
def T4 (signed without:List Int) (m:Int):List Note->List Bool
 | []=>[]
 | x :: r=>(Bg signed without m x&&ky x.number r (T4 signed without m r)) :: T4 signed without m r
theorem dQ (signed without:List Int) (m:Int):∀ l,(T4 signed without m l).length=l.length
 | []=>rfl
 | x :: r=>by simp[T4,dQ signed without m r]
@[simp] theorem IY (L:List Bool) (k:Nat) (v:Bool):(l5 (L.map ui)).set k [DC.im (.raw (.bool v))]=l5 ((L.set k v).map ui):=by
 simp only[l5,List.map_set,ui,rB,List.map_cons,List.map_nil]
@[simp] theorem Jd (L:List Bool) (k:Nat) (h:k<(l5 (L.map ui)).length):(l5 (L.map ui))[k]=[DC.im (.raw (.bool (L[k]'(by simpa[q8] using h))))]:=by
 simp[l5]
end Go.Ab
namespace Go.Proofs
open Go Go.Ab
variable {G:LI}
end Go.Proofs
namespace Go.Proofs
open Go Go.Ab
def C5 (l:List Note) (i:Nat):Int:=((l[i]?).map (·.number)).getD 0
def kr (l:List Note) (i:Nat):Bool:=match l[i]? with|some x=>decide (x.signed=1)|none=>false
structure OpenTo (l:List Note) (k:Nat) (S:List Nat):Prop where
 perm:S.Perm ((List.range k).filter (kr l))
 srt:S.Pairwise λa b=>C5 l a<=C5 l b
theorem OpenTo.nil (l:List Note):OpenTo l 0 []:=⟨by simp,by simp⟩
theorem OpenTo.lt {l:List Note} {k:Nat} {S:List Nat} (h:OpenTo l k S):∀ i∈S,i<k/\kr l i=true:=λi hi=>by
 have:=h.perm.mem_iff.1 hi;simpa using this
theorem OpenTo.len {l:List Note} {k:Nat} {S:List Nat} (h:OpenTo l k S):S.length<=k:=by
 rw[h.perm.length_eq];have:=List.length_filter_le (kr l) (List.range k);simpa using this
theorem OpenTo.skip {l:List Note} {k:Nat} {S:List Nat} (h:OpenTo l k S) (hk:kr l k=false):OpenTo l (k+1) S:=
 ⟨by rw[List.range_succ,List.filter_append];simpa[hk] using h.perm,h.srt⟩
theorem OpenTo.put {l:List Note} {k:Nat} {S:List Nat} (h:OpenTo l k S) (hk:kr l k=true) (q:Nat)
 (h1:∀ i∈S.take q,C5 l i<=C5 l k) (h2:∀ i∈S.drop q,C5 l k<=C5 l i):OpenTo l (k+1) (S.take q++k :: S.drop q):=by
 constructor
 ·rw[List.range_succ,List.filter_append];simp only[List.filter_cons,hk,if_true,List.filter_nil];refine List.perm_middle.trans ?_;rw[List.take_append_drop];exact(List.perm_append_singleton k _).symm.trans (List.Perm.append_right _ h.perm)
 ·have h3:=h.srt;rw[<- List.take_append_drop q S,List.pairwise_append] at h3;obtain⟨p1,p2,p3⟩:=h3;rw[List.pairwise_append,List.pairwise_cons];refine⟨p1,⟨h2,p2⟩,λa ha b hb=>?_⟩;rcases List.mem_cons.1 hb with rfl|hb
  ·exact h1 a ha
  ·exact p3 a ha b hb
theorem OpenTo.first {l:List Note} {k:Nat} {S:List Nat} (h:OpenTo l k S) {q:Nat} (hq:q<S.length) {v:Int} (hv:C5 l S[q]<=v):∀ i∈S.take (q+1),C5 l i<=v:=λi hi=>by
 obtain⟨j,hj,e⟩:=List.mem_take_iff_getElem.1 hi;have h3:=List.pairwise_iff_getElem.1 h.srt;by_cases he:j=q
 ·subst he;rw[<- e];exact hv
 ·have:=h3 j q (by omega) hq (by omega);rw[e] at this;omega
theorem iq (l:List Note):∀ k,k<=l.length->((List.range k).filter (kr l)).map (C5 l)=j7 (l.take k)
 | 0,_=>by simp[j7]
 | k+1,h=>by
   have hk:k<l.length:=by omega
   rw[List.range_succ,List.filter_append,List.map_append,iq l k (by omega),cB l k hk]
   congr 1
   have e:l[k]?=some l[k]:=by simp[hk]
   by_cases h1:l[k].signed=1
   ·simp[kr,e,h1,C5]
   ·simp[kr,e,h1]
theorem OpenTo.nums {l:List Note} {S:List Nat} (h:OpenTo l l.length S):S.map (C5 l)=j8 (j7 l):=by
 have h1:(S.map (C5 l)).Perm (j8 (j7 l)):=by
  refine(h.perm.map _).trans ?_;rw[iq l _ (Nat.le_refl _),List.take_length];exact(List.mergeSort_perm _ _).symm
 refine h1.eq_of_pairwise (le:=(·<=·)) (λa b _ _ h2 h3=>by omega) (by rw[List.pairwise_map];exact h.srt) ?_;have:=List.pairwise_mergeSort (le:=λx y:Int=>decide (x<=y)) (λa b c h1 h2=>by simp at *;omega) (λa b=>by simp;omega) (j7 l);exact this.imp λh=>by simpa using h
theorem isort_mem {l:List Int} {n:Int}:n∈j8 l↔n∈l:=(List.mergeSort_perm l _).mem_iff
theorem rc {l:List Int} (h:l.Nodup):(j8 l).Nodup:=(List.mergeSort_perm l _).nodup_iff.2 h
theorem pF (l:List Int):(j8 l).Pairwise (·<=·):=by
 have:=List.pairwise_mergeSort (le:=λx y:Int=>decide (x<=y)) (λa b c h1 h2=>by simp at *;omega) (λa b=>by simp;omega) l;exact this.imp λh=>by simpa using h
theorem fV (signed without:List Int) (m:Int):∀ (l:List Note) (k:Nat),(T4 signed without m l).drop k=T4 signed without m (l.drop k)
 | _,0=>rfl
 | [],_+1=>rfl
 | x :: r,k+1=>by simp[T4,fV signed without m r k]
theorem Es {s w:List Int} {m:Int} {l:List Note} {k:Nat} (hk:k<l.length) (hk':k<(T4 s w m l).length):(T4 s w m l)[k]=(Bg s w m l[k]&&ky l[k].number (l.drop (k+1)) ((T4 s w m l).drop (k+1))):=by
 have h1:=fV s w m l k;rw[List.drop_eq_getElem_cons hk,List.drop_eq_getElem_cons hk',T4] at h1;rw[fV];exact(List.cons.inj h1).1
theorem xF {n:Int} {l:List Note} {F:List Bool} {k:Nat} (hk:k<l.length) (hf:k<F.length):ky n (l.drop k) (F.drop k)=(!(F[k]&&decide (l[k].cancels=n))&&ky n (l.drop (k+1)) (F.drop (k+1))):=by
 rw[List.drop_eq_getElem_cons hk,List.drop_eq_getElem_cons hf,ky]
theorem Bf {n:Int} {l:List Note} {F:List Bool} {k:Nat} (hk:l.length<=k):ky n (l.drop k) (F.drop k)=true:=by
 rw[List.drop_eq_nil_of_le hk];rfl
def ma:Note:=⟨0,0,0,0,1,0,0,0,false,0⟩
def Ho (l:List Note) (b:List Bool) (d:Int):Nat->Note
 | 0=>ma
 | k+1=>match l[k]? with
   | some x=>if b[k]?=some true/\x.drawing=d then x else Ho l b d k
   | none=>ma
theorem Fz (l:List Note) (b:List Bool) (d:Int):∀ k,k<=l.length->Ho l b d k=if qb l b d k<0 then ma else match l[(qb l b d k).toNat]? with|some x=>x|none=>ma
 | 0,_=>by simp[Ho,qb]
 | k+1,h=>by
   have hk:k<l.length:=by omega
   have e:l[k]?=some l[k]:=by simp[hk]
   simp only[Ho,qb,e,Option.map_some,Option.some.injEq];split
   ·rw[if_neg (by omega)];simp[e]
   ·exact Fz l b d k (by omega)
open Go Go.Ab Tryz
variable {G:LI}
theorem HZ {n:Notes} {i:Nat} {x:Note} (h:¬ (1<=x.number/\x.number<=9999/\0<=x.day/\x.day<=14610/\x.signed<=2/\1<=x.frm/\x.frm<=x.to/\x.to<=999/\x.ways<=3)):nj n i x=false:=by
 have:FN x=false:=by
  rw[<- Bool.not_eq_true];simp only[FN,Bool.and_eq_true,decide_eq_true_eq];omega
 simp[nj,this]
theorem HY {n:Notes} {i:Nat} {x:Note} {f:Bool} (hf:(n9 n.reg x.drawing x.letter).isSome=f) (h:¬ ((x.drawing=0/\x.letter=0->x.cancels≠0)/\(¬ (x.drawing=0/\x.letter=0)->f=true))):nj n i x=false:=by
 have:FM n.reg x=false:=by
  rw[<- Bool.not_eq_true];unfold FM;rw[hf];split<;>simp_all
 simp[nj,this]
theorem HX {n:Notes} {i:Nat} {x:Note} (h:x.letter<2/\(x.useUp=true\/0<x.ways)):nj n i x=false:=by
 have:FL x=false:=by
  obtain⟨h1,h2⟩:=h;rw[FL,Bool.not_eq_false'];rcases h2 with h2|h2<;>simp[h1,h2]
 simp[nj,this]
theorem HW {n:Notes} {i:Nat} {x:Note} (h:vA n.notes i x=false):nj n i x=false:=by simp[nj,h]
theorem HV {n:Notes} {i:Nat} {x:Note} {f:Bool} (hf:(n9 n.reg x.drawing x.letter).isSome=f) (h:1<=x.number/\x.number<=9999/\0<=x.day/\x.day<=14610/\x.signed<=2/\1<=x.frm/\x.frm<=x.to/\x.to<=999/\x.ways<=3)
 (hb:(x.drawing=0/\x.letter=0->x.cancels≠0)/\(¬ (x.drawing=0/\x.letter=0)->f=true)) (hd:¬ (x.letter<2/\(x.useUp=true\/0<x.ways))) (he:vA n.notes i x=true):nj n i x=(CJ n.notes i x&&yW n.notes i x):=by
 have h1:FN x=true:=by simp only[FN,Bool.and_eq_true,decide_eq_true_eq];omega
 have h2:FM n.reg x=true:=by
  unfold FM;rw[hf];split<;>simp_all
 have h3:FL x=true:=by
  rw[FL,Bool.not_eq_true',<- Bool.not_eq_true];simpa using hd
 simp[nj,h1,h2,h3,he]
def FB (l:List Note) (x:Note) (k:Nat):Bool:=decide (x.cancels=0)||(l.take k).any λy=>decide (y.number=x.cancels)
theorem BU {l:List Note} {x:Note} {k:Nat} (hk:k<l.length):FB l x (k+1)=(FB l x k||decide (l[k].number=x.cancels)):=by
 unfold FB;rw[List.take_succ_eq_append_getElem hk,List.any_append];simp[Bool.or_assoc]
def mb (l:List Note) (x:Note) (k:Nat):Prop:=((l.take k).any λy=>decide (y.number=x.number))=false
theorem qK {l:List Note} {x:Note} {k:Nat} (hk:k<l.length) (h:mb l x k) (h2:¬ l[k].number=x.number):mb l x (k+1):=by
 unfold mb at *;rw[List.take_succ_eq_append_getElem hk,List.any_append,h];simp[h2]
theorem DB {l:List Note} {x:Note} {k i:Nat} (hki:k<i) (hk:k<l.length) (h2:l[k].number=x.number):vA l i x=false:=by
 unfold vA;rw[Bool.not_eq_false',List.any_eq_true];exact⟨l[k],List.mem_take_iff_getElem.2 ⟨k,by omega,rfl⟩,by simp[h2]⟩
@[simp] abbrev We:List Nat:=[0,1,2,4,5,7,8,9,10,11,49,57,60,73,85,91,103,113]
theorem Dy (n:Notes) (i:Nat) (x:Note) (hx:n.notes[i]?=some x) (hl:n.notes.length<1000) (hr:n.reg.length<1000):zP prog G 231 [o5 n,iv (i:Int)] (bv (nj n i x)):=by
 refine zf func231 ntmps231 ?_;try simp only[o5,iv]
 have hi:i<n.notes.length:=e7 hx;have hxe:n.notes[i]=x:=(List.getElem?_eq_some_iff.1 hx).2;have c1:=iV (G:=G) x.number 1 9999;have c2:=iV (G:=G) x.day 0 14610;have c3:=iV (G:=G) x.frm 1 x.to;have c4:=ud (G:=G) n.reg x.drawing x.letter (by omega);simp only[D9] at c4;generalize hf:(n9 n.reg x.drawing x.letter).isSome=f at *;have c5:∀ (h:x.drawing=0) objs,DCall prog G 137 [F9 n.reg,D9 0 x.letter] objs (λr objs'=>r=.tup [P9 ((n9 n.reg x.drawing x.letter).getD I7),bv f]/\objs'=objs):=λh=>by
  rw[h] at c4 ⊢;exact c4
 simp only[D9] at c5;have hs:=za hxe hi;repeat' first|(with_reducible first|refine zz ?_|refine zr ?_|refine zE We ?_)|simp -dsimp[hs]|refine zp c1 ?_|refine zp c2 ?_|refine zp c3 ?_|refine zp c4 ?_|refine zp (c5 ‹_›) ?_|refine i8 ?_ ?_<;>intro h<;>try exact h.elim|with_reducible refine j0 ?_ ?_<;>intro h<;>have h0:=h<;>(try simp only[i7] at h)<;>have h2:=h<;>(try simp at h2)<;>replace hs:=za h0 (za h (za h2 hs))
 all_goals try clear hs
 all_goals clear c1 c2 c3 c4 c5 hx
 all_goals try (refine HZ ?_;omega)
 all_goals try (refine HY hf ?_;clear hf hxe;simp_all;done)
 all_goals try (refine HX ?_;clear hf hxe;simp_all;done)
 all_goals
  have hF:vA n.notes i x=true->nj n i x=(CJ n.notes i x&&yW n.notes i x):=by
   refine HV hf (by omega) ?_ ?_
   ·clear hxe hf;simp_all
   ·clear hxe hf;simp_all;try omega
 all_goals refine i6 (ι:={ k:Nat // k<=i/\mb n.notes x k }) (λp=>⟨143,[(1,iv (i:Int)),(2,.one (.ptr 0 0)),(5,.one (.ptr 1 0)),(8,bv (FB n.notes x p.1)),(9,iv (p.1:Int))],[.row ((p7 n).map .im),.row ((l6 x).map .im)]⟩) (λp=>i-p.1) ⟨0,by simp[mb]⟩ (zw [1,2,5,8,9] 2 (by clear hF hf hxe;simp[FB, *])) ?_
 all_goals
  rintro⟨k,hk,hno⟩;simp only[iv,bv];by_cases hlt:k<i
  ·have hlk:k<n.notes.length:=by omega
   have hw:=zk k;have hsu:=BU (x:=x) hlk;have hn2:=qK hlk hno;have hbad:=DB (x:=x) hlt hlk;generalize hy:n.notes[k]=y at *;generalize hb:FB n.notes x k=b at *;cases b
   all_goals
    have hs:=za hxe (za hi (za hy (za hlt (za hlk hw))));repeat' first|(with_reducible first|refine zz ?_|refine zr ?_|refine zE We ?_)|simp -dsimp[hs]|refine i8 ?_ ?_<;>intro h<;>try exact h.elim
    all_goals try clear hs
   all_goals try (rw[show nj n i x=false from HW (hbad (by assumption))];done)
   all_goals exact zn ⟨k+1,by omega,hn2 (by assumption)⟩ (zw [1,2,5,8,9] 2 (by simp[hsu]))
  ·have e:k=i:=by omega
   subst e;have hT:=hF (by unfold vA;rw[show ((n.notes.take k).any λy=>decide (y.number=x.number))=false from hno];rfl);rw[show CJ n.notes k x=FB n.notes x k from rfl] at hT;by_cases h00:k=0
   ·have hk0:(k:Int)=0:=by omega
    have hs:=za hlt hk0;repeat' first|(with_reducible first|refine zz ?_|refine zr ?_|refine zE We ?_)|simp -dsimp[hs]|refine i8 ?_ ?_<;>intro h<;>try exact h.elim
    all_goals try clear hs
    rw[hT,yW,if_pos h00,Bool.and_true]
   ·have hk1:k-1<n.notes.length:=by omega
    have hk0:¬ (k:Int)=0:=by omega
    have hw:IntKind.i64.wrap ((k:Int)-1)=((k-1:Nat):Int):=by rw[n4 (by omega) (by omega)];omega
    have h8:yW n.notes k x=BZ n.notes[k-1] x:=by rw[yW,if_neg h00,List.getElem?_eq_getElem hk1]
    rw[h8] at hT;generalize hy:n.notes[k-1]=y at *;generalize hb:FB n.notes x k=b at *;cases b
    all_goals
     have hs:=za hxe (za hi (za hy (za hk1 (za hw (za hk0 h00)))));repeat' first|(with_reducible first|refine zz ?_|refine zr ?_|refine zE We ?_)|simp -dsimp[hs]|refine i8 ?_ ?_<;>intro h<;>try exact h.elim|with_reducible refine j0 ?_ ?_<;>intro h<;>have h0:=h<;>(try simp only[i7] at h)<;>have h2:=h<;>(try simp at h2)<;>replace hs:=za h0 (za h (za h2 hs))
     all_goals try clear hs
    all_goals rw[hT]
    all_goals try (rfl;done)
    all_goals (rw[Bool.true_and,Bool.eq_iff_iff];simp only[BZ,Bool.or_eq_true,Bool.and_eq_true,decide_eq_true_eq,iff_true,iff_false,Bool.false_eq_true];omega)
def zb (n:Notes):Prop:=W2 n.reg/\n.notes.length<=16/\∀ x∈n.notes,0<=x.ways/\x.ways<=255/\0<=x.signed/\x.signed<=255
theorem lX {l:List Note} {k:Nat} (h:k<l.length):((j7 (l.take (k+1))).length:Int)=(j7 (l.take k)).length+(if l[k].signed=1 then 1 else 0):=by
 rw[cB l k h];split<;>simp
def gK (n:Notes):Bool:=decide (n.notes.length<=12)&&(List.range n.notes.length).all (λi=>match n.notes[i]? with|some x=>nj n i x|none=>true)&&decide ((j7 n.notes).length<=5)
theorem rnotesB_iff {n:Notes}:gK n=true↔n.notes.length<=12/\(∀ (i:Nat) (x:Note),n.notes[i]?=some x->nj n i x=true)/\(j7 n.notes).length<=5:=by
 simp only[gK,Bool.and_eq_true,decide_eq_true_eq,List.all_eq_true,List.mem_range,and_assoc];refine and_congr_right λ_=>and_congr_left λ_=>⟨λh i x hx=>?_,λh i hi=>?_⟩
 ·have:=h i (List.getElem?_eq_some_iff.1 hx).1;rw[hx] at this;exact this
 ·rw[List.getElem?_eq_getElem hi];exact h i _ (List.getElem?_eq_getElem hi)
theorem ww {n:Notes} (h0:l4 n.reg=0) (hx:∀ x∈n.notes,0<=x.ways):gK n=dJ n:=by
 rw[Bool.eq_iff_iff,rnotesB_iff,notesB_iff];refine and_congr_right λ_=>and_congr_left λ_=>forall_congr' λi=>forall_congr' λx=>?_;exact⟨λh hi=>by rw[<- zT h0 (hx x (List.mem_of_getElem? hi))];exact h hi,λh hi=>by rw[zT h0 (hx x (List.mem_of_getElem? hi))];exact h hi⟩
@[simp] abbrev QP:List Nat:=[0,1,2,3,4,8,13,19,26]
theorem wT (n:Notes) (hs:zb n):zP prog G 181 [o5 n] (bv (gK n)):=by
 refine zf func181 ntmps181 ?_;try simp only[o5]
 obtain⟨hsr,hsn,hsx⟩:=hs;have hr:=hsr.1;by_cases hl:n.notes.length<=12
 ·have hli:¬ (12:Int)<n.notes.length:=by omega
  have hs:=hli;repeat' first|(with_reducible first|refine zz ?_|refine zE QP ?_)|simp -dsimp[hs]|refine i8 ?_ ?_<;>intro h<;>try exact h.elim
  all_goals try clear hs
  refine i6 (ι:={ k:Nat // k<=n.notes.length/\∀ (j:Nat) (x:Note),j<k->n.notes[j]?=some x->nj n j x=true }) (λp=>⟨31,[(1,.one (.ptr 0 0)),(3,iv ((j7 (n.notes.take p.1)).length:Int)),(4,iv (p.1:Int))],[.row ((p7 n).map .im)]⟩) (λp=>n.notes.length-p.1) ⟨0,by simp⟩ (zv [1,3,4] (by simp[j7])) ?_;rintro⟨k,hk,hok⟩;simp only[iv];by_cases hlt:k<n.notes.length
  ·have hx0:n.notes[k]?=some n.notes[k]:=by simp[hlt]
   have hw:=zk k;have hos:=lX hlt;have hol:=ai (n.notes.take k);rw[List.length_take] at hol;have hw2:IntKind.i64.wrap (((j7 (n.notes.take k)).length:Int)+1)=((j7 (n.notes.take k)).length:Int)+1:=n4 (by omega) (by omega);have hsx':=hsx n.notes[k] (List.getElem_mem hlt);generalize hx:n.notes[k]=x at *;have c1:=Dy (G:=G) n k x hx0 (by omega) (by omega);have hbad:nj n k x=false->gK n=false:=λh=>by
    rw[<- Bool.not_eq_true];intro hb;have:=(rnotesB_iff.1 hb).2.1 k x hx0;rw[h] at this;cases this
   have hstep:nj n k x=true->∀ (j:Nat) (z:Note),j<k+1->n.notes[j]?=some z->nj n j z=true:=λh j z hj hz=>by
    by_cases e:j=k
    ·subst e;rw[hx0] at hz;cases hz;exact h
    ·exact hok j z (by omega) hz
   generalize nj n k x=q at *;cases q
   ·have hs:=za hx (za hlt hw);repeat' first|(with_reducible first|refine zz ?_|refine zr ?_|refine zE QP ?_)|simp -dsimp[hs]|refine zp c1 ?_|refine i8 ?_ ?_<;>intro h<;>try exact h.elim
    all_goals try clear hs
    exact hbad rfl
   ·have hs:=za hx (za hlt (za hw hw2));repeat' first|(with_reducible first|refine zz ?_|refine zE QP ?_)|simp -dsimp[hs]|refine zp c1 ?_|refine i8 ?_ ?_<;>intro h<;>try exact h.elim
    all_goals try clear hs
    all_goals exact zn ⟨k+1,by omega,hstep rfl⟩ (zv [1,3,4] (by simp[hos, *]))
  ·have e:k=n.notes.length:=by omega
   subst e;rw[List.take_length];have hs:=hlt;repeat' first|(with_reducible first|refine zz ?_|refine zr ?_|refine zE QP ?_)|simp -dsimp[hs]|refine i8 ?_ ?_<;>intro h<;>try exact h.elim
   all_goals try clear hs
   rw[Bool.eq_iff_iff,rnotesB_iff];simp only[decide_eq_true_eq];constructor
   ·intro h;exact⟨hl,λj x hx=>hok j x (e7 hx) hx,by omega⟩
   ·intro h;have:=h.2.2;omega
 ·have hli:(12:Int)<n.notes.length:=by omega
  have hs:=hli;repeat' first|(with_reducible first|refine zz ?_|refine zr ?_|refine zE QP ?_)|simp -dsimp[hs]|refine i8 ?_ ?_<;>intro h<;>try exact h.elim
  all_goals try clear hs
  exact Bool.eq_false_iff.2 λh=>hl (rnotesB_iff.1 h).1
theorem Ar (n:Notes) (hs:zb n) (h0:l4 n.reg=0) (objs:List DObj):DCall prog G 181 [o5 n] objs (λrr objs'=>rr=bv (dJ n)/\objs'=objs):=by
 rw[<- ww h0 λx hx=>(hs.2.2 x hx).1];exact wT n hs objs
theorem BJ (n:Notes) (hs:zb n):zP prog G 133 [o5 n] (iv (v7 n)):=by
 refine zf func133 ntmps133 ?_;try simp only[o5]
 have c1:=zY (G:=G) n.reg hs.1;by_cases h0:l4 n.reg=0
 ·have c2:=Ar (G:=G) n hs h0;have hE:v7 n=if dJ n then 0 else 30:=by unfold v7;rw[if_neg (by simp[h0])]
  rw[h0] at c1;generalize dJ n=q at *;cases q
  ·have hs:=trivial;repeat' first|(with_reducible first|refine zz ?_|refine zr ?_|refine zE [0,1,2,3,8,12] ?_)|simp -dsimp[hs]|refine zp c1 ?_|refine zp c2 ?_|refine i8 ?_ ?_<;>intro h<;>try exact h.elim
   all_goals try clear hs
   all_goals simp[hE]
  ·have hs:=trivial;repeat' first|(with_reducible first|refine zz ?_|refine zr ?_|refine zE [0,1,2,3,8,12] ?_)|simp -dsimp[hs]|refine zp c1 ?_|refine zp c2 ?_|refine i8 ?_ ?_<;>intro h<;>try exact h.elim
   all_goals try clear hs
   all_goals simp[hE]
 ·have hE:v7 n=l4 n.reg:=by unfold v7;rw[if_pos h0]
  have hs:=h0;repeat' first|(with_reducible first|refine zz ?_|refine zr ?_|refine zE [0,1,2,3,8,12] ?_)|simp -dsimp[hs]|refine zp c1 ?_|refine i8 ?_ ?_<;>intro h<;>try exact h.elim
  all_goals try clear hs
  all_goals simp[hE]
def E0 (G:LI):Prop:=G 5=some [.fn (.func 325) [],.fn (.func 326) [],.fn (.func 327) [],.fn (.func 328) [],.fn (.func 329) [],.fn (.func 330) [],.fn (.func 333) [],.fn (.func 335) []]
def u4 (G:LI):Prop:=∀ (l:List Int) (g sz:Nat) (nl:Bool),(sz=1\/nl=true/\l=[])->l.length<1000000->DCall prog G 148 [.one (.vec 0 g 0 l.length)] [.vec sz (l5 (l.map encI)) g nl] (λd o=>d=.tup []/\o=[.vec sz (l5 ((j8 l).map encI)) g nl])
def H8 (n:Notes):IC:=.ip [.sl (n.reg.map e9),.sl (n.notes.map l6),.sl ((nums n.reg).map encI),.sl ((j8 (j7 n.notes)).map encI)]
def da (n:Notes):DV:=if v7 n=0 then .one (.im (H8 n)) else .one (.im (.raw (.pointer none)))
theorem Bn (n:Notes):ImV (da n):=by unfold da;split<;>simp[H8]
attribute [simp] Bn
theorem tt {n:Notes} {i:Nat} {x:Note} (h0:l4 n.reg=0) (hx:n.notes[i]?=some x) (h:tw n i x=false):v7 n=30:=by
 unfold v7;rw[if_neg (by simp[h0]),if_neg];intro hb;have:=(notesB_iff.1 hb).2.1 i x hx;rw[h] at this;cases this
@[simp] abbrev LW:List Nat:=[0,1,2,3,4,5,6,7,8,9,11,19,24,30,31,32,33,37,38,39,46,50,71]
@[simp] abbrev Wv:List Nat:=[1,2,3,6,7,30,31,32]
theorem qI (n:Notes) (hG:o3 G) (hN:E0 G) (hS:u4 G) (hs:zb n):zP prog G 160 [o5 n] (.tup [da n,iv (v7 n)]):=by
 refine zf func160 ntmps160 ?_;try simp only[o5]
 have hN':G 5=some [.fn (.func 325) [],.fn (.func 326) [],.fn (.func 327) [],.fn (.func 328) [],.fn (.func 329) [],.fn (.func 330) [],.fn (.func 333) [],.fn (.func 335) []]:=hN;obtain⟨hsr,hsn,hsx⟩:=hs;have c1:=cK n.reg hG hsr;by_cases h0:l4 n.reg=0
 ·rw[h0,show ec n.reg=nums n.reg by simp[ec,h0]] at c1;by_cases hl:n.notes.length<=12
  ·have hli:¬ (12:Int)<n.notes.length:=by omega
   have hE:v7 n=if dJ n then 0 else 30:=by unfold v7;rw[if_neg (by simp[h0])]
   have hs:=hli;repeat' first|with_reducible refine zz ?_|simp -dsimp[hs]|refine zp c1 ?_|with_reducible refine Q5 (id:=6) (nt:=78) LW rfl ?_;simp -dsimp[hs]|with_reducible refine zE LW ?_|refine i8 ?_ ?_<;>intro h<;>try exact h.elim
   all_goals try clear hs
   refine i6 (ι:={ p:Nat×Nat×Nat×Bool // p.1<=n.notes.length/\(p.2.2.1=1\/p.2.2.2=true/\j7 (n.notes.take p.1)=[])/\∀ (j:Nat) (x:Note),j<p.1->n.notes[j]?=some x->tw n j x=true }) (λp=>⟨78,[(1,.one (.ptr 0 0)),(2,.one (.im (.raw (.pointer none)))),(3,iv 0),(6,.one (.ptr 5 0)),(7,bv false),(30,.one (.im (.sl (n.notes.map l6)))),(31,iv (n.notes.length:Int)),(32,iv (p.1.1:Int))],[.row ((p7 n).map .im),.vec 0 [] 0 true,.vec 0 [] 0 true,.vec 0 [] 0 true,.vec p.1.2.2.1 (l5 ((j7 (n.notes.take p.1.1)).map encI)) p.1.2.1 p.1.2.2.2,.row [.im (.sl (n.reg.map e9)),.im (.sl (n.notes.map l6)),.im (.sl ((nums n.reg).map encI)),.vec 4 p.1.2.1 0 (j7 (n.notes.take p.1.1)).length]]⟩) (λp=>n.notes.length-p.1.1) ⟨(0,0,0,true),by simp[j7]⟩ (zw Wv 6 (by simp[j7])) ?_;rintro⟨⟨k,g,sz,nl⟩,hk,hsz,hok⟩;simp only at hk hsz hok;simp only[iv,bv];by_cases hlt:k<n.notes.length
   ·have hx0:n.notes[k]?=some n.notes[k]:=by simp[hlt]
    have hw:=zk k;have hos:=cB n.notes k hlt;have hol:=ai (n.notes.take k);rw[List.length_take] at hol;generalize hx:n.notes[k]=x at *;have k1:=ID (G:=G) n k x hx0;have k2:=IB (G:=G) n k x hx0;have k3:=IA (G:=G) n k x hx0;have k4:=Iz (G:=G) n k x hx0 hG hsr;have k5:=Iy (G:=G) n k x hx0;have k6:=Ix (G:=G) n k x hx0 (by omega);have k7:=Iw (G:=G) n k x hx0 (by omega);have k8:=Iv (G:=G) n k x hx0 (by omega);rw[show Gr x=qL n k x 0 from rfl] at k1;rw[show Gq x=qL n k x 1 from rfl] at k2;rw[show Fs x=qL n k x 2 from rfl] at k3;rw[show DD n.reg x=qL n k x 3 from rfl] at k4;rw[show Gm x=qL n k x 4 from rfl] at k5;rw[show CJ n.notes k x=qL n k x 5 from rfl] at k6;rw[show vA n.notes k x=qL n k x 6 from rfl] at k7;rw[show yW n.notes k x=qL n k x 7 from rfl] at k8;have hbad:∀ c,qL n k x c=false->v7 n=30:=λc h=>tt h0 hx0 (Dz h);have hstep:tw n k x=true->∀ (j:Nat) (z:Note),j<k+1->n.notes[j]?=some z->tw n j z=true:=λh j z hj hz=>by
     by_cases e:j=k
     ·subst e;rw[hx0] at hz;cases hz;exact h
     ·exact hok j z (by omega) hz
    have hs:=za hx (za hlt hN');repeat' first|(with_reducible first|refine zz ?_|refine zE LW ?_)|simp -dsimp[hs]|refine i8 ?_ ?_<;>intro h<;>try exact h.elim
    all_goals try clear hs
    refine i6 (ι:={ c:Nat // c<=8/\∀ e<c,qL n k x e=true }) (λp=>⟨78,[(1,.one (.ptr 0 0)),(2,.one (.im (.raw (.pointer none)))),(3,iv 0),(6,.one (.ptr 5 0)),(7,bv false),(8,iv (k:Int)),(9,.one (.ptr 6 0)),(30,.one (.im (.sl (n.notes.map l6)))),(31,iv (n.notes.length:Int)),(32,iv (k:Int)),(37,.agg [.im (.fn (.func 325) []),.im (.fn (.func 326) []),.im (.fn (.func 327) []),.im (.fn (.func 328) []),.im (.fn (.func 329) []),.im (.fn (.func 330) []),.im (.fn (.func 333) []),.im (.fn (.func 335) [])]),(38,iv (p.1:Int))],[.row ((p7 n).map .im),.vec 0 [] 0 true,.vec 0 [] 0 true,.vec 0 [] 0 true,.vec sz (l5 ((j7 (n.notes.take k)).map encI)) g nl,.row [.im (.sl (n.reg.map e9)),.im (.sl (n.notes.map l6)),.im (.sl ((nums n.reg).map encI)),.vec 4 g 0 (j7 (n.notes.take k)).length],.row ((l6 x).map .im)]⟩) (λp=>8-p.1) ⟨0,by simp⟩ (zv [1,2,3,6,7,8,9,30,31,32,37,38]) ?_;rintro⟨c,hc,hcc⟩;simp only[iv,bv];by_cases hc8:c<8
    ·have hm:qL n k x c=true->∀ e<c+1,qL n k x e=true:=λh e he=>by
      rcases Nat.lt_succ_iff_lt_or_eq.1 he with h1|rfl
      ·exact hcc e h1
      ·exact h
     have hbc:=hbad c;have hi8:c=0\/c=1\/c=2\/c=3\/c=4\/c=5\/c=6\/c=7:=by omega
     rcases hi8 with rfl|rfl|rfl|rfl|rfl|rfl|rfl|rfl
     all_goals
      have hs:=hli;repeat' first|(with_reducible first|refine zz ?_|refine KI (by decide) ?_|refine zr ?_|refine zE LW ?_)|simp -dsimp[hs]|refine zp k1 ?_|refine zp k2 ?_|refine zp k3 ?_|refine zp k4 ?_|refine zp k5 ?_|refine zp k6 ?_|refine zp k7 ?_|refine zp k8 ?_|refine i8 ?_ ?_<;>intro h<;>try exact h.elim
      all_goals try clear hs
     all_goals try (have h30:=hbc (by assumption);simp[da,h30];done)
     all_goals exact At.round ⟨_,by omega,hm (by assumption)⟩ (by simp) (zw [1,2,3,6,7,8,9,30,31,32,37,38] 7 (by simp;exact n4 (by omega) (by omega)))
    ·obtain rfl:c=8:=by omega
     have hok1:=hstep (DA hcc);have hsz':sz=1\/nl=true:=hsz.imp id And.left;clear k1 k2 k3 k4 k5 k6 k7 k8;by_cases hsg:x.signed=1
     ·rw[if_pos hsg] at hos;have hs:=za hx (za hlt (za hsg (za hw hsz')));repeat' first|(with_reducible first|refine zz ?_|refine And.intro (by omega) ?_)|simp -dsimp[hs]|refine H7 (id:=18) (nt:=78) 8 [0] [0,1,2,3,4,5,6,7,8,9,11,19,24,30,31,32,33,37,38,39,46,50,52,53,54,55,56,57,58,71] LW mixed rfl (by kernel_rfl) ?_|with_reducible refine zE LW ?_|refine i8 ?_ ?_<;>intro h<;>try exact h.elim
      all_goals try clear hs
      exact zn ⟨(k+1,g+1,1,false),by omega,.inl rfl,hok1⟩ (zw Wv 6 (by simp[hos]))
     ·rw[if_neg hsg,List.append_nil] at hos;have hszn:sz=1\/nl=true/\j7 (n.notes.take (k+1))=[]:=by rw[hos];exact hsz
      have hs:=za hx (za hlt (za hsg hw));repeat' first|(with_reducible first|refine zz ?_|refine zE LW ?_)|simp -dsimp[hs]|refine i8 ?_ ?_<;>intro h<;>try exact h.elim
      all_goals try clear hs
      exact zn ⟨(k+1,g,sz,nl),by omega,hszn,hok1⟩ (zw Wv 6 (by simp[hos]))
   ·obtain rfl:k=n.notes.length:=by omega
    rw[List.take_length] at *;have hall:di n:=λi x hx=>hok i x (e7 hx) hx;have hol:=ai n.notes;have c2:=hS (j7 n.notes) g sz nl hsz (by omega);have hil:=N6 (j7 n.notes);by_cases h5:(j7 n.notes).length<=5
    ·have hE0:v7 n=0:=by rw[hE,if_pos (notesB_iff.2 ⟨hl,hall,h5⟩)]
     have h5i:¬ (5:Int)<(j7 n.notes).length:=by omega
     have hsz':sz=1\/nl=true:=hsz.imp id And.left;have htk:(l5 ((j8 (j7 n.notes)).map encI)).take (j7 n.notes).length=l5 ((j8 (j7 n.notes)).map encI):=List.take_of_length_le (by simp[q8,hil]);have hs:=za hlt (za h5i (za hsz' (za htk hil)));repeat' first|(with_reducible first|refine zz ?_|refine zr ?_|refine zE LW ?_)|simp -dsimp[hs]|refine CallE.embed [4] (c2) ?_ ?_ ?_ ?_ ?_ ?_;(focus simp[u9];done);(focus simp;done);(focus simp;done);(focus simp;done);(focus refine o4 ?_;simp[u9,r5];done);try simp -dsimp[n8,u9,hs]|refine i8 ?_ ?_<;>intro h<;>try exact h.elim
     all_goals try clear hs
     all_goals simp[da,hE0,H8,hil,htk]
    ·have hE0:v7 n=30:=by rw[hE,if_neg λh=>h5 (notesB_iff.1 h).2.2]
     have h5i:(5:Int)<(j7 n.notes).length:=by omega
     have hs:=za hlt h5i;repeat' first|(with_reducible first|refine zz ?_|refine zr ?_|refine zE LW ?_)|simp -dsimp[hs]|refine i8 ?_ ?_<;>intro h<;>try exact h.elim
     all_goals try clear hs
     all_goals simp[da,hE0]
  ·have hE:v7 n=30:=by
    unfold v7;rw[if_neg (by simp[h0]),if_neg λh=>hl (notesB_iff.1 h).1]
   have hli:(12:Int)<n.notes.length:=by omega
   have hs:=hli;repeat' first|(with_reducible first|refine zz ?_|refine zr ?_|refine zE LW ?_)|simp -dsimp[hs]|refine zp c1 ?_|refine i8 ?_ ?_<;>intro h<;>try exact h.elim
   all_goals try clear hs
   all_goals simp[da,hE]
 ·have hE:v7 n=l4 n.reg:=by unfold v7;rw[if_pos h0]
  have hs:=h0;repeat' first|(with_reducible first|refine zz ?_|refine zr ?_|refine zE LW ?_)|simp -dsimp[hs]|refine zp c1 ?_|refine i8 ?_ ?_<;>intro h<;>try exact h.elim
  all_goals try clear hs
  all_goals simp[da,hE,h0]
end Go.Proofs
