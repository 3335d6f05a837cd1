/- Part 15 of the proofs. -/
import Derived.Test.YtjodaihiogfkbaaGreatDoorQ08
import Derived.Test.YtjodaihiogfkbaaGreatDoorQ13
import Derived.Test.YtjodaihiogfkbaaGreatDoorQ14
set_option linter.all false
set_option linter.deprecated false
set_option maxHeartbeats 100000000
namespace Go.Ab
open Go
structure Link where
 drawing:Int
 dim:Int
 back:Bool
 deriving DecidableEq
structure ChLoop where
 links:List Link
 lo:Int
 hi:Int
 deriving DecidableEq
structure Chains where
 reg:List Issue
 lets:List Int
 of:Int
 loops:List ChLoop
 deriving DecidableEq
def F9 (x:Link):List IC:=[rI x.drawing,rI x.dim,rB x.back]
def F8 (x:ChLoop):List IC:=[.sl (x.links.map F9),rI x.lo,rI x.hi]
def L5 (c:Chains):List IC:=[.sl (c.reg.map e9),.sl (c.lets.map encI),rI c.of,.sl (c.loops.map F8)]
def yS (x:Link):DV:=.agg ((F9 x).map .im)
def kQ (x:ChLoop):DV:=.agg ((F8 x).map .im)
def Ao (c:Chains):DV:=.agg ((L5 c).map .im)
attribute [simp] F9 F8 L5 yS kQ Ao
end Go.Ab
namespace Go.Proofs
open Go Go.Ab
variable {G:GW}
theorem vS (x lo hi:Int):DCall Tryz.prog G 216 (iv x :: [DC.ptr 0 0,DC.ptr 1 0].map .one) [.row [.im (rI lo)],.row [.im (rI hi)]] (fun d o=>d=bv (decide (x<lo)||decide (hi<x))∧o=[.row [.im (rI lo)],.row [.im (rI hi)]]):=by
 refine h9 Tryz.func216 rfl Tryz.ntmps216 (by simp) rfl ?_
 simp only[rI]
 have hs:=trivial
 repeat' first|(with_reducible first|refine zz ?_|refine zr ?_|refine zE [0,1,2,4] ?_)|simp -dsimp[hs]|with_reducible refine j0 ?_ ?_<;>intro h<;>have h0:=h<;>(try simp only[i7] at h)<;>have h2:=h<;>(try simp at h2)<;>replace hs:=za h0 (za h (za h2 hs))|with_reducible refine And.intro ?_ ?_
 all_goals try clear hs
 all_goals simp[*]
theorem bl (lo hi:Int) (l:List Int) (hl:l.length<1000000):zP Tryz.prog G 168 [iv lo,iv hi,r8 l] (bv (l.all fun x=>decide (lo≤x)&&decide (x≤hi))):=by
 refine zf Tryz.func168 Tryz.ntmps168 ?_
 try simp only[iv,iv,r8]
 have hc:=C0 (G:=G) l (fun x=>decide (x<lo)||decide (hi<x)) 216 [.ptr 0 0,.ptr 1 0] [.row [.im (rI lo)],.row [.im (rI hi)]] (by simp) (fun x _=>vS x lo hi) hl
 simp only[rI] at hc
 repeat' first|(with_reducible first|refine zz ?_|refine zx ?_|refine zE [0,1,2,3,4,6] ?_)|simp -dsimp|refine CallE.here hc ?_
 rw[Bool.eq_iff_iff];simp
 exact exists_congr fun x=>and_congr_right fun _=>by omega
def J4 (c:Chains) (D:List (Int×Int)) (B:List (Int×Issue)):IC:=.ip [.sl (c.reg.map e9),.sl (c.lets.map encI),rI c.of,.sl (c.loops.map F8),.mp [.int .i64] (Z8 D),.mp [.int .i64] (dt B)]
def td (x:ChLoop):Bool:=decide (1≤x.links.length)&&decide (x.links.length≤8)
def qz (x:ChLoop):Bool:=(decide (-8000000000≤x.lo)&&decide (x.lo≤8000000000))&&(decide (-8000000000≤x.hi)&&decide (x.hi≤8000000000))&&decide (x.lo≤x.hi)
def W4 (D:List (Int×Int)) (B:List (Int×Issue)):List (Int×Int)→List Link→Bool
 | _,[]=>true
 | U,y :: r=>decide (l9 U y.drawing+1≤l9 D y.drawing)&&(decide (0≤y.dim)&&decide (y.dim≤((I7 B y.drawing).dims.length:Int)-1))&&W4 D B (L8 y.drawing (l9 U y.drawing+1) U) r
theorem FK (d:IC) (x:ChLoop):zP Tryz.prog G 372 [.one (.im d),kQ x] (bv (td x)):=by
 refine zf Tryz.func372 Tryz.ntmps372 ?_
 try simp only[kQ]
 have c1:=bl (G:=G) 1 8 [(x.links.length:Int)] (by simp)
 repeat' first|(with_reducible first|refine zz ?_|refine zx ?_|refine zE [1,3,4] ?_)|simp -dsimp|refine zt c1 ?_ ?_ ?_;(focus simp;done);focus (simp;done)
 rw[Bool.eq_iff_iff]
 simp[td]
 omega
theorem An (x:ChLoop):qz x=true↔-8000000000≤x.lo∧x.lo≤8000000000∧-8000000000≤x.hi∧x.hi≤8000000000∧x.lo≤x.hi:=by
 simp[qz];omega
theorem FJ (d:IC) (x:ChLoop):zP Tryz.prog G 373 [.one (.im d),kQ x] (bv (qz x)):=by
 refine zf Tryz.func373 Tryz.ntmps373 ?_
 try simp only[kQ]
 have c1:=bl (G:=G) (-8000000000) 8000000000 [x.lo,x.hi] (by simp)
 have hi:=An x
 cases hq:([x.lo,x.hi].all fun y=>decide (-8000000000≤y)&&decide (y≤8000000000))
 ·rw[hq] at c1
  repeat' first|(with_reducible first|refine zz ?_|refine zx ?_|refine zE [1,3,4] ?_)|simp -dsimp|refine zt c1 ?_ ?_ ?_;(focus simp;done);focus (simp;done)
  all_goals simp at hq
  all_goals exact dq hi (by omega)
 ·rw[hq] at c1
  repeat' first|(with_reducible first|refine zz ?_|refine zx ?_|refine zE [1,3,4] ?_)|simp -dsimp|refine zt c1 ?_ ?_ ?_;(focus simp;done);focus (simp;done)
  all_goals simp at hq
  all_goals rw[Bool.eq_iff_iff,hi]
  all_goals simp
  all_goals omega
theorem FI (c:Chains) (D:List (Int×Int)) (B:List (Int×Issue)) (x:ChLoop) (hl:x.links.length<1000000) (hB:∀ n,(I7 B n).dims.length<1000000):zP Tryz.prog G 374 [.one (.im (J4 c D B)),kQ x] (bv (W4 D B [] x.links)):=by
 refine zf Tryz.func374 Tryz.ntmps374 ?_
 try simp only[kQ]
 simp only[J4]
 have hs:=trivial
 repeat' first|(with_reducible first|refine zz ?_|refine zE [0,1,3,4,5,7,10,11,12,13,48] ?_)|simp -dsimp[hs]
 refine i6 (ι:={ p:Nat×List (Int×Int) // p.1≤x.links.length∧W4 D B [] x.links=W4 D B p.2 (x.links.drop p.1)∧bd p.2 p.1 }) (fun p=>⟨50,[(0,.one (.im (J4 c D B))),(5,.one (.map 1)),(10,.one (.im (.sl (x.links.map F9)))),(11,iv (x.links.length:Int)),(12,iv (p.1.1:Int))],[.row ((F8 x).map .im),.map [.int .i64] (L9 p.1.2)]⟩) (fun p=>x.links.length-p.1.1) ⟨(0,[]),by simp[bd]⟩ (zv [0,5,10,11,12] (by simp[J4,L9])) ?_
 rintro⟨⟨k,U⟩,hk,hu,hb⟩
 simp only at hk hu hb
 simp only[iv,J4]
 by_cases hlt:k<x.links.length
 ·have hx:x.links[k]?=some x.links[k]:=by simp[hlt]
  have hw:=zk k
  have hbl:=ux hb x.links[k].drawing
  have hwu:IntKind.i64.wrap (l9 U x.links[k].drawing+1)=l9 U x.links[k].drawing+1:=n8 (by omega) (by omega)
  have hput:l9 (L8 x.links[k].drawing (l9 U x.links[k].drawing+1) U) x.links[k].drawing=l9 U x.links[k].drawing+1:=by rw[Y4,if_pos rfl]
  have hBn:=hB x.links[k].drawing
  have hwd:IntKind.i64.wrap (((I7 B x.links[k].drawing).dims.length:Int)-1)=((I7 B x.links[k].drawing).dims.length:Int)-1:=n8 (by omega) (by omega)
  have c1:=bl (G:=G) 0 (((I7 B x.links[k].drawing).dims.length:Int)-1) [x.links[k].dim] (by simp)
  have hbn:bd (L8 x.links[k].drawing (l9 U x.links[k].drawing+1) U) (k+1):=tp (ee hb (by omega)) (by omega) (by omega)
  rw[List.drop_eq_getElem_cons hlt,W4] at hu
  by_cases hle:l9 U x.links[k].drawing+1≤l9 D x.links[k].drawing
  ·rw[decide_eq_true hle,Bool.true_and] at hu
   cases hq:([x.links[k].dim].all fun y=>decide (0≤y)&&decide (y≤((I7 B x.links[k].drawing).dims.length:Int)-1))
   ·rw[hq] at c1
    have hq':(decide (0≤x.links[k].dim)&&decide (x.links[k].dim≤((I7 B x.links[k].drawing).dims.length:Int)-1))=false:=by simpa using hq
    rw[hq',Bool.false_and] at hu
    have hs:=za hx (za hw (za hlt (za hwu (za hput (za hwd hle)))))
    repeat' first|(with_reducible first|refine zz ?_|refine zr ?_)|simp -dsimp[hs]|refine zq c1 ?_|refine zM 6 50 28 [0,1,3,4,5,7,10,11,12,13,48] ?_|with_reducible refine zE [0,1,3,4,5,7,10,11,12,13,48] ?_|refine i9 ?_ ?_<;>intro h<;>try simp only[i7] at h
    rw[hu]
   ·rw[hq] at c1
    have hq':(decide (0≤x.links[k].dim)&&decide (x.links[k].dim≤((I7 B x.links[k].drawing).dims.length:Int)-1))=true:=by simpa using hq
    rw[hq',Bool.true_and] at hu
    have hs:=za hx (za hw (za hlt (za hwu (za hput (za hwd hle)))))
    repeat' first|with_reducible refine zz ?_|simp -dsimp[hs]|refine zq c1 ?_|refine zM 6 50 28 [0,1,3,4,5,7,10,11,12,13,48] ?_|with_reducible refine zE [0,1,3,4,5,7,10,11,12,13,48] ?_|refine i9 ?_ ?_<;>intro h<;>try simp only[i7] at h
    exact zn ⟨(k+1,L8 x.links[k].drawing (l9 U x.links[k].drawing+1) U),by omega,hu,hbn⟩ (zw [0,5,10,11,12] 2 (by simp[J4]))
  ·rw[decide_eq_false hle,Bool.false_and,Bool.false_and] at hu
   have hs:=za hx (za hw (za hlt (za hwu (za hput (za hwd hle)))))
   repeat' first|(with_reducible first|refine zz ?_|refine zr ?_)|simp -dsimp[hs]|refine zM 6 50 28 [0,1,3,4,5,7,10,11,12,13,48] ?_|with_reducible refine zE [0,1,3,4,5,7,10,11,12,13,48] ?_|refine i9 ?_ ?_<;>intro h<;>try simp only[i7] at h
   rw[hu]
 ·rw[List.drop_eq_nil_of_le (by omega)] at hu
  have hs:=hlt
  repeat' first|(with_reducible first|refine zz ?_|refine zr ?_|refine zE [0,1,3,4,5,7,10,11,12,13,48] ?_)|simp -dsimp[hs]|refine i9 ?_ ?_<;>intro h<;>try simp only[i7] at h
  rw[hu];rfl
end Go.Proofs
namespace Go.Proofs
open Go Go.Ab Tryz
variable {G:GW}
def J0 (G:GW):Prop:=G 7=some [.fn (.func 372) [],.fn (.func 373) [],.fn (.func 374) []]
def iN (c:Chains):Prop:=U2 c.reg∧c.lets.length≤80∧c.loops.length≤10∧∀ x∈c.loops,x.links.length≤12
def R4 (c:Chains):List (Int×Int):=(bq c.reg c.lets c.of).foldl (fun m x=>L8 x.drawing x.count m) []
def gJ (D:List (Int×Int)) (B:List (Int×Issue)) (x:ChLoop):Nat→Bool
 | 0=>td x
 | 1=>qz x
 | _=>W4 D B [] x.links
def N5 (D:List (Int×Int)) (B:List (Int×Issue)) (x:ChLoop):Bool:=td x&&qz x&&W4 D B [] x.links
theorem Ap {D:List (Int×Int)} {B:List (Int×Issue)} {x:ChLoop} {i:Nat} (h:gJ D B x i=false):N5 D B x=false:=by
 unfold N5
 match i with
 | 0=>simp only[gJ] at h;simp[h]
 | 1=>simp only[gJ] at h;simp[h]
 | i+2=>simp only[gJ] at h;simp[h]
theorem Aq {D:List (Int×Int)} {B:List (Int×Issue)} {x:ChLoop} (h:∀ i<3,gJ D B x i=true):N5 D B x=true:=by
 have h0:=h 0 (by omega);have h1:=h 1 (by omega);have h2:=h 2 (by omega)
 simp only[gJ] at h0 h1 h2
 simp[N5,h0,h1,h2]
def A4 (c:Chains):Int:=if j9 c.reg≠0 then j9 c.reg else if B1 c.reg c.lets c.of≠0∨¬ (1≤c.loops.length∧c.loops.length≤6) then 60 else if c.loops.all (N5 (R4 c) (aH c.reg c.lets)) then 0 else 60
def ay (c:Chains):DV:=if A4 c=0 then .one (.im (J4 c (R4 c) (aH c.reg c.lets))) else .one (.im (.raw (.pointer none)))
theorem Ag (c:Chains):ImV (ay c):=by unfold ay;split<;>simp[J4]
attribute [simp] Ag
theorem wj (l:List Issue) (lets:List Int) (d:Int):(bq l lets d).length≤l.length:=by
 unfold bq
 split
 ·simp only[K3,List.length_map]
  have:=List.length_filter_le (fun n=>decide (0<l9 (mh l lets d) n)) (nums l)
  have:=u4 l l.length
  simp only[nums] at *;omega
 ·simp
theorem As (c:Chains) (hG:o4 G) (hC:J0 G) (hs:iN c):zP prog G 261 [Ao c] (.tup [ay c,iv (A4 c)]):=by
 refine zf func261 ntmps261 ?_
 try simp only[Ao]
 obtain⟨hsr,hsl,hso,hsk⟩:=hs
 have hC':G 7=some [.fn (.func 372) [],.fn (.func 373) [],.fn (.func 374) []]:=hC
 have c1:=nO c.reg hG hsr
 by_cases h0:j9 c.reg=0
 ·rw[h0] at c1
  have c2:=wi c.reg c.lets c.of hG hsr (by omega)
  have c3:=bl (G:=G) 1 6 [(c.loops.length:Int)] (by simp)
  by_cases hT:B1 c.reg c.lets c.of≠0∨¬ (1≤c.loops.length∧c.loops.length≤6)
  ·have hE:A4 c=60:=by unfold A4;rw[if_neg (by simp[h0]),if_pos hT]
   by_cases hT0:B1 c.reg c.lets c.of=0
   ·rw[hT0] at c2
    have hr:([(c.loops.length:Int)].all fun x=>decide (1≤x)&&decide (x≤6))=false:=by
     simp;omega
    rw[hr] at c3
    have hs:=trivial
    repeat' first|(with_reducible first|refine zz ?_|refine zr ?_|refine zE [0,1,2,3,4,5,6,7,8,10,11,13,15,17,22,43,55,56,57,58,81,82,83,84,97,98,99,100,103,104,105,112] ?_)|simp -dsimp[hs]|refine zp c1 ?_|refine zp c2 ?_|refine zt c3 ?_ ?_ ?_;(focus simp;done);focus (simp;done)|refine i9 ?_ ?_<;>intro h<;>try simp only[i7] at h
    all_goals try clear hs
    all_goals simp[ay,hE]
   ·have hs:=hT0
    repeat' first|(with_reducible first|refine zz ?_|refine zr ?_|refine zE [0,1,2,3,4,5,6,7,8,10,11,13,15,17,22,43,55,56,57,58,81,82,83,84,97,98,99,100,103,104,105,112] ?_)|simp -dsimp[hs]|refine zp c1 ?_|refine zp c2 ?_|refine i9 ?_ ?_<;>intro h<;>try simp only[i7] at h
    all_goals try clear hs
    all_goals simp[ay,hE]
  ·have hT0:B1 c.reg c.lets c.of=0:=Classical.byContradiction fun h=>hT (.inl h)
   have hr6:1≤c.loops.length∧c.loops.length≤6:=Classical.byContradiction fun h=>hT (.inr h)
   have hr:([(c.loops.length:Int)].all fun x=>decide (1≤x)&&decide (x≤6))=true:=by
    simp;omega
   rw[hT0] at c2
   rw[hr] at c3
   have hlet:r7 c.reg c.lets=true:=by
    cases h:r7 c.reg c.lets
    ·simp[B1,h0,h] at hT0
    ·rfl
   have c4:=bV c.reg hG hsr
   rw[h0,show dw c.reg=nums c.reg by simp[dw,h0]] at c4
   have hE:A4 c=if c.loops.all (N5 (R4 c) (aH c.reg c.lets)) then 0 else 60:=by simp[A4,h0,hT0];omega
   have hs:=trivial
   repeat' first|with_reducible refine zz ?_|simp -dsimp[hs]|refine zp c1 ?_|refine zp c2 ?_|refine zt c3 ?_ ?_ ?_;(focus simp;done);focus (simp;done)|refine zp c4 ?_|with_reducible refine O5 (id:=7) (nt:=116) [0,1,2,3,4,5,6,7,8,10,11,13,15,17,22,43,55,56,57,58,81,82,83,84,97,98,99,100,103,104,105,112] rfl ?_;simp -dsimp[hs]|with_reducible refine zE [0,1,2,3,4,5,6,7,8,10,11,13,15,17,22,43,55,56,57,58,81,82,83,84,97,98,99,100,103,104,105,112] ?_|refine i9 ?_ ?_<;>intro h<;>try simp only[i7] at h
   all_goals try clear hs
   have hnd:(nums c.reg).Nodup:=(E5 h0).1.imp fun h=>Int.ne_of_lt h
   have hnl:(nums c.reg).length≤c.reg.length:=u4 c.reg c.reg.length
   have hll:c.lets.length=(nums c.reg).length:=by
    simp only[r7,Bool.and_eq_true,decide_eq_true_eq] at hlet;exact hlet.1
   have hreg:=hsr.1
   refine i6 (ι:={ k:Nat // k≤(nums c.reg).length }) (fun p=>⟨116,[(1,.one (.ptr 0 0)),(2,.one (.im (.raw (.pointer none)))),(3,iv 0),(5,.one (.im (.sl ((bq c.reg c.lets c.of).map A3)))),(7,.one (.ptr 7 0)),(55,r8 (nums c.reg)),(56,iv ((nums c.reg).length:Int)),(57,iv (p.1:Int))],[.row ((L5 c).map .im),.vec 1 [[.im (rI (c.loops.length:Int))]] 0 false,.map [.int .i64] [],.map [.int .i64] (I4 (((nums c.reg).take p.1).map fun d=>(d,u9 c.reg c.lets d))),.vec 0 [] 0 true,.vec 0 [] 0 true,.vec 0 [] 0 true,.row ((L5 c).map .im++[.map 2,.map 3])]⟩) (fun p=>(nums c.reg).length-p.1) ⟨0,by omega⟩ (zv [1,2,3,5,7,55,56,57] (by simp[I4])) ?_
   rintro⟨k,hk⟩
   simp only[iv,r8]
   by_cases hlt:k<(nums c.reg).length
   ·have hx:(nums c.reg)[k]?=some (nums c.reg)[k]:=by simp[hlt]
    have hkl:k<c.lets.length:=by omega
    have hy:c.lets[k]?=some c.lets[k]:=by simp[hkl]
    have hw:=zk k
    have c5:=Dp c.reg (nums c.reg)[k] c.lets[k] hG hsr
    have hta:=tV hnd hlt hkl
    rw[show atR c.reg (nums c.reg)[k] c.lets[k]=u9 c.reg c.lets (nums c.reg)[k] by rw[hta];simp[atR,h0]] at c5
    have hmp:eA (nums c.reg)[k] (u9 c.reg c.lets (nums c.reg)[k]) (((nums c.reg).take k).map fun d=>(d,u9 c.reg c.lets d))=(((nums c.reg).take (k+1)).map fun d=>(d,u9 c.reg c.lets d)):=by
     rw[ij,List.take_succ_eq_append_getElem hlt,List.map_append,List.map_singleton]
     rw[List.map_map]
     intro hm
     obtain⟨z,hz,e⟩:=List.mem_map.1 hm
     simp only[Function.comp] at e
     subst e
     obtain⟨i,hi,e⟩:=List.mem_take_iff_getElem.1 hz
     have:=(List.getElem_inj hnd).1 e;omega
    generalize u9 c.reg c.lets (nums c.reg)[k]=y at *
    have hmp':eA (nums c.reg)[k] ⟨y.drawing,y.letter,y.kind,y.items,y.dims⟩ (((nums c.reg).take k).map fun d=>(d,u9 c.reg c.lets d))=(((nums c.reg).take (k+1)).map fun d=>(d,u9 c.reg c.lets d)):=hmp
    simp only[C7] at c5
    simp only[List.map_take] at hmp'
    have hs:=za hx (za hy (za hlt (za hkl hw)))
    repeat' first|with_reducible refine zz ?_|simp -dsimp[hs]|refine zq c5 ?_|refine G7 (id:=12) (nt:=116) 18 [17] [0,1,2,3,4,5,6,7,8,10,11,13,15,17,22,43,55,56,57,58,62,63,64,65,66,67,68,69,70,71,72,73,74,75,76,77,78,81,82,83,84,97,98,99,100,103,104,105,112] [0,1,2,3,4,5,6,7,8,10,11,13,15,17,22,43,55,56,57,58,81,82,83,84,97,98,99,100,103,104,105,112] mixed rfl (by kernel_rfl) ?_|with_reducible refine zE [0,1,2,3,4,5,6,7,8,10,11,13,15,17,22,43,55,56,57,58,81,82,83,84,97,98,99,100,103,104,105,112] ?_|refine i9 ?_ ?_<;>intro h<;>try simp only[i7] at h
    all_goals try clear hs
    exact zn ⟨k+1,by omega⟩ (zw [1,2,3,5,7,55,56,57] 8 (by simp[hmp']))
   have htk:(nums c.reg).take k=nums c.reg:=List.take_of_length_le (by omega)
   rw[htk]
   change DT _ _ _ _ ⟨_,_,[_,_,_,.map _ (I4 (aH c.reg c.lets)),_,_,_,_]⟩ _
   have hs:=hlt
   repeat' first|(with_reducible first|refine zz ?_|refine zE [0,1,2,3,4,5,6,7,8,10,11,13,15,17,22,43,55,56,57,58,81,82,83,84,97,98,99,100,103,104,105,112] ?_)|simp -dsimp[hs]|refine i9 ?_ ?_<;>intro h<;>try simp only[i7] at h
   all_goals try clear hs
   have hpl:=wj c.reg c.lets c.of
   have hcD:R4 c=(bq c.reg c.lets c.of).foldl (fun m x=>L8 x.drawing x.count m) []:=rfl
   generalize bq c.reg c.lets c.of=ps at *
   refine i6 (ι:={ p:Nat×List (Int×Int) // p.1≤ps.length∧R4 c=(ps.drop p.1).foldl (fun m x=>L8 x.drawing x.count m) p.2 }) (fun p=>⟨116,[(1,.one (.ptr 0 0)),(2,.one (.im (.raw (.pointer none)))),(3,iv 0),(7,.one (.ptr 7 0)),(81,.one (.im (.sl (ps.map A3)))),(82,iv (ps.length:Int)),(83,iv (p.1.1:Int))],[.row ((L5 c).map .im),.vec 1 [[.im (rI (c.loops.length:Int))]] 0 false,.map [.int .i64] (L9 p.1.2),.map [.int .i64] (I4 (aH c.reg c.lets)),.vec 0 [] 0 true,.vec 0 [] 0 true,.vec 0 [] 0 true,.row ((L5 c).map .im++[.map 2,.map 3])]⟩) (fun p=>ps.length-p.1.1) ⟨(0,[]),by simp[hcD]⟩ (zv [1,2,3,7,81,82,83] (by simp[L9])) ?_
   rintro⟨⟨u,D⟩,hu,hD⟩
   simp only at hu hD
   simp only[iv]
   by_cases hlu:u<ps.length
   ·have hx:ps[u]?=some ps[u]:=by simp[hlu]
    have hw:=zk u
    rw[List.drop_eq_getElem_cons hlu,List.foldl_cons] at hD
    have hs:=za hx (za hlu hw)
    repeat' first|with_reducible refine zz ?_|simp -dsimp[hs]|refine zM 17 116 8 [0,1,2,3,4,5,6,7,8,10,11,13,15,17,22,43,55,56,57,58,81,82,83,84,97,98,99,100,103,104,105,112] ?_|with_reducible refine zE [0,1,2,3,4,5,6,7,8,10,11,13,15,17,22,43,55,56,57,58,81,82,83,84,97,98,99,100,103,104,105,112] ?_|refine i9 ?_ ?_<;>intro h<;>try simp only[i7] at h
    all_goals try clear hs
    exact zn ⟨(u+1,L8 ps[u].drawing ps[u].count D),by omega,hD⟩ (zw [1,2,3,7,81,82,83] 8)
   have hDe:D=R4 c:=by rw[hD,List.drop_eq_nil_of_le (by omega)];rfl
   subst hDe
   have hB:∀ n,(I7 (aH c.reg c.lets) n).dims.length<1000000:=fun n=>by
    rw[aH,T5]
    split
    ·rename_i hn
     obtain⟨hm,_⟩:=dI h0 hlet hn
     have:=(hsr.2 _ hm).2.2.2;omega
    ·decide
   have hs:=hlu
   repeat' first|(with_reducible first|refine zz ?_|refine zE [0,1,2,3,4,5,6,7,8,10,11,13,15,17,22,43,55,56,57,58,81,82,83,84,97,98,99,100,103,104,105,112] ?_)|simp -dsimp[hs]|refine i9 ?_ ?_<;>intro h<;>try simp only[i7] at h
   all_goals try clear hs
   refine i6 (ι:={ j:Nat // j≤c.loops.length∧c.loops.all (N5 (R4 c) (aH c.reg c.lets))=(c.loops.drop j).all (N5 (R4 c) (aH c.reg c.lets)) }) (fun p=>⟨116,[(2,.one (.im (.raw (.pointer none)))),(3,iv 0),(7,.one (.im (J4 c (R4 c) (aH c.reg c.lets)))),(97,.one (.im (.sl (c.loops.map F8)))),(98,iv (c.loops.length:Int)),(99,iv (p.1:Int))],[]⟩) (fun p=>c.loops.length-p.1) ⟨0,by simp⟩ (zw [2,3,7,97,98,99] 0 (by simp[J4])) ?_
   rintro⟨j,hj,hall⟩
   simp only[iv]
   by_cases hlj:j<c.loops.length
   ·have hx:c.loops[j]?=some c.loops[j]:=by simp[hlj]
    have hw:=zk j
    have hst:=an hlj hall
    have hln:=hsk c.loops[j] (List.getElem_mem hlj)
    have k1:=FK (G:=G) (J4 c (R4 c) (aH c.reg c.lets)) c.loops[j]
    have k2:=FJ (G:=G) (J4 c (R4 c) (aH c.reg c.lets)) c.loops[j]
    have k3:=FI (G:=G) c (R4 c) (aH c.reg c.lets) c.loops[j] (by omega) hB
    have hbad:∀ i,gJ (R4 c) (aH c.reg c.lets) c.loops[j] i=false→A4 c=60:=fun i h=>by
     rw[hE,C9 hst (by rw[Ap h];exact Bool.false_ne_true)];rfl
    have hq1:gJ (R4 c) (aH c.reg c.lets) c.loops[j] 0=td c.loops[j]:=rfl
    have hq2:gJ (R4 c) (aH c.reg c.lets) c.loops[j] 1=qz c.loops[j]:=rfl
    have hq3:gJ (R4 c) (aH c.reg c.lets) c.loops[j] 2=W4 (R4 c) (aH c.reg c.lets) [] c.loops[j].links:=rfl
    rw[← hq1] at k1;rw[← hq2] at k2;rw[← hq3] at k3
    clear hq1 hq2 hq3
    have hs:=za hx (za hlj hC')
    repeat' first|(with_reducible first|refine zz ?_|refine zE [0,1,2,3,4,5,6,7,8,10,11,13,15,17,22,43,55,56,57,58,81,82,83,84,97,98,99,100,103,104,105,112] ?_)|simp -dsimp[hs]|refine i9 ?_ ?_<;>intro h<;>try simp only[i7] at h
    all_goals try clear hs
    refine i6 (ι:={ i:Nat // i≤3∧∀ e<i,gJ (R4 c) (aH c.reg c.lets) c.loops[j] e=true }) (fun p=>⟨116,[(2,.one (.im (.raw (.pointer none)))),(3,iv 0),(7,.one (.im (J4 c (R4 c) (aH c.reg c.lets)))),(15,.one (.ptr 1 0)),(97,.one (.im (.sl (c.loops.map F8)))),(98,iv (c.loops.length:Int)),(99,iv (j:Int)),(103,.agg [.im (.fn (.func 372) []),.im (.fn (.func 373) []),.im (.fn (.func 374) [])]),(104,iv (p.1:Int))],[.vec 0 [] 0 true,.row ((F8 c.loops[j]).map .im)]⟩) (fun p=>3-p.1) ⟨0,by simp⟩ (zv [2,3,7,15,97,98,99,103,104]) ?_
    rintro⟨i,hi,hcc⟩
    simp only[iv]
    by_cases hi3:i<3
    ·have hwc:=zk i
     match i,hi3,hi,hcc,hwc with
     | 0,hi3,hi,hcc,hwc =>
       cases hq:gJ (R4 c) (aH c.reg c.lets) c.loops[j] 0<;>simp only[hq] at k1
       ·have h60:=hbad 0 hq
        have hs:=trivial
        repeat' first|(with_reducible first|refine zz ?_|refine zr ?_|refine zE [0,1,2,3,4,5,6,7,8,10,11,13,15,17,22,43,55,56,57,58,81,82,83,84,97,98,99,100,103,104,105,112] ?_)|simp -dsimp[hs]|refine zp k1 ?_|refine i9 ?_ ?_<;>intro h<;>try simp only[i7] at h
        all_goals try clear hs
        all_goals simp[ay,h60]
       ·have hs:=hwc
        repeat' first|(with_reducible first|refine zz ?_|refine zE [0,1,2,3,4,5,6,7,8,10,11,13,15,17,22,43,55,56,57,58,81,82,83,84,97,98,99,100,103,104,105,112] ?_)|simp -dsimp[hs]|refine zp k1 ?_|refine i9 ?_ ?_<;>intro h<;>try simp only[i7] at h
        all_goals try clear hs
        exact At.round ⟨1,by omega,fun i hi=>by
         rcases Nat.lt_succ_iff_lt_or_eq.1 hi with h|rfl
         ·exact hcc i h
         ·exact hq⟩ (by simp) (zw [2,3,7,15,97,98,99,103,104] 2 (by simp;exact n8 (by omega) (by omega)))
     | 1,hi3,hi,hcc,hwc =>
       cases hq:gJ (R4 c) (aH c.reg c.lets) c.loops[j] 1<;>simp only[hq] at k2
       ·have h60:=hbad 1 hq
        have hs:=trivial
        repeat' first|(with_reducible first|refine zz ?_|refine zr ?_|refine zE [0,1,2,3,4,5,6,7,8,10,11,13,15,17,22,43,55,56,57,58,81,82,83,84,97,98,99,100,103,104,105,112] ?_)|simp -dsimp[hs]|refine zp k2 ?_|refine i9 ?_ ?_<;>intro h<;>try simp only[i7] at h
        all_goals try clear hs
        all_goals simp[ay,h60]
       ·have hs:=hwc
        repeat' first|(with_reducible first|refine zz ?_|refine zE [0,1,2,3,4,5,6,7,8,10,11,13,15,17,22,43,55,56,57,58,81,82,83,84,97,98,99,100,103,104,105,112] ?_)|simp -dsimp[hs]|refine zp k2 ?_|refine i9 ?_ ?_<;>intro h<;>try simp only[i7] at h
        all_goals try clear hs
        exact At.round ⟨2,by omega,fun i hi=>by
         rcases Nat.lt_succ_iff_lt_or_eq.1 hi with h|rfl
         ·exact hcc i h
         ·exact hq⟩ (by simp) (zw [2,3,7,15,97,98,99,103,104] 2 (by simp;exact n8 (by omega) (by omega)))
     | 2,hi3,hi,hcc,hwc =>
       cases hq:gJ (R4 c) (aH c.reg c.lets) c.loops[j] 2<;>simp only[hq] at k3
       ·have h60:=hbad 2 hq
        have hs:=trivial
        repeat' first|(with_reducible first|refine zz ?_|refine zr ?_|refine zE [0,1,2,3,4,5,6,7,8,10,11,13,15,17,22,43,55,56,57,58,81,82,83,84,97,98,99,100,103,104,105,112] ?_)|simp -dsimp[hs]|refine zp k3 ?_|refine i9 ?_ ?_<;>intro h<;>try simp only[i7] at h
        all_goals try clear hs
        all_goals simp[ay,h60]
       ·have hs:=hwc
        repeat' first|(with_reducible first|refine zz ?_|refine zE [0,1,2,3,4,5,6,7,8,10,11,13,15,17,22,43,55,56,57,58,81,82,83,84,97,98,99,100,103,104,105,112] ?_)|simp -dsimp[hs]|refine zp k3 ?_|refine i9 ?_ ?_<;>intro h<;>try simp only[i7] at h
        all_goals try clear hs
        exact At.round ⟨3,by omega,fun i hi=>by
         rcases Nat.lt_succ_iff_lt_or_eq.1 hi with h|rfl
         ·exact hcc i h
         ·exact hq⟩ (by simp) (zw [2,3,7,15,97,98,99,103,104] 2 (by simp;exact n8 (by omega) (by omega)))
    ·obtain rfl:i=3:=by omega
     have hok:=Aq hcc
     have hs:=hw
     repeat' first|(with_reducible first|refine zz ?_|refine zE [0,1,2,3,4,5,6,7,8,10,11,13,15,17,22,43,55,56,57,58,81,82,83,84,97,98,99,100,103,104,105,112] ?_)|simp -dsimp[hs]|refine i9 ?_ ?_<;>intro h<;>try simp only[i7] at h
     all_goals try clear hs
     exact zn ⟨j+1,by omega,G4 hst hok⟩ (zw [2,3,7,97,98,99] 0)
   ·have hok:c.loops.all (N5 (R4 c) (aH c.reg c.lets))=true:=by rw[hall,List.drop_eq_nil_of_le (by omega)];rfl
    rw[hok] at hE
    have hs:=hlj
    repeat' first|(with_reducible first|refine zz ?_|refine zr ?_|refine zE [0,1,2,3,4,5,6,7,8,10,11,13,15,17,22,43,55,56,57,58,81,82,83,84,97,98,99,100,103,104,105,112] ?_)|simp -dsimp[hs]|refine i9 ?_ ?_<;>intro h<;>try simp only[i7] at h
    all_goals try clear hs
    simp[ay,hE]
 ·have hE:A4 c=j9 c.reg:=by simp[A4,h0]
  have hs:=h0
  repeat' first|(with_reducible first|refine zz ?_|refine zr ?_|refine zE [0,1,2,3,4,5,6,7,8,10,11,13,15,17,22,43,55,56,57,58,81,82,83,84,97,98,99,100,103,104,105,112] ?_)|simp -dsimp[hs]|refine zp c1 ?_|refine i9 ?_ ?_<;>intro h<;>try simp only[i7] at h
  all_goals try clear hs
  simp[ay,hE,h0]
end Go.Proofs
namespace Go.Proofs
open Go Go.Ab
theorem Ew:Rd 111 F9 (fun _=>True):=(Opens.struct Tryz.underlying111 (by kernel_rfl) (yo (fun _=>True) (fun l=>∃ n:Int,l=[rI n]) (fun l=>∃ n:Int,l=[rI n]) (fun l=>∃ b:Bool,l=[rB b])) (fun i f hf=>by
 rcases i with _|_|_|i<;>simp at hf<;>subst hf
 ·exact oInt
 ·exact oInt
 ·exact DQ)).mono (by
 rintro l ⟨ls,h1,h2,rfl⟩
 obtain⟨a,b,c,rfl⟩:=Cv h1
 obtain⟨x,rfl⟩:=h2 0 a rfl
 obtain⟨y,rfl⟩:=h2 1 b rfl
 obtain⟨z,rfl⟩:=h2 2 c rfl
 exact⟨⟨x,y,z⟩,trivial,rfl⟩)
theorem EK:Opens Tryz.prog 32 (fun l=>∃ xs:List Link,l=[.sl (xs.map F9)]):=
 (Opens.sliceOf Tryz.underlying32 (sz:=3) (by kernel_rfl) (by decide) (fun _=>rfl) Ew).mono (by rintro l ⟨xs,_,h⟩;exact⟨xs,h⟩)
theorem GS:Opens Tryz.prog 34 (fun l=>∃ n m:Int,l=[rI n,rI m]):=(Opens.struct Tryz.underlying34 (by kernel_rfl) (fun _ l=>∃ n:Int,l=[rI n]) (fun i f hf=>by
 rcases i with _|_|i<;>simp at hf<;>subst hf<;>exact oInt)).mono (by
 rintro l ⟨ls,h1,h2,rfl⟩
 obtain⟨a,b,rfl⟩:=vF h1
 obtain⟨x,rfl⟩:=h2 0 a rfl
 obtain⟨y,rfl⟩:=h2 1 b rfl
 exact⟨x,y,rfl⟩)
theorem yb:Rd 36 F8 (fun _=>True):=(Opens.struct Tryz.underlying36 (by kernel_rfl) (yo (fun _=>True) (fun l=>∃ xs:List Link,l=[.sl (xs.map F9)]) (fun l=>∃ n m:Int,l=[rI n,rI m]) (fun _=>True)) (fun i f hf=>by
 rcases i with _|_|i<;>simp at hf<;>subst hf
 ·exact EK
 ·exact GS)).mono (by
 rintro l ⟨ls,h1,h2,rfl⟩
 obtain⟨a,b,rfl⟩:=vF h1
 obtain⟨x,rfl⟩:=h2 0 a rfl
 obtain⟨y,z,rfl⟩:=h2 1 b rfl
 exact⟨⟨x,y,z⟩,trivial,rfl⟩)
theorem EJ:Opens Tryz.prog 165 (fun l=>∃ xs:List ChLoop,l=[.sl (xs.map F8)]):=
 (Opens.sliceOf Tryz.underlying165 (sz:=3) (by kernel_rfl) (by decide) (fun _=>rfl) yb).mono (by rintro l ⟨xs,_,h⟩;exact⟨xs,h⟩)
theorem GD:Rd 167 L5 (fun c=>∀ x∈c.reg,eY x):=(Opens.struct Tryz.underlying167 (by kernel_rfl) (DN (fun _=>True) (fun l=>∃ xs:List Issue,(∀ x∈xs,eY x)∧l=[.sl (xs.map e9)]) (fun l=>∃ xs:List Int,l=[.sl (xs.map encI)]) (fun l=>∃ n:Int,l=[rI n]) (fun l=>∃ xs:List ChLoop,l=[.sl (xs.map F8)]) (fun _=>True)) (fun i f hf=>by
 rcases i with _|_|_|_|i<;>simp at hf<;>subst hf
 ·exact GQ
 ·exact DP
 ·exact oInt
 ·exact EJ)).mono (by
 rintro l ⟨ls,h1,h2,rfl⟩
 obtain⟨a,b,c,d,rfl⟩:=Ho h1
 obtain⟨x,hx,rfl⟩:=h2 0 a rfl
 obtain⟨y,rfl⟩:=h2 1 b rfl
 obtain⟨z,rfl⟩:=h2 2 c rfl
 obtain⟨u,rfl⟩:=h2 3 d rfl
 exact⟨⟨x,y,z,u⟩,hx,rfl⟩)
end Go.Proofs
namespace Go.Ab
open Go
structure Note where
 number:Int
 day:Int
 signed:Int
 drawing:Int
 letter:Int
 frm:Int
 to:Int
 cancels:Int
 useUp:Bool
 ways:Int
 deriving DecidableEq
structure Notes where
 reg:List Issue
 notes:List Note
 deriving DecidableEq
def l5 (x:Note):List IC:=[rI x.number,rI x.day,.raw (.int .u8 x.signed),rI x.drawing,rI x.letter,rI x.frm,rI x.to,rI x.cancels,rB x.useUp,.raw (.int .u8 x.ways)]
def p6 (n:Notes):List IC:=[.sl (n.reg.map e9),.sl (n.notes.map l5)]
def ew (x:Note):DV:=.agg ((l5 x).map .im)
def o5 (n:Notes):DV:=.agg ((p6 n).map .im)
attribute [simp] l5 p6 ew o5
end Go.Ab
namespace Go.Proofs
open Go Go.Ab
variable {G:GW}
def ES (x:Note):Bool:=(decide (1≤x.number)&&decide (x.number≤9999))&&(decide (0≤x.day)&&decide (x.day≤14610))
theorem Hc (n:Notes) (i:Nat) (x:Note) (hx:n.notes[i]?=some x):zP Tryz.prog G 346 [o5 n,iv (i:Int)] (bv (ES x)):=by
 refine zf Tryz.func346 Tryz.ntmps346 ?_
 try simp only[o5,iv]
 have hi:i<n.notes.length:=e7 hx
 have hxe:n.notes[i]=x:=(List.getElem?_eq_some_iff.1 hx).2
 have c1:=gi (G:=G) 1 9999 [x.number] (by simp)
 have c2:=gi (G:=G) 0 14610 [x.day] (by simp)
 have hs:=za hxe hi
 repeat' first|(with_reducible first|refine zz ?_|refine zr ?_|refine zE [0,1,2,4] ?_)|simp -dsimp[hs]|refine zt c1 ?_ ?_ ?_;(focus simp;done);focus (simp;done)|refine zt c2 ?_ ?_ ?_;(focus simp;done);focus (simp;done)|with_reducible refine j0 ?_ ?_<;>intro h<;>have h0:=h<;>(try simp only[i7] at h)<;>have h2:=h<;>(try simp at h2)<;>replace hs:=za h0 (za h (za h2 hs))
 all_goals try clear hs
 all_goals simp_all [ES]
 all_goals omega
def ER (x:Note):Bool:=decide (x.signed≤2)&&decide (x.ways≤3)
theorem Hb (n:Notes) (i:Nat) (x:Note) (hx:n.notes[i]?=some x):zP Tryz.prog G 347 [o5 n,iv (i:Int)] (bv (ER x)):=by
 refine zf Tryz.func347 Tryz.ntmps347 ?_
 try simp only[o5,iv]
 have hi:i<n.notes.length:=e7 hx
 have hxe:n.notes[i]=x:=(List.getElem?_eq_some_iff.1 hx).2
 have hs:=za hxe hi
 repeat' first|(with_reducible first|refine zz ?_|refine zr ?_|refine zE [0,1,2,4] ?_)|simp -dsimp[hs]|with_reducible refine j0 ?_ ?_<;>intro h<;>have h0:=h<;>(try simp only[i7] at h)<;>have h2:=h<;>(try simp at h2)<;>replace hs:=za h0 (za h (za h2 hs))
 all_goals try clear hs
 all_goals (clear hx;simp_all [ER])
 all_goals omega
def DR (x:Note):Bool:=(decide (1≤x.frm)&&decide (x.frm≤999))&&(decide (1≤x.to)&&decide (x.to≤999))&&decide (x.frm≤x.to)
theorem Ha (n:Notes) (i:Nat) (x:Note) (hx:n.notes[i]?=some x):zP Tryz.prog G 348 [o5 n,iv (i:Int)] (bv (DR x)):=by
 refine zf Tryz.func348 Tryz.ntmps348 ?_
 try simp only[o5,iv]
 have hi:i<n.notes.length:=e7 hx
 have hxe:n.notes[i]=x:=(List.getElem?_eq_some_iff.1 hx).2
 have c1:=gi (G:=G) 1 999 [x.frm,x.to] (by simp)
 have hs:=za hxe hi
 repeat' first|(with_reducible first|refine zz ?_|refine zr ?_|refine zE [0,1,2,4,5] ?_)|simp -dsimp[hs]|refine zt c1 ?_ ?_ ?_;(focus simp;done);focus (simp;done)|with_reducible refine j0 ?_ ?_<;>intro h<;>have h0:=h<;>(try simp only[i7] at h)<;>have h2:=h<;>(try simp at h2)<;>replace hs:=za h0 (za h (za h2 hs))
 all_goals try clear hs
 all_goals (clear hx c1;simp_all [DR])
 all_goals omega
end Go.Proofs
namespace Go.Proofs
open Go Go.Ab Tryz
variable {G:GW}
theorem ld (l:List Note) (p:Note→Bool) (k:Nat) (caps:List DC) (objs:List DObj) (hok:D4 prog k) (hf:∀ x∈l,DCall prog G k (ew x :: caps.map .one) objs (fun d o=>d=bv (p x)∧o=objs)) (hl:l.length<1000000):DCall prog G 111 [.one (.im (.sl (l.map l5))),.one (.fn (.func k) caps)] objs (fun d o=>d=iv (H9 p l)∧o=objs):=by
 refine h9 func111 rfl ntmps111 (by simp) rfl ?_
 have hs:=trivial
 repeat' first|(with_reducible first|refine zz ?_|refine zE [0,1,4,5,7,8,9,16] ?_)|simp -dsimp[hs]
 refine i6 (ι:={ k:Nat // k≤l.length∧∀ j x,j<k→l[j]?=some x→p x=false }) (fun i=>⟨19,[(0,.one (.im (.sl (l.map l5)))),(1,.one (.fn (.func k) caps)),(7,iv (l.length:Int)),(8,iv (i.1:Int))],objs⟩) (fun i=>l.length-i.1) ⟨0,by simp⟩ (zv [0,1,7,8]) ?_
 rintro⟨i,hi,hno⟩
 simp only[iv]
 by_cases hlt:i<l.length
 ·have hx:l[i]?=some l[i]:=by simp[hlt]
  have hw:=zk i
  have hc:=hf l[i] (by simp)
  simp only[ew,l5,List.map_cons,List.map_nil,bv,rI] at hc
  have hs:=za hx (za hw hok)
  repeat' first|(with_reducible first|refine zz ?_|refine And.intro (by omega) ?_|refine zr ?_|refine zE [0,1,4,5,7,8,9,16] ?_)|simp -dsimp[hs]|refine CallE.here hc ?_|refine i9 ?_ ?_<;>intro h<;>try simp only[i7] at h|with_reducible refine And.intro ?_ ?_
  all_goals try omega
  ·exact(K7 hx (by assumption) hno).symm
  ·exact At.round ⟨i+1,by omega,fun j x hj hjx=>by
    by_cases e:j=i
    ·subst e;rw[hx] at hjx;cases hjx;assumption
    ·exact hno j x (by omega) hjx⟩ (by simp;omega) (zv [0,1,7,8])
 ·have hs:=trivial
  repeat' first|(with_reducible first|refine zz ?_|refine zr ?_|refine zE [0,1,4,5,7,8,9,16] ?_)|simp -dsimp[hs]|refine i9 ?_ ?_<;>intro h<;>try simp only[i7] at h|with_reducible refine And.intro ?_ ?_
  all_goals try omega
  exact(R2 fun j x hjx=>hno j x (by have:=e7 hjx;omega) hjx).symm
theorem aA (l:List Note) (p:Note→Bool) (k:Nat) (caps:List DC) (objs:List DObj) (hok:D4 prog k) (hf:∀ x∈l,DCall prog G k (ew x :: caps.map .one) objs (fun d o=>d=bv (p x)∧o=objs)) (hl:l.length<1000000):DCall prog G 352 [.one (.im (.sl (l.map l5))),.one (.fn (.func k) caps)] objs (fun d o=>d=bv (l.any p)∧o=objs):=by
 refine h9 func352 rfl ntmps352 (by simp) rfl ?_
 have hc:=ld l p k caps objs hok hf hl
 repeat' first|(with_reducible first|refine zz ?_|refine zx ?_|refine zE [0,1,4] ?_)|simp -dsimp|refine CallE.here hc ?_|with_reducible refine And.intro ?_ ?_
 simp[A2]
def EP (x:Note):Bool:=decide (2≤x.letter) || !x.useUp&&decide (x.ways=0)
theorem GY (n:Notes) (i:Nat) (x:Note) (hx:n.notes[i]?=some x):zP prog G 350 [o5 n,iv (i:Int)] (bv (EP x)):=by
 refine zf func350 ntmps350 ?_
 try simp only[o5,iv]
 have hi:i<n.notes.length:=e7 hx
 have hxe:n.notes[i]=x:=(List.getElem?_eq_some_iff.1 hx).2
 have hs:=za hxe hi
 repeat' first|(with_reducible first|refine zz ?_|refine zr ?_|refine zE [0,1,2,4,5] ?_)|simp -dsimp[hs]|with_reducible refine j0 ?_ ?_<;>intro h<;>have h0:=h<;>(try simp only[i7] at h)<;>have h2:=h<;>(try simp at h2)<;>replace hs:=za h0 (za h (za h2 hs))
 all_goals try clear hs
 all_goals (clear hx;simp_all [EP])
 all_goals omega
theorem EO (n:Notes) (x y:Note):DCall prog G 353 (ew y :: [DC.ptr 1 0].map .one) [.row ((p6 n).map .im),.row ((l5 x).map .im)] (fun d o=>d=bv (decide (y.number=x.cancels))∧o=[.row ((p6 n).map .im),.row ((l5 x).map .im)]):=by
 refine DCall.drop ?_
 refine h9 func353 rfl ntmps353 (by simp) rfl ?_
 simp only[ew,l5,p6,rI,rB]
 repeat' first|(with_reducible first|refine zz ?_|refine zx ?_|refine zE [0,1,2,3] ?_)|simp -dsimp|with_reducible refine And.intro ?_ ?_
def Bv (l:List Note) (i:Nat) (x:Note):Bool:=decide (x.cancels=0)||(l.take i).any fun y=>decide (y.number=x.cancels)
theorem GX (n:Notes) (i:Nat) (x:Note) (hx:n.notes[i]?=some x) (hl:n.notes.length<1000):zP prog G 351 [o5 n,iv (i:Int)] (bv (Bv n.notes i x)):=by
 refine zf func351 ntmps351 ?_
 try simp only[o5,iv]
 have hi:i<n.notes.length:=e7 hx
 have hxe:n.notes[i]=x:=(List.getElem?_eq_some_iff.1 hx).2
 have hlt:(n.notes.take i).length<1000000:=by simp;omega
 have hil:i≤n.notes.length:=by omega
 have c1:=aA (G:=G) (n.notes.take i) (fun y=>decide (y.number=x.cancels)) 353 [.ptr 1 0] [.row ((p6 n).map .im),.row ((l5 x).map .im)] (by simp) (fun y _=>EO n x y) hlt
 simp only[l5,p6,rI,rB,List.map_take,List.map_cons,List.map_nil] at c1
 have hs:=za hxe (za hi hil)
 repeat' first|(with_reducible first|refine zz ?_|refine zr ?_|refine zE [0,1,2,4,5] ?_)|simp -dsimp[hs]|refine zh c1 ?_|with_reducible refine j0 ?_ ?_<;>intro h<;>have h0:=h<;>(try simp only[i7] at h)<;>have h2:=h<;>(try simp at h2)<;>replace hs:=za h0 (za h (za h2 hs))
 all_goals try clear hs
 all_goals (clear hx c1;simp_all [Bv])
theorem EN (n:Notes) (i:Nat) (x y:Note) (hx:n.notes[i]?=some x):DCall prog G 355 (ew y :: [DC.ptr 0 0,DC.ptr 1 0].map .one) [.row ((p6 n).map .im),.row [.im (rI (i:Int))]] (fun d o=>d=bv (decide (y.number=x.number))∧o=[.row ((p6 n).map .im),.row [.im (rI (i:Int))]]):=by
 have hi:i<n.notes.length:=e7 hx
 have hxe:n.notes[i]=x:=(List.getElem?_eq_some_iff.1 hx).2
 refine DCall.drop ?_
 refine h9 func355 rfl ntmps355 (by simp) rfl ?_
 simp only[ew,l5,p6,rI,rB]
 have hs:=za hxe hi
 repeat' first|(with_reducible first|refine zz ?_|refine zr ?_)|simp -dsimp[hs]|refine zM 1 14 10 [0,1,2,3,4] ?_|with_reducible refine zE [0,1,2,3,4] ?_|with_reducible refine And.intro ?_ ?_
def ud (l:List Note) (i:Nat) (x:Note):Bool:=!(l.take i).any fun y=>decide (y.number=x.number)
theorem gW9 (n:Notes) (i:Nat) (x:Note) (hx:n.notes[i]?=some x) (hl:n.notes.length<1000):zP prog G 354 [o5 n,iv (i:Int)] (bv (ud n.notes i x)):=by
 refine zf func354 ntmps354 ?_
 try simp only[o5,iv]
 have hi:i<n.notes.length:=e7 hx
 have hlt:(n.notes.take i).length<1000000:=by simp;omega
 have hil:i≤n.notes.length:=by omega
 have c1:=aA (G:=G) (n.notes.take i) (fun y=>decide (y.number=x.number)) 355 [.ptr 0 0,.ptr 1 0] [.row ((p6 n).map .im),.row [.im (rI (i:Int))]] (by simp) (fun y _=>EN n i x y hx) hlt
 simp only[l5,p6,rI,rB,List.map_take,List.map_cons,List.map_nil] at c1
 have hs:=za hi hil
 repeat' first|(with_reducible first|refine zz ?_|refine zr ?_|refine zE [0,1,2,3,4] ?_)|simp -dsimp[hs]|refine zh c1 ?_
 all_goals try clear hs
 all_goals (clear hx c1;simp_all [ud])
def BZ:List Int→Int
 | []=>0
 | x :: r=>if x=0 then BZ r else x
theorem Iu (l:List Int) (hl:l.length<1000000):zP prog G 84 [r8 l] (iv (BZ l)):=by
 refine zf func84 ntmps84 ?_
 try simp only[r8]
 have hs:=trivial
 repeat' first|(with_reducible first|refine zz ?_|refine zE [0,2,3,5,6,7,8,9,14] ?_)|simp -dsimp[hs]
 refine i6 (ι:={ p:Nat // p≤l.length∧BZ l=BZ (l.drop p) }) (fun p=>⟨18,[(3,iv 0),(6,.one (.im (.sl (l.map encI)))),(7,iv (l.length:Int)),(8,iv (p.1:Int))],[]⟩) (fun p=>l.length-p.1) ⟨0,by simp⟩ (zv [3,6,7,8]) ?_
 rintro⟨k,hk,hu⟩
 simp only[iv]
 by_cases hlt:k<l.length
 ·have hw:=zk k
  rw[List.drop_eq_getElem_cons hlt,BZ] at hu
  generalize hx:l[k]=x at *
  have hs:=za hx (za hw hlt)
  repeat' first|(with_reducible first|refine zz ?_|refine zr ?_|refine zE [0,2,3,5,6,7,8,9,14] ?_)|simp -dsimp[hs]|refine i9 ?_ ?_<;>intro h<;>try simp only[i7] at h
  ·rw[hu,if_neg (by assumption)]
  ·rw[if_pos (by assumption)] at hu
   exact zn ⟨k+1,by omega,hu⟩ (zv [3,6,7,8])
 ·rw[List.drop_eq_nil_of_le (by omega)] at hu
  have hs:=hlt
  repeat' first|(with_reducible first|refine zz ?_|refine zr ?_|refine zE [0,2,3,5,6,7,8,9,14] ?_)|simp -dsimp[hs]|refine i9 ?_ ?_<;>intro h<;>try simp only[i7] at h
  rw[hu];rfl
def AH (y x:Note):Bool:=decide (y.day<x.day)||decide (y.day=x.day)&&decide (y.number<x.number)
def xw (l:List Note) (i:Nat) (x:Note):Bool:=if i=0 then true else match l[i-1]? with|some y=>AH y x|none=>false
theorem EF (y x:Note):decide (BZ [ep y.day x.day,ep y.number x.number]<0)=AH y x:=by
 unfold AH ep BZ BZ BZ
 rw[Bool.eq_iff_iff]
 simp only[decide_eq_true_eq,Bool.or_eq_true,Bool.and_eq_true]
 repeat' split
 all_goals omega
theorem GV (n:Notes) (i:Nat) (x:Note) (hx:n.notes[i]?=some x) (hl:n.notes.length<1000):zP prog G 356 [o5 n,iv (i:Int)] (bv (xw n.notes i x)):=by
 refine zf func356 ntmps356 ?_
 try simp only[o5,iv]
 have hi:i<n.notes.length:=e7 hx
 have hxe:n.notes[i]=x:=(List.getElem?_eq_some_iff.1 hx).2
 by_cases h00:i=0
 ·subst h00
  have hs:=za hxe hi
  repeat' first|(with_reducible first|refine zz ?_|refine zr ?_)|simp -dsimp[hs]|refine zM 1 40 36 [0,1,2,4] ?_|with_reducible refine zE [0,1,2,4] ?_
  all_goals simp[xw]
 ·have hi1:i-1<n.notes.length:=by omega
  have hw:IntKind.i64.wrap ((i:Int)-1)=((i-1:Nat):Int):=by rw[n8 (by omega) (by omega)];omega
  have hne:((i:Int)=0)=False:=by simp[h00]
  generalize hy:n.notes[i-1]=y
  have c1:=iI (G:=G) y.day x.day
  have c2:=iI (G:=G) y.number x.number
  have c3:=Iu (G:=G) [ep y.day x.day,ep y.number x.number] (by simp)
  have hs:=za hxe (za hi (za hi1 (za hw (za hne (za hy h00)))))
  repeat' first|(with_reducible first|refine zz ?_|refine zr ?_)|simp -dsimp[hs]|refine zq c1 ?_|refine zq c2 ?_|refine zq c3 ?_|refine zM 1 40 36 [0,1,2,4] ?_|with_reducible refine zE [0,1,2,4] ?_
  rw[EF,xw,if_neg h00,List.getElem?_eq_getElem hi1,hy]
def Cj (l:List Issue) (x:Note):Bool:=if x.drawing=0∧x.letter=0 then decide (x.cancels≠0) else decide (AS l x.drawing x.letter=0)
theorem GZ (n:Notes) (i:Nat) (x:Note) (hx:n.notes[i]?=some x) (hG:o4 G) (hs:U2 n.reg):zP prog G 349 [o5 n,iv (i:Int)] (bv (Cj n.reg x)):=by
 refine zf func349 ntmps349 ?_
 try simp only[o5,iv]
 have hi:i<n.notes.length:=e7 hx
 have hxe:n.notes[i]=x:=(List.getElem?_eq_some_iff.1 hx).2
 have c1:=Dp (G:=G) n.reg x.drawing x.letter hG hs
 simp only[C7] at c1
 have hs:=za hxe hi
 repeat' first|(with_reducible first|refine zz ?_|refine zr ?_|refine zE [0,1,2,4,5,7,19] ?_)|simp -dsimp[hs]|refine zp c1 ?_|refine i9 ?_ ?_<;>intro h<;>try simp only[i7] at h
 all_goals try clear hs
 ·have h1:x.drawing=0∧x.letter=0:=⟨h.1.symm,h.2.symm⟩
  rw[Cj,if_pos h1];simp
 ·rw[Cj,if_neg (by omega)]
theorem pV (l:List Int) (n:Int) (hl:l.length<1000000):zP prog G 174 [r8 l,iv n] (iv (H9 (fun x=>decide (n=x)) l)):=by
 refine zf func174 ntmps174 ?_
 try simp only[r8,iv]
 have hs:=trivial
 repeat' first|(with_reducible first|refine zz ?_|refine zE [0,1,4,5,7,8,9,16] ?_)|simp -dsimp[hs]
 refine i6 (ι:={ k:Nat // k≤l.length∧∀ j x,j<k→l[j]?=some x→decide (n=x)=false }) (fun i=>⟨19,[(0,r8 l),(1,iv n),(7,iv (l.length:Int)),(8,iv (i.1:Int))],[]⟩) (fun i=>l.length-i.1) ⟨0,by simp⟩ (zv [0,1,7,8]) ?_
 rintro⟨i,hi,hno⟩
 simp only[iv,r8]
 by_cases hlt:i<l.length
 ·have hx0:l[i]?=some l[i]:=by simp[hlt]
  have hw:=zk i
  generalize hx:l[i]=x at *
  have hs:=za hx (za hw hlt)
  repeat' first|(with_reducible first|refine zz ?_|refine zr ?_|refine zE [0,1,4,5,7,8,9,16] ?_)|simp -dsimp[hs]|refine i9 ?_ ?_<;>intro h<;>try simp only[i7] at h
  ·exact(K7 hx0 (by simp;assumption) hno).symm
  ·exact At.round ⟨i+1,by omega,fun j y hj hjx=>by
    by_cases e:j=i
    ·subst e;rw[hx0] at hjx;cases hjx;simp;assumption
    ·exact hno j y (by omega) hjx⟩ (by simp;omega) (zv [0,1,7,8])
 ·have hs:=hlt
  repeat' first|(with_reducible first|refine zz ?_|refine zr ?_|refine zE [0,1,4,5,7,8,9,16] ?_)|simp -dsimp[hs]|refine i9 ?_ ?_<;>intro h<;>try simp only[i7] at h
  exact(R2 fun j x hjx=>hno j x (by have:=e7 hjx;omega) hjx).symm
theorem bX (l:List Int) (n:Int) (hl:l.length<1000000):zP prog G 107 [r8 l,iv n] (bv (decide (n∈l))):=by
 refine zf func107 ntmps107 ?_
 try simp only[r8,iv]
 have hc:=pV (G:=G) l n hl
 repeat' first|(with_reducible first|refine zz ?_|refine zx ?_|refine zE [0,1,4] ?_)|simp -dsimp|refine zp hc ?_
 have h1:=A2 (fun x=>decide (n=x)) l
 rw[← decide_eq_true_iff (p:=0≤_),h1]
 simp
theorem gS (n lo hi:Int):zP prog G 252 [iv n,iv lo,iv hi] (bv (decide (lo≤n)&&decide (n≤hi))):=by
 refine zf func252 ntmps252 ?_
 try simp only[iv,iv,iv]
 have hs:=trivial
 repeat' first|(with_reducible first|refine zz ?_|refine zr ?_|refine zE [0,1,2,6] ?_)|simp -dsimp[hs]|with_reducible refine j0 ?_ ?_<;>intro h<;>have h0:=h<;>(try simp only[i7] at h)<;>have h2:=h<;>(try simp at h2)<;>replace hs:=za h0 (za h (za h2 hs))
 all_goals try clear hs
 all_goals simp_all
end Go.Proofs
namespace Go.Proofs
open Go Go.Ab
def rT (n:Notes) (i:Nat) (x:Note):Bool:=ES x&&ER x&&DR x&&Cj n.reg x&&EP x&&Bv n.notes i x&&ud n.notes i x&&xw n.notes i x
def pE (n:Notes) (i:Nat) (x:Note):Nat→Bool
 | 0=>ES x
 | 1=>ER x
 | 2=>DR x
 | 3=>Cj n.reg x
 | 4=>EP x
 | 5=>Bv n.notes i x
 | 6=>ud n.notes i x
 | _=>xw n.notes i x
theorem Cg {n:Notes} {i:Nat} {x:Note} {k:Nat} (h:pE n i x k=false):rT n i x=false:=by
 unfold rT
 match k with
 | 0|1|2|3|4|5|6=>simp only[pE] at h;simp[h]
 | k+7=>simp only[pE] at h;simp[h]
theorem Ch {n:Notes} {i:Nat} {x:Note} (h:∀ k<8,pE n i x k=true):rT n i x=true:=by
 have h0:=h 0 (by omega);have h1:=h 1 (by omega);have h2:=h 2 (by omega);have h3:=h 3 (by omega)
 have h4:=h 4 (by omega);have h5:=h 5 (by omega);have h6:=h 6 (by omega);have h7:=h 7 (by omega)
 simp only[pE] at h0 h1 h2 h3 h4 h5 h6 h7
 simp[rT,h0,h1,h2,h3,h4,h5,h6,h7]
def Es (x:Note):Bool:=(decide (1≤x.number)&&decide (x.number≤9999))&&(decide (0≤x.day)&&decide (x.day≤14610))&&decide (x.signed≤2)&&(decide (1≤x.frm)&&decide (x.frm≤x.to))&&decide (x.to≤999)&&decide (x.ways≤3)
def Er (l:List Issue) (x:Note):Bool:=if x.drawing=0∧x.letter=0 then decide (x.cancels≠0) else (n9 l x.drawing x.letter).isSome
def Ep (x:Note):Bool:=!(decide (x.letter<2)&&(x.useUp||decide (0<x.ways)))
def lU (n:Notes) (i:Nat) (x:Note):Bool:=Es x&&Er n.reg x&&Ep x&&ud n.notes i x&&Bv n.notes i x&&xw n.notes i x
theorem xY {n:Notes} {i:Nat} {x:Note} (h0:j9 n.reg=0) (hw:0≤x.ways):lU n i x=rT n i x:=by
 have hB:Er n.reg x=Cj n.reg x:=by
  unfold Er Cj AS
  rw[if_neg (show ¬ j9 n.reg≠0 by simp[h0])]
  split
  ·rfl
  ·cases (n9 n.reg x.drawing x.letter).isSome<;>rfl
 have hC:Ep x=EP x:=by
  unfold Ep EP
  rw[Bool.eq_iff_iff]
  cases x.useUp<;>simp<;>omega
 have hA:Es x=(ES x&&ER x&&DR x):=by
  unfold Es ES ER DR
  rw[Bool.eq_iff_iff]
  simp only[Bool.and_eq_true,decide_eq_true_eq]
  omega
 unfold lU rT
 rw[hA,hB,hC]
 generalize Bv n.notes i x=a
 generalize ud n.notes i x=b
 cases a<;>cases b<;>simp
def j6 (l:List Note):List Int:=(l.filter fun x=>decide (x.signed=1)).map (·.number)
theorem bM (l:List Note) (k:Nat) (h:k<l.length):j6 (l.take (k+1))=j6 (l.take k)++(if l[k].signed=1 then [l[k].number] else []):=by
 unfold j6
 rw[List.take_succ_eq_append_getElem h,List.filter_append,List.map_append]
 congr 1
 by_cases e:l[k].signed=1<;>simp[e]
theorem Y3 (l:List Note):(j6 l).length≤l.length:=by
 unfold j6;rw[List.length_map];exact List.length_filter_le _ _
def cE (n:Notes):Prop:=∀ (i:Nat) (x:Note),n.notes[i]?=some x→rT n i x=true
def cY (n:Notes):Bool:=decide (n.notes.length≤12)&&(List.range n.notes.length).all (fun i=>match n.notes[i]? with|some x=>rT n i x|none=>true)&&decide ((j6 n.notes).length≤5)
def u6 (n:Notes):Int:=if j9 n.reg≠0 then j9 n.reg else if cY n then 0 else 30
theorem notesB_iff {n:Notes}:cY n=true↔n.notes.length≤12∧cE n∧(j6 n.notes).length≤5:=by
 simp only[cY,Bool.and_eq_true,decide_eq_true_eq,List.all_eq_true,List.mem_range,and_assoc]
 refine and_congr_right fun _=>and_congr_left fun _=>⟨fun h i x hx=>?_,fun h i hi=>?_⟩
 ·have:=h i (List.getElem?_eq_some_iff.1 hx).1
  rw[hx] at this;exact this
 ·rw[List.getElem?_eq_getElem hi]
  exact h i _ (List.getElem?_eq_getElem hi)
theorem kJ {n:Notes} (h:cE n):(n.notes.map (·.number)).Nodup:=by
 rw[List.nodup_iff_pairwise_ne,List.pairwise_iff_getElem]
 intro i j hi hj hij
 simp only[List.length_map] at hi hj
 simp only[List.getElem_map]
 have h1:=h j _ (List.getElem?_eq_getElem hj)
 simp only[rT,Bool.and_eq_true,ud,Bool.not_eq_true',List.any_eq_false,decide_eq_true_eq] at h1
 refine h1.1.2 _ (List.mem_iff_getElem.2 ⟨i,by simp;omega,?_⟩)
 simp
theorem cX {n:Notes} (h:cE n):(j6 n.notes).Nodup:=by
 have:=kJ h
 unfold j6
 exact this.sublist ((List.filter_sublist).map _)
def rl (o s:List Int):Prop:=∀ (i:Nat) (v:Int),s[i]?=some v→v∈o∧∀ j u,i=j+1→s[j]?=some u→u<v
def fA (o s:List Int) (v:Int):Nat→Bool
 | 0=>decide (v∈o)
 | j+1=>decide (v∈o)&&(match s[j]? with|some u=>decide (u<v)|none=>true)
def F1 (o s:List Int):Bool:=(List.range s.length).all fun i=>match s[i]? with|some v=>fA o s v i|none=>true
theorem truthB_iff {o s:List Int}:F1 o s=true↔rl o s:=by
 simp only[F1,List.all_eq_true,List.mem_range]
 constructor
 ·intro h i v hv
  have h1:=h i (List.getElem?_eq_some_iff.1 hv).1
  rw[hv] at h1
  simp only at h1
  cases i with
  | zero =>
    simp only[fA,decide_eq_true_eq] at h1
    exact⟨h1,fun j u e=>by omega⟩
  | succ i =>
    simp only[fA,decide_eq_true_eq,Bool.and_eq_true] at h1
    refine⟨h1.1,fun j u e hu=>?_⟩
    obtain rfl:j=i:=by omega
    rw[hu] at h1;simpa using h1.2
 ·intro h i hi
  rw[List.getElem?_eq_getElem hi]
  simp only
  obtain⟨h1,h2⟩:=h i _ (List.getElem?_eq_getElem hi)
  cases i with
  | zero=>simpa only[fA,decide_eq_true_eq] using h1
  | succ i =>
    have hj:i<s.length:=by omega
    simp only[fA,List.getElem?_eq_getElem hj,Bool.and_eq_true,decide_eq_true_eq]
    exact⟨h1,h2 i _ rfl (List.getElem?_eq_getElem hj)⟩
theorem mt {o s:List Int} {i:Nat} {v:Int} (h:s[i]?=some v) (hb:v∉o∨∃ j u,i=j+1∧s[j]?=some u∧v≤u):F1 o s=false:=by
 rw[← Bool.not_eq_true,truthB_iff]
 intro ht
 obtain⟨h1,h2⟩:=ht i v h
 rcases hb with hb|⟨j,u,e,hu,hle⟩
 ·exact hb h1
 ·have:=h2 j u e hu;omega
theorem ka {o s:List Int} (h:rl o s):F1 o s=true:=truthB_iff.2 h
def dH (o s:List Int) (k:Nat):Prop:=∀ (i:Nat) (v:Int),i<k→s[i]?=some v→v∈o∧∀ j u,i=j+1→s[j]?=some u→u<v
theorem fy {o s:List Int} {k:Nat} {v:Int} (h:dH o s k) (hv:s[k]?=some v) (ho:v∈o) (hl:∀ j u,k=j+1→s[j]?=some u→u<v):dH o s (k+1):=by
 intro i w hi hw
 by_cases e:i=k
 ·subst e;rw[hv] at hw;cases hw;exact⟨ho,hl⟩
 ·exact h i w (by omega) hw
theorem pi {o s:List Int} (h:dH o s s.length):rl o s:=fun i v hv=>h i v (List.getElem?_eq_some_iff.1 hv).1 hv
theorem kb {o s:List Int} {k:Nat} (h:dH o s k):∀ (j i:Nat) (u v:Int),i<j→j<k→s[i]?=some u→s[j]?=some v→u<v
 | 0,_,_,_,h1,_,_,_=>by omega
 | j+1,i,u,v,h1,h2,h3,h4=>by
   have hj:j<s.length:=by have:=(List.getElem?_eq_some_iff.1 h4).1;omega
   have hw:s[j]?=some s[j]:=List.getElem?_eq_getElem hj
   have h5:=(h (j+1) v h2 h4).2 j s[j] rfl hw
   by_cases e:i=j
   ·subst e;rw[hw] at h3;cases h3;exact h5
   ·have:=kb h j i u s[j] (by omega) (by omega) h3 hw;omega
theorem ph {o s:List Int} {k:Nat} {v:Int} (h:dH o s (k+1)) (hk:k<s.length) (hv:s[k]<v):v∉s.take (k+1):=by
 intro hm
 obtain⟨i,hi,e⟩:=List.mem_take_iff_getElem.1 hm
 by_cases he:i=k
 ·subst he;omega
 ·have:=kb h k i s[i] s[k] (by omega) (by omega) (List.getElem?_eq_getElem _) (List.getElem?_eq_getElem _);omega
open Go Go.Ab Tryz
variable {G:GW}
def Bc (n:Notes):Prop:=lO n.reg∧n.notes.length≤16
def bH (n:Notes):Bool:=open Classical in decide (lO n.reg)&&decide (n.notes.length≤16)
theorem zH (n:Notes):zP prog G 124 [o5 n] (bv (!bH n)):=by
 refine zf func124 ntmps124 ?_
 try simp only[o5]
 have c1:=CN (G:=G) n.reg
 have hE:bH n=(open Classical in decide (lO n.reg)&&decide (n.notes.length≤16)):=rfl
 by_cases hS:lO n.reg
 ·have c1':∀ objs,DCall prog G 189 [F4 n.reg] objs (fun d objs'=>d=bv false∧objs'=objs):=fun objs=>(c1 objs).mono fun d o ⟨h1,h2⟩=>⟨by rw[h1];simp[hS],h2⟩
  rw[decide_eq_true hS,Bool.true_and] at hE
  repeat' first|(with_reducible first|refine zz ?_|refine zx ?_|refine zE [0,1,2] ?_)|simp -dsimp|refine zp c1' ?_
  rw[hE,← decide_not,decide_eq_decide];omega
 ·have c1':∀ objs,DCall prog G 189 [F4 n.reg] objs (fun d objs'=>d=bv true∧objs'=objs):=fun objs=>(c1 objs).mono fun d o ⟨h1,h2⟩=>⟨by rw[h1];simp[hS],h2⟩
  rw[decide_eq_false hS,Bool.false_and] at hE
  repeat' first|(with_reducible first|refine zz ?_|refine zx ?_|refine zE [0,1,2] ?_)|simp -dsimp|refine zp c1' ?_
  rw[hE];try rfl
end Go.Proofs
namespace Go.Ab
open Go
def sO (b:Bool):List IC:=[rB b]
def JM (l:List Bool):DV:=.one (.im (.sl (l.map sO)))
attribute [simp] sO JM
def oQ (l:List Note) (b:List Bool) (d:Int):Nat→Int
 | 0=>-1
 | k+1=>if b[k]?=some true∧(l[k]?.map (·.drawing))=some d then (k:Int) else oQ l b d k
theorem Au (l:List Note) (b:List Bool) (d:Int):∀ k,-1≤oQ l b d k∧oQ l b d k<k
 | 0=>by simp[oQ]
 | k+1=>by
   have:=Au l b d k
   unfold oQ
   split<;>omega
def fZ (l:List Note) (b:List Bool) (d:Int):Int:=if oQ l b d b.length<0 then 1 else match l[(oQ l b d b.length).toNat]? with|some x=>x.letter|none=>0
end Go.Ab
namespace Go.Proofs
open Go Go.Ab
variable {G:GW}
end Go.Proofs
namespace Go.Proofs
open Go Go.Ab
variable {G:GW}
end Go.Proofs
namespace Go.Ab
open Go
def zN (signed without:List Int) (m:Int) (x:Note):Bool:=(decide (x.signed=2)||decide (x.number∈signed)) && !decide (x.number∈without)&&(decide (x.frm≤m)&&decide (m≤x.to))
def jx (n:Int):List Note→List Bool→Bool
 | y :: l,b :: o=>!(b&&decide (y.cancels=n))&&jx n l o
 | _,_=>true
def R1 (signed without:List Int) (m:Int):List Note→List Bool
 | []=>[]
 | x :: r=>(zN signed without m x&&jx x.number r (R1 signed without m r)) :: R1 signed without m r
theorem dg (signed without:List Int) (m:Int):∀ l,(R1 signed without m l).length=l.length
 | []=>rfl
 | x :: r=>by simp[R1,dg signed without m r]
@[simp] theorem Hv (L:List Bool) (k:Nat) (v:Bool):(l8 (L.map sO)).set k [DC.im (.raw (.bool v))]=l8 ((L.set k v).map sO):=by
 simp only[l8,List.map_set,sO,rB,List.map_cons,List.map_nil]
@[simp] theorem HA (L:List Bool) (k:Nat) (h:k<(l8 (L.map sO)).length):(l8 (L.map sO))[k]=[DC.im (.raw (.bool (L[k]'(by simpa[p7] using h))))]:=by
 simp[l8]
end Go.Ab
namespace Go.Proofs
open Go Go.Ab
variable {G:GW}
end Go.Proofs
namespace Go.Proofs
open Go Go.Ab
def B5 (l:List Note) (i:Nat):Int:=((l[i]?).map (·.number)).getD 0
def jt (l:List Note) (i:Nat):Bool:=match l[i]? with|some x=>decide (x.signed=1)|none=>false
structure OpenTo (l:List Note) (k:Nat) (S:List Nat):Prop where
 perm:S.Perm ((List.range k).filter (jt l))
 srt:S.Pairwise fun a b=>B5 l a≤B5 l b
theorem OpenTo.nil (l:List Note):OpenTo l 0 []:=⟨by simp,by simp⟩
theorem OpenTo.lt {l:List Note} {k:Nat} {S:List Nat} (h:OpenTo l k S):∀ i∈S,i<k∧jt l i=true:=fun i hi=>by
 have:=h.perm.mem_iff.1 hi
 simpa using this
theorem OpenTo.len {l:List Note} {k:Nat} {S:List Nat} (h:OpenTo l k S):S.length≤k:=by
 rw[h.perm.length_eq]
 have:=List.length_filter_le (jt l) (List.range k)
 simpa using this
theorem OpenTo.skip {l:List Note} {k:Nat} {S:List Nat} (h:OpenTo l k S) (hk:jt l k=false):OpenTo l (k+1) S:=
 ⟨by rw[List.range_succ,List.filter_append];simpa[hk] using h.perm,h.srt⟩
theorem OpenTo.put {l:List Note} {k:Nat} {S:List Nat} (h:OpenTo l k S) (hk:jt l k=true) (q:Nat)
 (h1:∀ i∈S.take q,B5 l i≤B5 l k) (h2:∀ i∈S.drop q,B5 l k≤B5 l i):OpenTo l (k+1) (S.take q++k :: S.drop q):=by
 constructor
 ·rw[List.range_succ,List.filter_append]
  simp only[List.filter_cons,hk,if_true,List.filter_nil]
  refine List.perm_middle.trans ?_
  rw[List.take_append_drop]
  exact(List.perm_append_singleton k _).symm.trans (List.Perm.append_right _ h.perm)
 ·have h3:=h.srt
  rw[← List.take_append_drop q S,List.pairwise_append] at h3
  obtain⟨p1,p2,p3⟩:=h3
  rw[List.pairwise_append,List.pairwise_cons]
  refine⟨p1,⟨h2,p2⟩,fun a ha b hb=>?_⟩
  rcases List.mem_cons.1 hb with rfl|hb
  ·exact h1 a ha
  ·exact p3 a ha b hb
theorem OpenTo.first {l:List Note} {k:Nat} {S:List Nat} (h:OpenTo l k S) {q:Nat} (hq:q<S.length) {v:Int} (hv:B5 l S[q]≤v):∀ i∈S.take (q+1),B5 l i≤v:=fun i hi=>by
 obtain⟨j,hj,e⟩:=List.mem_take_iff_getElem.1 hi
 have h3:=List.pairwise_iff_getElem.1 h.srt
 by_cases he:j=q
 ·subst he;rw[← e];exact hv
 ·have:=h3 j q (by omega) hq (by omega)
  rw[e] at this;omega
theorem gl (l:List Note):∀ k,k≤l.length→((List.range k).filter (jt l)).map (B5 l)=j6 (l.take k)
 | 0,_=>by simp[j6]
 | k+1,h=>by
   have hk:k<l.length:=by omega
   rw[List.range_succ,List.filter_append,List.map_append,gl l k (by omega),bM l k hk]
   congr 1
   have e:l[k]?=some l[k]:=by simp[hk]
   by_cases h1:l[k].signed=1
   ·simp[jt,e,h1,B5]
   ·simp[jt,e,h1]
theorem OpenTo.nums {l:List Note} {S:List Nat} (h:OpenTo l l.length S):S.map (B5 l)=j7 (j6 l):=by
 have h1:(S.map (B5 l)).Perm (j7 (j6 l)):=by
  refine(h.perm.map _).trans ?_
  rw[gl l _ (Nat.le_refl _),List.take_length]
  exact(List.mergeSort_perm _ _).symm
 refine h1.eq_of_pairwise (le:=(·≤·)) (fun a b _ _ h2 h3=>by omega) (by rw[List.pairwise_map];exact h.srt) ?_
 have:=List.pairwise_mergeSort (le:=fun x y:Int=>decide (x≤y)) (fun a b c h1 h2=>by simp at *;omega) (fun a b=>by simp;omega) (j6 l)
 exact this.imp fun h=>by simpa using h
theorem isort_mem {l:List Int} {n:Int}:n∈j7 l↔n∈l:=(List.mergeSort_perm l _).mem_iff
theorem pT {l:List Int} (h:l.Nodup):(j7 l).Nodup:=(List.mergeSort_perm l _).nodup_iff.2 h
theorem om (l:List Int):(j7 l).Pairwise (·≤·):=by
 have:=List.pairwise_mergeSort (le:=fun x y:Int=>decide (x≤y)) (fun a b c h1 h2=>by simp at *;omega) (fun a b=>by simp;omega) l
 exact this.imp fun h=>by simpa using h
theorem ff (signed without:List Int) (m:Int):∀ (l:List Note) (k:Nat),(R1 signed without m l).drop k=R1 signed without m (l.drop k)
 | _,0=>rfl
 | [],_+1=>rfl
 | x :: r,k+1=>by simp[R1,ff signed without m r k]
theorem CY {s w:List Int} {m:Int} {l:List Note} {k:Nat} (hk:k<l.length) (hk':k<(R1 s w m l).length):(R1 s w m l)[k]=(zN s w m l[k]&&jx l[k].number (l.drop (k+1)) ((R1 s w m l).drop (k+1))):=by
 have h1:=ff s w m l k
 rw[List.drop_eq_getElem_cons hk,List.drop_eq_getElem_cons hk',R1] at h1
 rw[ff]
 exact(List.cons.inj h1).1
theorem wc {n:Int} {l:List Note} {F:List Bool} {k:Nat} (hk:k<l.length) (hf:k<F.length):jx n (l.drop k) (F.drop k)=(!(F[k]&&decide (l[k].cancels=n))&&jx n (l.drop (k+1)) (F.drop (k+1))):=by
 rw[List.drop_eq_getElem_cons hk,List.drop_eq_getElem_cons hf,jx]
theorem zL {n:Int} {l:List Note} {F:List Bool} {k:Nat} (hk:l.length≤k):jx n (l.drop k) (F.drop k)=true:=by
 rw[List.drop_eq_nil_of_le hk];rfl
def kK:Note:=⟨0,0,0,0,1,0,0,0,false,0⟩
def FN (l:List Note) (b:List Bool) (d:Int):Nat→Note
 | 0=>kK
 | k+1=>match l[k]? with
   | some x=>if b[k]?=some true∧x.drawing=d then x else FN l b d k
   | none=>kK
theorem Eb (l:List Note) (b:List Bool) (d:Int):∀ k,k≤l.length→FN l b d k=if oQ l b d k<0 then kK else match l[(oQ l b d k).toNat]? with|some x=>x|none=>kK
 | 0,_=>by simp[FN,oQ]
 | k+1,h=>by
   have hk:k<l.length:=by omega
   have e:l[k]?=some l[k]:=by simp[hk]
   simp only[FN,oQ,e,Option.map_some,Option.some.injEq]
   split
   ·rw[if_neg (by omega)];simp[e]
   ·exact Eb l b d k (by omega)
open Go Go.Ab Tryz
variable {G:GW}
theorem GA {n:Notes} {i:Nat} {x:Note} (h:¬ (1≤x.number∧x.number≤9999∧0≤x.day∧x.day≤14610∧x.signed≤2∧1≤x.frm∧x.frm≤x.to∧x.to≤999∧x.ways≤3)):lU n i x=false:=by
 have:Es x=false:=by
  rw[← Bool.not_eq_true];simp only[Es,Bool.and_eq_true,decide_eq_true_eq];omega
 simp[lU,this]
theorem Gz {n:Notes} {i:Nat} {x:Note} {f:Bool} (hf:(n9 n.reg x.drawing x.letter).isSome=f) (h:¬ ((x.drawing=0∧x.letter=0→x.cancels≠0)∧(¬ (x.drawing=0∧x.letter=0)→f=true))):lU n i x=false:=by
 have:Er n.reg x=false:=by
  rw[← Bool.not_eq_true];unfold Er;rw[hf]
  split<;>simp_all
 simp[lU,this]
theorem Gy {n:Notes} {i:Nat} {x:Note} (h:x.letter<2∧(x.useUp=true∨0<x.ways)):lU n i x=false:=by
 have:Ep x=false:=by
  obtain⟨h1,h2⟩:=h
  rw[Ep,Bool.not_eq_false']
  rcases h2 with h2|h2<;>simp[h1,h2]
 simp[lU,this]
theorem Gx {n:Notes} {i:Nat} {x:Note} (h:ud n.notes i x=false):lU n i x=false:=by simp[lU,h]
theorem Gw {n:Notes} {i:Nat} {x:Note} {f:Bool} (hf:(n9 n.reg x.drawing x.letter).isSome=f) (h:1≤x.number∧x.number≤9999∧0≤x.day∧x.day≤14610∧x.signed≤2∧1≤x.frm∧x.frm≤x.to∧x.to≤999∧x.ways≤3)
 (hb:(x.drawing=0∧x.letter=0→x.cancels≠0)∧(¬ (x.drawing=0∧x.letter=0)→f=true)) (hd:¬ (x.letter<2∧(x.useUp=true∨0<x.ways))) (he:ud n.notes i x=true):lU n i x=(Bv n.notes i x&&xw n.notes i x):=by
 have h1:Es x=true:=by simp only[Es,Bool.and_eq_true,decide_eq_true_eq];omega
 have h2:Er n.reg x=true:=by
  unfold Er;rw[hf]
  split<;>simp_all
 have h3:Ep x=true:=by
  rw[Ep,Bool.not_eq_true',← Bool.not_eq_true];simpa using hd
 simp[lU,h1,h2,h3,he]
def Ed (l:List Note) (x:Note) (k:Nat):Bool:=decide (x.cancels=0)||(l.take k).any fun y=>decide (y.number=x.cancels)
theorem AC {l:List Note} {x:Note} {k:Nat} (hk:k<l.length):Ed l x (k+1)=(Ed l x k||decide (l[k].number=x.cancels)):=by
 unfold Ed
 rw[List.take_succ_eq_append_getElem hk,List.any_append]
 simp[Bool.or_assoc]
def kL (l:List Note) (x:Note) (k:Nat):Prop:=((l.take k).any fun y=>decide (y.number=x.number))=false
theorem pD {l:List Note} {x:Note} {k:Nat} (hk:k<l.length) (h:kL l x k) (h2:¬ l[k].number=x.number):kL l x (k+1):=by
 unfold kL at *
 rw[List.take_succ_eq_append_getElem hk,List.any_append,h]
 simp[h2]
theorem Ci {l:List Note} {x:Note} {k i:Nat} (hki:k<i) (hk:k<l.length) (h2:l[k].number=x.number):ud l i x=false:=by
 unfold ud
 rw[Bool.not_eq_false',List.any_eq_true]
 exact⟨l[k],List.mem_take_iff_getElem.2 ⟨k,by omega,rfl⟩,by simp[h2]⟩
theorem Ce (n:Notes) (i:Nat) (x:Note) (hx:n.notes[i]?=some x) (hl:n.notes.length<1000) (hr:n.reg.length<1000):zP prog G 267 [o5 n,iv (i:Int)] (bv (lU n i x)):=by
 refine zf func267 ntmps267 ?_
 try simp only[o5,iv]
 have hi:i<n.notes.length:=e7 hx
 have hxe:n.notes[i]=x:=(List.getElem?_eq_some_iff.1 hx).2
 have c1:=gS (G:=G) x.number 1 9999
 have c2:=gS (G:=G) x.day 0 14610
 have c3:=gS (G:=G) x.frm 1 x.to
 have c4:=sI (G:=G) n.reg x.drawing x.letter (by omega)
 simp only[C7] at c4
 generalize hf:(n9 n.reg x.drawing x.letter).isSome=f at *
 have c5:∀ (h:x.drawing=0) objs,DCall prog G 171 [F4 n.reg,C7 0 x.letter] objs (fun r objs'=>r=.tup [O3 ((n9 n.reg x.drawing x.letter).getD L7),bv f]∧objs'=objs):=fun h=>by
  rw[h] at c4 ⊢;exact c4
 simp only[C7] at c5
 have hs:=za hxe hi
 repeat' first|(with_reducible first|refine zz ?_|refine zr ?_|refine zE [0,1,2,4,5,7,8,9,10,11,49,57,60,73,85,91,103,113] ?_)|simp -dsimp[hs]|refine zp c1 ?_|refine zp c2 ?_|refine zp c3 ?_|refine zp c4 ?_|refine zp (c5 ‹_›) ?_|refine i9 ?_ ?_<;>intro h<;>try simp only[i7] at h|with_reducible refine j0 ?_ ?_<;>intro h<;>have h0:=h<;>(try simp only[i7] at h)<;>have h2:=h<;>(try simp at h2)<;>replace hs:=za h0 (za h (za h2 hs))
 all_goals try clear hs
 all_goals clear c1 c2 c3 c4 c5 hx
 all_goals try (refine GA ?_;omega)
 all_goals try (refine Gz hf ?_;clear hf hxe;simp_all;done)
 all_goals try (refine Gy ?_;clear hf hxe;simp_all;done)
 all_goals
  have hF:ud n.notes i x=true→lU n i x=(Bv n.notes i x&&xw n.notes i x):=by
   refine Gw hf (by omega) ?_ ?_
   ·clear hxe hf;simp_all
   ·clear hxe hf;simp_all;try omega
 all_goals refine i6 (ι:={ k:Nat // k≤i∧kL n.notes x k }) (fun p=>⟨143,[(1,iv (i:Int)),(2,.one (.ptr 0 0)),(5,.one (.ptr 1 0)),(8,bv (Ed n.notes x p.1)),(9,iv (p.1:Int))],[.row ((p6 n).map .im),.row ((l5 x).map .im)]⟩) (fun p=>i-p.1) ⟨0,by simp[kL]⟩ (zw [1,2,5,8,9] 2 (by clear hF hf hxe;simp[Ed, *])) ?_
 all_goals
  rintro⟨k,hk,hno⟩
  simp only[iv,bv]
  by_cases hlt:k<i
  ·have hlk:k<n.notes.length:=by omega
   have hw:=zk k
   have hsu:=AC (x:=x) hlk
   have hn2:=pD hlk hno
   have hbad:=Ci (x:=x) hlt hlk
   generalize hy:n.notes[k]=y at *
   generalize hb:Ed n.notes x k=b at *
   cases b
   all_goals
    have hs:=za hxe (za hi (za hy (za hlt (za hlk hw))))
    repeat' first|(with_reducible first|refine zz ?_|refine zr ?_|refine zE [0,1,2,4,5,7,8,9,10,11,49,57,60,73,85,91,103,113] ?_)|simp -dsimp[hs]|refine i9 ?_ ?_<;>intro h<;>try simp only[i7] at h
    all_goals try clear hs
   all_goals try (rw[show lU n i x=false from Gx (hbad (by assumption))];done)
   all_goals exact zn ⟨k+1,by omega,hn2 (by assumption)⟩ (zw [1,2,5,8,9] 2 (by simp[hsu]))
  ·have e:k=i:=by omega
   subst e
   have hT:=hF (by unfold ud;rw[show ((n.notes.take k).any fun y=>decide (y.number=x.number))=false from hno];rfl)
   rw[show Bv n.notes k x=Ed n.notes x k from rfl] at hT
   by_cases h00:k=0
   ·have hk0:(k:Int)=0:=by omega
    have hs:=za hlt hk0
    repeat' first|(with_reducible first|refine zz ?_|refine zr ?_|refine zE [0,1,2,4,5,7,8,9,10,11,49,57,60,73,85,91,103,113] ?_)|simp -dsimp[hs]|refine i9 ?_ ?_<;>intro h<;>try simp only[i7] at h
    all_goals try clear hs
    rw[hT,xw,if_pos h00,Bool.and_true]
   ·have hk1:k-1<n.notes.length:=by omega
    have hk0:¬ (k:Int)=0:=by omega
    have hw:IntKind.i64.wrap ((k:Int)-1)=((k-1:Nat):Int):=by rw[n8 (by omega) (by omega)];omega
    have h8:xw n.notes k x=AH n.notes[k-1] x:=by rw[xw,if_neg h00,List.getElem?_eq_getElem hk1]
    rw[h8] at hT
    generalize hy:n.notes[k-1]=y at *
    generalize hb:Ed n.notes x k=b at *
    cases b
    all_goals
     have hs:=za hxe (za hi (za hy (za hk1 (za hw (za hk0 h00)))))
     repeat' first|(with_reducible first|refine zz ?_|refine zr ?_|refine zE [0,1,2,4,5,7,8,9,10,11,49,57,60,73,85,91,103,113] ?_)|simp -dsimp[hs]|refine i9 ?_ ?_<;>intro h<;>try simp only[i7] at h|with_reducible refine j0 ?_ ?_<;>intro h<;>have h0:=h<;>(try simp only[i7] at h)<;>have h2:=h<;>(try simp at h2)<;>replace hs:=za h0 (za h (za h2 hs))
     all_goals try clear hs
    all_goals rw[hT]
    all_goals try (rfl;done)
    all_goals (rw[Bool.true_and,Bool.eq_iff_iff];simp only[AH,Bool.or_eq_true,Bool.and_eq_true,decide_eq_true_eq,iff_true,iff_false,Bool.false_eq_true];omega)
def xz (n:Notes):Prop:=U2 n.reg∧n.notes.length≤16∧∀ x∈n.notes,0≤x.ways∧x.ways≤255∧0≤x.signed∧x.signed≤255
theorem kG {l:List Note} {k:Nat} (h:k<l.length):((j6 (l.take (k+1))).length:Int)=(j6 (l.take k)).length+(if l[k].signed=1 then 1 else 0):=by
 rw[bM l k h]
 split<;>simp
def fL (n:Notes):Bool:=decide (n.notes.length≤12)&&(List.range n.notes.length).all (fun i=>match n.notes[i]? with|some x=>lU n i x|none=>true)&&decide ((j6 n.notes).length≤5)
theorem rnotesB_iff {n:Notes}:fL n=true↔n.notes.length≤12∧(∀ (i:Nat) (x:Note),n.notes[i]?=some x→lU n i x=true)∧(j6 n.notes).length≤5:=by
 simp only[fL,Bool.and_eq_true,decide_eq_true_eq,List.all_eq_true,List.mem_range,and_assoc]
 refine and_congr_right fun _=>and_congr_left fun _=>⟨fun h i x hx=>?_,fun h i hi=>?_⟩
 ·have:=h i (List.getElem?_eq_some_iff.1 hx).1
  rw[hx] at this;exact this
 ·rw[List.getElem?_eq_getElem hi]
  exact h i _ (List.getElem?_eq_getElem hi)
theorem uV {n:Notes} (h0:j9 n.reg=0) (hx:∀ x∈n.notes,0≤x.ways):fL n=cY n:=by
 rw[Bool.eq_iff_iff,rnotesB_iff,notesB_iff]
 refine and_congr_right fun _=>and_congr_left fun _=>forall_congr' fun i=>forall_congr' fun x=>?_
 exact⟨fun h hi=>by rw[← xY h0 (hx x (List.mem_of_getElem? hi))];exact h hi,fun h hi=>by rw[xY h0 (hx x (List.mem_of_getElem? hi))];exact h hi⟩
theorem vt (n:Notes) (hs:xz n):zP prog G 218 [o5 n] (bv (fL n)):=by
 refine zf func218 ntmps218 ?_
 try simp only[o5]
 obtain⟨hsr,hsn,hsx⟩:=hs
 have hr:=hsr.1
 by_cases hl:n.notes.length≤12
 ·have hli:¬ (12:Int)<n.notes.length:=by omega
  have hs:=hli
  repeat' first|(with_reducible first|refine zz ?_|refine zE [0,1,2,3,4,8,13,19,26] ?_)|simp -dsimp[hs]|refine i9 ?_ ?_<;>intro h<;>try simp only[i7] at h
  all_goals try clear hs
  refine i6 (ι:={ k:Nat // k≤n.notes.length∧∀ (j:Nat) (x:Note),j<k→n.notes[j]?=some x→lU n j x=true }) (fun p=>⟨31,[(1,.one (.ptr 0 0)),(3,iv ((j6 (n.notes.take p.1)).length:Int)),(4,iv (p.1:Int))],[.row ((p6 n).map .im)]⟩) (fun p=>n.notes.length-p.1) ⟨0,by simp⟩ (zv [1,3,4] (by simp[j6])) ?_
  rintro⟨k,hk,hok⟩
  simp only[iv]
  by_cases hlt:k<n.notes.length
  ·have hx0:n.notes[k]?=some n.notes[k]:=by simp[hlt]
   have hw:=zk k
   have hos:=kG hlt
   have hol:=Y3 (n.notes.take k)
   rw[List.length_take] at hol
   have hw2:IntKind.i64.wrap (((j6 (n.notes.take k)).length:Int)+1)=((j6 (n.notes.take k)).length:Int)+1:=n8 (by omega) (by omega)
   have hsx':=hsx n.notes[k] (List.getElem_mem hlt)
   generalize hx:n.notes[k]=x at *
   have c1:=Ce (G:=G) n k x hx0 (by omega) (by omega)
   have hbad:lU n k x=false→fL n=false:=fun h=>by
    rw[← Bool.not_eq_true]
    intro hb
    have:=(rnotesB_iff.1 hb).2.1 k x hx0
    rw[h] at this;cases this
   have hstep:lU n k x=true→∀ (j:Nat) (z:Note),j<k+1→n.notes[j]?=some z→lU n j z=true:=fun h j z hj hz=>by
    by_cases e:j=k
    ·subst e;rw[hx0] at hz;cases hz;exact h
    ·exact hok j z (by omega) hz
   generalize lU n k x=q at *
   cases q
   ·have hs:=za hx (za hlt hw)
    repeat' first|(with_reducible first|refine zz ?_|refine zr ?_|refine zE [0,1,2,3,4,8,13,19,26] ?_)|simp -dsimp[hs]|refine zp c1 ?_|refine i9 ?_ ?_<;>intro h<;>try simp only[i7] at h
    all_goals try clear hs
    exact hbad rfl
   ·have hs:=za hx (za hlt (za hw hw2))
    repeat' first|(with_reducible first|refine zz ?_|refine zE [0,1,2,3,4,8,13,19,26] ?_)|simp -dsimp[hs]|refine zp c1 ?_|refine i9 ?_ ?_<;>intro h<;>try simp only[i7] at h
    all_goals try clear hs
    all_goals exact zn ⟨k+1,by omega,hstep rfl⟩ (zv [1,3,4] (by simp[hos, *]))
  ·have e:k=n.notes.length:=by omega
   subst e
   rw[List.take_length]
   have hs:=hlt
   repeat' first|(with_reducible first|refine zz ?_|refine zr ?_|refine zE [0,1,2,3,4,8,13,19,26] ?_)|simp -dsimp[hs]|refine i9 ?_ ?_<;>intro h<;>try simp only[i7] at h
   all_goals try clear hs
   rw[Bool.eq_iff_iff,rnotesB_iff]
   simp only[decide_eq_true_eq]
   constructor
   ·intro h
    exact⟨hl,fun j x hx=>hok j x (e7 hx) hx,by omega⟩
   ·intro h
    have:=h.2.2;omega
 ·have hli:(12:Int)<n.notes.length:=by omega
  have hs:=hli
  repeat' first|(with_reducible first|refine zz ?_|refine zr ?_|refine zE [0,1,2,3,4,8,13,19,26] ?_)|simp -dsimp[hs]|refine i9 ?_ ?_<;>intro h<;>try simp only[i7] at h
  all_goals try clear hs
  exact Bool.eq_false_iff.2 fun h=>hl (rnotesB_iff.1 h).1
theorem yx (n:Notes) (hs:xz n) (h0:j9 n.reg=0) (objs:List DObj):DCall prog G 218 [o5 n] objs (fun rr objs'=>rr=bv (cY n)∧objs'=objs):=by
 rw[← uV h0 fun x hx=>(hs.2.2 x hx).1]
 exact vt n hs objs
theorem Ar (n:Notes) (hs:xz n):zP prog G 169 [o5 n] (iv (u6 n)):=by
 refine zf func169 ntmps169 ?_
 try simp only[o5]
 have c1:=yd (G:=G) n.reg hs.1
 by_cases h0:j9 n.reg=0
 ·have c2:=yx (G:=G) n hs h0
  have hE:u6 n=if cY n then 0 else 30:=by unfold u6;rw[if_neg (by simp[h0])]
  rw[h0] at c1
  generalize cY n=q at *
  cases q
  ·have hs:=trivial
   repeat' first|(with_reducible first|refine zz ?_|refine zr ?_|refine zE [0,1,2,3,8,12] ?_)|simp -dsimp[hs]|refine zp c1 ?_|refine zp c2 ?_|refine i9 ?_ ?_<;>intro h<;>try simp only[i7] at h
   all_goals try clear hs
   all_goals simp[hE]
  ·have hs:=trivial
   repeat' first|(with_reducible first|refine zz ?_|refine zr ?_|refine zE [0,1,2,3,8,12] ?_)|simp -dsimp[hs]|refine zp c1 ?_|refine zp c2 ?_|refine i9 ?_ ?_<;>intro h<;>try simp only[i7] at h
   all_goals try clear hs
   all_goals simp[hE]
 ·have hE:u6 n=j9 n.reg:=by unfold u6;rw[if_pos h0]
  have hs:=h0
  repeat' first|(with_reducible first|refine zz ?_|refine zr ?_|refine zE [0,1,2,3,8,12] ?_)|simp -dsimp[hs]|refine zp c1 ?_|refine i9 ?_ ?_<;>intro h<;>try simp only[i7] at h
  all_goals try clear hs
  all_goals simp[hE]
def D6 (G:GW):Prop:=G 4=some [.fn (.func 346) [],.fn (.func 347) [],.fn (.func 348) [],.fn (.func 349) [],.fn (.func 350) [],.fn (.func 351) [],.fn (.func 354) [],.fn (.func 356) []]
def u7 (G:GW):Prop:=∀ (l:List Int) (g sz:Nat) (nl:Bool),(sz=1∨nl=true∧l=[])→l.length<1000000→DCall prog G 173 [.one (.vec 0 g 0 l.length)] [.vec sz (l8 (l.map encI)) g nl] (fun d o=>d=.tup []∧o=[.vec sz (l8 ((j7 l).map encI)) g nl])
def G8 (n:Notes):IC:=.ip [.sl (n.reg.map e9),.sl (n.notes.map l5),.sl ((nums n.reg).map encI),.sl ((j7 (j6 n.notes)).map encI)]
def cu (n:Notes):DV:=if u6 n=0 then .one (.im (G8 n)) else .one (.im (.raw (.pointer none)))
theorem zV (n:Notes):ImV (cu n):=by unfold cu;split<;>simp[G8]
attribute [simp] zV
theorem rQ {n:Notes} {i:Nat} {x:Note} (h0:j9 n.reg=0) (hx:n.notes[i]?=some x) (h:rT n i x=false):u6 n=30:=by
 unfold u6
 rw[if_neg (by simp[h0]),if_neg]
 intro hb
 have:=(notesB_iff.1 hb).2.1 i x hx
 rw[h] at this;cases this
theorem pB (n:Notes) (hG:o4 G) (hN:D6 G) (hS:u7 G) (hs:xz n):zP prog G 106 [o5 n] (.tup [cu n,iv (u6 n)]):=by
 refine zf func106 ntmps106 ?_
 try simp only[o5]
 have hN':G 4=some [.fn (.func 346) [],.fn (.func 347) [],.fn (.func 348) [],.fn (.func 349) [],.fn (.func 350) [],.fn (.func 351) [],.fn (.func 354) [],.fn (.func 356) []]:=hN
 obtain⟨hsr,hsn,hsx⟩:=hs
 have c1:=bV n.reg hG hsr
 by_cases h0:j9 n.reg=0
 ·rw[h0,show dw n.reg=nums n.reg by simp[dw,h0]] at c1
  by_cases hl:n.notes.length≤12
  ·have hli:¬ (12:Int)<n.notes.length:=by omega
   have hE:u6 n=if cY n then 0 else 30:=by unfold u6;rw[if_neg (by simp[h0])]
   have hs:=hli
   repeat' first|with_reducible refine zz ?_|simp -dsimp[hs]|refine zp c1 ?_|with_reducible refine O5 (id:=6) (nt:=78) [0,1,2,3,4,5,6,7,8,9,11,19,24,30,31,32,33,37,38,39,46,50,71] rfl ?_;simp -dsimp[hs]|with_reducible refine zE [0,1,2,3,4,5,6,7,8,9,11,19,24,30,31,32,33,37,38,39,46,50,71] ?_|refine i9 ?_ ?_<;>intro h<;>try simp only[i7] at h
   all_goals try clear hs
   refine i6 (ι:={ p:Nat×Nat×Nat×Bool // p.1≤n.notes.length∧(p.2.2.1=1∨p.2.2.2=true∧j6 (n.notes.take p.1)=[])∧∀ (j:Nat) (x:Note),j<p.1→n.notes[j]?=some x→rT n j x=true }) (fun p=>⟨78,[(1,.one (.ptr 0 0)),(2,.one (.im (.raw (.pointer none)))),(3,iv 0),(6,.one (.ptr 5 0)),(7,bv false),(30,.one (.im (.sl (n.notes.map l5)))),(31,iv (n.notes.length:Int)),(32,iv (p.1.1:Int))],[.row ((p6 n).map .im),.vec 0 [] 0 true,.vec 0 [] 0 true,.vec 0 [] 0 true,.vec p.1.2.2.1 (l8 ((j6 (n.notes.take p.1.1)).map encI)) p.1.2.1 p.1.2.2.2,.row [.im (.sl (n.reg.map e9)),.im (.sl (n.notes.map l5)),.im (.sl ((nums n.reg).map encI)),.vec 4 p.1.2.1 0 (j6 (n.notes.take p.1.1)).length]]⟩) (fun p=>n.notes.length-p.1.1) ⟨(0,0,0,true),by simp[j6]⟩ (zw [1,2,3,6,7,30,31,32] 6 (by simp[j6])) ?_
   rintro⟨⟨k,g,sz,nl⟩,hk,hsz,hok⟩
   simp only at hk hsz hok
   simp only[iv,bv]
   by_cases hlt:k<n.notes.length
   ·have hx0:n.notes[k]?=some n.notes[k]:=by simp[hlt]
    have hw:=zk k
    have hos:=bM n.notes k hlt
    have hol:=Y3 (n.notes.take k)
    rw[List.length_take] at hol
    generalize hx:n.notes[k]=x at *
    have k1:=Hc (G:=G) n k x hx0
    have k2:=Hb (G:=G) n k x hx0
    have k3:=Ha (G:=G) n k x hx0
    have k4:=GZ (G:=G) n k x hx0 hG hsr
    have k5:=GY (G:=G) n k x hx0
    have k6:=GX (G:=G) n k x hx0 (by omega)
    have k7:=gW9 (G:=G) n k x hx0 (by omega)
    have k8:=GV (G:=G) n k x hx0 (by omega)
    rw[show ES x=pE n k x 0 from rfl] at k1
    rw[show ER x=pE n k x 1 from rfl] at k2
    rw[show DR x=pE n k x 2 from rfl] at k3
    rw[show Cj n.reg x=pE n k x 3 from rfl] at k4
    rw[show EP x=pE n k x 4 from rfl] at k5
    rw[show Bv n.notes k x=pE n k x 5 from rfl] at k6
    rw[show ud n.notes k x=pE n k x 6 from rfl] at k7
    rw[show xw n.notes k x=pE n k x 7 from rfl] at k8
    have hbad:∀ c,pE n k x c=false→u6 n=30:=fun c h=>rQ h0 hx0 (Cg h)
    have hstep:rT n k x=true→∀ (j:Nat) (z:Note),j<k+1→n.notes[j]?=some z→rT n j z=true:=fun h j z hj hz=>by
     by_cases e:j=k
     ·subst e;rw[hx0] at hz;cases hz;exact h
     ·exact hok j z (by omega) hz
    have hs:=za hx (za hlt hN')
    repeat' first|(with_reducible first|refine zz ?_|refine zE [0,1,2,3,4,5,6,7,8,9,11,19,24,30,31,32,33,37,38,39,46,50,71] ?_)|simp -dsimp[hs]|refine i9 ?_ ?_<;>intro h<;>try simp only[i7] at h
    all_goals try clear hs
    refine i6 (ι:={ c:Nat // c≤8∧∀ e<c,pE n k x e=true }) (fun p=>⟨78,[(1,.one (.ptr 0 0)),(2,.one (.im (.raw (.pointer none)))),(3,iv 0),(6,.one (.ptr 5 0)),(7,bv false),(8,iv (k:Int)),(9,.one (.ptr 6 0)),(30,.one (.im (.sl (n.notes.map l5)))),(31,iv (n.notes.length:Int)),(32,iv (k:Int)),(37,.agg [.im (.fn (.func 346) []),.im (.fn (.func 347) []),.im (.fn (.func 348) []),.im (.fn (.func 349) []),.im (.fn (.func 350) []),.im (.fn (.func 351) []),.im (.fn (.func 354) []),.im (.fn (.func 356) [])]),(38,iv (p.1:Int))],[.row ((p6 n).map .im),.vec 0 [] 0 true,.vec 0 [] 0 true,.vec 0 [] 0 true,.vec sz (l8 ((j6 (n.notes.take k)).map encI)) g nl,.row [.im (.sl (n.reg.map e9)),.im (.sl (n.notes.map l5)),.im (.sl ((nums n.reg).map encI)),.vec 4 g 0 (j6 (n.notes.take k)).length],.row ((l5 x).map .im)]⟩) (fun p=>8-p.1) ⟨0,by simp⟩ (zv [1,2,3,6,7,8,9,30,31,32,37,38]) ?_
    rintro⟨c,hc,hcc⟩
    simp only[iv,bv]
    by_cases hc8:c<8
    ·have hm:pE n k x c=true→∀ e<c+1,pE n k x e=true:=fun h e he=>by
      rcases Nat.lt_succ_iff_lt_or_eq.1 he with h1|rfl
      ·exact hcc e h1
      ·exact h
     have hbc:=hbad c
     have hi8:c=0∨c=1∨c=2∨c=3∨c=4∨c=5∨c=6∨c=7:=by omega
     rcases hi8 with rfl|rfl|rfl|rfl|rfl|rfl|rfl|rfl
     all_goals
      have hs:=hli
      repeat' first|(with_reducible first|refine zz ?_|refine Je (by decide) ?_|refine zr ?_|refine zE [0,1,2,3,4,5,6,7,8,9,11,19,24,30,31,32,33,37,38,39,46,50,71] ?_)|simp -dsimp[hs]|refine zp k1 ?_|refine zp k2 ?_|refine zp k3 ?_|refine zp k4 ?_|refine zp k5 ?_|refine zp k6 ?_|refine zp k7 ?_|refine zp k8 ?_|refine i9 ?_ ?_<;>intro h<;>try simp only[i7] at h
      all_goals try clear hs
     all_goals try (have h30:=hbc (by assumption);simp[cu,h30];done)
     all_goals exact At.round ⟨_,by omega,hm (by assumption)⟩ (by simp) (zw [1,2,3,6,7,8,9,30,31,32,37,38] 7 (by simp;exact n8 (by omega) (by omega)))
    ·obtain rfl:c=8:=by omega
     have hok1:=hstep (Ch hcc)
     have hsz':sz=1∨nl=true:=hsz.imp id And.left
     clear k1 k2 k3 k4 k5 k6 k7 k8
     by_cases hsg:x.signed=1
     ·rw[if_pos hsg] at hos
      have hs:=za hx (za hlt (za hsg (za hw hsz')))
      repeat' first|(with_reducible first|refine zz ?_|refine And.intro (by omega) ?_)|simp -dsimp[hs]|refine G7 (id:=18) (nt:=78) 8 [0] [0,1,2,3,4,5,6,7,8,9,11,19,24,30,31,32,33,37,38,39,46,50,52,53,54,55,56,57,58,71] [0,1,2,3,4,5,6,7,8,9,11,19,24,30,31,32,33,37,38,39,46,50,71] mixed rfl (by kernel_rfl) ?_|with_reducible refine zE [0,1,2,3,4,5,6,7,8,9,11,19,24,30,31,32,33,37,38,39,46,50,71] ?_|refine i9 ?_ ?_<;>intro h<;>try simp only[i7] at h
      all_goals try clear hs
      exact zn ⟨(k+1,g+1,1,false),by omega,.inl rfl,hok1⟩ (zw [1,2,3,6,7,30,31,32] 6 (by simp[hos]))
     ·rw[if_neg hsg,List.append_nil] at hos
      have hszn:sz=1∨nl=true∧j6 (n.notes.take (k+1))=[]:=by rw[hos];exact hsz
      have hs:=za hx (za hlt (za hsg hw))
      repeat' first|(with_reducible first|refine zz ?_|refine zE [0,1,2,3,4,5,6,7,8,9,11,19,24,30,31,32,33,37,38,39,46,50,71] ?_)|simp -dsimp[hs]|refine i9 ?_ ?_<;>intro h<;>try simp only[i7] at h
      all_goals try clear hs
      exact zn ⟨(k+1,g,sz,nl),by omega,hszn,hok1⟩ (zw [1,2,3,6,7,30,31,32] 6 (by simp[hos]))
   ·obtain rfl:k=n.notes.length:=by omega
    rw[List.take_length] at *
    have hall:cE n:=fun i x hx=>hok i x (e7 hx) hx
    have hol:=Y3 n.notes
    have c2:=hS (j6 n.notes) g sz nl hsz (by omega)
    have hil:=L4 (j6 n.notes)
    by_cases h5:(j6 n.notes).length≤5
    ·have hE0:u6 n=0:=by rw[hE,if_pos (notesB_iff.2 ⟨hl,hall,h5⟩)]
     have h5i:¬ (5:Int)<(j6 n.notes).length:=by omega
     have hsz':sz=1∨nl=true:=hsz.imp id And.left
     have htk:(l8 ((j7 (j6 n.notes)).map encI)).take (j6 n.notes).length=l8 ((j7 (j6 n.notes)).map encI):=List.take_of_length_le (by simp[p7,hil])
     have hs:=za hlt (za h5i (za hsz' (za htk hil)))
     repeat' first|(with_reducible first|refine zz ?_|refine zr ?_|refine zE [0,1,2,3,4,5,6,7,8,9,11,19,24,30,31,32,33,37,38,39,46,50,71] ?_)|simp -dsimp[hs]|refine CallE.embed [4] (c2) ?_ ?_ ?_ ?_ ?_ ?_;(focus simp[u3];done);(focus simp;done);(focus simp;done);(focus simp;done);(focus refine n7 ?_;simp[u3,p9];done);try simp -dsimp[n5,u3,hs]|refine i9 ?_ ?_<;>intro h<;>try simp only[i7] at h
     all_goals try clear hs
     all_goals simp[cu,hE0,G8,hil,htk]
    ·have hE0:u6 n=30:=by rw[hE,if_neg fun h=>h5 (notesB_iff.1 h).2.2]
     have h5i:(5:Int)<(j6 n.notes).length:=by omega
     have hs:=za hlt h5i
     repeat' first|(with_reducible first|refine zz ?_|refine zr ?_|refine zE [0,1,2,3,4,5,6,7,8,9,11,19,24,30,31,32,33,37,38,39,46,50,71] ?_)|simp -dsimp[hs]|refine i9 ?_ ?_<;>intro h<;>try simp only[i7] at h
     all_goals try clear hs
     all_goals simp[cu,hE0]
  ·have hE:u6 n=30:=by
    unfold u6
    rw[if_neg (by simp[h0]),if_neg fun h=>hl (notesB_iff.1 h).1]
   have hli:(12:Int)<n.notes.length:=by omega
   have hs:=hli
   repeat' first|(with_reducible first|refine zz ?_|refine zr ?_|refine zE [0,1,2,3,4,5,6,7,8,9,11,19,24,30,31,32,33,37,38,39,46,50,71] ?_)|simp -dsimp[hs]|refine zp c1 ?_|refine i9 ?_ ?_<;>intro h<;>try simp only[i7] at h
   all_goals try clear hs
   all_goals simp[cu,hE]
 ·have hE:u6 n=j9 n.reg:=by unfold u6;rw[if_pos h0]
  have hs:=h0
  repeat' first|(with_reducible first|refine zz ?_|refine zr ?_|refine zE [0,1,2,3,4,5,6,7,8,9,11,19,24,30,31,32,33,37,38,39,46,50,71] ?_)|simp -dsimp[hs]|refine zp c1 ?_|refine i9 ?_ ?_<;>intro h<;>try simp only[i7] at h
  all_goals try clear hs
  all_goals simp[cu,hE,h0]
end Go.Proofs
