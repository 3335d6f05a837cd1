/- Part 15 of the proofs. -/
import Derived.Test.YtpcoahkgkgmmlaaGreatDoorR14
set_option linter.all false
set_option linter.deprecated false
set_option maxHeartbeats 100000000
namespace Go.Proofs
open Go Go.Ab Tryz
variable {G:Cr}
def fh (m:List (Int×Int)) (lv:List (Int×Int)):List (Int×Int):=lv.foldl (fun m p=>J3 p.1 (IntKind.i64.wrap (l6 m p.1+p.2)) m) m
def eM (by':List (Int×Issue)) (cnt:List (Int×Int)):List DObj:=[.row [.im (.mp [.int .i64] (bU by'))],.map [.int .i64] (K0 cnt),.row [.map 1],.row [.fn (.func 125) [.ptr 0 0,.ptr 2 0,.ptr 3 0]]]
theorem pN (l:List Issue) (lets:List Int) (h0:l8 l=0) (hlet:m4 l lets=true) (dep:Int→Int) (hdep:∀ n∈nums l,1≤dep n∧dep n≤6∧∀ c∈Y6 l n,c∈nums l∧dep c<dep n) :
 ∀ (k:Nat) (d m:Int) (cnt:List (Int×Int)),d∈nums l→dep d≤k →
  DCall prog G 125 [iv d,iv m,.one (.ptr 0 0),.one (.ptr 2 0),.one (.ptr 3 0)] (eM (B0 l lets) cnt)
   (fun r o=>r=.tup []∧o=eM (B0 l lets) (fh cnt (p8 (i6 l lets) k d m))):=by
 intro k
 induction k with
 | zero=>intro d m C hd hk;have:=(hdep d hd).1;omega
 | succ k ih =>
   intro d m cnt hd hk
   have hti:=aK h0 hlet hd
   obtain⟨htm,_,_⟩:=B2 h0 hlet hd
   have htok:=(B7 (u4 (p4 h0))).2.2.2.1 _ htm
   have hsm:=Z7 htok
   have hkd:(i6 l lets d).kind=1∨(2≤(i6 l lets d).kind∧(i6 l lets d).items.length=0):=by
    simp only[m3,Bool.and_assoc] at htok
    rw[← Bool.and_assoc,Bool.and_eq_true] at htok
    have:=(aF _).1 htok.1;omega
   have hch:=(hdep d hd).2.2
   have hE:p8 (i6 l lets) (k+1) d m=if 1<(i6 l lets d).kind then [(d,m)] else (i6 l lets d).items.flatMap fun y=>p8 (i6 l lets) k y.drawing (IntKind.i64.wrap (m*y.count)):=rfl
   have hlook:m9 (B0 l lets) d=i6 l lets d:=by rw[B0,E9,if_pos hd]
   generalize i6 l lets d=x at *
   refine DCall.drop ?_
   refine j5 func125 rfl ntmps125 (by simp) rfl ?_
   simp only[eM,iv]
   by_cases hkind:x.kind=1
   ·rw[if_neg (by omega)] at hE
    have hs:=za hlook hkind
    repeat' first|(with_reducible first|refine zz ?_|refine zE [0,1,2,3,4,7,9,15,22,23,24,25] ?_)|simp -dsimp[hs]|refine j7 ?_ ?_<;>intro h<;>try simp only[j0] at h
    refine i7 (ι:={ p:Nat×List (Int×Int) // p.1≤x.items.length∧fh cnt (x.items.flatMap fun y=>p8 (i6 l lets) k y.drawing (IntKind.i64.wrap (m*y.count)))=fh p.2 ((x.items.drop p.1).flatMap fun y=>p8 (i6 l lets) k y.drawing (IntKind.i64.wrap (m*y.count))) }) (fun p=>⟨37,[(1,iv m),(2,.one (.ptr 0 0)),(3,.one (.ptr 2 0)),(4,.one (.ptr 3 0)),(22,.one (.im (.sl (x.items.map n7)))),(23,iv (x.items.length:Int)),(24,iv (p.1.1:Int))],eM (B0 l lets) p.1.2⟩) (fun p=>x.items.length-p.1.1) ⟨(0,cnt),by simp⟩ (zw [1,2,3,4,22,23,24] 4 (by simp[eM])) ?_
    rintro⟨⟨u,cnt'⟩,hu,hadd⟩
    simp only at hu hadd
    simp only[iv,eM]
    by_cases hlt:u<x.items.length
    ·have hx:x.items[u]?=some x.items[u]:=by simp[hlt]
     have hw:=zk u
     have hc:=hch _ (hti x.items[u] (List.getElem_mem hlt))
     have hrec:=ih x.items[u].drawing (IntKind.i64.wrap (m*x.items[u].count)) cnt' hc.1 (by omega)
     rw[List.drop_eq_getElem_cons hlt,List.flatMap_cons,fh,fh,List.foldl_append] at hadd
     simp only[iv,eM] at hrec
     have hs:=za hx (za hw hlt)
     repeat' first|(with_reducible first|refine zz ?_|refine zE [0,1,2,3,4,7,9,15,22,23,24,25] ?_)|simp -dsimp[hs]|refine CallE.embed [0,1,2,3] (hrec) ?_ ?_ ?_ ?_ ?_ ?_;(focus simp[E0];done);(focus simp;done);(focus simp;done);(focus simp;done);(focus refine D4 ?_;simp[E0,F0];done);try simp -dsimp[x9,E0,hs]|refine j7 ?_ ?_<;>intro h<;>try simp only[j0] at h
     exact zn ⟨(u+1,fh cnt' (p8 (i6 l lets) k x.items[u].drawing (IntKind.i64.wrap (m*x.items[u].count)))),by omega,hadd⟩ (zw [1,2,3,4,22,23,24] 4 (by simp[eM]))
    ·rw[List.drop_eq_nil_of_le (by omega)] at hadd
     have hs:=hlt
     repeat' first|(with_reducible first|refine zz ?_|refine ze ?_|refine zE [0,1,2,3,4,7,9,15,22,23,24,25] ?_)|simp -dsimp[hs]|refine j7 ?_ ?_<;>intro h<;>try simp only[j0] at h|with_reducible refine And.intro ?_ ?_
     rw[hE,hadd];simp[eM,fh]
   ·rw[if_pos (by omega)] at hE
    have hz:x.items.length=0:=by omega
    have hs:=za hlook (za hkind hz)
    repeat' first|(with_reducible first|refine zz ?_|refine zE [0,1,2,3,4,7,9,15,22,23,24,25] ?_)|simp -dsimp[hs]|refine j7 ?_ ?_<;>intro h<;>try simp only[j0] at h
    refine i7 (ι:=Unit) (fun _=>⟨37,[(23,iv 0),(24,iv 0)],eM (B0 l lets) (fh cnt [(d,m)])⟩) (fun _=>0) () (zw [23,24] 4 (by simp[eM,fh])) ?_
    intro _
    simp only[iv,eM]
    have hs:=trivial
    repeat' first|(with_reducible first|refine zz ?_|refine ze ?_|refine zE [0,1,2,3,4,7,9,15,22,23,24,25] ?_)|simp -dsimp[hs]|refine j7 ?_ ?_<;>intro h<;>try simp only[j0] at h|with_reducible refine And.intro ?_ ?_
    rw[hE]
def gN (l:List Issue) (lets:List Int) (d:Int):List (Int×Int):=fh [] (p8 (i6 l lets) 6 d 1)
def H2 (ns:List Int) (m:List (Int×Int)):List Itm:=(ns.filter fun n=>decide (0<l6 m n)).map fun n=>⟨n,l6 m n⟩
def aD (l:List Issue) (lets:List Int) (d:Int):List Itm:=if A2 l lets d=0 then H2 (nums l) (gN l lets d) else []
theorem sP (l:List Issue) (lets:List Int) (d:Int) (hG:B4 G) (hs:T3 l) (hll:lets.length<1000000):zP prog G 83 [B1 l,C1 lets,iv d] (.tup [.one (.im (.sl ((aD l lets d).map n7))),iv (A2 l lets d)]):=by
 refine zf func83 ntmps83 ?_
 try simp only[B1,C1,iv]
 have c1:=uv (G:=G) l lets d hG hs hll
 by_cases hE:A2 l lets d=0
 ·have h0:l8 l=0:=by
   by_cases h:l8 l=0
   ·exact h
   ·simp[A2,h] at hE
  have hlet:m4 l lets=true:=by
   cases h:m4 l lets
   ·simp[A2,h0,h] at hE
   ·rfl
  have hd:d∈nums l:=Classical.byContradiction fun h=>by simp[A2,h0,hlet,h] at hE
  obtain⟨dep,hdep⟩:=eW h0
  have c2:=pN (G:=G) l lets h0 hlet dep hdep 6 d 1 [] hd (by have:=(hdep d hd).2.1;omega)
  have hR:aD l lets d=H2 (nums l) (gN l lets d):=by simp[aD,hE]
  have hnl:(nums l).length≤l.length:=o5 l l.length
  have hl80:=hs.1
  change DCall _ _ _ _ _ (fun r o=>r=.tup []∧o=eM (B0 l lets) (gN l lets d)) at c2
  generalize gN l lets d=cnt at *
  simp only[Z2,hE,if_true,q9] at c1
  simp only[iv,eM,show K0 []=[] from rfl] at c2
  generalize nums l=ns at *
  have hs:=trivial
  repeat' first|(with_reducible first|refine zz ?_|refine zE [0,1,2,3,6,7,8,9,10,11,12,13,15,25,35,36,37,38,44] ?_)|simp -dsimp[hs]|refine zp c1 ?_|refine CallE.embed [2,3,4,5] (c2) ?_ ?_ ?_ ?_ ?_ ?_;(focus simp[E0];done);(focus simp;done);(focus simp;done);(focus simp;done);(focus refine D4 ?_;simp[E0,F0];done);try simp -dsimp[x9,E0,hs]|refine j7 ?_ ?_<;>intro h<;>try simp only[j0] at h
  all_goals try clear hs
  refine i7 (ι:={ p:Nat×Nat×Bool×List Itm // p.1≤ns.length∧p.2.2.2.length≤p.1∧H2 ns cnt=p.2.2.2++H2 (ns.drop p.1) cnt }) (fun p=>⟨55,[(11,.one (.ptr 4 0)),(13,.one (.vec 6 p.1.2.1 0 p.1.2.2.2.length)),(35,C1 ns),(36,iv (ns.length:Int)),(37,iv (p.1.1:Int))],[.row [.im (.sl (l.map e8))],.vec 2 [] 0 true,.row [.im (.mp [.int .i64] (bU (B0 l lets)))],.map [.int .i64] (K0 cnt),.row [.map 3],.row [.fn (.func 125) [.ptr 2 0,.ptr 4 0,.ptr 5 0]],.vec 2 (p6 (p.1.2.2.2.map n7)) p.1.2.1 p.1.2.2.1]⟩) (fun p=>ns.length-p.1.1) ⟨(0,0,true,[]),by simp⟩ (zv [11,13,35,36,37]) ?_
  rintro⟨⟨k,g,nl,out⟩,hk,hol,hp⟩
  simp only at hk hol hp
  simp only[iv,C1]
  by_cases hlt:k<ns.length
  ·have hx:ns[k]?=some ns[k]:=by simp[hlt]
   have hw:=zk k
   rw[List.drop_eq_getElem_cons hlt] at hp
   by_cases hpos:0<l6 cnt ns[k]
   ·rw[H2,H2,List.filter_cons_of_pos (by simpa using hpos),List.map_cons] at hp
    have hs:=za hx (za hw (za hlt hpos))
    repeat' first|(with_reducible first|refine zz ?_|refine And.intro (by omega) ?_|refine zE [0,1,2,3,6,7,8,9,10,11,12,13,15,25,35,36,37,38,44] ?_)|simp -dsimp[hs]|refine j7 ?_ ?_<;>intro h<;>try simp only[j0] at h
    all_goals try clear hs
    all_goals try omega
    exact zn ⟨(k+1,g+1,false,out++[⟨ns[k],l6 cnt ns[k]⟩]),by omega,by simp;omega,by rw[H2,hp,H2];simp⟩ (zw [11,13,35,36,37] 7)
   ·rw[H2,H2,List.filter_cons_of_neg (by simpa using hpos)] at hp
    have hs:=za hx (za hw (za hlt hpos))
    repeat' first|(with_reducible first|refine zz ?_|refine zE [0,1,2,3,6,7,8,9,10,11,12,13,15,25,35,36,37,38,44] ?_)|simp -dsimp[hs]|refine j7 ?_ ?_<;>intro h<;>try simp only[j0] at h
    all_goals try clear hs
    exact zn ⟨(k+1,g,nl,out),by omega,by show out.length≤k+1;omega,hp⟩ (zv [11,13,35,36,37])
  ·rw[List.drop_eq_nil_of_le (by omega)] at hp
   have hs:=hlt
   repeat' first|(with_reducible first|refine zz ?_|refine zr ?_|refine zE [0,1,2,3,6,7,8,9,10,11,12,13,15,25,35,36,37,38,44] ?_)|simp -dsimp[hs]|refine j7 ?_ ?_<;>intro h<;>try simp only[j0] at h
   all_goals try clear hs
   all_goals try omega
   rw[hR,hp];simp[H2,hE]
 ·have hR:aD l lets d=[]:=by simp[aD,hE]
  simp only[Z2,hE,if_false] at c1
  have hs:=hE
  repeat' first|(with_reducible first|refine zz ?_|refine zr ?_|refine zE [0,1,2,3,6,7,8,9,10,11,12,13,15,25,35,36,37,38,44] ?_)|simp -dsimp[hs]|refine zp c1 ?_|refine j7 ?_ ?_<;>intro h<;>try simp only[j0] at h
  all_goals try clear hs
  simp[hR]
end Go.Proofs
namespace Go.Ab
open Go
structure Link where
 drawing:Int
 dim:Int
 back:Bool
 deriving DecidableEq
structure ChLoop where
 links:List Link
 lo:Int
 hi:Int
 deriving DecidableEq
structure Chains where
 reg:List Issue
 lets:List Int
 of:Int
 loops:List ChLoop
 deriving DecidableEq
def C5 (x:Link):List IC:=[rI x.drawing,rI x.dim,rB x.back]
def j9 (x:ChLoop):List IC:=[.sl (x.links.map C5),rI x.lo,rI x.hi]
def u7 (c:Chains):List IC:=[.sl (c.reg.map e8),.sl (c.lets.map encI),rI c.of,.sl (c.loops.map j9)]
def qQ (x:Link):DV:=.agg ((C5 x).map .im)
def loopv (x:ChLoop):DV:=.agg ((j9 x).map .im)
def M7 (c:Chains):DV:=.agg ((u7 c).map .im)
attribute [simp] C5 j9 u7 qQ loopv M7
end Go.Ab
namespace Go.Proofs
open Go Go.Ab
variable {G:Cr}
theorem sG (x lo hi:Int):DCall Tryz.prog G 93 (iv x :: [DC.ptr 0 0,DC.ptr 1 0].map .one) [.row [.im (rI lo)],.row [.im (rI hi)]] (fun d o=>d=bv (decide (x<lo)||decide (hi<x))∧o=[.row [.im (rI lo)],.row [.im (rI hi)]]):=by
 refine j5 Tryz.func93 rfl Tryz.ntmps93 (by simp) rfl ?_
 simp only[rI]
 have hs:=trivial
 repeat' first|(with_reducible first|refine zz ?_|refine zr ?_|refine zE [0,1,2,4] ?_)|simp -dsimp[hs]|with_reducible refine l9 ?_ ?_<;>intro h<;>have h0:=h<;>(try simp only[j0] at h)<;>have h2:=h<;>(try simp at h2)<;>replace hs:=za h0 (za h (za h2 hs))|with_reducible refine And.intro ?_ ?_
 all_goals try clear hs
 all_goals simp[*]
theorem N8 (lo hi:Int) (l:List Int) (hl:l.length<1000000):zP Tryz.prog G 43 [iv lo,iv hi,C1 l] (bv (l.all fun x=>decide (lo≤x)&&decide (x≤hi))):=by
 refine zf Tryz.func43 Tryz.ntmps43 ?_
 try simp only[iv,iv,C1]
 have hc:=J5 (G:=G) l (fun x=>decide (x<lo)||decide (hi<x)) 93 [.ptr 0 0,.ptr 1 0] [.row [.im (rI lo)],.row [.im (rI hi)]] (by simp) (fun x _=>sG x lo hi) hl
 simp only[rI] at hc
 repeat' first|(with_reducible first|refine zz ?_|refine zx ?_|refine zE [0,1,2,3,4,6] ?_)|simp -dsimp|refine CallE.here hc ?_
 rw[Bool.eq_iff_iff];simp
 exact exists_congr fun x=>and_congr_right fun _=>by omega
def i8 (c:Chains) (D:List (Int×Int)) (B:List (Int×Issue)):IC:=.ip [.sl (c.reg.map e8),.sl (c.lets.map encI),rI c.of,.sl (c.loops.map j9),.mp [.int .i64] (W2 D),.mp [.int .i64] (bU B)]
def jI (x:ChLoop):Bool:=decide (1≤x.links.length)&&decide (x.links.length≤8)
def jH (x:ChLoop):Bool:=(decide (-8000000000≤x.lo)&&decide (x.lo≤8000000000))&&(decide (-8000000000≤x.hi)&&decide (x.hi≤8000000000))&&decide (x.lo≤x.hi)
def R8 (D:List (Int×Int)) (B:List (Int×Issue)):List (Int×Int)→List Link→Bool
 | _,[]=>true
 | U,y :: r=>decide (l6 U y.drawing+1≤l6 D y.drawing)&&(decide (0≤y.dim)&&decide (y.dim≤((m9 B y.drawing).dims.length:Int)-1))&&R8 D B (J3 y.drawing (l6 U y.drawing+1) U) r
theorem zD (d:IC) (x:ChLoop):zP Tryz.prog G 202 [.one (.im d),loopv x] (bv (jI x)):=by
 refine zf Tryz.func202 Tryz.ntmps202 ?_
 try simp only[loopv]
 have c1:=N8 (G:=G) 1 8 [(x.links.length:Int)] (by simp)
 repeat' first|(with_reducible first|refine zz ?_|refine zx ?_|refine zE [1,3,4] ?_)|simp -dsimp|refine zt c1 ?_ ?_ ?_;(focus simp;done);focus (simp;done)
 rw[Bool.eq_iff_iff]
 simp[jI]
 omega
theorem oh (x:ChLoop):jH x=true↔-8000000000≤x.lo∧x.lo≤8000000000∧-8000000000≤x.hi∧x.hi≤8000000000∧x.lo≤x.hi:=by
 simp[jH];omega
theorem zC (d:IC) (x:ChLoop):zP Tryz.prog G 203 [.one (.im d),loopv x] (bv (jH x)):=by
 refine zf Tryz.func203 Tryz.ntmps203 ?_
 try simp only[loopv]
 have c1:=N8 (G:=G) (-8000000000) 8000000000 [x.lo,x.hi] (by simp)
 have hi:=oh x
 cases hq:([x.lo,x.hi].all fun y=>decide (-8000000000≤y)&&decide (y≤8000000000))
 ·rw[hq] at c1
  repeat' first|(with_reducible first|refine zz ?_|refine zx ?_|refine zE [1,3,4] ?_)|simp -dsimp|refine zt c1 ?_ ?_ ?_;(focus simp;done);focus (simp;done)
  all_goals simp at hq
  all_goals exact aC hi (by omega)
 ·rw[hq] at c1
  repeat' first|(with_reducible first|refine zz ?_|refine zx ?_|refine zE [1,3,4] ?_)|simp -dsimp|refine zt c1 ?_ ?_ ?_;(focus simp;done);focus (simp;done)
  all_goals simp at hq
  all_goals rw[Bool.eq_iff_iff,hi]
  all_goals simp
  all_goals omega
theorem zB (c:Chains) (D:List (Int×Int)) (B:List (Int×Issue)) (x:ChLoop) (hl:x.links.length<1000000) (hB:∀ n,(m9 B n).dims.length<1000000):zP Tryz.prog G 204 [.one (.im (i8 c D B)),loopv x] (bv (R8 D B [] x.links)):=by
 refine zf Tryz.func204 Tryz.ntmps204 ?_
 try simp only[loopv]
 simp only[i8]
 have hs:=trivial
 repeat' first|(with_reducible first|refine zz ?_|refine zE [0,1,3,4,5,7,10,11,12,13,48] ?_)|simp -dsimp[hs]
 refine i7 (ι:={ p:Nat×List (Int×Int) // p.1≤x.links.length∧R8 D B [] x.links=R8 D B p.2 (x.links.drop p.1)∧bd p.2 p.1 }) (fun p=>⟨50,[(0,.one (.im (i8 c D B))),(5,.one (.map 1)),(10,.one (.im (.sl (x.links.map C5)))),(11,iv (x.links.length:Int)),(12,iv (p.1.1:Int))],[.row ((j9 x).map .im),.map [.int .i64] (K0 p.1.2)]⟩) (fun p=>x.links.length-p.1.1) ⟨(0,[]),by simp[bd]⟩ (zv [0,5,10,11,12] (by simp[i8,K0])) ?_
 rintro⟨⟨k,U⟩,hk,hu,hb⟩
 simp only at hk hu hb
 simp only[iv,i8]
 by_cases hlt:k<x.links.length
 ·have hx:x.links[k]?=some x.links[k]:=by simp[hlt]
  have hw:=zk k
  have hbl:=rj hb x.links[k].drawing
  have hwu:IntKind.i64.wrap (l6 U x.links[k].drawing+1)=l6 U x.links[k].drawing+1:=o6 (by omega) (by omega)
  have hput:l6 (J3 x.links[k].drawing (l6 U x.links[k].drawing+1) U) x.links[k].drawing=l6 U x.links[k].drawing+1:=by rw[P1,if_pos rfl]
  have hBn:=hB x.links[k].drawing
  have hwd:IntKind.i64.wrap (((m9 B x.links[k].drawing).dims.length:Int)-1)=((m9 B x.links[k].drawing).dims.length:Int)-1:=o6 (by omega) (by omega)
  have c1:=N8 (G:=G) 0 (((m9 B x.links[k].drawing).dims.length:Int)-1) [x.links[k].dim] (by simp)
  have hbn:bd (J3 x.links[k].drawing (l6 U x.links[k].drawing+1) U) (k+1):=qb (cM hb (by omega)) (by omega) (by omega)
  rw[List.drop_eq_getElem_cons hlt,R8] at hu
  by_cases hle:l6 U x.links[k].drawing+1≤l6 D x.links[k].drawing
  ·rw[decide_eq_true hle,Bool.true_and] at hu
   cases hq:([x.links[k].dim].all fun y=>decide (0≤y)&&decide (y≤((m9 B x.links[k].drawing).dims.length:Int)-1))
   ·rw[hq] at c1
    have hq':(decide (0≤x.links[k].dim)&&decide (x.links[k].dim≤((m9 B x.links[k].drawing).dims.length:Int)-1))=false:=by simpa using hq
    rw[hq',Bool.false_and] at hu
    have hs:=za hx (za hw (za hlt (za hwu (za hput (za hwd hle)))))
    repeat' first|(with_reducible first|refine zz ?_|refine zr ?_)|simp -dsimp[hs]|refine zq c1 ?_|refine zM 6 50 28 [0,1,3,4,5,7,10,11,12,13,48] ?_|with_reducible refine zE [0,1,3,4,5,7,10,11,12,13,48] ?_|refine j7 ?_ ?_<;>intro h<;>try simp only[j0] at h
    rw[hu]
   ·rw[hq] at c1
    have hq':(decide (0≤x.links[k].dim)&&decide (x.links[k].dim≤((m9 B x.links[k].drawing).dims.length:Int)-1))=true:=by simpa using hq
    rw[hq',Bool.true_and] at hu
    have hs:=za hx (za hw (za hlt (za hwu (za hput (za hwd hle)))))
    repeat' first|with_reducible refine zz ?_|simp -dsimp[hs]|refine zq c1 ?_|refine zM 6 50 28 [0,1,3,4,5,7,10,11,12,13,48] ?_|with_reducible refine zE [0,1,3,4,5,7,10,11,12,13,48] ?_|refine j7 ?_ ?_<;>intro h<;>try simp only[j0] at h
    exact zn ⟨(k+1,J3 x.links[k].drawing (l6 U x.links[k].drawing+1) U),by omega,hu,hbn⟩ (zw [0,5,10,11,12] 2 (by simp[i8]))
  ·rw[decide_eq_false hle,Bool.false_and,Bool.false_and] at hu
   have hs:=za hx (za hw (za hlt (za hwu (za hput (za hwd hle)))))
   repeat' first|(with_reducible first|refine zz ?_|refine zr ?_)|simp -dsimp[hs]|refine zM 6 50 28 [0,1,3,4,5,7,10,11,12,13,48] ?_|with_reducible refine zE [0,1,3,4,5,7,10,11,12,13,48] ?_|refine j7 ?_ ?_<;>intro h<;>try simp only[j0] at h
   rw[hu]
 ·rw[List.drop_eq_nil_of_le (by omega)] at hu
  have hs:=hlt
  repeat' first|(with_reducible first|refine zz ?_|refine zr ?_|refine zE [0,1,3,4,5,7,10,11,12,13,48] ?_)|simp -dsimp[hs]|refine j7 ?_ ?_<;>intro h<;>try simp only[j0] at h
  rw[hu];rfl
end Go.Proofs
namespace Go.Proofs
open Go Go.Ab Tryz
variable {G:Cr}
def K1 (G:Cr):Prop:=G 0=some [.fn (.func 202) [],.fn (.func 203) [],.fn (.func 204) []]
def r7 (c:Chains):Prop:=T3 c.reg∧c.lets.length≤80∧c.loops.length≤10∧∀ x∈c.loops,x.links.length≤12
def x6 (c:Chains):List (Int×Int):=(aD c.reg c.lets c.of).foldl (fun m x=>J3 x.drawing x.count m) []
def fd (D:List (Int×Int)) (B:List (Int×Issue)) (x:ChLoop):Nat→Bool
 | 0=>jI x
 | 1=>jH x
 | _=>R8 D B [] x.links
def K6 (D:List (Int×Int)) (B:List (Int×Issue)) (x:ChLoop):Bool:=jI x&&jH x&&R8 D B [] x.links
theorem vM {D:List (Int×Int)} {B:List (Int×Issue)} {x:ChLoop} {i:Nat} (h:fd D B x i=false):K6 D B x=false:=by
 unfold K6
 match i with
 | 0=>simp only[fd] at h;simp[h]
 | 1=>simp only[fd] at h;simp[h]
 | i+2=>simp only[fd] at h;simp[h]
theorem vN {D:List (Int×Int)} {B:List (Int×Issue)} {x:ChLoop} (h:∀ i<3,fd D B x i=true):K6 D B x=true:=by
 have h0:=h 0 (by omega);have h1:=h 1 (by omega);have h2:=h 2 (by omega)
 simp only[fd] at h0 h1 h2
 simp[K6,h0,h1,h2]
def j6 (c:Chains):Int:=if l8 c.reg≠0 then l8 c.reg else if A2 c.reg c.lets c.of≠0∨¬ (1≤c.loops.length∧c.loops.length≤6) then 60 else if c.loops.all (K6 (x6 c) (B0 c.reg c.lets)) then 0 else 60
def H5 (c:Chains):DV:=if j6 c=0 then .one (.im (i8 c (x6 c) (B0 c.reg c.lets))) else .one (.im (.raw (.pointer none)))
theorem vI (c:Chains):ImV (H5 c):=by unfold H5;split<;>simp[i8]
attribute [simp] vI
theorem sQ (l:List Issue) (lets:List Int) (d:Int):(aD l lets d).length≤l.length:=by
 unfold aD
 split
 ·simp only[H2,List.length_map]
  have:=List.length_filter_le (fun n=>decide (0<l6 (gN l lets d) n)) (nums l)
  have:=o5 l l.length
  simp only[nums] at *;omega
 ·simp
theorem O0 (c:Chains) (hG:B4 G) (hC:K1 G) (hs:r7 c):zP prog G 38 [M7 c] (.tup [H5 c,iv (j6 c)]):=by
 refine zf func38 ntmps38 ?_
 try simp only[M7]
 obtain⟨hsr,hsl,hso,hsk⟩:=hs
 have hC':G 0=some [.fn (.func 202) [],.fn (.func 203) [],.fn (.func 204) []]:=hC
 have c1:=lX c.reg hG hsr
 by_cases h0:l8 c.reg=0
 ·rw[h0] at c1
  have c2:=sP c.reg c.lets c.of hG hsr (by omega)
  have c3:=N8 (G:=G) 1 6 [(c.loops.length:Int)] (by simp)
  by_cases hT:A2 c.reg c.lets c.of≠0∨¬ (1≤c.loops.length∧c.loops.length≤6)
  ·have hE:j6 c=60:=by unfold j6;rw[if_neg (by simp[h0]),if_pos hT]
   by_cases hT0:A2 c.reg c.lets c.of=0
   ·rw[hT0] at c2
    have hr:([(c.loops.length:Int)].all fun x=>decide (1≤x)&&decide (x≤6))=false:=by
     simp;omega
    rw[hr] at c3
    have hs:=trivial
    repeat' first|(with_reducible first|refine zz ?_|refine zr ?_|refine zE [0,1,2,3,4,5,6,7,8,10,11,13,15,17,22,43,55,56,57,58,81,82,83,84,97,98,99,100,103,104,105,112] ?_)|simp -dsimp[hs]|refine zp c1 ?_|refine zp c2 ?_|refine zt c3 ?_ ?_ ?_;(focus simp;done);focus (simp;done)|refine j7 ?_ ?_<;>intro h<;>try simp only[j0] at h
    all_goals try clear hs
    all_goals simp[H5,hE]
   ·have hs:=hT0
    repeat' first|(with_reducible first|refine zz ?_|refine zr ?_|refine zE [0,1,2,3,4,5,6,7,8,10,11,13,15,17,22,43,55,56,57,58,81,82,83,84,97,98,99,100,103,104,105,112] ?_)|simp -dsimp[hs]|refine zp c1 ?_|refine zp c2 ?_|refine j7 ?_ ?_<;>intro h<;>try simp only[j0] at h
    all_goals try clear hs
    all_goals simp[H5,hE]
  ·have hT0:A2 c.reg c.lets c.of=0:=Classical.byContradiction fun h=>hT (.inl h)
   have hr6:1≤c.loops.length∧c.loops.length≤6:=Classical.byContradiction fun h=>hT (.inr h)
   have hr:([(c.loops.length:Int)].all fun x=>decide (1≤x)&&decide (x≤6))=true:=by
    simp;omega
   rw[hT0] at c2
   rw[hr] at c3
   have hlet:m4 c.reg c.lets=true:=by
    cases h:m4 c.reg c.lets
    ·simp[A2,h0,h] at hT0
    ·rfl
   have c4:=jB c.reg hG hsr
   rw[h0,show jC c.reg=nums c.reg by simp[jC,h0]] at c4
   have hE:j6 c=if c.loops.all (K6 (x6 c) (B0 c.reg c.lets)) then 0 else 60:=by simp[j6,h0,hT0];omega
   have hs:=trivial
   repeat' first|with_reducible refine zz ?_|simp -dsimp[hs]|refine zp c1 ?_|refine zp c2 ?_|refine zt c3 ?_ ?_ ?_;(focus simp;done);focus (simp;done)|refine zp c4 ?_|with_reducible refine dN (id:=7) (nt:=116) [0,1,2,3,4,5,6,7,8,10,11,13,15,17,22,43,55,56,57,58,81,82,83,84,97,98,99,100,103,104,105,112] rfl ?_;simp -dsimp[hs]|with_reducible refine zE [0,1,2,3,4,5,6,7,8,10,11,13,15,17,22,43,55,56,57,58,81,82,83,84,97,98,99,100,103,104,105,112] ?_|refine j7 ?_ ?_<;>intro h<;>try simp only[j0] at h
   all_goals try clear hs
   have hnd:(nums c.reg).Nodup:=(A5 h0).1.imp fun h=>Int.ne_of_lt h
   have hnl:(nums c.reg).length≤c.reg.length:=o5 c.reg c.reg.length
   have hll:c.lets.length=(nums c.reg).length:=by
    simp only[m4,Bool.and_eq_true,decide_eq_true_eq] at hlet;exact hlet.1
   have hreg:=hsr.1
   refine i7 (ι:={ k:Nat // k≤(nums c.reg).length }) (fun p=>⟨116,[(1,.one (.ptr 0 0)),(2,.one (.im (.raw (.pointer none)))),(3,iv 0),(5,.one (.im (.sl ((aD c.reg c.lets c.of).map n7)))),(7,.one (.ptr 7 0)),(55,C1 (nums c.reg)),(56,iv ((nums c.reg).length:Int)),(57,iv (p.1:Int))],[.row ((u7 c).map .im),.vec 1 [[.im (rI (c.loops.length:Int))]] 0 false,.map [.int .i64] [],.map [.int .i64] (G8 (((nums c.reg).take p.1).map fun d=>(d,i6 c.reg c.lets d))),.vec 0 [] 0 true,.vec 0 [] 0 true,.vec 0 [] 0 true,.row ((u7 c).map .im++[.map 2,.map 3])]⟩) (fun p=>(nums c.reg).length-p.1) ⟨0,by omega⟩ (zv [1,2,3,5,7,55,56,57] (by simp[G8])) ?_
   rintro⟨k,hk⟩
   simp only[iv,C1]
   by_cases hlt:k<(nums c.reg).length
   ·have hx:(nums c.reg)[k]?=some (nums c.reg)[k]:=by simp[hlt]
    have hkl:k<c.lets.length:=by omega
    have hy:c.lets[k]?=some c.lets[k]:=by simp[hkl]
    have hw:=zk k
    have c5:=AT c.reg (nums c.reg)[k] c.lets[k] hG hsr
    have hta:=qD hnd hlt hkl
    rw[show atR c.reg (nums c.reg)[k] c.lets[k]=i6 c.reg c.lets (nums c.reg)[k] by rw[hta];simp[atR,h0]] at c5
    have hmp:cV (nums c.reg)[k] (i6 c.reg c.lets (nums c.reg)[k]) (((nums c.reg).take k).map fun d=>(d,i6 c.reg c.lets d))=(((nums c.reg).take (k+1)).map fun d=>(d,i6 c.reg c.lets d)):=by
     rw[fL,List.take_succ_eq_append_getElem hlt,List.map_append,List.map_singleton]
     rw[List.map_map]
     intro hm
     obtain⟨z,hz,e⟩:=List.mem_map.1 hm
     simp only[Function.comp] at e
     subst e
     obtain⟨i,hi,e⟩:=List.mem_take_iff_getElem.1 hz
     have:=(List.getElem_inj hnd).1 e;omega
    generalize i6 c.reg c.lets (nums c.reg)[k]=y at *
    have hmp':cV (nums c.reg)[k] ⟨y.drawing,y.letter,y.kind,y.items,y.dims⟩ (((nums c.reg).take k).map fun d=>(d,i6 c.reg c.lets d))=(((nums c.reg).take (k+1)).map fun d=>(d,i6 c.reg c.lets d)):=hmp
    simp only[B8] at c5
    simp only[List.map_take] at hmp'
    have hs:=za hx (za hy (za hlt (za hkl hw)))
    repeat' first|with_reducible refine zz ?_|simp -dsimp[hs]|refine zq c5 ?_|refine o7 (id:=12) (nt:=116) 18 [17] [0,1,2,3,4,5,6,7,8,10,11,13,15,17,22,43,55,56,57,58,62,63,64,65,66,67,68,69,70,71,72,73,74,75,76,77,78,81,82,83,84,97,98,99,100,103,104,105,112] [0,1,2,3,4,5,6,7,8,10,11,13,15,17,22,43,55,56,57,58,81,82,83,84,97,98,99,100,103,104,105,112] mixed rfl (by kernel_rfl) ?_|with_reducible refine zE [0,1,2,3,4,5,6,7,8,10,11,13,15,17,22,43,55,56,57,58,81,82,83,84,97,98,99,100,103,104,105,112] ?_|refine j7 ?_ ?_<;>intro h<;>try simp only[j0] at h
    all_goals try clear hs
    exact zn ⟨k+1,by omega⟩ (zw [1,2,3,5,7,55,56,57] 8 (by simp[hmp']))
   have htk:(nums c.reg).take k=nums c.reg:=List.take_of_length_le (by omega)
   rw[htk]
   change DT _ _ _ _ ⟨_,_,[_,_,_,.map _ (G8 (B0 c.reg c.lets)),_,_,_,_]⟩ _
   have hs:=hlt
   repeat' first|(with_reducible first|refine zz ?_|refine zE [0,1,2,3,4,5,6,7,8,10,11,13,15,17,22,43,55,56,57,58,81,82,83,84,97,98,99,100,103,104,105,112] ?_)|simp -dsimp[hs]|refine j7 ?_ ?_<;>intro h<;>try simp only[j0] at h
   all_goals try clear hs
   have hpl:=sQ c.reg c.lets c.of
   have hcD:x6 c=(aD c.reg c.lets c.of).foldl (fun m x=>J3 x.drawing x.count m) []:=rfl
   generalize aD c.reg c.lets c.of=ps at *
   refine i7 (ι:={ p:Nat×List (Int×Int) // p.1≤ps.length∧x6 c=(ps.drop p.1).foldl (fun m x=>J3 x.drawing x.count m) p.2 }) (fun p=>⟨116,[(1,.one (.ptr 0 0)),(2,.one (.im (.raw (.pointer none)))),(3,iv 0),(7,.one (.ptr 7 0)),(81,.one (.im (.sl (ps.map n7)))),(82,iv (ps.length:Int)),(83,iv (p.1.1:Int))],[.row ((u7 c).map .im),.vec 1 [[.im (rI (c.loops.length:Int))]] 0 false,.map [.int .i64] (K0 p.1.2),.map [.int .i64] (G8 (B0 c.reg c.lets)),.vec 0 [] 0 true,.vec 0 [] 0 true,.vec 0 [] 0 true,.row ((u7 c).map .im++[.map 2,.map 3])]⟩) (fun p=>ps.length-p.1.1) ⟨(0,[]),by simp[hcD]⟩ (zv [1,2,3,7,81,82,83] (by simp[K0])) ?_
   rintro⟨⟨u,D⟩,hu,hD⟩
   simp only at hu hD
   simp only[iv]
   by_cases hlu:u<ps.length
   ·have hx:ps[u]?=some ps[u]:=by simp[hlu]
    have hw:=zk u
    rw[List.drop_eq_getElem_cons hlu,List.foldl_cons] at hD
    have hs:=za hx (za hlu hw)
    repeat' first|with_reducible refine zz ?_|simp -dsimp[hs]|refine zM 17 116 8 [0,1,2,3,4,5,6,7,8,10,11,13,15,17,22,43,55,56,57,58,81,82,83,84,97,98,99,100,103,104,105,112] ?_|with_reducible refine zE [0,1,2,3,4,5,6,7,8,10,11,13,15,17,22,43,55,56,57,58,81,82,83,84,97,98,99,100,103,104,105,112] ?_|refine j7 ?_ ?_<;>intro h<;>try simp only[j0] at h
    all_goals try clear hs
    exact zn ⟨(u+1,J3 ps[u].drawing ps[u].count D),by omega,hD⟩ (zw [1,2,3,7,81,82,83] 8)
   have hDe:D=x6 c:=by rw[hD,List.drop_eq_nil_of_le (by omega)];rfl
   subst hDe
   have hB:∀ n,(m9 (B0 c.reg c.lets) n).dims.length<1000000:=fun n=>by
    rw[B0,E9]
    split
    ·rename_i hn
     obtain⟨hm,_⟩:=B2 h0 hlet hn
     have:=(hsr.2 _ hm).2.2.2;omega
    ·decide
   have hs:=hlu
   repeat' first|(with_reducible first|refine zz ?_|refine zE [0,1,2,3,4,5,6,7,8,10,11,13,15,17,22,43,55,56,57,58,81,82,83,84,97,98,99,100,103,104,105,112] ?_)|simp -dsimp[hs]|refine j7 ?_ ?_<;>intro h<;>try simp only[j0] at h
   all_goals try clear hs
   refine i7 (ι:={ j:Nat // j≤c.loops.length∧c.loops.all (K6 (x6 c) (B0 c.reg c.lets))=(c.loops.drop j).all (K6 (x6 c) (B0 c.reg c.lets)) }) (fun p=>⟨116,[(2,.one (.im (.raw (.pointer none)))),(3,iv 0),(7,.one (.im (i8 c (x6 c) (B0 c.reg c.lets)))),(97,.one (.im (.sl (c.loops.map j9)))),(98,iv (c.loops.length:Int)),(99,iv (p.1:Int))],[]⟩) (fun p=>c.loops.length-p.1) ⟨0,by simp⟩ (zw [2,3,7,97,98,99] 0 (by simp[i8])) ?_
   rintro⟨j,hj,hall⟩
   simp only[iv]
   by_cases hlj:j<c.loops.length
   ·have hx:c.loops[j]?=some c.loops[j]:=by simp[hlj]
    have hw:=zk j
    have hst:=R7 hlj hall
    have hln:=hsk c.loops[j] (List.getElem_mem hlj)
    have k1:=zD (G:=G) (i8 c (x6 c) (B0 c.reg c.lets)) c.loops[j]
    have k2:=zC (G:=G) (i8 c (x6 c) (B0 c.reg c.lets)) c.loops[j]
    have k3:=zB (G:=G) c (x6 c) (B0 c.reg c.lets) c.loops[j] (by omega) hB
    have hbad:∀ i,fd (x6 c) (B0 c.reg c.lets) c.loops[j] i=false→j6 c=60:=fun i h=>by
     rw[hE,r5 hst (by rw[vM h];exact Bool.false_ne_true)];rfl
    have hq1:fd (x6 c) (B0 c.reg c.lets) c.loops[j] 0=jI c.loops[j]:=rfl
    have hq2:fd (x6 c) (B0 c.reg c.lets) c.loops[j] 1=jH c.loops[j]:=rfl
    have hq3:fd (x6 c) (B0 c.reg c.lets) c.loops[j] 2=R8 (x6 c) (B0 c.reg c.lets) [] c.loops[j].links:=rfl
    rw[← hq1] at k1;rw[← hq2] at k2;rw[← hq3] at k3
    clear hq1 hq2 hq3
    have hs:=za hx (za hlj hC')
    repeat' first|(with_reducible first|refine zz ?_|refine zE [0,1,2,3,4,5,6,7,8,10,11,13,15,17,22,43,55,56,57,58,81,82,83,84,97,98,99,100,103,104,105,112] ?_)|simp -dsimp[hs]|refine j7 ?_ ?_<;>intro h<;>try simp only[j0] at h
    all_goals try clear hs
    refine i7 (ι:={ i:Nat // i≤3∧∀ e<i,fd (x6 c) (B0 c.reg c.lets) c.loops[j] e=true }) (fun p=>⟨116,[(2,.one (.im (.raw (.pointer none)))),(3,iv 0),(7,.one (.im (i8 c (x6 c) (B0 c.reg c.lets)))),(15,.one (.ptr 1 0)),(97,.one (.im (.sl (c.loops.map j9)))),(98,iv (c.loops.length:Int)),(99,iv (j:Int)),(103,.agg [.im (.fn (.func 202) []),.im (.fn (.func 203) []),.im (.fn (.func 204) [])]),(104,iv (p.1:Int))],[.vec 0 [] 0 true,.row ((j9 c.loops[j]).map .im)]⟩) (fun p=>3-p.1) ⟨0,by simp⟩ (zv [2,3,7,15,97,98,99,103,104]) ?_
    rintro⟨i,hi,hcc⟩
    simp only[iv]
    by_cases hi3:i<3
    ·have hwc:=zk i
     match i,hi3,hi,hcc,hwc with
     | 0,hi3,hi,hcc,hwc =>
       cases hq:fd (x6 c) (B0 c.reg c.lets) c.loops[j] 0<;>simp only[hq] at k1
       ·have h60:=hbad 0 hq
        have hs:=trivial
        repeat' first|(with_reducible first|refine zz ?_|refine zr ?_|refine zE [0,1,2,3,4,5,6,7,8,10,11,13,15,17,22,43,55,56,57,58,81,82,83,84,97,98,99,100,103,104,105,112] ?_)|simp -dsimp[hs]|refine zp k1 ?_|refine j7 ?_ ?_<;>intro h<;>try simp only[j0] at h
        all_goals try clear hs
        all_goals simp[H5,h60]
       ·have hs:=hwc
        repeat' first|(with_reducible first|refine zz ?_|refine zE [0,1,2,3,4,5,6,7,8,10,11,13,15,17,22,43,55,56,57,58,81,82,83,84,97,98,99,100,103,104,105,112] ?_)|simp -dsimp[hs]|refine zp k1 ?_|refine j7 ?_ ?_<;>intro h<;>try simp only[j0] at h
        all_goals try clear hs
        exact At.round ⟨1,by omega,fun i hi=>by
         rcases Nat.lt_succ_iff_lt_or_eq.1 hi with h|rfl
         ·exact hcc i h
         ·exact hq⟩ (by simp) (zw [2,3,7,15,97,98,99,103,104] 2 (by simp;exact o6 (by omega) (by omega)))
     | 1,hi3,hi,hcc,hwc =>
       cases hq:fd (x6 c) (B0 c.reg c.lets) c.loops[j] 1<;>simp only[hq] at k2
       ·have h60:=hbad 1 hq
        have hs:=trivial
        repeat' first|(with_reducible first|refine zz ?_|refine zr ?_|refine zE [0,1,2,3,4,5,6,7,8,10,11,13,15,17,22,43,55,56,57,58,81,82,83,84,97,98,99,100,103,104,105,112] ?_)|simp -dsimp[hs]|refine zp k2 ?_|refine j7 ?_ ?_<;>intro h<;>try simp only[j0] at h
        all_goals try clear hs
        all_goals simp[H5,h60]
       ·have hs:=hwc
        repeat' first|(with_reducible first|refine zz ?_|refine zE [0,1,2,3,4,5,6,7,8,10,11,13,15,17,22,43,55,56,57,58,81,82,83,84,97,98,99,100,103,104,105,112] ?_)|simp -dsimp[hs]|refine zp k2 ?_|refine j7 ?_ ?_<;>intro h<;>try simp only[j0] at h
        all_goals try clear hs
        exact At.round ⟨2,by omega,fun i hi=>by
         rcases Nat.lt_succ_iff_lt_or_eq.1 hi with h|rfl
         ·exact hcc i h
         ·exact hq⟩ (by simp) (zw [2,3,7,15,97,98,99,103,104] 2 (by simp;exact o6 (by omega) (by omega)))
     | 2,hi3,hi,hcc,hwc =>
       cases hq:fd (x6 c) (B0 c.reg c.lets) c.loops[j] 2<;>simp only[hq] at k3
       ·have h60:=hbad 2 hq
        have hs:=trivial
        repeat' first|(with_reducible first|refine zz ?_|refine zr ?_|refine zE [0,1,2,3,4,5,6,7,8,10,11,13,15,17,22,43,55,56,57,58,81,82,83,84,97,98,99,100,103,104,105,112] ?_)|simp -dsimp[hs]|refine zp k3 ?_|refine j7 ?_ ?_<;>intro h<;>try simp only[j0] at h
        all_goals try clear hs
        all_goals simp[H5,h60]
       ·have hs:=hwc
        repeat' first|(with_reducible first|refine zz ?_|refine zE [0,1,2,3,4,5,6,7,8,10,11,13,15,17,22,43,55,56,57,58,81,82,83,84,97,98,99,100,103,104,105,112] ?_)|simp -dsimp[hs]|refine zp k3 ?_|refine j7 ?_ ?_<;>intro h<;>try simp only[j0] at h
        all_goals try clear hs
        exact At.round ⟨3,by omega,fun i hi=>by
         rcases Nat.lt_succ_iff_lt_or_eq.1 hi with h|rfl
         ·exact hcc i h
         ·exact hq⟩ (by simp) (zw [2,3,7,15,97,98,99,103,104] 2 (by simp;exact o6 (by omega) (by omega)))
    ·obtain rfl:i=3:=by omega
     have hok:=vN hcc
     have hs:=hw
     repeat' first|(with_reducible first|refine zz ?_|refine zE [0,1,2,3,4,5,6,7,8,10,11,13,15,17,22,43,55,56,57,58,81,82,83,84,97,98,99,100,103,104,105,112] ?_)|simp -dsimp[hs]|refine j7 ?_ ?_<;>intro h<;>try simp only[j0] at h
     all_goals try clear hs
     exact zn ⟨j+1,by omega,B5 hst hok⟩ (zw [2,3,7,97,98,99] 0)
   ·have hok:c.loops.all (K6 (x6 c) (B0 c.reg c.lets))=true:=by rw[hall,List.drop_eq_nil_of_le (by omega)];rfl
    rw[hok] at hE
    have hs:=hlj
    repeat' first|(with_reducible first|refine zz ?_|refine zr ?_|refine zE [0,1,2,3,4,5,6,7,8,10,11,13,15,17,22,43,55,56,57,58,81,82,83,84,97,98,99,100,103,104,105,112] ?_)|simp -dsimp[hs]|refine j7 ?_ ?_<;>intro h<;>try simp only[j0] at h
    all_goals try clear hs
    simp[H5,hE]
 ·have hE:j6 c=l8 c.reg:=by simp[j6,h0]
  have hs:=h0
  repeat' first|(with_reducible first|refine zz ?_|refine zr ?_|refine zE [0,1,2,3,4,5,6,7,8,10,11,13,15,17,22,43,55,56,57,58,81,82,83,84,97,98,99,100,103,104,105,112] ?_)|simp -dsimp[hs]|refine zp c1 ?_|refine j7 ?_ ?_<;>intro h<;>try simp only[j0] at h
  all_goals try clear hs
  simp[H5,hE,h0]
end Go.Proofs
namespace Go.Proofs
open Go Go.Ab
theorem yy:Rd 80 C5 (fun _=>True):=(Opens.struct Tryz.underlying80 (by kernel_rfl) (yg (fun _=>True) (fun l=>∃ n:Int,l=[rI n]) (fun l=>∃ n:Int,l=[rI n]) (fun l=>∃ b:Bool,l=[rB b])) (fun i f hf=>by
 rcases i with _|_|_|i<;>simp at hf<;>subst hf
 ·exact oInt
 ·exact oInt
 ·exact As)).mono (by
 rintro l ⟨ls,h1,h2,rfl⟩
 obtain⟨a,b,c,rfl⟩:=yP h1
 obtain⟨x,rfl⟩:=h2 0 a rfl
 obtain⟨y,rfl⟩:=h2 1 b rfl
 obtain⟨z,rfl⟩:=h2 2 c rfl
 exact⟨⟨x,y,z⟩,trivial,rfl⟩)
theorem yH:Opens Tryz.prog 76 (fun l=>∃ xs:List Link,l=[.sl (xs.map C5)]):=
 (Opens.sliceOf Tryz.underlying76 (sz:=3) (by kernel_rfl) (by decide) (fun _=>rfl) yy).mono (by rintro l ⟨xs,_,h⟩;exact⟨xs,h⟩)
theorem Bm:Opens Tryz.prog 66 (fun l=>∃ n m:Int,l=[rI n,rI m]):=(Opens.struct Tryz.underlying66 (by kernel_rfl) (fun _ l=>∃ n:Int,l=[rI n]) (fun i f hf=>by
 rcases i with _|_|i<;>simp at hf<;>subst hf<;>exact oInt)).mono (by
 rintro l ⟨ls,h1,h2,rfl⟩
 obtain⟨a,b,rfl⟩:=yQ h1
 obtain⟨x,rfl⟩:=h2 0 a rfl
 obtain⟨y,rfl⟩:=h2 1 b rfl
 exact⟨x,y,rfl⟩)
theorem yx:Rd 78 j9 (fun _=>True):=(Opens.struct Tryz.underlying78 (by kernel_rfl) (yg (fun _=>True) (fun l=>∃ xs:List Link,l=[.sl (xs.map C5)]) (fun l=>∃ n m:Int,l=[rI n,rI m]) (fun _=>True)) (fun i f hf=>by
 rcases i with _|_|i<;>simp at hf<;>subst hf
 ·exact yH
 ·exact Bm)).mono (by
 rintro l ⟨ls,h1,h2,rfl⟩
 obtain⟨a,b,rfl⟩:=yQ h1
 obtain⟨x,rfl⟩:=h2 0 a rfl
 obtain⟨y,z,rfl⟩:=h2 1 b rfl
 exact⟨⟨x,y,z⟩,trivial,rfl⟩)
theorem yG:Opens Tryz.prog 26 (fun l=>∃ xs:List ChLoop,l=[.sl (xs.map j9)]):=
 (Opens.sliceOf Tryz.underlying26 (sz:=3) (by kernel_rfl) (by decide) (fun _=>rfl) yx).mono (by rintro l ⟨xs,_,h⟩;exact⟨xs,h⟩)
theorem uD:Rd 28 u7 (fun c=>∀ x∈c.reg,fS x):=(Opens.struct Tryz.underlying28 (by kernel_rfl) (yf (fun _=>True) (fun l=>∃ xs:List Issue,(∀ x∈xs,fS x)∧l=[.sl (xs.map e8)]) (fun l=>∃ xs:List Int,l=[.sl (xs.map encI)]) (fun l=>∃ n:Int,l=[rI n]) (fun l=>∃ xs:List ChLoop,l=[.sl (xs.map j9)]) (fun _=>True)) (fun i f hf=>by
 rcases i with _|_|_|_|i<;>simp at hf<;>subst hf
 ·exact Bl
 ·exact Aq
 ·exact oInt
 ·exact yG)).mono (by
 rintro l ⟨ls,h1,h2,rfl⟩
 obtain⟨a,b,c,d,rfl⟩:=Az h1
 obtain⟨x,hx,rfl⟩:=h2 0 a rfl
 obtain⟨y,rfl⟩:=h2 1 b rfl
 obtain⟨z,rfl⟩:=h2 2 c rfl
 obtain⟨u,rfl⟩:=h2 3 d rfl
 exact⟨⟨x,y,z,u⟩,hx,rfl⟩)
open Go Go.Ab Tryz
variable {G:Cr}
def rp:Dim:=⟨0,0,0⟩
def I6 (c:Chains) (x:Link):Dim:=((i6 c.reg c.lets x.drawing).dims[x.dim.toNat]?).getD rp
structure OkC (c:Chains):Prop where
 reg:l8 c.reg=0
 lets:m4 c.reg c.lets=true
 of:c.of∈nums c.reg
 num:1≤c.loops.length∧c.loops.length≤6
 gap:∀ x∈c.loops,x.links.length≤8∧jH x=true
 link:∀ x∈c.loops,∀ y∈x.links,y.drawing∈nums c.reg∧0≤y.dim∧y.dim<(i6 c.reg c.lets y.drawing).dims.length
def H7 (c:Chains) (x:ChLoop):List Dim:=x.links.map (I6 c)
def L1 (high:Bool) (x:Link) (d:Dim):Int:=if high != x.back then d.upper else d.lower
def iP (x:Link) (n:Int):Int:=if x.back then -n else n
def eQ (links:List Link) (l:List Dim) (high:Bool):List Int:=(links.zip l).map fun p=>L1 high p.1 p.2
def S9 (links:List Link) (l:List Dim) (high:Bool):Int:=(links.zip l).foldl (fun s p=>s+iP p.1 (L1 high p.1 p.2)) 0
theorem bW {c:Chains} (h:OkC c) {x:ChLoop} (hx:x∈c.loops) {y:Link} (hy:y∈x.links):A4 (I6 c y)=true∧(i6 c.reg c.lets y.drawing).dims[y.dim.toNat]?=some (I6 c y):=by
 obtain⟨h1,h2,h3⟩:=h.link x hx y hy
 obtain⟨hm,_⟩:=B2 h.reg h.lets h1
 have hok:=(B7 (u4 (p4 h.reg))).2.2.2.1 _ hm
 have hlt:y.dim.toNat<(i6 c.reg c.lets y.drawing).dims.length:=by omega
 have he:(i6 c.reg c.lets y.drawing).dims[y.dim.toNat]?=some (i6 c.reg c.lets y.drawing).dims[y.dim.toNat]:=by simp[hlt]
 have hd:I6 c y=(i6 c.reg c.lets y.drawing).dims[y.dim.toNat]:=by rw[I6,he,Option.getD_some]
 simp only[m3,Bool.and_eq_true] at hok
 rw[hd]
 exact⟨List.all_eq_true.1 hok.2 _ (List.getElem_mem hlt),he⟩
theorem fp (n lo hi:Int):zP prog G 63 [iv n,iv lo,iv hi] (bv (decide (lo≤n)&&decide (n≤hi))):=by
 refine zf func63 ntmps63 ?_
 try simp only[iv,iv,iv]
 have hs:=trivial
 repeat' first|(with_reducible first|refine zz ?_|refine zr ?_|refine zE [0,1,2,6] ?_)|simp -dsimp[hs]|with_reducible refine l9 ?_ ?_<;>intro h<;>have h0:=h<;>(try simp only[j0] at h)<;>have h2:=h<;>(try simp at h2)<;>replace hs:=za h0 (za h (za h2 hs))
 all_goals try clear hs
 all_goals simp[*]
def I7 (l:List Itm) (d:Int):Int:=match l with
 | []=>0
 | y :: r=>if y.drawing=d then y.count else I7 r d
theorem xB (l:List Itm) (d:Int) (hl:l.length<1000000):zP prog G 123 [.one (.im (.sl (l.map n7))),iv d] (iv (I7 l d)):=by
 refine zf func123 ntmps123 ?_
 try simp only[iv]
 have hs:=trivial
 repeat' first|(with_reducible first|refine zz ?_|refine zE [0,1,4,5,9,18] ?_)|simp -dsimp[hs]
 refine i7 (ι:={ k:Nat // k≤l.length∧I7 l d=I7 (l.drop k) d }) (fun p=>⟨24,[(0,.one (.im (.sl (l.map n7)))),(1,iv d),(5,iv (p.1:Int))],[]⟩) (fun p=>l.length-p.1) ⟨0,by simp⟩ (zv [0,1,5]) ?_
 rintro⟨k,hk,ha⟩
 simp only[iv]
 by_cases hlt:k<l.length
 ·have hx:l[k]?=some l[k]:=by simp[hlt]
  have hw:=zk k
  rw[List.drop_eq_getElem_cons hlt,I7] at ha
  have hs:=za hx (za hw hlt)
  repeat' first|(with_reducible first|refine zz ?_|refine zr ?_|refine zE [0,1,4,5,9,18] ?_)|simp -dsimp[hs]|refine j7 ?_ ?_<;>intro h<;>try simp only[j0] at h
  ·rw[ha,if_pos ‹_›]
  ·exact zn ⟨k+1,by omega,by rw[ha,if_neg ‹_›]⟩ (zv [0,1,5])
 ·rw[List.drop_eq_nil_of_le (by omega)] at ha
  have hs:=hlt
  repeat' first|(with_reducible first|refine zz ?_|refine zr ?_|refine zE [0,1,4,5,9,18] ?_)|simp -dsimp[hs]|refine j7 ?_ ?_<;>intro h<;>try simp only[j0] at h
  rw[ha];rfl
theorem xr {high:Bool} {x:Link} {d:Dim} (h:A4 d=true):0≤L1 high x d∧L1 high x d≤1000000000:=by
 have:=(F8 d).1 h
 unfold L1;split<;>omega
theorem yv {high:Bool} {x:Link} {d:Dim} (h:A4 d=true):-1000000000≤iP x (L1 high x d)∧iP x (L1 high x d)≤1000000000:=by
 have:=xr (high:=high) (x:=x) h
 unfold iP;split<;>omega
theorem dZ {c:Chains} (h:OkC c) {n:Nat} (hn:n<c.loops.length):(H7 c c.loops[n]).length=c.loops[n].links.length∧∀ d∈H7 c c.loops[n],A4 d=true:=by
 refine⟨by simp[H7],fun d hd=>?_⟩
 obtain⟨y,hy,rfl⟩:=List.mem_map.1 hd
 exact(bW h (List.getElem_mem hn) hy).1
theorem tn (c:Chains) (hG:B4 G) (hC:K1 G) (hs:r7 c):zP prog G 9 [M7 c] (iv (j6 c)):=by
 refine zf func9 ntmps9 ?_
 try simp only[M7]
 have c1:=O0 c hG hC hs
 have hs:=trivial
 repeat' first|(with_reducible first|refine zz ?_|refine zr ?_|refine zE [0,1,2,4] ?_)|simp -dsimp[hs]|refine zp c1 ?_
 all_goals try clear hs
theorem F9 (c:Chains):∃ X,H5 c=.one (.im X):=by unfold H5;split<;>exact⟨_,rfl⟩
def A0 (c:Chains) (n:Int):Int:=if j6 c≠0 then j6 c else if 0≤n∧n<c.loops.length then 0 else 2
theorem mn (c:Chains) (n:Int) (hG:B4 G) (hC:K1 G) (hs:r7 c):zP prog G 55 [M7 c,iv n] (.tup [H5 c,iv (A0 c n)]):=by
 refine zf func55 ntmps55 ?_
 try simp only[M7,iv]
 have c1:=O0 c hG hC hs
 have hl:=hs.2.2.1
 have hw:IntKind.i64.wrap ((c.loops.length:Int)-1)=(c.loops.length:Int)-1:=o6 (by omega) (by omega)
 have c2:=N8 (G:=G) 0 ((c.loops.length:Int)-1) [n] (by simp)
 have hE:A0 c n=if j6 c≠0 then j6 c else if 0≤n∧n<c.loops.length then 0 else 2:=rfl
 obtain⟨X,hX⟩:=F9 c
 rw[hX]
 rw[hX] at c1
 by_cases h0:j6 c=0
 ·rw[h0] at c1 hE
  by_cases hr:0≤n∧n<c.loops.length
  ·have hq:([n].all fun x=>decide (0≤x)&&decide (x≤(c.loops.length:Int)-1))=true:=by simp;omega
   rw[hq] at c2
   have hs:=hw
   repeat' first|(with_reducible first|refine zz ?_|refine zr ?_|refine zE [0,1,2,4,5,6,7,24] ?_)|simp -dsimp[hs]|refine zp c1 ?_|refine zt c2 ?_ ?_ ?_;(focus simp;done);focus (simp;done)|refine j7 ?_ ?_<;>intro h<;>try simp only[j0] at h
   all_goals try clear hs
   simp[hE,hr]
  ·have hq:([n].all fun x=>decide (0≤x)&&decide (x≤(c.loops.length:Int)-1))=false:=by simp;omega
   rw[hq] at c2
   have hs:=hw
   repeat' first|(with_reducible first|refine zz ?_|refine zr ?_|refine zE [0,1,2,4,5,6,7,24] ?_)|simp -dsimp[hs]|refine zp c1 ?_|refine zt c2 ?_ ?_ ?_;(focus simp;done);focus (simp;done)|refine j7 ?_ ?_<;>intro h<;>try simp only[j0] at h
   all_goals try clear hs
   simp[hE,hr]
 ·have hs:=h0
  repeat' first|(with_reducible first|refine zz ?_|refine zr ?_|refine zE [0,1,2,4,5,6,7,24] ?_)|simp -dsimp[hs]|refine zp c1 ?_|refine j7 ?_ ?_<;>intro h<;>try simp only[j0] at h
  all_goals try clear hs
  simp[hE,h0]
theorem qM (d k:Int):zP prog G 58 [B8 d k] (bv false):=by
 refine zf func58 ntmps58 ?_
 try simp only[B8]
 repeat' first|(with_reducible first|refine zz ?_|refine zx ?_|refine zE [0,2] ?_)|simp -dsimp
theorem pb (x:Link):zP prog G 87 [qQ x] (B8 x.drawing x.dim):=by
 refine zf func87 ntmps87 ?_
 try simp only[qQ]
 repeat' first|(with_reducible first|refine zz ?_|refine zx ?_|refine zE [0,1,2] ?_)|simp -dsimp
def S6:IC:=.fn (.func 58) []
theorem iZ (c:Chains) (D:List (Int×Int)) (n:Nat) (hn:n<c.loops.length) (h:OkC c):zP prog G 57 [.one (.im (i8 c D (B0 c.reg c.lets))),iv (n:Int),iv 0,.one (.im S6)] (.one (.im (.sl ((H7 c c.loops[n]).map l5)))):=by
 refine zf func57 ntmps57 ?_
 try simp only[iv,iv]
 have hx:c.loops[n]?=some c.loops[n]:=by simp[hn]
 have hln:=h.gap c.loops[n] (List.getElem_mem hn)
 have hok:=fun y hy=>bW h (List.getElem_mem hn) (y:=y) hy
 have hlk:=h.link c.loops[n] (List.getElem_mem hn)
 have hE:H7 c c.loops[n]=c.loops[n].links.map (I6 c):=rfl
 simp only[i8,S6]
 have hs:=za hx hn
 repeat' first|(with_reducible first|refine zz ?_|refine zE [0,1,2,3,8,9,11,12,21,22,23,24,42] ?_)|simp -dsimp[hs]
 generalize hls:c.loops[n].links=ls at *
 refine i7 (ι:={ p:Nat×Nat×Bool×List Dim // p.1≤ls.length∧p.2.2.2=(ls.take p.1).map (I6 c) }) (fun p=>⟨52,[(0,.one (.im (i8 c D (B0 c.reg c.lets)))),(2,iv 0),(3,.one (.im S6)),(9,.one (.vec 1 p.1.2.1 0 p.1.2.2.2.length)),(21,.one (.im (.sl (ls.map C5)))),(22,iv (ls.length:Int)),(23,iv (p.1.1:Int))],[.vec 3 [] 0 true,.vec 3 (p6 (p.1.2.2.2.map l5)) p.1.2.1 p.1.2.2.1]⟩) (fun p=>ls.length-p.1.1) ⟨(0,0,true,[]),by simp⟩ (zv [0,2,3,9,21,22,23] (by simp[i8,S6])) ?_
 rintro⟨⟨k,g,nl,out⟩,hk,ho⟩
 simp only at hk ho
 simp only[iv,i8,S6]
 have hol:out.length=k:=by rw[ho];simp;omega
 by_cases hlt:k<ls.length
 ·have hy:ls[k]?=some ls[k]:=by simp[hlt]
  have hw:=zk k
  obtain⟨l1,l2,l3⟩:=hlk ls[k] (List.getElem_mem hlt)
  obtain⟨_,he⟩:=hok ls[k] (List.getElem_mem hlt)
  have hlook:m9 (B0 c.reg c.lets) ls[k].drawing=i6 c.reg c.lets ls[k].drawing:=by rw[B0,E9,if_pos l1]
  obtain⟨j,hj⟩:∃ j:Nat,ls[k].dim=j:=⟨ls[k].dim.toNat,by omega⟩
  rw[hj,Int.toNat_natCast] at he
  have hjl:=e7 he
  have hje:=(List.getElem?_eq_some_iff.1 he).2
  have c2:=pb (G:=G) ⟨ls[k].drawing,j,ls[k].back⟩
  have c3:=qM (G:=G) ls[k].drawing j
  simp only[B8] at c2 c3
  have hon:out++[I6 c ls[k]]=(ls.take (k+1)).map (I6 c):=by rw[List.take_succ_eq_append_getElem hlt,List.map_append,ho];rfl
  have hs:=za hy (za hw (za hlt (za hlook (za hj (za hjl (za he hje))))))
  repeat' first|(with_reducible first|refine zz ?_|refine And.intro (by omega) ?_)|simp -dsimp[hs]|refine zp c2 ?_|refine zp c3 ?_|refine o7 (id:=5) (nt:=52) 13 [] [0,1,2,3,8,9,11,12,21,22,23,24,27,28,29,30,31,32,33,34,35,36,37,38,42] [0,1,2,3,8,9,11,12,21,22,23,24,42] mixed rfl (by kernel_rfl) ?_|with_reducible refine zE [0,1,2,3,8,9,11,12,21,22,23,24,42] ?_|refine j7 ?_ ?_<;>intro h<;>try simp only[j0] at h
  all_goals try omega
  exact zn ⟨(k+1,g+1,false,out++[I6 c ls[k]]),by omega,hon⟩ (zw [0,2,3,9,21,22,23] 2 (by simp[i8,S6]))
 ·have hs:=hlt
  repeat' first|(with_reducible first|refine zz ?_|refine zr ?_|refine zE [0,1,2,3,8,9,11,12,21,22,23,24,42] ?_)|simp -dsimp[hs]|refine j7 ?_ ?_<;>intro h<;>try simp only[j0] at h
  all_goals try omega
  rw[hE,ho,List.take_of_length_le (by omega)]
theorem mf (c:Chains) (D:List (Int×Int)) (B:List (Int×Issue)) (n:Nat) (hn:n<c.loops.length) (l:List Dim) (high:Bool) (hl:c.loops[n].links.length≤12) (he:l.length=c.loops[n].links.length) (hd:∀ d∈l,A4 d=true):zP prog G 74 [.one (.im (i8 c D B)),iv (n:Int),.one (.im (.sl (l.map l5))),bv high] (.tup [C1 (eQ c.loops[n].links l high),iv (S9 c.loops[n].links l high)]):=by
 refine zf func74 ntmps74 ?_
 try simp only[iv,bv]
 have hxn:c.loops[n]?=some c.loops[n]:=by simp[hn]
 simp only[i8]
 have hs:=za hxn hn
 repeat' first|(with_reducible first|refine zz ?_|refine zE [0,1,2,3,8,9,10,11,12,13,14,15,24,25,26,27,37,41] ?_)|simp -dsimp[hs]
 all_goals try clear hs
 generalize c.loops[n].links=ls at *
 refine i7 (ι:={ p:Nat×Nat×Bool×List Int×Int // p.1≤ls.length∧p.2.2.2.1.length=p.1∧eQ ls l high=p.2.2.2.1++((ls.zip l).drop p.1).map (fun q=>L1 high q.1 q.2)∧S9 ls l high=((ls.zip l).drop p.1).foldl (fun s q=>s+iP q.1 (L1 high q.1 q.2)) p.2.2.2.2∧-1000000000*(p.1:Int)≤p.2.2.2.2∧p.2.2.2.2≤1000000000*(p.1:Int) }) (fun p=>⟨59,[(2,.one (.im (.sl (l.map l5)))),(3,bv high),(10,iv p.1.2.2.2.2),(11,.one (.vec 1 p.1.2.1 0 p.1.2.2.2.1.length)),(24,.one (.im (.sl (ls.map C5)))),(25,iv (ls.length:Int)),(26,iv (p.1.1:Int))],[.vec 1 [] 0 true,.vec 1 (p6 (p.1.2.2.2.1.map encI)) p.1.2.1 p.1.2.2.1]⟩) (fun p=>ls.length-p.1.1) ⟨(0,0,true,[],0),by simp[eQ,S9]⟩ (zv [2,3,10,11,24,25,26]) ?_
 rintro⟨⟨k,g,nl,out,s⟩,hk,hol,ho,hs,hb1,hb2⟩
 simp only at hk hol ho hs hb1 hb2
 simp only[iv,bv]
 by_cases hlt:k<ls.length
 ·have hkl:k<l.length:=by omega
  have hx:ls[k]?=some ls[k]:=by simp[hlt]
  have hy:l[k]?=some l[k]:=by simp[hkl]
  have hw:=zk k
  have hz:k<(ls.zip l).length:=by simp;omega
  rw[List.drop_eq_getElem_cons hz,List.getElem_zip,List.map_cons] at ho
  rw[List.drop_eq_getElem_cons hz,List.getElem_zip,List.foldl_cons] at hs
  have hdk:=hd l[k] (List.getElem_mem hkl)
  have hdl:=(F8 _).1 hdk
  have hsb:=yv (high:=high) (x:=ls[k]) hdk
  have hws:IntKind.i64.wrap (s+iP ls[k] (L1 high ls[k] l[k]))=s+iP ls[k] (L1 high ls[k] l[k]):=o6 (by omega) (by omega)
  have hon:eQ ls l high=(out++[L1 high ls[k] l[k]])++((ls.zip l).drop (k+1)).map (fun q=>L1 high q.1 q.2):=by rw[ho];simp
  have hwl:IntKind.i64.wrap (-l[k].lower)=-l[k].lower:=o6 (by omega) (by omega)
  have hwu:IntKind.i64.wrap (-l[k].upper)=-l[k].upper:=o6 (by omega) (by omega)
  have hwl1:IntKind.i64.wrap l[k].lower=l[k].lower:=o6 (by omega) (by omega)
  have hwu1:IntKind.i64.wrap l[k].upper=l[k].upper:=o6 (by omega) (by omega)
  have hfin:k+1≤ls.length∧(out++[L1 high ls[k] l[k]]).length=k+1∧eQ ls l high=(out++[L1 high ls[k] l[k]])++((ls.zip l).drop (k+1)).map (fun q=>L1 high q.1 q.2)∧S9 ls l high=((ls.zip l).drop (k+1)).foldl (fun s q=>s+iP q.1 (L1 high q.1 q.2)) (s+iP ls[k] (L1 high ls[k] l[k]))∧-1000000000*((k+1:Nat):Int)≤s+iP ls[k] (L1 high ls[k] l[k])∧s+iP ls[k] (L1 high ls[k] l[k])≤1000000000*((k+1:Nat):Int):=⟨by omega,by simp;omega,hon,hs,by omega,by omega⟩
  cases hbk:ls[k].back<;>cases high
  all_goals have hN:∀ h,L1 h ls[k] l[k]=if h != ls[k].back then l[k].upper else l[k].lower:=fun _=>rfl
  all_goals have hS:∀ n,iP ls[k] n=if ls[k].back then -n else n:=fun _=>rfl
  all_goals simp only[hN,hS,hbk,bne_self_eq_false,Bool.false_eq_true,if_false,if_true,Bool.true_bne,Bool.false_bne,Bool.not_false] at hws hfin
  all_goals clear hN hS
  ·have hs:=za hx (za hy (za hw (za hlt (za hkl (za hbk (za hws (za hwl1 hwu1)))))))
   repeat' first|(with_reducible first|refine zz ?_|refine And.intro (by omega) ?_|refine zE [0,1,2,3,8,9,10,11,12,13,14,15,24,25,26,27,37,41] ?_)|simp -dsimp[hs]|refine j7 ?_ ?_<;>intro h<;>try simp only[j0] at h
   all_goals try clear hs
   all_goals try omega
   exact zn ⟨(k+1,g+1,false,out++[l[k].lower],s+l[k].lower),hfin⟩ (zw [2,3,10,11,24,25,26] 2)
  ·have hs:=za hx (za hy (za hw (za hlt (za hkl (za hbk (za hws (za hwl1 hwu1)))))))
   repeat' first|(with_reducible first|refine zz ?_|refine And.intro (by omega) ?_|refine zE [0,1,2,3,8,9,10,11,12,13,14,15,24,25,26,27,37,41] ?_)|simp -dsimp[hs]|refine j7 ?_ ?_<;>intro h<;>try simp only[j0] at h
   all_goals try clear hs
   all_goals try omega
   exact zn ⟨(k+1,g+1,false,out++[l[k].upper],s+l[k].upper),hfin⟩ (zw [2,3,10,11,24,25,26] 2)
  ·have hs:=za hx (za hy (za hw (za hlt (za hkl (za hbk (za hws (za hwl hwu)))))))
   repeat' first|(with_reducible first|refine zz ?_|refine And.intro (by omega) ?_|refine zE [0,1,2,3,8,9,10,11,12,13,14,15,24,25,26,27,37,41] ?_)|simp -dsimp[hs]|refine j7 ?_ ?_<;>intro h<;>try simp only[j0] at h
   all_goals try clear hs
   all_goals try omega
   exact zn ⟨(k+1,g+1,false,out++[l[k].upper],s + -l[k].upper),hfin⟩ (zw [2,3,10,11,24,25,26] 2)
  ·have hs:=za hx (za hy (za hw (za hlt (za hkl (za hbk (za hws (za hwl hwu)))))))
   repeat' first|(with_reducible first|refine zz ?_|refine And.intro (by omega) ?_|refine zE [0,1,2,3,8,9,10,11,12,13,14,15,24,25,26,27,37,41] ?_)|simp -dsimp[hs]|refine j7 ?_ ?_<;>intro h<;>try simp only[j0] at h
   all_goals try clear hs
   all_goals try omega
   exact zn ⟨(k+1,g+1,false,out++[l[k].lower],s + -l[k].lower),hfin⟩ (zw [2,3,10,11,24,25,26] 2)
 ·rw[List.drop_eq_nil_of_le (by simp;omega)] at ho hs
  have hs:=hlt
  repeat' first|(with_reducible first|refine zz ?_|refine zr ?_|refine zE [0,1,2,3,8,9,10,11,12,13,14,15,24,25,26,27,37,41] ?_)|simp -dsimp[hs]|refine j7 ?_ ?_<;>intro h<;>try simp only[j0] at h
  all_goals try clear hs
  all_goals try omega
  rw[ho,hs];simp
theorem nz (c:Chains) (D:List (Int×Int)) (B:List (Int×Issue)) (n:Nat) (hn:n<c.loops.length) (l:List Dim) (hl:c.loops[n].links.length≤12) (he:l.length=c.loops[n].links.length) (hd:∀ d∈l,A4 d=true):zP prog G 56 [.one (.im (i8 c D B)),iv (n:Int),.one (.im (.sl (l.map l5)))] (B8 (S9 c.loops[n].links l false) (S9 c.loops[n].links l true)):=by
 refine zf func56 ntmps56 ?_
 try simp only[iv]
 have c2:=mf (G:=G) c D B n hn l false hl he hd
 have c3:=mf (G:=G) c D B n hn l true hl he hd
 repeat' first|(with_reducible first|refine zz ?_|refine zx ?_|refine zE [0,1,2,6,8,10] ?_)|simp -dsimp|refine zp c2 ?_|refine zp c3 ?_
def zR (c:Chains) (n:Int):Int:=match c.loops[n.toNat]? with|some x=>S9 x.links (H7 c x) false|none=>0
def zV (c:Chains) (n:Int):Int:=match c.loops[n.toNat]? with|some x=>S9 x.links (H7 c x) true|none=>0
def kN (c:Chains) (n:Int):Int:=if A0 c n=0 then zR c n else 0
def kO (c:Chains) (n:Int):Int:=if A0 c n=0 then zV c n else 0
theorem ep (c:Chains) (n:Int) (hG:B4 G) (hC:K1 G) (hs:r7 c) (hok:j6 c=0→OkC c):zP prog G 21 [M7 c,iv n] (.tup [B8 (kN c n) (kO c n),iv (A0 c n)]):=by
 refine zf func21 ntmps21 ?_
 try simp only[M7,iv]
 have c1:=mn c n hG hC hs
 by_cases hE:A0 c n=0
 ·have h0:j6 c=0:=by
   by_cases h:j6 c=0
   ·exact h
   ·simp[A0,h] at hE
  have hr:0≤n∧n<c.loops.length:=Classical.byContradiction fun h=>by simp[A0,h0,h] at hE
  obtain⟨k,rfl⟩:∃ k:Nat,n=k:=⟨n.toNat,by omega⟩
  have hk:k<c.loops.length:=by omega
  have h:=hok h0
  have hx:c.loops[k]?=some c.loops[k]:=by simp[hk]
  have c2:=iZ (G:=G) c (x6 c) k hk h
  obtain⟨hsl,hsd⟩:=dZ h hk
  have hln:=(h.gap c.loops[k] (List.getElem_mem hk)).1
  have c3:=nz (G:=G) c (x6 c) (B0 c.reg c.lets) k hk (H7 c c.loops[k]) (by omega) hsl hsd
  have h1:zR c (k:Int)=S9 c.loops[k].links (H7 c c.loops[k]) false:=by simp only[zR,Int.toNat_natCast,hx]
  have h2:zV c (k:Int)=S9 c.loops[k].links (H7 c c.loops[k]) true:=by simp only[zV,Int.toNat_natCast,hx]
  rw[← h1,← h2] at c3
  rw[hE] at c1
  simp only[H5,h0,if_true,i8] at c1
  rw[kN,kO,if_pos hE,if_pos hE]
  simp only[i8,S6,B8] at c2 c3
  have hs:=trivial
  repeat' first|(with_reducible first|refine zz ?_|refine zr ?_|refine zE [0,1,2,4,5,6,7,15] ?_)|simp -dsimp[hs]|refine zp c1 ?_|refine zp c2 ?_|refine zp c3 ?_|refine j7 ?_ ?_<;>intro h<;>try simp only[j0] at h
  all_goals try clear hs
  all_goals simp[hE]
 ·obtain⟨X,hX⟩:=F9 c
  rw[hX] at c1
  rw[kN,kO,if_neg hE,if_neg hE]
  have hs:=hE
  repeat' first|(with_reducible first|refine zz ?_|refine zr ?_|refine zE [0,1,2,4,5,6,7,15] ?_)|simp -dsimp[hs]|refine zp c1 ?_|refine j7 ?_ ?_<;>intro h<;>try simp only[j0] at h
  all_goals try clear hs
theorem lw (h1:Bool):∀ (q:List (Link×Dim)) (a b:Int),(∀ p∈q,A4 p.2=true)→a≤b→q.foldl (fun s p=>s+iP p.1 (L1 false p.1 p.2)) a≤q.foldl (fun s p=>s+iP p.1 (L1 true p.1 p.2)) b
 | [],a,b,_,h=>h
 | p :: q,a,b,hd,h=>by
   rw[List.foldl_cons,List.foldl_cons]
   refine lw h1 q _ _ (fun p hp=>hd p (by simp[hp])) ?_
   have hp:=(F8 _).1 (hd p (by simp))
   have:iP p.1 (L1 false p.1 p.2)≤iP p.1 (L1 true p.1 p.2):=by
    unfold iP L1
    cases p.1.back<;>simp<;>omega
   omega
theorem yi {ls:List Link} {l:List Dim} (hd:∀ d∈l,A4 d=true):S9 ls l false≤S9 ls l true:=
 lw true _ 0 0 (fun _ hp=>hd _ (List.of_mem_zip hp).2) (Int.le_refl _)
def BL (c:Chains) (n:Int):Int:=match c.loops[n.toNat]? with
 | some x=>if x.lo≤kN c n∧kO c n≤x.hi then 2 else if kO c n<x.lo∨x.hi<kN c n then 0 else 1
 | none=>0
def bb (c:Chains) (n:Int):Int:=if A0 c n=0 then BL c n else 0
def ue (n:Int):DV:=.one (.im (.raw (.int .u8 n)))
attribute [simp] ue
theorem Y1 {c:Chains} {n:Int} (h:A0 c n=0):j6 c=0∧∃ k:Nat,n=k∧k<c.loops.length:=by
 have h0:j6 c=0:=by
  by_cases h':j6 c=0
  ·exact h'
  ·simp[A0,h'] at h
 have hr:0≤n∧n<c.loops.length:=Classical.byContradiction fun h'=>by simp[A0,h0,h'] at h
 exact⟨h0,n.toNat,by omega,by omega⟩
theorem uB {c:Chains} {n:Int} (h:A0 c n=0) (hok:j6 c=0→OkC c):kN c n≤kO c n:=by
 obtain⟨h0,k,rfl,hk⟩:=Y1 h
 have hx:c.loops[k]?=some c.loops[k]:=by simp[hk]
 obtain⟨hsl,hsd⟩:=dZ (hok h0) hk
 rw[kN,kO,if_pos h,if_pos h]
 simp only[zR,zV,Int.toNat_natCast,hx]
 exact yi hsd
theorem sf (c:Chains) (n:Int) (hG:B4 G) (hC:K1 G) (hs:r7 c) (hok:j6 c=0→OkC c):zP prog G 29 [M7 c,iv n] (.tup [ue (bb c n),iv (A0 c n)]):=by
 refine zf func29 ntmps29 ?_
 try simp only[M7,iv]
 have c1:=ep c n hG hC hs hok
 by_cases hE:A0 c n=0
 ·have hle:=uB hE hok
  obtain⟨h0,k,rfl,hk⟩:=Y1 hE
  have hx:c.loops[k]?=some c.loops[k]:=by simp[hk]
  have hK:bb c (k:Int)=if c.loops[k].lo≤kN c (k:Int)∧kO c (k:Int)≤c.loops[k].hi then 2 else if kO c (k:Int)<c.loops[k].lo∨c.loops[k].hi<kN c (k:Int) then 0 else 1:=by simp only[bb,BL,Int.toNat_natCast,hx,if_pos hE]
  generalize kN c (k:Int)=a at *
  generalize kO c (k:Int)=b at *
  have c2:=N8 (G:=G) c.loops[k].lo c.loops[k].hi [a,b] (by simp)
  simp only[B8,hE] at c1
  by_cases hin:c.loops[k].lo≤a∧b≤c.loops[k].hi
  ·have hq:([a,b].all fun x=>decide (c.loops[k].lo≤x)&&decide (x≤c.loops[k].hi))=true:=by simp;omega
   rw[if_pos hin] at hK
   rw[hq] at c2
   have hs:=za hx hk
   repeat' first|(with_reducible first|refine zz ?_|refine zr ?_|refine zE [0,1,2,4,5,6,7,8,16,24,35] ?_)|simp -dsimp[hs]|refine zp c1 ?_|refine zt c2 ?_ ?_ ?_;(focus simp;done);focus (simp;done)|refine j7 ?_ ?_<;>intro h<;>try simp only[j0] at h
   all_goals try clear hs
   all_goals simp[hK,hE]
  ·have hq:([a,b].all fun x=>decide (c.loops[k].lo≤x)&&decide (x≤c.loops[k].hi))=false:=by simp;omega
   rw[if_neg hin] at hK
   rw[hq] at c2
   have hs:=za hx hk
   repeat' first|(with_reducible first|refine zz ?_|refine zr ?_|refine zE [0,1,2,4,5,6,7,8,16,24,35] ?_)|simp -dsimp[hs]|refine zp c1 ?_|refine zt c2 ?_ ?_ ?_;(focus simp;done);focus (simp;done)|refine j7 ?_ ?_<;>intro h<;>try simp only[j0] at h
   all_goals try clear hs
   all_goals first
    | (exfalso;omega)
    | (rw[if_pos (by omega)] at hK;simp[hK,hE];done)
    | (rw[if_neg (by omega)] at hK;simp[hK,hE])
 ·have hK:bb c n=0:=by simp[bb,hE]
  have hs:=hE
  repeat' first|(with_reducible first|refine zz ?_|refine zr ?_|refine zE [0,1,2,4,5,6,7,8,16,24,35] ?_)|simp -dsimp[hs]|refine zp c1 ?_|refine j7 ?_ ?_<;>intro h<;>try simp only[j0] at h
  all_goals try clear hs
  all_goals simp[hK]
end Go.Proofs
namespace Go.Proofs
open Go Go.Ab
theorem jo {l:List Issue} {lets:List Int} (h0:l8 l=0) (hlet:m4 l lets=true) {dep:Int→Int} (hdep:∀ n∈nums l,1≤dep n∧dep n≤6∧∀ c∈Y6 l n,c∈nums l∧dep c<dep n) :
 ∀ (k:Nat) (d m:Int),d∈nums l→∀ p∈p8 (i6 l lets) k d m,p.1∈nums l
 | 0,_,_,_,p,hp=>by cases hp
 | k+1,d,m,hd,p,hp=>by
   rw[p8] at hp
   split at hp
   ·rw[List.mem_singleton] at hp;rw[hp];exact hd
   ·obtain⟨y,hy,hp⟩:=List.mem_flatMap.1 hp
    have hc:=(hdep d hd).2.2 _ (aK h0 hlet hd y hy)
    exact jo h0 hlet hdep k _ _ hc.1 p hp
theorem lH {ns:List Int} (hnd:ns.Nodup):∀ (lv:List (Int×Int)) (m:List (Int×Int)),(∀ p∈lv,p.1∈ns)→fi ns (ns.map (l6 m)) lv=ns.map (l6 (fh m lv))
 | [],_,_=>rfl
 | p :: lv,m,h=>by
   have h1:=lH hnd lv (J3 p.1 (IntKind.i64.wrap (l6 m p.1+p.2)) m) fun q hq=>h q (by simp[hq])
   obtain⟨j,hj⟩:=List.mem_iff_getElem?.1 (h p (by simp))
   have he:tu ns (ns.map (l6 m)) p=ns.map (l6 (J3 p.1 (IntKind.i64.wrap (l6 m p.1+p.2)) m)):=by
    simp only[tu,du hnd hj,Int.toNat_natCast,List.getElem?_map,hj,Option.map_some,Option.getD_some]
    rw[jj hnd hj]
    refine List.map_congr_left fun n _=>?_
    rw[P1]
    by_cases e:n=p.1<;>simp[e]
   simp only[fi,fh,List.foldl_cons] at h1 ⊢
   rw[he];exact h1
theorem db (f:Int→Int):∀ ns:List Int,((ns.zip (ns.map f)).filter fun p=>decide (0<p.2)).map (fun p=>(⟨p.1,p.2⟩:Itm))=(ns.filter fun n=>decide (0<f n)).map fun n=>⟨n,f n⟩
 | []=>rfl
 | n :: ns=>by
   simp only[List.map_cons,List.zip_cons_cons,List.filter_cons]
   by_cases h:0<f n
   ·simp only[h,decide_true,if_true,List.map_cons,db f ns]
   ·simp only[h,decide_false,Bool.false_eq_true,if_false,db f ns]
theorem jc {l:List Issue} {lets:List Int} {d:Int} (h0:l8 l=0) (hlet:m4 l lets=true) (hd:d∈nums l):C9 l lets d=H2 (nums l) (gN l lets d):=by
 obtain⟨dep,hdep⟩:=eW h0
 have hnd:(nums l).Nodup:=(A5 h0).1.imp fun h=>Int.ne_of_lt h
 have h1:=lH hnd (p8 (i6 l lets) 6 d 1) [] (jo h0 hlet hdep 6 d 1 hd)
 have h2:(nums l).map (l6 [])=List.replicate (nums l).length 0:=gZ (fun _=>rfl) _
 rw[h2] at h1
 have h3:gO l lets d=(nums l).map (l6 (gN l lets d)):=h1
 rw[C9,h3,db];rfl
theorem jl:∀ (ps:List Itm) (m:List (Int×Int)) (d:Int),(ps.map (·.drawing)).Nodup→l6 (ps.foldl (fun m x=>J3 x.drawing x.count m) m) d=if d∈ps.map (·.drawing) then I7 ps d else l6 m d
 | [],m,d,_=>by simp
 | y :: ps,m,d,h=>by
   rw[List.map_cons,List.nodup_cons] at h
   rw[List.foldl_cons,jl ps _ d h.2,P1,I7]
   by_cases e:d=y.drawing
   ·subst e
    rw[if_neg h.1,if_pos rfl,if_pos (by simp),if_pos rfl]
   ·rw[if_neg e,if_neg (Ne.symm e)]
    by_cases hm:d∈ps.map (·.drawing)
    ·rw[if_pos hm,if_pos (by simp only[List.map_cons,List.mem_cons];exact .inr hm)]
    ·rw[if_neg hm,if_neg (by simp only[List.map_cons,List.mem_cons];exact fun h=>h.elim e hm)]
theorem Y5:∀ (ps:List Itm) (d:Int),d∉ps.map (·.drawing)→I7 ps d=0
 | [],_,_=>rfl
 | y :: ps,d,h=>by
   rw[List.map_cons,List.mem_cons,not_or] at h
   rw[I7,if_neg (Ne.symm h.1)];exact Y5 ps d h.2
def T1 (ls:List Link) (d:Int):Nat:=(ls.filter fun y=>decide (y.drawing=d)).length
theorem cL (y:Link) (r:List Link) (d:Int):T1 (y :: r) d=(if y.drawing=d then 1 else 0)+T1 r d:=by
 unfold T1
 by_cases h:y.drawing=d
 ·rw[List.filter_cons_of_pos (by simpa using h),if_pos h,List.length_cons];omega
 ·rw[List.filter_cons_of_neg (by simpa using h),if_neg h];omega
theorem fa {ls:List Link} {y:Link} (h:y∈ls):1≤T1 ls y.drawing:=
 List.length_pos_of_mem (List.mem_filter.2 ⟨h,by simp⟩)
theorem td {ls:List Link} {d:Int} (h:∀ y∈ls,y.drawing≠d):T1 ls d=0:=by
 unfold T1
 rw[List.filter_eq_nil_iff.2 fun y hy=>by simpa using h y hy];rfl
def re (B:List (Int×Issue)) (y:Link):Bool:=decide (0≤y.dim)&&decide (y.dim≤((m9 B y.drawing).dims.length:Int)-1)
theorem iC (D:List (Int×Int)) (B:List (Int×Issue)):∀ (r:List Link) (U:List (Int×Int)),R8 D B U r=true↔∀ y∈r,re B y=true∧l6 U y.drawing+T1 r y.drawing≤l6 D y.drawing
 | [],U=>by simp[R8]
 | y :: r,U=>by
   have ih:=iC D B r (J3 y.drawing (l6 U y.drawing+1) U)
   have hu:R8 D B U (y :: r)=(decide (l6 U y.drawing+1≤l6 D y.drawing)&&re B y&&R8 D B (J3 y.drawing (l6 U y.drawing+1) U) r):=rfl
   rw[hu,Bool.and_eq_true,Bool.and_eq_true,decide_eq_true_eq,ih]
   constructor
   ·rintro⟨⟨h1,h2⟩,h3⟩ z hz
    have key:∀ z∈r,re B z=true∧l6 U z.drawing+T1 (y :: r) z.drawing≤l6 D z.drawing:=fun z hz=>by
     obtain⟨a,b⟩:=h3 z hz
     rw[P1] at b
     rw[cL]
     refine⟨a,?_⟩
     by_cases e:z.drawing=y.drawing
     ·rw[if_pos e] at b;rw[if_pos e.symm];rw[e] at b ⊢;omega
     ·rw[if_neg e] at b;rw[if_neg (Ne.symm e)];omega
    rcases List.mem_cons.1 hz with rfl|hz
    ·refine⟨h2,?_⟩
     by_cases hex:∃ w∈r,w.drawing=z.drawing
     ·obtain⟨w,hw,e⟩:=hex
      have:=(key w hw).2
      rw[e] at this;exact this
     ·rw[cL,if_pos rfl,td fun w hw e=>hex ⟨w,hw,e⟩];omega
    ·exact key z hz
   ·intro h
    obtain⟨a,b⟩:=h y (by simp)
    rw[cL,if_pos rfl] at b
    refine⟨⟨by omega,a⟩,fun z hz=>?_⟩
    obtain⟨a',b'⟩:=h z (by simp[hz])
    refine⟨a',?_⟩
    rw[cL] at b'
    rw[P1]
    by_cases e:z.drawing=y.drawing
    ·rw[if_pos e.symm,e] at b';rw[if_pos e,e];omega
    ·rw[if_neg (Ne.symm e)] at b';rw[if_neg e];omega
def J4 (c:Chains) (ls:List Link) (y:Link):Bool:=decide ((T1 ls y.drawing:Int)≤I7 (C9 c.reg c.lets c.of) y.drawing)&&(decide (0≤y.dim)&&decide (y.dim≤((i6 c.reg c.lets y.drawing).dims.length:Int)-1))
def E1 (c:Chains) (x:ChLoop):Bool:=jI x&&jH x&&x.links.all (J4 c x.links)
theorem bP {c:Chains} {d:Int} (h0:l8 c.reg=0) (hlet:m4 c.reg c.lets=true) (hof:c.of∈nums c.reg) (hc:1≤I7 (C9 c.reg c.lets c.of) d):d∈nums c.reg:=by
 refine Classical.byContradiction fun hn=>?_
 rw[jc h0 hlet hof,Y5] at hc
 ·omega
 ·intro hm
  simp only[H2,List.map_map] at hm
  obtain⟨n,h1,h2⟩:=List.mem_map.1 hm
  simp only[Function.comp] at h2
  exact hn (h2 ▸ (List.mem_filter.1 h1).1)
theorem sq {c:Chains} (h0:l8 c.reg=0) (hlet:m4 c.reg c.lets=true) (hof:c.of∈nums c.reg) (x:ChLoop):K6 (x6 c) (B0 c.reg c.lets) x=E1 c x:=by
 have hnd:(nums c.reg).Nodup:=(A5 h0).1.imp fun h=>Int.ne_of_lt h
 have hT:A2 c.reg c.lets c.of=0:=by simp[A2,h0,hlet,hof]
 have hD:∀ d,l6 (x6 c) d=I7 (C9 c.reg c.lets c.of) d:=fun d=>by
  rw[jc h0 hlet hof]
  have hE:aD c.reg c.lets c.of=H2 (nums c.reg) (gN c.reg c.lets c.of):=by rw[aD,if_pos hT]
  have hn:((H2 (nums c.reg) (gN c.reg c.lets c.of)).map (·.drawing)).Nodup:=by
   simp only[H2,List.map_map]
   have:(fun x:Itm=>x.drawing) ∘ (fun n=>(⟨n,l6 (gN c.reg c.lets c.of) n⟩:Itm))=id:=rfl
   rw[this,List.map_id]
   exact hnd.filter _
  rw[x6,hE,jl _ _ _ hn]
  split
  ·rfl
  ·rw[Y5 _ _ ‹_›];rfl
 unfold K6 E1
 congr 1
 rw[Bool.eq_iff_iff,iC,List.all_eq_true]
 refine forall_congr' fun y=>forall_congr' fun hy=>?_
 simp only[J4,re,Bool.and_eq_true,decide_eq_true_eq,hD]
 have hp:=fa hy
 have hz:l6 [] y.drawing=0:=rfl
 constructor
 ·rintro⟨h1,h2⟩
  have hm:=bP (d:=y.drawing) h0 hlet hof (by omega)
  rw[B0,E9,if_pos hm] at h1
  exact⟨by omega,h1⟩
 ·rintro⟨h1,h2⟩
  have hm:=bP (d:=y.drawing) h0 hlet hof (by omega)
  rw[B0,E9,if_pos hm]
  exact⟨h2,by omega⟩
theorem J6 {c:Chains} (h0:l8 c.reg=0):j6 c=(if m4 c.reg c.lets=true∧c.of∈nums c.reg∧(1≤c.loops.length∧c.loops.length≤6)∧c.loops.all (E1 c)=true then 0 else 60):=by
 unfold j6
 rw[if_neg (by simp[h0])]
 by_cases hlet:m4 c.reg c.lets=true
 ·by_cases hof:c.of∈nums c.reg
  ·have hT:A2 c.reg c.lets c.of=0:=by simp[A2,h0,hlet,hof]
   have hL:c.loops.all (K6 (x6 c) (B0 c.reg c.lets))=c.loops.all (E1 c):=by
    congr 1;exact funext fun x=>sq h0 hlet hof x
   rw[hL]
   by_cases hn:1≤c.loops.length∧c.loops.length≤6
   ·rw[if_neg (by simp[hT];omega)]
    by_cases ha:c.loops.all (E1 c)=true
    ·rw[if_pos ha,if_pos ⟨hlet,hof,hn,ha⟩]
    ·rw[if_neg ha,if_neg fun h=>ha h.2.2.2]
   ·rw[if_pos (.inr hn),if_neg fun h=>hn h.2.2.1]
  ·have hT:A2 c.reg c.lets c.of≠0:=by simp[A2,h0,hlet,hof]
   rw[if_pos (.inl hT),if_neg fun h=>hof h.2.1]
 ·have hT:A2 c.reg c.lets c.of≠0:=by
   have:m4 c.reg c.lets=false:=by simpa using hlet
   simp[A2,h0,this]
  rw[if_pos (.inl hT),if_neg fun h=>hlet h.1]
theorem mV {c:Chains} (h:j6 c=0):OkC c:=by
 have h0:l8 c.reg=0:=Classical.byContradiction fun h'=>by simp[j6,h'] at h
 rw[J6 h0] at h
 split at h
 ·rename_i hc
  obtain⟨a,b,d,e⟩:=hc
  rw[List.all_eq_true] at e
  refine⟨h0,a,b,d,fun x hx=>?_,fun x hx y hy=>?_⟩
  ·have:=e x hx
   simp only[E1,jI,Bool.and_eq_true,decide_eq_true_eq] at this
   exact⟨this.1.1.2,this.1.2⟩
  ·have:=e x hx
   simp only[E1,Bool.and_eq_true,List.all_eq_true] at this
   have:=this.2 y hy
   simp only[J4,Bool.and_eq_true,decide_eq_true_eq] at this
   have hp:=fa hy
   exact⟨bP h0 a b (by omega),this.2.1,by omega⟩
 ·cases h
open Go Go.Ab Tryz
variable {G:Cr}
def E4 (c:Chains):Bool:=m4 c.reg c.lets&&decide (c.of∈nums c.reg)&&decide (1≤c.loops.length∧c.loops.length≤6)&&c.loops.all (E1 c)
theorem rV (c:Chains) (hs:r7 c) (h0:l8 c.reg=0):zP prog G 81 [M7 c] (bv (E4 c)):=by
 refine zf func81 ntmps81 ?_
 try simp only[M7]
 have hck:=h0
 obtain⟨hsr,hsl,hso,hsk⟩:=hs
 have hreg:=hsr.1
 have hnl:(nums c.reg).length≤c.reg.length:=o5 c.reg c.reg.length
 have c1:=ss (G:=G) c.reg c.lets (by omega) (by omega)
 have c2:=J1 (G:=G) c.reg (by omega)
 have c3:=cD (G:=G) (nums c.reg) c.of (by omega)
 have c4:=fp (G:=G) (c.loops.length:Int) 1 6
 have him:=qY (nums c.reg) c.of
 by_cases hlet:m4 c.reg c.lets=true
 ·by_cases hof:c.of∈nums c.reg
  ·by_cases hn:1≤c.loops.length∧c.loops.length≤6
   ·have hE:E4 c=c.loops.all (E1 c):=by simp[E4,hlet,hof,hn]
    have hd:(decide ((1:Int)≤(c.loops.length:Int))&&decide ((c.loops.length:Int)≤6))=true:=by simp;omega
    have hll:c.lets.length=(nums c.reg).length:=by
     simp only[m4,Bool.and_eq_true,decide_eq_true_eq] at hlet;exact hlet.1
    have hz:¬ idx (nums c.reg) c.of<0:=fun h=>him.1 h hof
    rw[hlet] at c1
    rw[hd] at c4
    have c5:=uH (G:=G) c.reg c.lets c.of (by omega) h0 hlet hof
    have hs:=hz
    repeat' first|with_reducible refine zz ?_|simp -dsimp[hs]|refine zq c1 ?_|refine zq c2 ?_|refine zq c3 ?_|refine zq c4 ?_|refine zp c5 ?_|refine zM 1 125 22 [0,1,2,3,4,5,6,7,8,9,31,43,72,77,89,100,124] ?_|with_reducible refine zE [0,1,2,3,4,5,6,7,8,9,31,43,72,77,89,100,124] ?_|refine j7 ?_ ?_<;>intro h<;>try simp only[j0] at h
    all_goals try clear hs
    have hpl:(C9 c.reg c.lets c.of).length≤80:=by
     have:=List.length_filter_le (fun p:Int×Int=>decide (0<p.2)) ((nums c.reg).zip (gO c.reg c.lets c.of))
     simp only[C9,List.length_map,List.length_zip] at *;omega
    have hpm:=fun d (hd:1≤I7 (C9 c.reg c.lets c.of) d)=>bP h0 hlet hof hd
    have hlkE:∀ ls y,J4 c ls y=(decide ((T1 ls y.drawing:Int)≤I7 (C9 c.reg c.lets c.of) y.drawing)&&(decide (0≤y.dim)&&decide (y.dim≤((i6 c.reg c.lets y.drawing).dims.length:Int)-1))):=fun _ _=>rfl
    generalize C9 c.reg c.lets c.of=ps at *
    refine i7 (ι:={ j:Nat // j≤c.loops.length∧c.loops.all (E1 c)=(c.loops.drop j).all (E1 c) }) (fun p=>⟨125,[(1,.one (.ptr 0 0)),(2,bv false),(3,.one (.im (.sl (ps.map n7)))),(4,iv (p.1:Int))],[.row ((u7 c).map .im)]⟩) (fun p=>c.loops.length-p.1) ⟨0,by simp⟩ (zv [1,2,3,4]) ?_
    rintro⟨j,hj,hall⟩
    simp only[iv,bv]
    by_cases hlj:j<c.loops.length
    ·have hx:c.loops[j]?=some c.loops[j]:=by simp[hlj]
     have hw:=zk j
     have hst:=R7 hlj hall
     have hlx:E1 c c.loops[j]=(jI c.loops[j]&&jH c.loops[j]&&c.loops[j].links.all (J4 c c.loops[j].links)):=rfl
     have h12:(jI c.loops[j]&&jH c.loops[j])=true↔1≤c.loops[j].links.length∧c.loops[j].links.length≤8∧-8000000000≤c.loops[j].lo∧c.loops[j].lo≤8000000000∧c.loops[j].lo≤c.loops[j].hi∧c.loops[j].hi≤8000000000:=by
      rw[Bool.and_eq_true,oh]
      simp only[jI,Bool.and_eq_true,decide_eq_true_eq];omega
     generalize hA:(jI c.loops[j]&&jH c.loops[j])=A at h12 hlx
     generalize hxe:c.loops[j]=x at *
     have hs:=za hx (za hlj hxe)
     repeat' first|(with_reducible first|refine zz ?_|refine zr ?_|refine zE [0,1,2,3,4,5,6,7,8,9,31,43,72,77,89,100,124] ?_)|simp -dsimp[hs]|refine zp (fp (G:=G) _ _ _) ?_|refine j7 ?_ ?_<;>intro h<;>try simp only[j0] at h|with_reducible refine l9 ?_ ?_<;>intro h<;>have h0:=h<;>(try simp only[j0] at h)<;>have h2:=h<;>(try simp at h2)<;>replace hs:=za h0 (za h (za h2 hs))
     all_goals try clear hs
     all_goals first
      | (have hA2 : A = false := aC h12 (by clear h12 hw; omega)
         rw[hE,r5 hst (by rw[hlx,hA2];exact Bool.false_ne_true)];done)
      | skip
     have hA2:A=true:=qB h12 (by clear h12 hw;omega)
     rw[hA2,Bool.true_and] at hlx
     have hx8:x.links.length≤8:=(h12.1 hA2).2.1
     clear h12
     refine i7 (ι:={ u:Nat // u≤x.links.length∧x.links.all (J4 c x.links)=(x.links.drop u).all (J4 c x.links) }) (fun p=>⟨125,[(1,.one (.ptr 0 0)),(2,bv false),(3,.one (.im (.sl (ps.map n7)))),(4,iv (j:Int)),(5,.one (.ptr 2 0)),(6,iv (p.1:Int))],[.row ((u7 c).map .im),.vec 0 [] 0 true,.row ((j9 x).map .im)]⟩) (fun p=>x.links.length-p.1) ⟨0,by simp⟩ (zv [1,2,3,4,5,6]) ?_
     rintro⟨u,hu,hal2⟩
     simp only[iv,bv]
     by_cases hlu:u<x.links.length
     ·have hy:x.links[u]?=some x.links[u]:=by simp[hlu]
      have hw2:=zk u
      have hst2:=R7 hlu hal2
      have hcp:=fa (List.getElem_mem hlu)
      have hle:=hlkE x.links x.links[u]
      generalize hye:x.links[u]=y at *
      have hs:=za hy (za hlu hye)
      repeat' first|(with_reducible first|refine zz ?_|refine zE [0,1,2,3,4,5,6,7,8,9,31,43,72,77,89,100,124] ?_)|simp -dsimp[hs]|refine j7 ?_ ?_<;>intro h<;>try simp only[j0] at h
      all_goals try clear hs
      refine i7 (ι:={ i:Nat // i≤x.links.length }) (fun p=>⟨125,[(1,.one (.ptr 0 0)),(2,bv false),(3,.one (.im (.sl (ps.map n7)))),(4,iv (j:Int)),(5,.one (.ptr 2 0)),(6,iv (u:Int)),(7,.one (.ptr 3 0)),(8,iv (T1 (x.links.take p.1) y.drawing:Int)),(9,iv (p.1:Int))],[.row ((u7 c).map .im),.vec 0 [] 0 true,.row ((j9 x).map .im),.row ((C5 y).map .im)]⟩) (fun p=>x.links.length-p.1) ⟨0,by omega⟩ (zv [1,2,3,4,5,6,7,8,9] (by simp[T1])) ?_
      rintro⟨i,hi⟩
      simp only[iv,bv]
      by_cases hli:i<x.links.length
      ·have hz:x.links[i]?=some x.links[i]:=by simp[hli]
       have hw3:=zk i
       have hcl:T1 (x.links.take i) y.drawing≤i:=by
        unfold T1
        have:=List.length_filter_le (fun z:Link=>decide (z.drawing=y.drawing)) (x.links.take i)
        rw[List.length_take] at this;omega
       have hw4:IntKind.i64.wrap ((T1 (x.links.take i) y.drawing:Int)+1)=(T1 (x.links.take i) y.drawing:Int)+1:=o6 (by omega) (by omega)
       have hcn:T1 (x.links.take (i+1)) y.drawing=T1 (x.links.take i) y.drawing+if x.links[i].drawing=y.drawing then 1 else 0:=by
        rw[List.take_succ_eq_append_getElem hli]
        unfold T1
        rw[List.filter_append,List.length_append]
        congr 1
        by_cases h:x.links[i].drawing=y.drawing<;>simp[h]
       have hs:=za hz (za hli (za hw3 hw4))
       repeat' first|with_reducible refine zz ?_|simp -dsimp[hs]|refine zM 18 125 9 [0,1,2,3,4,5,6,7,8,9,31,43,72,77,89,100,124] ?_|with_reducible refine zE [0,1,2,3,4,5,6,7,8,9,31,43,72,77,89,100,124] ?_|refine j7 ?_ ?_<;>intro h<;>try simp only[j0] at h
       all_goals try clear hs
       ·have hcn':(T1 (x.links.take (i+1)) y.drawing:Int)=(T1 (x.links.take i) y.drawing:Int)+1:=by rw[hcn,if_pos ‹_›];rfl
        exact zn ⟨i+1,by omega⟩ (zv [1,2,3,4,5,6,7,8,9] (by simp[hcn']))
       ·have hcn':T1 (x.links.take (i+1)) y.drawing=T1 (x.links.take i) y.drawing:=by rw[hcn,if_neg ‹_›];rfl
        exact zn ⟨i+1,by omega⟩ (zv [1,2,3,4,5,6,7,8,9] (by simp[hcn']))
      ·have hti:x.links.take i=x.links:=List.take_of_length_le (by omega)
       rw[hti]
       have k1:=xB (G:=G) ps y.drawing (by omega)
       by_cases hgt:I7 ps y.drawing<(T1 x.links y.drawing:Int)
       ·have hf:J4 c x.links y=false:=by rw[hle,decide_eq_false (by omega)];rfl
        have hs:=za hli hgt
        repeat' first|(with_reducible first|refine zz ?_|refine zr ?_)|simp -dsimp[hs]|refine zq k1 ?_|refine zM 20 125 22 [0,1,2,3,4,5,6,7,8,9,31,43,72,77,89,100,124] ?_|with_reducible refine zE [0,1,2,3,4,5,6,7,8,9,31,43,72,77,89,100,124] ?_|refine j7 ?_ ?_<;>intro h<;>try simp only[j0] at h
        all_goals try clear hs
        rw[hE,r5 hst (by rw[hlx,r5 hst2 (by rw[hf];exact Bool.false_ne_true)];exact Bool.false_ne_true)]
       ·have hym:=hpm y.drawing (by omega)
        have k2:=gT (G:=G) c.reg c.lets y.drawing (by omega) hym hll
        rw[decide_eq_true (by omega),Bool.true_and] at hle
        have htb:(i6 c.reg c.lets y.drawing).dims.length<1000000:=by
         obtain⟨hm,_⟩:=B2 hck hlet hym
         have:=(hsr.2 _ hm).2.2.2;omega
        generalize i6 c.reg c.lets y.drawing=t at *
        have hwd:IntKind.i64.wrap ((t.dims.length:Int)-1)=(t.dims.length:Int)-1:=o6 (by omega) (by omega)
        have k3:=fp (G:=G) y.dim 0 ((t.dims.length:Int)-1)
        rw[← hle] at k3
        cases hq:J4 c x.links y
        ·rw[hq] at k3
         have hs:=za hli (za hgt hwd)
         repeat' first|(with_reducible first|refine zz ?_|refine zr ?_)|simp -dsimp[hs]|refine zq k1 ?_|refine zq k2 ?_|refine zq k3 ?_|refine zM 20 125 22 [0,1,2,3,4,5,6,7,8,9,31,43,72,77,89,100,124] ?_|with_reducible refine zE [0,1,2,3,4,5,6,7,8,9,31,43,72,77,89,100,124] ?_|refine j7 ?_ ?_<;>intro h<;>try simp only[j0] at h
         all_goals try clear hs
         rw[hE,r5 hst (by rw[hlx,r5 hst2 (by rw[hq];exact Bool.false_ne_true)];exact Bool.false_ne_true)]
        ·rw[hq] at k3
         have hs:=za hli (za hgt (za hwd hw2))
         repeat' first|with_reducible refine zz ?_|simp -dsimp[hs]|refine zq k1 ?_|refine zq k2 ?_|refine zq k3 ?_|refine zM 20 125 22 [0,1,2,3,4,5,6,7,8,9,31,43,72,77,89,100,124] ?_|with_reducible refine zE [0,1,2,3,4,5,6,7,8,9,31,43,72,77,89,100,124] ?_|refine j7 ?_ ?_<;>intro h<;>try simp only[j0] at h
         all_goals try clear hs
         exact zn ⟨u+1,by omega,B5 hst2 hq⟩ (zw [1,2,3,4,5,6] 3)
     ·have hok:x.links.all (J4 c x.links)=true:=by rw[hal2,List.drop_eq_nil_of_le (by omega)];rfl
      have hs:=za hlu hw
      repeat' first|(with_reducible first|refine zz ?_|refine zE [0,1,2,3,4,5,6,7,8,9,31,43,72,77,89,100,124] ?_)|simp -dsimp[hs]|refine j7 ?_ ?_<;>intro h<;>try simp only[j0] at h
      all_goals try clear hs
      exact zn ⟨j+1,by omega,B5 hst (by rw[hlx,hok])⟩ (zw [1,2,3,4] 1)
    ·have hok:c.loops.all (E1 c)=true:=by rw[hall,List.drop_eq_nil_of_le (by omega)];rfl
     have hs:=hlj
     repeat' first|(with_reducible first|refine zz ?_|refine zr ?_|refine zE [0,1,2,3,4,5,6,7,8,9,31,43,72,77,89,100,124] ?_)|simp -dsimp[hs]|refine j7 ?_ ?_<;>intro h<;>try simp only[j0] at h
     all_goals try clear hs
     rw[hE,hok]
   ·have hd:(decide ((1:Int)≤(c.loops.length:Int))&&decide ((c.loops.length:Int)≤6))=false:=by simp;omega
    have hE:E4 c=false:=by simp[E4,hn]
    have hz:¬ idx (nums c.reg) c.of<0:=fun h=>him.1 h hof
    rw[hlet] at c1
    rw[hd] at c4
    have hs:=hz
    repeat' first|(with_reducible first|refine zz ?_|refine zr ?_)|simp -dsimp[hs]|refine zq c1 ?_|refine zq c2 ?_|refine zq c3 ?_|refine zq c4 ?_|refine zM 1 125 22 [0,1,2,3,4,5,6,7,8,9,31,43,72,77,89,100,124] ?_|with_reducible refine zE [0,1,2,3,4,5,6,7,8,9,31,43,72,77,89,100,124] ?_|refine j7 ?_ ?_<;>intro h<;>try simp only[j0] at h
    all_goals try clear hs
    rw[hE]
  ·have hE:E4 c=false:=by simp[E4,hof]
   have hz:idx (nums c.reg) c.of<0:=him.2 hof
   rw[hlet] at c1
   have hs:=hz
   repeat' first|(with_reducible first|refine zz ?_|refine zr ?_)|simp -dsimp[hs]|refine zq c1 ?_|refine zq c2 ?_|refine zq c3 ?_|refine zM 1 125 22 [0,1,2,3,4,5,6,7,8,9,31,43,72,77,89,100,124] ?_|with_reducible refine zE [0,1,2,3,4,5,6,7,8,9,31,43,72,77,89,100,124] ?_|refine j7 ?_ ?_<;>intro h<;>try simp only[j0] at h
   all_goals try clear hs
   rw[hE]
 ·have hlet':m4 c.reg c.lets=false:=by simpa using hlet
  have hE:E4 c=false:=by simp[E4,hlet']
  rw[hlet'] at c1
  have hs:=trivial
  repeat' first|(with_reducible first|refine zz ?_|refine zr ?_)|simp -dsimp[hs]|refine zq c1 ?_|refine zM 1 125 22 [0,1,2,3,4,5,6,7,8,9,31,43,72,77,89,100,124] ?_|with_reducible refine zE [0,1,2,3,4,5,6,7,8,9,31,43,72,77,89,100,124] ?_|refine j7 ?_ ?_<;>intro h<;>try simp only[j0] at h
  all_goals try clear hs
  rw[hE]
theorem mM {c:Chains} (h0:l8 c.reg=0):j6 c=if E4 c then 0 else 60:=by
 rw[J6 h0]
 have:(E4 c=true)=(m4 c.reg c.lets=true∧c.of∈nums c.reg∧(1≤c.loops.length∧c.loops.length≤6)∧c.loops.all (E1 c)=true):=by
  simp only[E4,Bool.and_eq_true,decide_eq_true_eq,and_assoc]
 by_cases h:E4 c=true
 ·rw[if_pos h,if_pos (this ▸ h)]
 ·rw[if_neg h,if_neg (this ▸ h)]
theorem pp (c:Chains) (hs:r7 c):zP prog G 37 [M7 c] (iv (j6 c)):=by
 refine zf func37 ntmps37 ?_
 try simp only[M7]
 have c1:=uE (G:=G) c.reg hs.1
 by_cases hck:l8 c.reg=0
 ·have c2:=rV (G:=G) c hs hck
  have hE:=mM hck
  rw[hck] at c1
  cases hq:E4 c
  ·rw[hq] at c2 hE
   have hs:=trivial
   repeat' first|(with_reducible first|refine zz ?_|refine zr ?_|refine zE [0,1,2,3,8,12] ?_)|simp -dsimp[hs]|refine zp c1 ?_|refine zp c2 ?_|refine j7 ?_ ?_<;>intro h<;>try simp only[j0] at h
   all_goals try clear hs
   simp[hE]
  ·rw[hq] at c2 hE
   have hs:=trivial
   repeat' first|(with_reducible first|refine zz ?_|refine zr ?_|refine zE [0,1,2,3,8,12] ?_)|simp -dsimp[hs]|refine zp c1 ?_|refine zp c2 ?_|refine j7 ?_ ?_<;>intro h<;>try simp only[j0] at h
   all_goals try clear hs
   simp[hE]
 ·have hE:j6 c=l8 c.reg:=by simp[j6,hck]
  have hs:=hck
  repeat' first|(with_reducible first|refine zz ?_|refine zr ?_|refine zE [0,1,2,3,8,12] ?_)|simp -dsimp[hs]|refine zp c1 ?_|refine j7 ?_ ?_<;>intro h<;>try simp only[j0] at h
  all_goals try clear hs
  simp[hE]
end Go.Proofs
