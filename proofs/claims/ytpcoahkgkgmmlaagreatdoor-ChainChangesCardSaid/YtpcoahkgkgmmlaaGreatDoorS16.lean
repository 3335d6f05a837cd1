/- Part 16 of the proofs. -/
import Derived.Test.YtpcoahkgkgmmlaaGreatDoorS15
set_option linter.all false
set_option linter.deprecated false
set_option maxHeartbeats 100000000
namespace Go.Proofs
open Go Go.Ab Tryz
variable {G:Es}
def je (m:List (Int×Int)) (lv:List (Int×Int)):List (Int×Int):=lv.foldl (fun m p=>N1 p.1 (IntKind.i64.wrap (n7 m p.1+p.2)) m) m
def gh (by':List (Int×Issue)) (cnt:List (Int×Int)):List DObj:=[.row [.im (.mp [.int .i64] (ai by'))],.map [.int .i64] (N2 cnt),.row [.map 1],.row [.fn (.func 125) [.ptr 0 0,.ptr 2 0,.ptr 3 0]]]
theorem qQ (l:List Issue) (lets:List Int) (h0:o6 l=0) (hlet:o5 l lets=true) (dep:Int→Int) (hdep:∀ n∈nums l,1≤dep n∧dep n≤6∧∀ c∈aN l n,c∈nums l∧dep c<dep n) :
 ∀ (k:Nat) (d m:Int) (cnt:List (Int×Int)),d∈nums l→dep d≤k →
  DCall prog G 125 [iv d,iv m,.one (.ptr 0 0),.one (.ptr 2 0),.one (.ptr 3 0)] (gh (C9 l lets) cnt)
   (fun r o=>r=.tup []∧o=gh (C9 l lets) (je cnt (C6 (j8 l lets) k d m))):=by
 intro k
 induction k with
 | zero=>intro d m C hd hk;have:=(hdep d hd).1;omega
 | succ k ih =>
   intro d m cnt hd hk
   have hti:=eJ h0 hlet hd
   obtain⟨htm,_,_⟩:=A7 h0 hlet hd
   have htok:=(F1 (x6 (r9 h0))).2.2.2.1 _ htm
   have hsm:=aY htok
   have hkd:(j8 l lets d).kind=1∨(2≤(j8 l lets d).kind∧(j8 l lets d).items.length=0):=by
    simp only[o8,Bool.and_assoc] at htok
    rw[← Bool.and_assoc,Bool.and_eq_true] at htok
    have:=(bF _).1 htok.1;omega
   have hch:=(hdep d hd).2.2
   have hE:C6 (j8 l lets) (k+1) d m=if 1<(j8 l lets d).kind then [(d,m)] else (j8 l lets d).items.flatMap fun y=>C6 (j8 l lets) k y.drawing (IntKind.i64.wrap (m*y.count)):=rfl
   have hlook:p4 (C9 l lets) d=j8 l lets d:=by rw[C9,F9,if_pos hd]
   generalize j8 l lets d=x at *
   refine DCall.drop ?_
   refine l5 func125 rfl ntmps125 (by simp) rfl ?_
   simp only[gh,iv]
   by_cases hkind:x.kind=1
   ·rw[if_neg (by omega)] at hE
    have hs:=za hlook hkind
    repeat' first|(with_reducible first|refine zz ?_|refine zE [0,1,2,3,4,7,9,15,22,23,24,25] ?_)|simp -dsimp[hs]|refine m5 ?_ ?_<;>intro h<;>try simp only[l8] at h
    refine j7 (ι:={ p:Nat×List (Int×Int) // p.1≤x.items.length∧je cnt (x.items.flatMap fun y=>C6 (j8 l lets) k y.drawing (IntKind.i64.wrap (m*y.count)))=je p.2 ((x.items.drop p.1).flatMap fun y=>C6 (j8 l lets) k y.drawing (IntKind.i64.wrap (m*y.count))) }) (fun p=>⟨37,[(1,iv m),(2,.one (.ptr 0 0)),(3,.one (.ptr 2 0)),(4,.one (.ptr 3 0)),(22,.one (.im (.sl (x.items.map l7)))),(23,iv (x.items.length:Int)),(24,iv (p.1.1:Int))],gh (C9 l lets) p.1.2⟩) (fun p=>x.items.length-p.1.1) ⟨(0,cnt),by simp⟩ (zw [1,2,3,4,22,23,24] 4 (by simp[gh])) ?_
    rintro⟨⟨u,cnt'⟩,hu,hadd⟩
    simp only at hu hadd
    simp only[iv,gh]
    by_cases hlt:u<x.items.length
    ·have hx:x.items[u]?=some x.items[u]:=by simp[hlt]
     have hw:=zk u
     have hc:=hch _ (hti x.items[u] (List.getElem_mem hlt))
     have hrec:=ih x.items[u].drawing (IntKind.i64.wrap (m*x.items[u].count)) cnt' hc.1 (by omega)
     rw[List.drop_eq_getElem_cons hlt,List.flatMap_cons,je,je,List.foldl_append] at hadd
     simp only[iv,gh] at hrec
     have hs:=za hx (za hw hlt)
     repeat' first|(with_reducible first|refine zz ?_|refine zE [0,1,2,3,4,7,9,15,22,23,24,25] ?_)|simp -dsimp[hs]|refine CallE.embed [0,1,2,3] (hrec) ?_ ?_ ?_ ?_ ?_ ?_;(focus simp[C4];done);(focus simp;done);(focus simp;done);(focus simp;done);(focus refine A3 ?_;simp[C4,B7];done);try simp -dsimp[s8,C4,hs]|refine m5 ?_ ?_<;>intro h<;>try simp only[l8] at h
     exact zn ⟨(u+1,je cnt' (C6 (j8 l lets) k x.items[u].drawing (IntKind.i64.wrap (m*x.items[u].count)))),by omega,hadd⟩ (zw [1,2,3,4,22,23,24] 4 (by simp[gh]))
    ·rw[List.drop_eq_nil_of_le (by omega)] at hadd
     have hs:=hlt
     repeat' first|(with_reducible first|refine zz ?_|refine ze ?_|refine zE [0,1,2,3,4,7,9,15,22,23,24,25] ?_)|simp -dsimp[hs]|refine m5 ?_ ?_<;>intro h<;>try simp only[l8] at h|with_reducible refine And.intro ?_ ?_
     rw[hE,hadd];simp[gh,je]
   ·rw[if_pos (by omega)] at hE
    have hz:x.items.length=0:=by omega
    have hs:=za hlook (za hkind hz)
    repeat' first|(with_reducible first|refine zz ?_|refine zE [0,1,2,3,4,7,9,15,22,23,24,25] ?_)|simp -dsimp[hs]|refine m5 ?_ ?_<;>intro h<;>try simp only[l8] at h
    refine j7 (ι:=Unit) (fun _=>⟨37,[(23,iv 0),(24,iv 0)],gh (C9 l lets) (je cnt [(d,m)])⟩) (fun _=>0) () (zw [23,24] 4 (by simp[gh,je])) ?_
    intro _
    simp only[iv,gh]
    have hs:=trivial
    repeat' first|(with_reducible first|refine zz ?_|refine ze ?_|refine zE [0,1,2,3,4,7,9,15,22,23,24,25] ?_)|simp -dsimp[hs]|refine m5 ?_ ?_<;>intro h<;>try simp only[l8] at h|with_reducible refine And.intro ?_ ?_
    rw[hE]
def bE (l:List Issue) (lets:List Int) (d:Int):List (Int×Int):=je [] (C6 (j8 l lets) 6 d 1)
def F3 (ns:List Int) (m:List (Int×Int)):List Itm:=(ns.filter fun n=>decide (0<n7 m n)).map fun n=>⟨n,n7 m n⟩
def Q8 (l:List Issue) (lets:List Int) (d:Int):List Itm:=if B3 l lets d=0 then F3 (nums l) (bE l lets d) else []
theorem ub (l:List Issue) (lets:List Int) (d:Int) (hG:I6 G) (hs:W9 l) (hll:lets.length<1000000):zP prog G 83 [C8 l,H0 lets,iv d] (.tup [.one (.im (.sl ((Q8 l lets d).map l7))),iv (B3 l lets d)]):=by
 refine zf func83 ntmps83 ?_
 try simp only[C8,H0,iv]
 have c1:=vB (G:=G) l lets d hG hs hll
 by_cases hE:B3 l lets d=0
 ·have h0:o6 l=0:=by
   by_cases h:o6 l=0
   ·exact h
   ·simp[B3,h] at hE
  have hlet:o5 l lets=true:=by
   cases h:o5 l lets
   ·simp[B3,h0,h] at hE
   ·rfl
  have hd:d∈nums l:=Classical.byContradiction fun h=>by simp[B3,h0,hlet,h] at hE
  obtain⟨dep,hdep⟩:=kN h0
  have c2:=qQ (G:=G) l lets h0 hlet dep hdep 6 d 1 [] hd (by have:=(hdep d hd).2.1;omega)
  have hR:Q8 l lets d=F3 (nums l) (bE l lets d):=by simp[Q8,hE]
  have hnl:(nums l).length≤l.length:=p8 l l.length
  have hl80:=hs.1
  change DCall _ _ _ _ _ (fun r o=>r=.tup []∧o=gh (C9 l lets) (bE l lets d)) at c2
  generalize bE l lets d=cnt at *
  simp only[aR,hE,if_true,A2] at c1
  simp only[iv,gh,show N2 []=[] from rfl] at c2
  generalize nums l=ns at *
  have hs:=trivial
  repeat' first|(with_reducible first|refine zz ?_|refine zE [0,1,2,3,6,7,8,9,10,11,12,13,15,25,35,36,37,38,44] ?_)|simp -dsimp[hs]|refine zp c1 ?_|refine CallE.embed [2,3,4,5] (c2) ?_ ?_ ?_ ?_ ?_ ?_;(focus simp[C4];done);(focus simp;done);(focus simp;done);(focus simp;done);(focus refine A3 ?_;simp[C4,B7];done);try simp -dsimp[s8,C4,hs]|refine m5 ?_ ?_<;>intro h<;>try simp only[l8] at h
  all_goals try clear hs
  refine j7 (ι:={ p:Nat×Nat×Bool×List Itm // p.1≤ns.length∧p.2.2.2.length≤p.1∧F3 ns cnt=p.2.2.2++F3 (ns.drop p.1) cnt }) (fun p=>⟨55,[(11,.one (.ptr 4 0)),(13,.one (.vec 6 p.1.2.1 0 p.1.2.2.2.length)),(35,H0 ns),(36,iv (ns.length:Int)),(37,iv (p.1.1:Int))],[.row [.im (.sl (l.map j0))],.vec 2 [] 0 true,.row [.im (.mp [.int .i64] (ai (C9 l lets)))],.map [.int .i64] (N2 cnt),.row [.map 3],.row [.fn (.func 125) [.ptr 2 0,.ptr 4 0,.ptr 5 0]],.vec 2 (o7 (p.1.2.2.2.map l7)) p.1.2.1 p.1.2.2.1]⟩) (fun p=>ns.length-p.1.1) ⟨(0,0,true,[]),by simp⟩ (zv [11,13,35,36,37]) ?_
  rintro⟨⟨k,g,nl,out⟩,hk,hol,hp⟩
  simp only at hk hol hp
  simp only[iv,H0]
  by_cases hlt:k<ns.length
  ·have hx:ns[k]?=some ns[k]:=by simp[hlt]
   have hw:=zk k
   rw[List.drop_eq_getElem_cons hlt] at hp
   by_cases hpos:0<n7 cnt ns[k]
   ·rw[F3,F3,List.filter_cons_of_pos (by simpa using hpos),List.map_cons] at hp
    have hs:=za hx (za hw (za hlt hpos))
    repeat' first|(with_reducible first|refine zz ?_|refine And.intro (by omega) ?_|refine zE [0,1,2,3,6,7,8,9,10,11,12,13,15,25,35,36,37,38,44] ?_)|simp -dsimp[hs]|refine m5 ?_ ?_<;>intro h<;>try simp only[l8] at h
    all_goals try clear hs
    all_goals try omega
    exact zn ⟨(k+1,g+1,false,out++[⟨ns[k],n7 cnt ns[k]⟩]),by omega,by simp;omega,by rw[F3,hp,F3];simp⟩ (zw [11,13,35,36,37] 7)
   ·rw[F3,F3,List.filter_cons_of_neg (by simpa using hpos)] at hp
    have hs:=za hx (za hw (za hlt hpos))
    repeat' first|(with_reducible first|refine zz ?_|refine zE [0,1,2,3,6,7,8,9,10,11,12,13,15,25,35,36,37,38,44] ?_)|simp -dsimp[hs]|refine m5 ?_ ?_<;>intro h<;>try simp only[l8] at h
    all_goals try clear hs
    exact zn ⟨(k+1,g,nl,out),by omega,by show out.length≤k+1;omega,hp⟩ (zv [11,13,35,36,37])
  ·rw[List.drop_eq_nil_of_le (by omega)] at hp
   have hs:=hlt
   repeat' first|(with_reducible first|refine zz ?_|refine zr ?_|refine zE [0,1,2,3,6,7,8,9,10,11,12,13,15,25,35,36,37,38,44] ?_)|simp -dsimp[hs]|refine m5 ?_ ?_<;>intro h<;>try simp only[l8] at h
   all_goals try clear hs
   all_goals try omega
   rw[hR,hp];simp[F3,hE]
 ·have hR:Q8 l lets d=[]:=by simp[Q8,hE]
  simp only[aR,hE,if_false] at c1
  have hs:=hE
  repeat' first|(with_reducible first|refine zz ?_|refine zr ?_|refine zE [0,1,2,3,6,7,8,9,10,11,12,13,15,25,35,36,37,38,44] ?_)|simp -dsimp[hs]|refine zp c1 ?_|refine m5 ?_ ?_<;>intro h<;>try simp only[l8] at h
  all_goals try clear hs
  simp[hR]
end Go.Proofs
namespace Go.Ab
open Go
structure Link where
 drawing:Int
 dim:Int
 back:Bool
 deriving DecidableEq
structure ChLoop where
 links:List Link
 lo:Int
 hi:Int
 deriving DecidableEq
structure Chains where
 reg:List Issue
 lets:List Int
 of:Int
 loops:List ChLoop
 deriving DecidableEq
def C2 (x:Link):List IC:=[rI x.drawing,rI x.dim,rB x.back]
def j5 (x:ChLoop):List IC:=[.sl (x.links.map C2),rI x.lo,rI x.hi]
def p5 (c:Chains):List IC:=[.sl (c.reg.map j0),.sl (c.lets.map encI),rI c.of,.sl (c.loops.map j5)]
def kx (x:Link):DV:=.agg ((C2 x).map .im)
def loopv (x:ChLoop):DV:=.agg ((j5 x).map .im)
def M9 (c:Chains):DV:=.agg ((p5 c).map .im)
attribute [simp] C2 j5 p5 kx loopv M9
end Go.Ab
namespace Go.Proofs
open Go Go.Ab
variable {G:Es}
theorem tS (x lo hi:Int):DCall Tryz.prog G 93 (iv x :: [DC.ptr 0 0,DC.ptr 1 0].map .one) [.row [.im (rI lo)],.row [.im (rI hi)]] (fun d o=>d=bv (decide (x<lo)||decide (hi<x))∧o=[.row [.im (rI lo)],.row [.im (rI hi)]]):=by
 refine l5 Tryz.func93 rfl Tryz.ntmps93 (by simp) rfl ?_
 simp only[rI]
 have hs:=trivial
 repeat' first|(with_reducible first|refine zz ?_|refine zr ?_|refine zE [0,1,2,4] ?_)|simp -dsimp[hs]|with_reducible refine o4 ?_ ?_<;>intro h<;>have h0:=h<;>(try simp only[l8] at h)<;>have h2:=h<;>(try simp at h2)<;>replace hs:=za h0 (za h (za h2 hs))|with_reducible refine And.intro ?_ ?_
 all_goals try clear hs
 all_goals simp[*]
theorem V3 (lo hi:Int) (l:List Int) (hl:l.length<1000000):zP Tryz.prog G 43 [iv lo,iv hi,H0 l] (bv (l.all fun x=>decide (lo≤x)&&decide (x≤hi))):=by
 refine zf Tryz.func43 Tryz.ntmps43 ?_
 try simp only[iv,iv,H0]
 have hc:=H8 (G:=G) l (fun x=>decide (x<lo)||decide (hi<x)) 93 [.ptr 0 0,.ptr 1 0] [.row [.im (rI lo)],.row [.im (rI hi)]] (by simp) (fun x _=>tS x lo hi) hl
 simp only[rI] at hc
 repeat' first|(with_reducible first|refine zz ?_|refine zx ?_|refine zE [0,1,2,3,4,6] ?_)|simp -dsimp|refine CallE.here hc ?_
 rw[Bool.eq_iff_iff];simp
 exact exists_congr fun x=>and_congr_right fun _=>by omega
def n9 (c:Chains) (D:List (Int×Int)) (B:List (Int×Issue)):IC:=.ip [.sl (c.reg.map j0),.sl (c.lets.map encI),rI c.of,.sl (c.loops.map j5),.mp [.int .i64] (R4 D),.mp [.int .i64] (ai B)]
def kU (x:ChLoop):Bool:=decide (1≤x.links.length)&&decide (x.links.length≤8)
def kT (x:ChLoop):Bool:=(decide (-8000000000≤x.lo)&&decide (x.lo≤8000000000))&&(decide (-8000000000≤x.hi)&&decide (x.hi≤8000000000))&&decide (x.lo≤x.hi)
def V9 (D:List (Int×Int)) (B:List (Int×Issue)):List (Int×Int)→List Link→Bool
 | _,[]=>true
 | U,y :: r=>decide (n7 U y.drawing+1≤n7 D y.drawing)&&(decide (0≤y.dim)&&decide (y.dim≤((p4 B y.drawing).dims.length:Int)-1))&&V9 D B (N1 y.drawing (n7 U y.drawing+1) U) r
theorem Bc (d:IC) (x:ChLoop):zP Tryz.prog G 202 [.one (.im d),loopv x] (bv (kU x)):=by
 refine zf Tryz.func202 Tryz.ntmps202 ?_
 try simp only[loopv]
 have c1:=V3 (G:=G) 1 8 [(x.links.length:Int)] (by simp)
 repeat' first|(with_reducible first|refine zz ?_|refine zx ?_|refine zE [1,3,4] ?_)|simp -dsimp|refine zt c1 ?_ ?_ ?_;(focus simp;done);focus (simp;done)
 rw[Bool.eq_iff_iff]
 simp[kU]
 omega
theorem po (x:ChLoop):kT x=true↔-8000000000≤x.lo∧x.lo≤8000000000∧-8000000000≤x.hi∧x.hi≤8000000000∧x.lo≤x.hi:=by
 simp[kT];omega
theorem Bb (d:IC) (x:ChLoop):zP Tryz.prog G 203 [.one (.im d),loopv x] (bv (kT x)):=by
 refine zf Tryz.func203 Tryz.ntmps203 ?_
 try simp only[loopv]
 have c1:=V3 (G:=G) (-8000000000) 8000000000 [x.lo,x.hi] (by simp)
 have hi:=po x
 cases hq:([x.lo,x.hi].all fun y=>decide (-8000000000≤y)&&decide (y≤8000000000))
 ·rw[hq] at c1
  repeat' first|(with_reducible first|refine zz ?_|refine zx ?_|refine zE [1,3,4] ?_)|simp -dsimp|refine zt c1 ?_ ?_ ?_;(focus simp;done);focus (simp;done)
  all_goals simp at hq
  all_goals exact bC hi (by omega)
 ·rw[hq] at c1
  repeat' first|(with_reducible first|refine zz ?_|refine zx ?_|refine zE [1,3,4] ?_)|simp -dsimp|refine zt c1 ?_ ?_ ?_;(focus simp;done);focus (simp;done)
  all_goals simp at hq
  all_goals rw[Bool.eq_iff_iff,hi]
  all_goals simp
  all_goals omega
theorem Ba (c:Chains) (D:List (Int×Int)) (B:List (Int×Issue)) (x:ChLoop) (hl:x.links.length<1000000) (hB:∀ n,(p4 B n).dims.length<1000000):zP Tryz.prog G 204 [.one (.im (n9 c D B)),loopv x] (bv (V9 D B [] x.links)):=by
 refine zf Tryz.func204 Tryz.ntmps204 ?_
 try simp only[loopv]
 simp only[n9]
 have hs:=trivial
 repeat' first|(with_reducible first|refine zz ?_|refine zE [0,1,3,4,5,7,10,11,12,13,48] ?_)|simp -dsimp[hs]
 refine j7 (ι:={ p:Nat×List (Int×Int) // p.1≤x.links.length∧V9 D B [] x.links=V9 D B p.2 (x.links.drop p.1)∧bd p.2 p.1 }) (fun p=>⟨50,[(0,.one (.im (n9 c D B))),(5,.one (.map 1)),(10,.one (.im (.sl (x.links.map C2)))),(11,iv (x.links.length:Int)),(12,iv (p.1.1:Int))],[.row ((j5 x).map .im),.map [.int .i64] (N2 p.1.2)]⟩) (fun p=>x.links.length-p.1.1) ⟨(0,[]),by simp[bd]⟩ (zv [0,5,10,11,12] (by simp[n9,N2])) ?_
 rintro⟨⟨k,U⟩,hk,hu,hb⟩
 simp only at hk hu hb
 simp only[iv,n9]
 by_cases hlt:k<x.links.length
 ·have hx:x.links[k]?=some x.links[k]:=by simp[hlt]
  have hw:=zk k
  have hbl:=sD hb x.links[k].drawing
  have hwu:IntKind.i64.wrap (n7 U x.links[k].drawing+1)=n7 U x.links[k].drawing+1:=u7 (by omega) (by omega)
  have hput:n7 (N1 x.links[k].drawing (n7 U x.links[k].drawing+1) U) x.links[k].drawing=n7 U x.links[k].drawing+1:=by rw[Z4,if_pos rfl]
  have hBn:=hB x.links[k].drawing
  have hwd:IntKind.i64.wrap (((p4 B x.links[k].drawing).dims.length:Int)-1)=((p4 B x.links[k].drawing).dims.length:Int)-1:=u7 (by omega) (by omega)
  have c1:=V3 (G:=G) 0 (((p4 B x.links[k].drawing).dims.length:Int)-1) [x.links[k].dim] (by simp)
  have hbn:bd (N1 x.links[k].drawing (n7 U x.links[k].drawing+1) U) (k+1):=rj (ed hb (by omega)) (by omega) (by omega)
  rw[List.drop_eq_getElem_cons hlt,V9] at hu
  by_cases hle:n7 U x.links[k].drawing+1≤n7 D x.links[k].drawing
  ·rw[decide_eq_true hle,Bool.true_and] at hu
   cases hq:([x.links[k].dim].all fun y=>decide (0≤y)&&decide (y≤((p4 B x.links[k].drawing).dims.length:Int)-1))
   ·rw[hq] at c1
    have hq':(decide (0≤x.links[k].dim)&&decide (x.links[k].dim≤((p4 B x.links[k].drawing).dims.length:Int)-1))=false:=by simpa using hq
    rw[hq',Bool.false_and] at hu
    have hs:=za hx (za hw (za hlt (za hwu (za hput (za hwd hle)))))
    repeat' first|(with_reducible first|refine zz ?_|refine zr ?_)|simp -dsimp[hs]|refine zq c1 ?_|refine zM 6 50 28 [0,1,3,4,5,7,10,11,12,13,48] ?_|with_reducible refine zE [0,1,3,4,5,7,10,11,12,13,48] ?_|refine m5 ?_ ?_<;>intro h<;>try simp only[l8] at h
    rw[hu]
   ·rw[hq] at c1
    have hq':(decide (0≤x.links[k].dim)&&decide (x.links[k].dim≤((p4 B x.links[k].drawing).dims.length:Int)-1))=true:=by simpa using hq
    rw[hq',Bool.true_and] at hu
    have hs:=za hx (za hw (za hlt (za hwu (za hput (za hwd hle)))))
    repeat' first|with_reducible refine zz ?_|simp -dsimp[hs]|refine zq c1 ?_|refine zM 6 50 28 [0,1,3,4,5,7,10,11,12,13,48] ?_|with_reducible refine zE [0,1,3,4,5,7,10,11,12,13,48] ?_|refine m5 ?_ ?_<;>intro h<;>try simp only[l8] at h
    exact zn ⟨(k+1,N1 x.links[k].drawing (n7 U x.links[k].drawing+1) U),by omega,hu,hbn⟩ (zw [0,5,10,11,12] 2 (by simp[n9]))
  ·rw[decide_eq_false hle,Bool.false_and,Bool.false_and] at hu
   have hs:=za hx (za hw (za hlt (za hwu (za hput (za hwd hle)))))
   repeat' first|(with_reducible first|refine zz ?_|refine zr ?_)|simp -dsimp[hs]|refine zM 6 50 28 [0,1,3,4,5,7,10,11,12,13,48] ?_|with_reducible refine zE [0,1,3,4,5,7,10,11,12,13,48] ?_|refine m5 ?_ ?_<;>intro h<;>try simp only[l8] at h
   rw[hu]
 ·rw[List.drop_eq_nil_of_le (by omega)] at hu
  have hs:=hlt
  repeat' first|(with_reducible first|refine zz ?_|refine zr ?_|refine zE [0,1,3,4,5,7,10,11,12,13,48] ?_)|simp -dsimp[hs]|refine m5 ?_ ?_<;>intro h<;>try simp only[l8] at h
  rw[hu];rfl
end Go.Proofs
namespace Go.Proofs
open Go Go.Ab Tryz
variable {G:Es}
def bZ (G:Es):Prop:=G 0=some [.fn (.func 202) [],.fn (.func 203) [],.fn (.func 204) []]
def w9 (c:Chains):Prop:=W9 c.reg∧c.lets.length≤80∧c.loops.length≤10∧∀ x∈c.loops,x.links.length≤12
def B0 (c:Chains):List (Int×Int):=(Q8 c.reg c.lets c.of).foldl (fun m x=>N1 x.drawing x.count m) []
def gA (D:List (Int×Int)) (B:List (Int×Issue)) (x:ChLoop):Nat→Bool
 | 0=>kU x
 | 1=>kT x
 | _=>V9 D B [] x.links
def O1 (D:List (Int×Int)) (B:List (Int×Issue)) (x:ChLoop):Bool:=kU x&&kT x&&V9 D B [] x.links
theorem wL {D:List (Int×Int)} {B:List (Int×Issue)} {x:ChLoop} {i:Nat} (h:gA D B x i=false):O1 D B x=false:=by
 unfold O1
 match i with
 | 0=>simp only[gA] at h;simp[h]
 | 1=>simp only[gA] at h;simp[h]
 | i+2=>simp only[gA] at h;simp[h]
theorem wM {D:List (Int×Int)} {B:List (Int×Issue)} {x:ChLoop} (h:∀ i<3,gA D B x i=true):O1 D B x=true:=by
 have h0:=h 0 (by omega);have h1:=h 1 (by omega);have h2:=h 2 (by omega)
 simp only[gA] at h0 h1 h2
 simp[O1,h0,h1,h2]
def p7 (c:Chains):Int:=if o6 c.reg≠0 then o6 c.reg else if B3 c.reg c.lets c.of≠0∨¬ (1≤c.loops.length∧c.loops.length≤6) then 60 else if c.loops.all (O1 (B0 c) (C9 c.reg c.lets)) then 0 else 60
def V6 (c:Chains):DV:=if p7 c=0 then .one (.im (n9 c (B0 c) (C9 c.reg c.lets))) else .one (.im (.raw (.pointer none)))
theorem wD (c:Chains):ImV (V6 c):=by unfold V6;split<;>simp[n9]
attribute [simp] wD
theorem uc (l:List Issue) (lets:List Int) (d:Int):(Q8 l lets d).length≤l.length:=by
 unfold Q8
 split
 ·simp only[F3,List.length_map]
  have:=List.length_filter_le (fun n=>decide (0<n7 (bE l lets d) n)) (nums l)
  have:=p8 l l.length
  simp only[nums] at *;omega
 ·simp
theorem de (c:Chains) (hG:I6 G) (hC:bZ G) (hs:w9 c):zP prog G 38 [M9 c] (.tup [V6 c,iv (p7 c)]):=by
 refine zf func38 ntmps38 ?_
 try simp only[M9]
 obtain⟨hsr,hsl,hso,hsk⟩:=hs
 have hC':G 0=some [.fn (.func 202) [],.fn (.func 203) [],.fn (.func 204) []]:=hC
 have c1:=mU c.reg hG hsr
 by_cases h0:o6 c.reg=0
 ·rw[h0] at c1
  have c2:=ub c.reg c.lets c.of hG hsr (by omega)
  have c3:=V3 (G:=G) 1 6 [(c.loops.length:Int)] (by simp)
  by_cases hT:B3 c.reg c.lets c.of≠0∨¬ (1≤c.loops.length∧c.loops.length≤6)
  ·have hE:p7 c=60:=by unfold p7;rw[if_neg (by simp[h0]),if_pos hT]
   by_cases hT0:B3 c.reg c.lets c.of=0
   ·rw[hT0] at c2
    have hr:([(c.loops.length:Int)].all fun x=>decide (1≤x)&&decide (x≤6))=false:=by
     simp;omega
    rw[hr] at c3
    have hs:=trivial
    repeat' first|(with_reducible first|refine zz ?_|refine zr ?_|refine zE [0,1,2,3,4,5,6,7,8,10,11,13,15,17,22,43,55,56,57,58,81,82,83,84,97,98,99,100,103,104,105,112] ?_)|simp -dsimp[hs]|refine zp c1 ?_|refine zp c2 ?_|refine zt c3 ?_ ?_ ?_;(focus simp;done);focus (simp;done)|refine m5 ?_ ?_<;>intro h<;>try simp only[l8] at h
    all_goals try clear hs
    all_goals simp[V6,hE]
   ·have hs:=hT0
    repeat' first|(with_reducible first|refine zz ?_|refine zr ?_|refine zE [0,1,2,3,4,5,6,7,8,10,11,13,15,17,22,43,55,56,57,58,81,82,83,84,97,98,99,100,103,104,105,112] ?_)|simp -dsimp[hs]|refine zp c1 ?_|refine zp c2 ?_|refine m5 ?_ ?_<;>intro h<;>try simp only[l8] at h
    all_goals try clear hs
    all_goals simp[V6,hE]
  ·have hT0:B3 c.reg c.lets c.of=0:=Classical.byContradiction fun h=>hT (.inl h)
   have hr6:1≤c.loops.length∧c.loops.length≤6:=Classical.byContradiction fun h=>hT (.inr h)
   have hr:([(c.loops.length:Int)].all fun x=>decide (1≤x)&&decide (x≤6))=true:=by
    simp;omega
   rw[hT0] at c2
   rw[hr] at c3
   have hlet:o5 c.reg c.lets=true:=by
    cases h:o5 c.reg c.lets
    ·simp[B3,h0,h] at hT0
    ·rfl
   have c4:=eY c.reg hG hsr
   rw[h0,show gp c.reg=nums c.reg by simp[gp,h0]] at c4
   have hE:p7 c=if c.loops.all (O1 (B0 c) (C9 c.reg c.lets)) then 0 else 60:=by simp[p7,h0,hT0];omega
   have hs:=trivial
   repeat' first|with_reducible refine zz ?_|simp -dsimp[hs]|refine zp c1 ?_|refine zp c2 ?_|refine zt c3 ?_ ?_ ?_;(focus simp;done);focus (simp;done)|refine zp c4 ?_|with_reducible refine fo (id:=7) (nt:=116) [0,1,2,3,4,5,6,7,8,10,11,13,15,17,22,43,55,56,57,58,81,82,83,84,97,98,99,100,103,104,105,112] rfl ?_;simp -dsimp[hs]|with_reducible refine zE [0,1,2,3,4,5,6,7,8,10,11,13,15,17,22,43,55,56,57,58,81,82,83,84,97,98,99,100,103,104,105,112] ?_|refine m5 ?_ ?_<;>intro h<;>try simp only[l8] at h
   all_goals try clear hs
   have hnd:(nums c.reg).Nodup:=(u4 h0).1.imp fun h=>Int.ne_of_lt h
   have hnl:(nums c.reg).length≤c.reg.length:=p8 c.reg c.reg.length
   have hll:c.lets.length=(nums c.reg).length:=by
    simp only[o5,Bool.and_eq_true,decide_eq_true_eq] at hlet;exact hlet.1
   have hreg:=hsr.1
   refine j7 (ι:={ k:Nat // k≤(nums c.reg).length }) (fun p=>⟨116,[(1,.one (.ptr 0 0)),(2,.one (.im (.raw (.pointer none)))),(3,iv 0),(5,.one (.im (.sl ((Q8 c.reg c.lets c.of).map l7)))),(7,.one (.ptr 7 0)),(55,H0 (nums c.reg)),(56,iv ((nums c.reg).length:Int)),(57,iv (p.1:Int))],[.row ((p5 c).map .im),.vec 1 [[.im (rI (c.loops.length:Int))]] 0 false,.map [.int .i64] [],.map [.int .i64] (J3 (((nums c.reg).take p.1).map fun d=>(d,j8 c.reg c.lets d))),.vec 0 [] 0 true,.vec 0 [] 0 true,.vec 0 [] 0 true,.row ((p5 c).map .im++[.map 2,.map 3])]⟩) (fun p=>(nums c.reg).length-p.1) ⟨0,by omega⟩ (zv [1,2,3,5,7,55,56,57] (by simp[J3])) ?_
   rintro⟨k,hk⟩
   simp only[iv,H0]
   by_cases hlt:k<(nums c.reg).length
   ·have hx:(nums c.reg)[k]?=some (nums c.reg)[k]:=by simp[hlt]
    have hkl:k<c.lets.length:=by omega
    have hy:c.lets[k]?=some c.lets[k]:=by simp[hkl]
    have hw:=zk k
    have c5:=Dn c.reg (nums c.reg)[k] c.lets[k] hG hsr
    have hta:=rS hnd hlt hkl
    rw[show atR c.reg (nums c.reg)[k] c.lets[k]=j8 c.reg c.lets (nums c.reg)[k] by rw[hta];simp[atR,h0]] at c5
    have hmp:eB (nums c.reg)[k] (j8 c.reg c.lets (nums c.reg)[k]) (((nums c.reg).take k).map fun d=>(d,j8 c.reg c.lets d))=(((nums c.reg).take (k+1)).map fun d=>(d,j8 c.reg c.lets d)):=by
     rw[gX,List.take_succ_eq_append_getElem hlt,List.map_append,List.map_singleton]
     rw[List.map_map]
     intro hm
     obtain⟨z,hz,e⟩:=List.mem_map.1 hm
     simp only[Function.comp] at e
     subst e
     obtain⟨i,hi,e⟩:=List.mem_take_iff_getElem.1 hz
     have:=(List.getElem_inj hnd).1 e;omega
    generalize j8 c.reg c.lets (nums c.reg)[k]=y at *
    have hmp':eB (nums c.reg)[k] ⟨y.drawing,y.letter,y.kind,y.items,y.dims⟩ (((nums c.reg).take k).map fun d=>(d,j8 c.reg c.lets d))=(((nums c.reg).take (k+1)).map fun d=>(d,j8 c.reg c.lets d)):=hmp
    simp only[D7] at c5
    simp only[List.map_take] at hmp'
    have hs:=za hx (za hy (za hlt (za hkl hw)))
    repeat' first|with_reducible refine zz ?_|simp -dsimp[hs]|refine zq c5 ?_|refine p9 (id:=12) (nt:=116) 18 [17] [0,1,2,3,4,5,6,7,8,10,11,13,15,17,22,43,55,56,57,58,62,63,64,65,66,67,68,69,70,71,72,73,74,75,76,77,78,81,82,83,84,97,98,99,100,103,104,105,112] [0,1,2,3,4,5,6,7,8,10,11,13,15,17,22,43,55,56,57,58,81,82,83,84,97,98,99,100,103,104,105,112] mixed rfl (by kernel_rfl) ?_|with_reducible refine zE [0,1,2,3,4,5,6,7,8,10,11,13,15,17,22,43,55,56,57,58,81,82,83,84,97,98,99,100,103,104,105,112] ?_|refine m5 ?_ ?_<;>intro h<;>try simp only[l8] at h
    all_goals try clear hs
    exact zn ⟨k+1,by omega⟩ (zw [1,2,3,5,7,55,56,57] 8 (by simp[hmp']))
   have htk:(nums c.reg).take k=nums c.reg:=List.take_of_length_le (by omega)
   rw[htk]
   change DT _ _ _ _ ⟨_,_,[_,_,_,.map _ (J3 (C9 c.reg c.lets)),_,_,_,_]⟩ _
   have hs:=hlt
   repeat' first|(with_reducible first|refine zz ?_|refine zE [0,1,2,3,4,5,6,7,8,10,11,13,15,17,22,43,55,56,57,58,81,82,83,84,97,98,99,100,103,104,105,112] ?_)|simp -dsimp[hs]|refine m5 ?_ ?_<;>intro h<;>try simp only[l8] at h
   all_goals try clear hs
   have hpl:=uc c.reg c.lets c.of
   have hcD:B0 c=(Q8 c.reg c.lets c.of).foldl (fun m x=>N1 x.drawing x.count m) []:=rfl
   generalize Q8 c.reg c.lets c.of=ps at *
   refine j7 (ι:={ p:Nat×List (Int×Int) // p.1≤ps.length∧B0 c=(ps.drop p.1).foldl (fun m x=>N1 x.drawing x.count m) p.2 }) (fun p=>⟨116,[(1,.one (.ptr 0 0)),(2,.one (.im (.raw (.pointer none)))),(3,iv 0),(7,.one (.ptr 7 0)),(81,.one (.im (.sl (ps.map l7)))),(82,iv (ps.length:Int)),(83,iv (p.1.1:Int))],[.row ((p5 c).map .im),.vec 1 [[.im (rI (c.loops.length:Int))]] 0 false,.map [.int .i64] (N2 p.1.2),.map [.int .i64] (J3 (C9 c.reg c.lets)),.vec 0 [] 0 true,.vec 0 [] 0 true,.vec 0 [] 0 true,.row ((p5 c).map .im++[.map 2,.map 3])]⟩) (fun p=>ps.length-p.1.1) ⟨(0,[]),by simp[hcD]⟩ (zv [1,2,3,7,81,82,83] (by simp[N2])) ?_
   rintro⟨⟨u,D⟩,hu,hD⟩
   simp only at hu hD
   simp only[iv]
   by_cases hlu:u<ps.length
   ·have hx:ps[u]?=some ps[u]:=by simp[hlu]
    have hw:=zk u
    rw[List.drop_eq_getElem_cons hlu,List.foldl_cons] at hD
    have hs:=za hx (za hlu hw)
    repeat' first|with_reducible refine zz ?_|simp -dsimp[hs]|refine zM 17 116 8 [0,1,2,3,4,5,6,7,8,10,11,13,15,17,22,43,55,56,57,58,81,82,83,84,97,98,99,100,103,104,105,112] ?_|with_reducible refine zE [0,1,2,3,4,5,6,7,8,10,11,13,15,17,22,43,55,56,57,58,81,82,83,84,97,98,99,100,103,104,105,112] ?_|refine m5 ?_ ?_<;>intro h<;>try simp only[l8] at h
    all_goals try clear hs
    exact zn ⟨(u+1,N1 ps[u].drawing ps[u].count D),by omega,hD⟩ (zw [1,2,3,7,81,82,83] 8)
   have hDe:D=B0 c:=by rw[hD,List.drop_eq_nil_of_le (by omega)];rfl
   subst hDe
   have hB:∀ n,(p4 (C9 c.reg c.lets) n).dims.length<1000000:=fun n=>by
    rw[C9,F9]
    split
    ·rename_i hn
     obtain⟨hm,_⟩:=A7 h0 hlet hn
     have:=(hsr.2 _ hm).2.2.2;omega
    ·decide
   have hs:=hlu
   repeat' first|(with_reducible first|refine zz ?_|refine zE [0,1,2,3,4,5,6,7,8,10,11,13,15,17,22,43,55,56,57,58,81,82,83,84,97,98,99,100,103,104,105,112] ?_)|simp -dsimp[hs]|refine m5 ?_ ?_<;>intro h<;>try simp only[l8] at h
   all_goals try clear hs
   refine j7 (ι:={ j:Nat // j≤c.loops.length∧c.loops.all (O1 (B0 c) (C9 c.reg c.lets))=(c.loops.drop j).all (O1 (B0 c) (C9 c.reg c.lets)) }) (fun p=>⟨116,[(2,.one (.im (.raw (.pointer none)))),(3,iv 0),(7,.one (.im (n9 c (B0 c) (C9 c.reg c.lets)))),(97,.one (.im (.sl (c.loops.map j5)))),(98,iv (c.loops.length:Int)),(99,iv (p.1:Int))],[]⟩) (fun p=>c.loops.length-p.1) ⟨0,by simp⟩ (zw [2,3,7,97,98,99] 0 (by simp[n9])) ?_
   rintro⟨j,hj,hall⟩
   simp only[iv]
   by_cases hlj:j<c.loops.length
   ·have hx:c.loops[j]?=some c.loops[j]:=by simp[hlj]
    have hw:=zk j
    have hst:=V8 hlj hall
    have hln:=hsk c.loops[j] (List.getElem_mem hlj)
    have k1:=Bc (G:=G) (n9 c (B0 c) (C9 c.reg c.lets)) c.loops[j]
    have k2:=Bb (G:=G) (n9 c (B0 c) (C9 c.reg c.lets)) c.loops[j]
    have k3:=Ba (G:=G) c (B0 c) (C9 c.reg c.lets) c.loops[j] (by omega) hB
    have hbad:∀ i,gA (B0 c) (C9 c.reg c.lets) c.loops[j] i=false→p7 c=60:=fun i h=>by
     rw[hE,A5 hst (by rw[wL h];exact Bool.false_ne_true)];rfl
    have hq1:gA (B0 c) (C9 c.reg c.lets) c.loops[j] 0=kU c.loops[j]:=rfl
    have hq2:gA (B0 c) (C9 c.reg c.lets) c.loops[j] 1=kT c.loops[j]:=rfl
    have hq3:gA (B0 c) (C9 c.reg c.lets) c.loops[j] 2=V9 (B0 c) (C9 c.reg c.lets) [] c.loops[j].links:=rfl
    rw[← hq1] at k1;rw[← hq2] at k2;rw[← hq3] at k3
    clear hq1 hq2 hq3
    have hs:=za hx (za hlj hC')
    repeat' first|(with_reducible first|refine zz ?_|refine zE [0,1,2,3,4,5,6,7,8,10,11,13,15,17,22,43,55,56,57,58,81,82,83,84,97,98,99,100,103,104,105,112] ?_)|simp -dsimp[hs]|refine m5 ?_ ?_<;>intro h<;>try simp only[l8] at h
    all_goals try clear hs
    refine j7 (ι:={ i:Nat // i≤3∧∀ e<i,gA (B0 c) (C9 c.reg c.lets) c.loops[j] e=true }) (fun p=>⟨116,[(2,.one (.im (.raw (.pointer none)))),(3,iv 0),(7,.one (.im (n9 c (B0 c) (C9 c.reg c.lets)))),(15,.one (.ptr 1 0)),(97,.one (.im (.sl (c.loops.map j5)))),(98,iv (c.loops.length:Int)),(99,iv (j:Int)),(103,.agg [.im (.fn (.func 202) []),.im (.fn (.func 203) []),.im (.fn (.func 204) [])]),(104,iv (p.1:Int))],[.vec 0 [] 0 true,.row ((j5 c.loops[j]).map .im)]⟩) (fun p=>3-p.1) ⟨0,by simp⟩ (zv [2,3,7,15,97,98,99,103,104]) ?_
    rintro⟨i,hi,hcc⟩
    simp only[iv]
    by_cases hi3:i<3
    ·have hwc:=zk i
     match i,hi3,hi,hcc,hwc with
     | 0,hi3,hi,hcc,hwc =>
       cases hq:gA (B0 c) (C9 c.reg c.lets) c.loops[j] 0<;>simp only[hq] at k1
       ·have h60:=hbad 0 hq
        have hs:=trivial
        repeat' first|(with_reducible first|refine zz ?_|refine zr ?_|refine zE [0,1,2,3,4,5,6,7,8,10,11,13,15,17,22,43,55,56,57,58,81,82,83,84,97,98,99,100,103,104,105,112] ?_)|simp -dsimp[hs]|refine zp k1 ?_|refine m5 ?_ ?_<;>intro h<;>try simp only[l8] at h
        all_goals try clear hs
        all_goals simp[V6,h60]
       ·have hs:=hwc
        repeat' first|(with_reducible first|refine zz ?_|refine zE [0,1,2,3,4,5,6,7,8,10,11,13,15,17,22,43,55,56,57,58,81,82,83,84,97,98,99,100,103,104,105,112] ?_)|simp -dsimp[hs]|refine zp k1 ?_|refine m5 ?_ ?_<;>intro h<;>try simp only[l8] at h
        all_goals try clear hs
        exact At.round ⟨1,by omega,fun i hi=>by
         rcases Nat.lt_succ_iff_lt_or_eq.1 hi with h|rfl
         ·exact hcc i h
         ·exact hq⟩ (by simp) (zw [2,3,7,15,97,98,99,103,104] 2 (by simp;exact u7 (by omega) (by omega)))
     | 1,hi3,hi,hcc,hwc =>
       cases hq:gA (B0 c) (C9 c.reg c.lets) c.loops[j] 1<;>simp only[hq] at k2
       ·have h60:=hbad 1 hq
        have hs:=trivial
        repeat' first|(with_reducible first|refine zz ?_|refine zr ?_|refine zE [0,1,2,3,4,5,6,7,8,10,11,13,15,17,22,43,55,56,57,58,81,82,83,84,97,98,99,100,103,104,105,112] ?_)|simp -dsimp[hs]|refine zp k2 ?_|refine m5 ?_ ?_<;>intro h<;>try simp only[l8] at h
        all_goals try clear hs
        all_goals simp[V6,h60]
       ·have hs:=hwc
        repeat' first|(with_reducible first|refine zz ?_|refine zE [0,1,2,3,4,5,6,7,8,10,11,13,15,17,22,43,55,56,57,58,81,82,83,84,97,98,99,100,103,104,105,112] ?_)|simp -dsimp[hs]|refine zp k2 ?_|refine m5 ?_ ?_<;>intro h<;>try simp only[l8] at h
        all_goals try clear hs
        exact At.round ⟨2,by omega,fun i hi=>by
         rcases Nat.lt_succ_iff_lt_or_eq.1 hi with h|rfl
         ·exact hcc i h
         ·exact hq⟩ (by simp) (zw [2,3,7,15,97,98,99,103,104] 2 (by simp;exact u7 (by omega) (by omega)))
     | 2,hi3,hi,hcc,hwc =>
       cases hq:gA (B0 c) (C9 c.reg c.lets) c.loops[j] 2<;>simp only[hq] at k3
       ·have h60:=hbad 2 hq
        have hs:=trivial
        repeat' first|(with_reducible first|refine zz ?_|refine zr ?_|refine zE [0,1,2,3,4,5,6,7,8,10,11,13,15,17,22,43,55,56,57,58,81,82,83,84,97,98,99,100,103,104,105,112] ?_)|simp -dsimp[hs]|refine zp k3 ?_|refine m5 ?_ ?_<;>intro h<;>try simp only[l8] at h
        all_goals try clear hs
        all_goals simp[V6,h60]
       ·have hs:=hwc
        repeat' first|(with_reducible first|refine zz ?_|refine zE [0,1,2,3,4,5,6,7,8,10,11,13,15,17,22,43,55,56,57,58,81,82,83,84,97,98,99,100,103,104,105,112] ?_)|simp -dsimp[hs]|refine zp k3 ?_|refine m5 ?_ ?_<;>intro h<;>try simp only[l8] at h
        all_goals try clear hs
        exact At.round ⟨3,by omega,fun i hi=>by
         rcases Nat.lt_succ_iff_lt_or_eq.1 hi with h|rfl
         ·exact hcc i h
         ·exact hq⟩ (by simp) (zw [2,3,7,15,97,98,99,103,104] 2 (by simp;exact u7 (by omega) (by omega)))
    ·obtain rfl:i=3:=by omega
     have hok:=wM hcc
     have hs:=hw
     repeat' first|(with_reducible first|refine zz ?_|refine zE [0,1,2,3,4,5,6,7,8,10,11,13,15,17,22,43,55,56,57,58,81,82,83,84,97,98,99,100,103,104,105,112] ?_)|simp -dsimp[hs]|refine m5 ?_ ?_<;>intro h<;>try simp only[l8] at h
     all_goals try clear hs
     exact zn ⟨j+1,by omega,E9 hst hok⟩ (zw [2,3,7,97,98,99] 0)
   ·have hok:c.loops.all (O1 (B0 c) (C9 c.reg c.lets))=true:=by rw[hall,List.drop_eq_nil_of_le (by omega)];rfl
    rw[hok] at hE
    have hs:=hlj
    repeat' first|(with_reducible first|refine zz ?_|refine zr ?_|refine zE [0,1,2,3,4,5,6,7,8,10,11,13,15,17,22,43,55,56,57,58,81,82,83,84,97,98,99,100,103,104,105,112] ?_)|simp -dsimp[hs]|refine m5 ?_ ?_<;>intro h<;>try simp only[l8] at h
    all_goals try clear hs
    simp[V6,hE]
 ·have hE:p7 c=o6 c.reg:=by simp[p7,h0]
  have hs:=h0
  repeat' first|(with_reducible first|refine zz ?_|refine zr ?_|refine zE [0,1,2,3,4,5,6,7,8,10,11,13,15,17,22,43,55,56,57,58,81,82,83,84,97,98,99,100,103,104,105,112] ?_)|simp -dsimp[hs]|refine zp c1 ?_|refine m5 ?_ ?_<;>intro h<;>try simp only[l8] at h
  all_goals try clear hs
  simp[V6,hE,h0]
end Go.Proofs
namespace Go.Proofs
open Go Go.Ab
theorem An:Rd 80 C2 (fun _=>True):=(Opens.struct Tryz.underlying80 (by kernel_rfl) (zH (fun _=>True) (fun l=>∃ n:Int,l=[rI n]) (fun l=>∃ n:Int,l=[rI n]) (fun l=>∃ b:Bool,l=[rB b])) (fun i f hf=>by
 rcases i with _|_|_|i<;>simp at hf<;>subst hf
 ·exact oInt
 ·exact oInt
 ·exact BR)).mono (by
 rintro l ⟨ls,h1,h2,rfl⟩
 obtain⟨a,b,c,rfl⟩:=AE h1
 obtain⟨x,rfl⟩:=h2 0 a rfl
 obtain⟨y,rfl⟩:=h2 1 b rfl
 obtain⟨z,rfl⟩:=h2 2 c rfl
 exact⟨⟨x,y,z⟩,trivial,rfl⟩)
theorem Aw:Opens Tryz.prog 76 (fun l=>∃ xs:List Link,l=[.sl (xs.map C2)]):=
 (Opens.sliceOf Tryz.underlying76 (sz:=3) (by kernel_rfl) (by decide) (fun _=>rfl) An).mono (by rintro l ⟨xs,_,h⟩;exact⟨xs,h⟩)
theorem CS:Opens Tryz.prog 66 (fun l=>∃ n m:Int,l=[rI n,rI m]):=(Opens.struct Tryz.underlying66 (by kernel_rfl) (fun _ l=>∃ n:Int,l=[rI n]) (fun i f hf=>by
 rcases i with _|_|i<;>simp at hf<;>subst hf<;>exact oInt)).mono (by
 rintro l ⟨ls,h1,h2,rfl⟩
 obtain⟨a,b,rfl⟩:=yb h1
 obtain⟨x,rfl⟩:=h2 0 a rfl
 obtain⟨y,rfl⟩:=h2 1 b rfl
 exact⟨x,y,rfl⟩)
theorem Am:Rd 78 j5 (fun _=>True):=(Opens.struct Tryz.underlying78 (by kernel_rfl) (zH (fun _=>True) (fun l=>∃ xs:List Link,l=[.sl (xs.map C2)]) (fun l=>∃ n m:Int,l=[rI n,rI m]) (fun _=>True)) (fun i f hf=>by
 rcases i with _|_|i<;>simp at hf<;>subst hf
 ·exact Aw
 ·exact CS)).mono (by
 rintro l ⟨ls,h1,h2,rfl⟩
 obtain⟨a,b,rfl⟩:=yb h1
 obtain⟨x,rfl⟩:=h2 0 a rfl
 obtain⟨y,z,rfl⟩:=h2 1 b rfl
 exact⟨⟨x,y,z⟩,trivial,rfl⟩)
theorem Av:Opens Tryz.prog 26 (fun l=>∃ xs:List ChLoop,l=[.sl (xs.map j5)]):=
 (Opens.sliceOf Tryz.underlying26 (sz:=3) (by kernel_rfl) (by decide) (fun _=>rfl) Am).mono (by rintro l ⟨xs,_,h⟩;exact⟨xs,h⟩)
theorem vG:Rd 28 p5 (fun c=>∀ x∈c.reg,ie x):=(Opens.struct Tryz.underlying28 (by kernel_rfl) (zG (fun _=>True) (fun l=>∃ xs:List Issue,(∀ x∈xs,ie x)∧l=[.sl (xs.map j0)]) (fun l=>∃ xs:List Int,l=[.sl (xs.map encI)]) (fun l=>∃ n:Int,l=[rI n]) (fun l=>∃ xs:List ChLoop,l=[.sl (xs.map j5)]) (fun _=>True)) (fun i f hf=>by
 rcases i with _|_|_|_|i<;>simp at hf<;>subst hf
 ·exact CR
 ·exact BP
 ·exact oInt
 ·exact Av)).mono (by
 rintro l ⟨ls,h1,h2,rfl⟩
 obtain⟨a,b,c,d,rfl⟩:=Ca h1
 obtain⟨x,hx,rfl⟩:=h2 0 a rfl
 obtain⟨y,rfl⟩:=h2 1 b rfl
 obtain⟨z,rfl⟩:=h2 2 c rfl
 obtain⟨u,rfl⟩:=h2 3 d rfl
 exact⟨⟨x,y,z,u⟩,hx,rfl⟩)
open Go Go.Ab Tryz
variable {G:Es}
def sJ:Dim:=⟨0,0,0⟩
def kM (c:Chains) (x:Link):Dim:=((j8 c.reg c.lets x.drawing).dims[x.dim.toNat]?).getD sJ
structure OkC (c:Chains):Prop where
 reg:o6 c.reg=0
 lets:o5 c.reg c.lets=true
 of:c.of∈nums c.reg
 num:1≤c.loops.length∧c.loops.length≤6
 gap:∀ x∈c.loops,x.links.length≤8∧kT x=true
 link:∀ x∈c.loops,∀ y∈x.links,y.drawing∈nums c.reg∧0≤y.dim∧y.dim<(j8 c.reg c.lets y.drawing).dims.length
def vm (c:Chains) (x:ChLoop):List Dim:=x.links.map (kM c)
def Dk (high:Bool) (x:Link) (d:Dim):Int:=if high != x.back then d.upper else d.lower
def Dv (x:Link) (n:Int):Int:=if x.back then -n else n
def yw (links:List Link) (l:List Dim) (high:Bool):Int:=(links.zip l).foldl (fun s p=>s+Dv p.1 (Dk high p.1 p.2)) 0
theorem dw (n lo hi:Int):zP prog G 63 [iv n,iv lo,iv hi] (bv (decide (lo≤n)&&decide (n≤hi))):=by
 refine zf func63 ntmps63 ?_
 try simp only[iv,iv,iv]
 have hs:=trivial
 repeat' first|(with_reducible first|refine zz ?_|refine zr ?_|refine zE [0,1,2,6] ?_)|simp -dsimp[hs]|with_reducible refine o4 ?_ ?_<;>intro h<;>have h0:=h<;>(try simp only[l8] at h)<;>have h2:=h<;>(try simp at h2)<;>replace hs:=za h0 (za h (za h2 hs))
 all_goals try clear hs
 all_goals simp[*]
def I8 (l:List Itm) (d:Int):Int:=match l with
 | []=>0
 | y :: r=>if y.drawing=d then y.count else I8 r d
theorem yH (l:List Itm) (d:Int) (hl:l.length<1000000):zP prog G 123 [.one (.im (.sl (l.map l7))),iv d] (iv (I8 l d)):=by
 refine zf func123 ntmps123 ?_
 try simp only[iv]
 have hs:=trivial
 repeat' first|(with_reducible first|refine zz ?_|refine zE [0,1,4,5,9,18] ?_)|simp -dsimp[hs]
 refine j7 (ι:={ k:Nat // k≤l.length∧I8 l d=I8 (l.drop k) d }) (fun p=>⟨24,[(0,.one (.im (.sl (l.map l7)))),(1,iv d),(5,iv (p.1:Int))],[]⟩) (fun p=>l.length-p.1) ⟨0,by simp⟩ (zv [0,1,5]) ?_
 rintro⟨k,hk,ha⟩
 simp only[iv]
 by_cases hlt:k<l.length
 ·have hx:l[k]?=some l[k]:=by simp[hlt]
  have hw:=zk k
  rw[List.drop_eq_getElem_cons hlt,I8] at ha
  have hs:=za hx (za hw hlt)
  repeat' first|(with_reducible first|refine zz ?_|refine zr ?_|refine zE [0,1,4,5,9,18] ?_)|simp -dsimp[hs]|refine m5 ?_ ?_<;>intro h<;>try simp only[l8] at h
  ·rw[ha,if_pos ‹_›]
  ·exact zn ⟨k+1,by omega,by rw[ha,if_neg ‹_›]⟩ (zv [0,1,5])
 ·rw[List.drop_eq_nil_of_le (by omega)] at ha
  have hs:=hlt
  repeat' first|(with_reducible first|refine zz ?_|refine zr ?_|refine zE [0,1,4,5,9,18] ?_)|simp -dsimp[hs]|refine m5 ?_ ?_<;>intro h<;>try simp only[l8] at h
  rw[ha];rfl
theorem vk (x:Link):zP prog G 110 [kx x] (D7 x.drawing x.dim):=by
 refine zf func110 ntmps110 ?_
 try simp only[kx]
 repeat' first|(with_reducible first|refine zz ?_|refine zx ?_|refine zE [0,1,2] ?_)|simp -dsimp
theorem ir (c:Chains):∃ X,V6 c=.one (.im X):=by unfold V6;split<;>exact⟨_,rfl⟩
def nc (c:Chains) (n:Int):Int:=if p7 c≠0 then p7 c else if 0≤n∧n<c.loops.length then 0 else 2
theorem Ae (x:Link):zP prog G 87 [kx x] (D7 x.drawing x.dim):=by
 refine zf func87 ntmps87 ?_
 try simp only[kx]
 repeat' first|(with_reducible first|refine zz ?_|refine zx ?_|refine zE [0,1,2] ?_)|simp -dsimp
def DU (c:Chains) (n:Int):Int:=match c.loops[n.toNat]? with|some x=>yw x.links (vm c x) false|none=>0
def DZ (c:Chains) (n:Int):Int:=match c.loops[n.toNat]? with|some x=>yw x.links (vm c x) true|none=>0
def Bm (c:Chains) (n:Int):Int:=if nc c n=0 then DU c n else 0
def Bn (c:Chains) (n:Int):Int:=if nc c n=0 then DZ c n else 0
def Eb (c:Chains) (n:Int):Int:=match c.loops[n.toNat]? with
 | some x=>if x.lo≤Bm c n∧Bn c n≤x.hi then 2 else if Bn c n<x.lo∨x.hi<Bm c n then 0 else 1
 | none=>0
def yJ (c:Chains) (n:Int):Int:=if nc c n=0 then Eb c n else 0
def jj (n:Int):DV:=.one (.im (.raw (.int .u8 n)))
attribute [simp] jj
end Go.Proofs
namespace Go.Proofs
open Go Go.Ab
theorem kB {l:List Issue} {lets:List Int} (h0:o6 l=0) (hlet:o5 l lets=true) {dep:Int→Int} (hdep:∀ n∈nums l,1≤dep n∧dep n≤6∧∀ c∈aN l n,c∈nums l∧dep c<dep n) :
 ∀ (k:Nat) (d m:Int),d∈nums l→∀ p∈C6 (j8 l lets) k d m,p.1∈nums l
 | 0,_,_,_,p,hp=>by cases hp
 | k+1,d,m,hd,p,hp=>by
   rw[C6] at hp
   split at hp
   ·rw[List.mem_singleton] at hp;rw[hp];exact hd
   ·obtain⟨y,hy,hp⟩:=List.mem_flatMap.1 hp
    have hc:=(hdep d hd).2.2 _ (eJ h0 hlet hd y hy)
    exact kB h0 hlet hdep k _ _ hc.1 p hp
theorem mJ {ns:List Int} (hnd:ns.Nodup):∀ (lv:List (Int×Int)) (m:List (Int×Int)),(∀ p∈lv,p.1∈ns)→gC ns (ns.map (n7 m)) lv=ns.map (n7 (je m lv))
 | [],_,_=>rfl
 | p :: lv,m,h=>by
   have h1:=mJ hnd lv (N1 p.1 (IntKind.i64.wrap (n7 m p.1+p.2)) m) fun q hq=>h q (by simp[hq])
   obtain⟨j,hj⟩:=List.mem_iff_getElem?.1 (h p (by simp))
   have he:ur ns (ns.map (n7 m)) p=ns.map (n7 (N1 p.1 (IntKind.i64.wrap (n7 m p.1+p.2)) m)):=by
    simp only[ur,bW hnd hj,Int.toNat_natCast,List.getElem?_map,hj,Option.map_some,Option.getD_some]
    rw[kw hnd hj]
    refine List.map_congr_left fun n _=>?_
    rw[Z4]
    by_cases e:n=p.1<;>simp[e]
   simp only[gC,je,List.foldl_cons] at h1 ⊢
   rw[he];exact h1
theorem eG (f:Int→Int):∀ ns:List Int,((ns.zip (ns.map f)).filter fun p=>decide (0<p.2)).map (fun p=>(⟨p.1,p.2⟩:Itm))=(ns.filter fun n=>decide (0<f n)).map fun n=>⟨n,f n⟩
 | []=>rfl
 | n :: ns=>by
   simp only[List.map_cons,List.zip_cons_cons,List.filter_cons]
   by_cases h:0<f n
   ·simp only[h,decide_true,if_true,List.map_cons,eG f ns]
   ·simp only[h,decide_false,Bool.false_eq_true,if_false,eG f ns]
theorem fI {l:List Issue} {lets:List Int} {d:Int} (h0:o6 l=0) (hlet:o5 l lets=true) (hd:d∈nums l):E7 l lets d=F3 (nums l) (bE l lets d):=by
 obtain⟨dep,hdep⟩:=kN h0
 have hnd:(nums l).Nodup:=(u4 h0).1.imp fun h=>Int.ne_of_lt h
 have h1:=mJ hnd (C6 (j8 l lets) 6 d 1) [] (kB h0 hlet hdep 6 d 1 hd)
 have h2:(nums l).map (n7 [])=List.replicate (nums l).length 0:=jq (fun _=>rfl) _
 rw[h2] at h1
 have h3:lG l lets d=(nums l).map (n7 (bE l lets d)):=h1
 rw[E7,h3,eG];rfl
theorem bQ:∀ (ps:List Itm) (m:List (Int×Int)) (d:Int),(ps.map (·.drawing)).Nodup→n7 (ps.foldl (fun m x=>N1 x.drawing x.count m) m) d=if d∈ps.map (·.drawing) then I8 ps d else n7 m d
 | [],m,d,_=>by simp
 | y :: ps,m,d,h=>by
   rw[List.map_cons,List.nodup_cons] at h
   rw[List.foldl_cons,bQ ps _ d h.2,Z4,I8]
   by_cases e:d=y.drawing
   ·subst e
    rw[if_neg h.1,if_pos rfl,if_pos (by simp),if_pos rfl]
   ·rw[if_neg e,if_neg (Ne.symm e)]
    by_cases hm:d∈ps.map (·.drawing)
    ·rw[if_pos hm,if_pos (by simp only[List.map_cons,List.mem_cons];exact .inr hm)]
    ·rw[if_neg hm,if_neg (by simp only[List.map_cons,List.mem_cons];exact fun h=>h.elim e hm)]
theorem db:∀ (ps:List Itm) (d:Int),d∉ps.map (·.drawing)→I8 ps d=0
 | [],_,_=>rfl
 | y :: ps,d,h=>by
   rw[List.map_cons,List.mem_cons,not_or] at h
   rw[I8,if_neg (Ne.symm h.1)];exact db ps d h.2
def Y6 (ls:List Link) (d:Int):Nat:=(ls.filter fun y=>decide (y.drawing=d)).length
theorem dZ (y:Link) (r:List Link) (d:Int):Y6 (y :: r) d=(if y.drawing=d then 1 else 0)+Y6 r d:=by
 unfold Y6
 by_cases h:y.drawing=d
 ·rw[List.filter_cons_of_pos (by simpa using h),if_pos h,List.length_cons];omega
 ·rw[List.filter_cons_of_neg (by simpa using h),if_neg h];omega
theorem kQ {ls:List Link} {y:Link} (h:y∈ls):1≤Y6 ls y.drawing:=
 List.length_pos_of_mem (List.mem_filter.2 ⟨h,by simp⟩)
theorem um {ls:List Link} {d:Int} (h:∀ y∈ls,y.drawing≠d):Y6 ls d=0:=by
 unfold Y6
 rw[List.filter_eq_nil_iff.2 fun y hy=>by simpa using h y hy];rfl
def sv (B:List (Int×Issue)) (y:Link):Bool:=decide (0≤y.dim)&&decide (y.dim≤((p4 B y.drawing).dims.length:Int)-1)
theorem jI (D:List (Int×Int)) (B:List (Int×Issue)):∀ (r:List Link) (U:List (Int×Int)),V9 D B U r=true↔∀ y∈r,sv B y=true∧n7 U y.drawing+Y6 r y.drawing≤n7 D y.drawing
 | [],U=>by simp[V9]
 | y :: r,U=>by
   have ih:=jI D B r (N1 y.drawing (n7 U y.drawing+1) U)
   have hu:V9 D B U (y :: r)=(decide (n7 U y.drawing+1≤n7 D y.drawing)&&sv B y&&V9 D B (N1 y.drawing (n7 U y.drawing+1) U) r):=rfl
   rw[hu,Bool.and_eq_true,Bool.and_eq_true,decide_eq_true_eq,ih]
   constructor
   ·rintro⟨⟨h1,h2⟩,h3⟩ z hz
    have key:∀ z∈r,sv B z=true∧n7 U z.drawing+Y6 (y :: r) z.drawing≤n7 D z.drawing:=fun z hz=>by
     obtain⟨a,b⟩:=h3 z hz
     rw[Z4] at b
     rw[dZ]
     refine⟨a,?_⟩
     by_cases e:z.drawing=y.drawing
     ·rw[if_pos e] at b;rw[if_pos e.symm];rw[e] at b ⊢;omega
     ·rw[if_neg e] at b;rw[if_neg (Ne.symm e)];omega
    rcases List.mem_cons.1 hz with rfl|hz
    ·refine⟨h2,?_⟩
     by_cases hex:∃ w∈r,w.drawing=z.drawing
     ·obtain⟨w,hw,e⟩:=hex
      have:=(key w hw).2
      rw[e] at this;exact this
     ·rw[dZ,if_pos rfl,um fun w hw e=>hex ⟨w,hw,e⟩];omega
    ·exact key z hz
   ·intro h
    obtain⟨a,b⟩:=h y (by simp)
    rw[dZ,if_pos rfl] at b
    refine⟨⟨by omega,a⟩,fun z hz=>?_⟩
    obtain⟨a',b'⟩:=h z (by simp[hz])
    refine⟨a',?_⟩
    rw[dZ] at b'
    rw[Z4]
    by_cases e:z.drawing=y.drawing
    ·rw[if_pos e.symm,e] at b';rw[if_pos e,e];omega
    ·rw[if_neg (Ne.symm e)] at b';rw[if_neg e];omega
def Q6 (c:Chains) (ls:List Link) (y:Link):Bool:=decide ((Y6 ls y.drawing:Int)≤I8 (E7 c.reg c.lets c.of) y.drawing)&&(decide (0≤y.dim)&&decide (y.dim≤((j8 c.reg c.lets y.drawing).dims.length:Int)-1))
def I7 (c:Chains) (x:ChLoop):Bool:=kU x&&kT x&&x.links.all (Q6 c x.links)
theorem fJ {c:Chains} {d:Int} (h0:o6 c.reg=0) (hlet:o5 c.reg c.lets=true) (hof:c.of∈nums c.reg) (hc:1≤I8 (E7 c.reg c.lets c.of) d):d∈nums c.reg:=by
 refine Classical.byContradiction fun hn=>?_
 rw[fI h0 hlet hof,db] at hc
 ·omega
 ·intro hm
  simp only[F3,List.map_map] at hm
  obtain⟨n,h1,h2⟩:=List.mem_map.1 hm
  simp only[Function.comp] at h2
  exact hn (h2 ▸ (List.mem_filter.1 h1).1)
theorem tF {c:Chains} (h0:o6 c.reg=0) (hlet:o5 c.reg c.lets=true) (hof:c.of∈nums c.reg) (x:ChLoop):O1 (B0 c) (C9 c.reg c.lets) x=I7 c x:=by
 have hnd:(nums c.reg).Nodup:=(u4 h0).1.imp fun h=>Int.ne_of_lt h
 have hT:B3 c.reg c.lets c.of=0:=by simp[B3,h0,hlet,hof]
 have hD:∀ d,n7 (B0 c) d=I8 (E7 c.reg c.lets c.of) d:=fun d=>by
  rw[fI h0 hlet hof]
  have hE:Q8 c.reg c.lets c.of=F3 (nums c.reg) (bE c.reg c.lets c.of):=by rw[Q8,if_pos hT]
  have hn:((F3 (nums c.reg) (bE c.reg c.lets c.of)).map (·.drawing)).Nodup:=by
   simp only[F3,List.map_map]
   have:(fun x:Itm=>x.drawing) ∘ (fun n=>(⟨n,n7 (bE c.reg c.lets c.of) n⟩:Itm))=id:=rfl
   rw[this,List.map_id]
   exact hnd.filter _
  rw[B0,hE,bQ _ _ _ hn]
  split
  ·rfl
  ·rw[db _ _ ‹_›];rfl
 unfold O1 I7
 congr 1
 rw[Bool.eq_iff_iff,jI,List.all_eq_true]
 refine forall_congr' fun y=>forall_congr' fun hy=>?_
 simp only[Q6,sv,Bool.and_eq_true,decide_eq_true_eq,hD]
 have hp:=kQ hy
 have hz:n7 [] y.drawing=0:=rfl
 constructor
 ·rintro⟨h1,h2⟩
  have hm:=fJ (d:=y.drawing) h0 hlet hof (by omega)
  rw[C9,F9,if_pos hm] at h1
  exact⟨by omega,h1⟩
 ·rintro⟨h1,h2⟩
  have hm:=fJ (d:=y.drawing) h0 hlet hof (by omega)
  rw[C9,F9,if_pos hm]
  exact⟨h2,by omega⟩
theorem Y8 {c:Chains} (h0:o6 c.reg=0):p7 c=(if o5 c.reg c.lets=true∧c.of∈nums c.reg∧(1≤c.loops.length∧c.loops.length≤6)∧c.loops.all (I7 c)=true then 0 else 60):=by
 unfold p7
 rw[if_neg (by simp[h0])]
 by_cases hlet:o5 c.reg c.lets=true
 ·by_cases hof:c.of∈nums c.reg
  ·have hT:B3 c.reg c.lets c.of=0:=by simp[B3,h0,hlet,hof]
   have hL:c.loops.all (O1 (B0 c) (C9 c.reg c.lets))=c.loops.all (I7 c):=by
    congr 1;exact funext fun x=>tF h0 hlet hof x
   rw[hL]
   by_cases hn:1≤c.loops.length∧c.loops.length≤6
   ·rw[if_neg (by simp[hT];omega)]
    by_cases ha:c.loops.all (I7 c)=true
    ·rw[if_pos ha,if_pos ⟨hlet,hof,hn,ha⟩]
    ·rw[if_neg ha,if_neg fun h=>ha h.2.2.2]
   ·rw[if_pos (.inr hn),if_neg fun h=>hn h.2.2.1]
  ·have hT:B3 c.reg c.lets c.of≠0:=by simp[B3,h0,hlet,hof]
   rw[if_pos (.inl hT),if_neg fun h=>hof h.2.1]
 ·have hT:B3 c.reg c.lets c.of≠0:=by
   have:o5 c.reg c.lets=false:=by simpa using hlet
   simp[B3,h0,this]
  rw[if_pos (.inl hT),if_neg fun h=>hlet h.1]
theorem vO {c:Chains} (h:p7 c=0):OkC c:=by
 have h0:o6 c.reg=0:=Classical.byContradiction fun h'=>by simp[p7,h'] at h
 rw[Y8 h0] at h
 split at h
 ·rename_i hc
  obtain⟨a,b,d,e⟩:=hc
  rw[List.all_eq_true] at e
  refine⟨h0,a,b,d,fun x hx=>?_,fun x hx y hy=>?_⟩
  ·have:=e x hx
   simp only[I7,kU,Bool.and_eq_true,decide_eq_true_eq] at this
   exact⟨this.1.1.2,this.1.2⟩
  ·have:=e x hx
   simp only[I7,Bool.and_eq_true,List.all_eq_true] at this
   have:=this.2 y hy
   simp only[Q6,Bool.and_eq_true,decide_eq_true_eq] at this
   have hp:=kQ hy
   exact⟨fJ h0 a b (by omega),this.2.1,by omega⟩
 ·cases h
open Go Go.Ab Tryz
variable {G:Es}
def G5 (c:Chains):Bool:=o5 c.reg c.lets&&decide (c.of∈nums c.reg)&&decide (1≤c.loops.length∧c.loops.length≤6)&&c.loops.all (I7 c)
theorem tt (c:Chains) (hs:w9 c) (h0:o6 c.reg=0):zP prog G 81 [M9 c] (bv (G5 c)):=by
 refine zf func81 ntmps81 ?_
 try simp only[M9]
 have hck:=h0
 obtain⟨hsr,hsl,hso,hsk⟩:=hs
 have hreg:=hsr.1
 have hnl:(nums c.reg).length≤c.reg.length:=p8 c.reg c.reg.length
 have c1:=tG (G:=G) c.reg c.lets (by omega) (by omega)
 have c2:=L8 (G:=G) c.reg (by omega)
 have c3:=bV (G:=G) (nums c.reg) c.of (by omega)
 have c4:=dw (G:=G) (c.loops.length:Int) 1 6
 have him:=sn (nums c.reg) c.of
 by_cases hlet:o5 c.reg c.lets=true
 ·by_cases hof:c.of∈nums c.reg
  ·by_cases hn:1≤c.loops.length∧c.loops.length≤6
   ·have hE:G5 c=c.loops.all (I7 c):=by simp[G5,hlet,hof,hn]
    have hd:(decide ((1:Int)≤(c.loops.length:Int))&&decide ((c.loops.length:Int)≤6))=true:=by simp;omega
    have hll:c.lets.length=(nums c.reg).length:=by
     simp only[o5,Bool.and_eq_true,decide_eq_true_eq] at hlet;exact hlet.1
    have hz:¬ idx (nums c.reg) c.of<0:=fun h=>him.1 h hof
    rw[hlet] at c1
    rw[hd] at c4
    have c5:=oz (G:=G) c.reg c.lets c.of (by omega) h0 hlet hof
    have hs:=hz
    repeat' first|with_reducible refine zz ?_|simp -dsimp[hs]|refine zq c1 ?_|refine zq c2 ?_|refine zq c3 ?_|refine zq c4 ?_|refine zp c5 ?_|refine zM 1 125 22 [0,1,2,3,4,5,6,7,8,9,31,43,72,77,89,100,124] ?_|with_reducible refine zE [0,1,2,3,4,5,6,7,8,9,31,43,72,77,89,100,124] ?_|refine m5 ?_ ?_<;>intro h<;>try simp only[l8] at h
    all_goals try clear hs
    have hpl:(E7 c.reg c.lets c.of).length≤80:=by
     have:=List.length_filter_le (fun p:Int×Int=>decide (0<p.2)) ((nums c.reg).zip (lG c.reg c.lets c.of))
     simp only[E7,List.length_map,List.length_zip] at *;omega
    have hpm:=fun d (hd:1≤I8 (E7 c.reg c.lets c.of) d)=>fJ h0 hlet hof hd
    have hlkE:∀ ls y,Q6 c ls y=(decide ((Y6 ls y.drawing:Int)≤I8 (E7 c.reg c.lets c.of) y.drawing)&&(decide (0≤y.dim)&&decide (y.dim≤((j8 c.reg c.lets y.drawing).dims.length:Int)-1))):=fun _ _=>rfl
    generalize E7 c.reg c.lets c.of=ps at *
    refine j7 (ι:={ j:Nat // j≤c.loops.length∧c.loops.all (I7 c)=(c.loops.drop j).all (I7 c) }) (fun p=>⟨125,[(1,.one (.ptr 0 0)),(2,bv false),(3,.one (.im (.sl (ps.map l7)))),(4,iv (p.1:Int))],[.row ((p5 c).map .im)]⟩) (fun p=>c.loops.length-p.1) ⟨0,by simp⟩ (zv [1,2,3,4]) ?_
    rintro⟨j,hj,hall⟩
    simp only[iv,bv]
    by_cases hlj:j<c.loops.length
    ·have hx:c.loops[j]?=some c.loops[j]:=by simp[hlj]
     have hw:=zk j
     have hst:=V8 hlj hall
     have hlx:I7 c c.loops[j]=(kU c.loops[j]&&kT c.loops[j]&&c.loops[j].links.all (Q6 c c.loops[j].links)):=rfl
     have h12:(kU c.loops[j]&&kT c.loops[j])=true↔1≤c.loops[j].links.length∧c.loops[j].links.length≤8∧-8000000000≤c.loops[j].lo∧c.loops[j].lo≤8000000000∧c.loops[j].lo≤c.loops[j].hi∧c.loops[j].hi≤8000000000:=by
      rw[Bool.and_eq_true,po]
      simp only[kU,Bool.and_eq_true,decide_eq_true_eq];omega
     generalize hA:(kU c.loops[j]&&kT c.loops[j])=A at h12 hlx
     generalize hxe:c.loops[j]=x at *
     have hs:=za hx (za hlj hxe)
     repeat' first|(with_reducible first|refine zz ?_|refine zr ?_|refine zE [0,1,2,3,4,5,6,7,8,9,31,43,72,77,89,100,124] ?_)|simp -dsimp[hs]|refine zp (dw (G:=G) _ _ _) ?_|refine m5 ?_ ?_<;>intro h<;>try simp only[l8] at h|with_reducible refine o4 ?_ ?_<;>intro h<;>have h0:=h<;>(try simp only[l8] at h)<;>have h2:=h<;>(try simp at h2)<;>replace hs:=za h0 (za h (za h2 hs))
     all_goals try clear hs
     all_goals first
      | (have hA2 : A = false := bC h12 (by clear h12 hw; omega)
         rw[hE,A5 hst (by rw[hlx,hA2];exact Bool.false_ne_true)];done)
      | skip
     have hA2:A=true:=rQ h12 (by clear h12 hw;omega)
     rw[hA2,Bool.true_and] at hlx
     have hx8:x.links.length≤8:=(h12.1 hA2).2.1
     clear h12
     refine j7 (ι:={ u:Nat // u≤x.links.length∧x.links.all (Q6 c x.links)=(x.links.drop u).all (Q6 c x.links) }) (fun p=>⟨125,[(1,.one (.ptr 0 0)),(2,bv false),(3,.one (.im (.sl (ps.map l7)))),(4,iv (j:Int)),(5,.one (.ptr 2 0)),(6,iv (p.1:Int))],[.row ((p5 c).map .im),.vec 0 [] 0 true,.row ((j5 x).map .im)]⟩) (fun p=>x.links.length-p.1) ⟨0,by simp⟩ (zv [1,2,3,4,5,6]) ?_
     rintro⟨u,hu,hal2⟩
     simp only[iv,bv]
     by_cases hlu:u<x.links.length
     ·have hy:x.links[u]?=some x.links[u]:=by simp[hlu]
      have hw2:=zk u
      have hst2:=V8 hlu hal2
      have hcp:=kQ (List.getElem_mem hlu)
      have hle:=hlkE x.links x.links[u]
      generalize hye:x.links[u]=y at *
      have hs:=za hy (za hlu hye)
      repeat' first|(with_reducible first|refine zz ?_|refine zE [0,1,2,3,4,5,6,7,8,9,31,43,72,77,89,100,124] ?_)|simp -dsimp[hs]|refine m5 ?_ ?_<;>intro h<;>try simp only[l8] at h
      all_goals try clear hs
      refine j7 (ι:={ i:Nat // i≤x.links.length }) (fun p=>⟨125,[(1,.one (.ptr 0 0)),(2,bv false),(3,.one (.im (.sl (ps.map l7)))),(4,iv (j:Int)),(5,.one (.ptr 2 0)),(6,iv (u:Int)),(7,.one (.ptr 3 0)),(8,iv (Y6 (x.links.take p.1) y.drawing:Int)),(9,iv (p.1:Int))],[.row ((p5 c).map .im),.vec 0 [] 0 true,.row ((j5 x).map .im),.row ((C2 y).map .im)]⟩) (fun p=>x.links.length-p.1) ⟨0,by omega⟩ (zv [1,2,3,4,5,6,7,8,9] (by simp[Y6])) ?_
      rintro⟨i,hi⟩
      simp only[iv,bv]
      by_cases hli:i<x.links.length
      ·have hz:x.links[i]?=some x.links[i]:=by simp[hli]
       have hw3:=zk i
       have hcl:Y6 (x.links.take i) y.drawing≤i:=by
        unfold Y6
        have:=List.length_filter_le (fun z:Link=>decide (z.drawing=y.drawing)) (x.links.take i)
        rw[List.length_take] at this;omega
       have hw4:IntKind.i64.wrap ((Y6 (x.links.take i) y.drawing:Int)+1)=(Y6 (x.links.take i) y.drawing:Int)+1:=u7 (by omega) (by omega)
       have hcn:Y6 (x.links.take (i+1)) y.drawing=Y6 (x.links.take i) y.drawing+if x.links[i].drawing=y.drawing then 1 else 0:=by
        rw[List.take_succ_eq_append_getElem hli]
        unfold Y6
        rw[List.filter_append,List.length_append]
        congr 1
        by_cases h:x.links[i].drawing=y.drawing<;>simp[h]
       have hs:=za hz (za hli (za hw3 hw4))
       repeat' first|with_reducible refine zz ?_|simp -dsimp[hs]|refine zM 18 125 9 [0,1,2,3,4,5,6,7,8,9,31,43,72,77,89,100,124] ?_|with_reducible refine zE [0,1,2,3,4,5,6,7,8,9,31,43,72,77,89,100,124] ?_|refine m5 ?_ ?_<;>intro h<;>try simp only[l8] at h
       all_goals try clear hs
       ·have hcn':(Y6 (x.links.take (i+1)) y.drawing:Int)=(Y6 (x.links.take i) y.drawing:Int)+1:=by rw[hcn,if_pos ‹_›];rfl
        exact zn ⟨i+1,by omega⟩ (zv [1,2,3,4,5,6,7,8,9] (by simp[hcn']))
       ·have hcn':Y6 (x.links.take (i+1)) y.drawing=Y6 (x.links.take i) y.drawing:=by rw[hcn,if_neg ‹_›];rfl
        exact zn ⟨i+1,by omega⟩ (zv [1,2,3,4,5,6,7,8,9] (by simp[hcn']))
      ·have hti:x.links.take i=x.links:=List.take_of_length_le (by omega)
       rw[hti]
       have k1:=yH (G:=G) ps y.drawing (by omega)
       by_cases hgt:I8 ps y.drawing<(Y6 x.links y.drawing:Int)
       ·have hf:Q6 c x.links y=false:=by rw[hle,decide_eq_false (by omega)];rfl
        have hs:=za hli hgt
        repeat' first|(with_reducible first|refine zz ?_|refine zr ?_)|simp -dsimp[hs]|refine zq k1 ?_|refine zM 20 125 22 [0,1,2,3,4,5,6,7,8,9,31,43,72,77,89,100,124] ?_|with_reducible refine zE [0,1,2,3,4,5,6,7,8,9,31,43,72,77,89,100,124] ?_|refine m5 ?_ ?_<;>intro h<;>try simp only[l8] at h
        all_goals try clear hs
        rw[hE,A5 hst (by rw[hlx,A5 hst2 (by rw[hf];exact Bool.false_ne_true)];exact Bool.false_ne_true)]
       ·have hym:=hpm y.drawing (by omega)
        have k2:=dz (G:=G) c.reg c.lets y.drawing (by omega) hym hll
        rw[decide_eq_true (by omega),Bool.true_and] at hle
        have htb:(j8 c.reg c.lets y.drawing).dims.length<1000000:=by
         obtain⟨hm,_⟩:=A7 hck hlet hym
         have:=(hsr.2 _ hm).2.2.2;omega
        generalize j8 c.reg c.lets y.drawing=t at *
        have hwd:IntKind.i64.wrap ((t.dims.length:Int)-1)=(t.dims.length:Int)-1:=u7 (by omega) (by omega)
        have k3:=dw (G:=G) y.dim 0 ((t.dims.length:Int)-1)
        rw[← hle] at k3
        cases hq:Q6 c x.links y
        ·rw[hq] at k3
         have hs:=za hli (za hgt hwd)
         repeat' first|(with_reducible first|refine zz ?_|refine zr ?_)|simp -dsimp[hs]|refine zq k1 ?_|refine zq k2 ?_|refine zq k3 ?_|refine zM 20 125 22 [0,1,2,3,4,5,6,7,8,9,31,43,72,77,89,100,124] ?_|with_reducible refine zE [0,1,2,3,4,5,6,7,8,9,31,43,72,77,89,100,124] ?_|refine m5 ?_ ?_<;>intro h<;>try simp only[l8] at h
         all_goals try clear hs
         rw[hE,A5 hst (by rw[hlx,A5 hst2 (by rw[hq];exact Bool.false_ne_true)];exact Bool.false_ne_true)]
        ·rw[hq] at k3
         have hs:=za hli (za hgt (za hwd hw2))
         repeat' first|with_reducible refine zz ?_|simp -dsimp[hs]|refine zq k1 ?_|refine zq k2 ?_|refine zq k3 ?_|refine zM 20 125 22 [0,1,2,3,4,5,6,7,8,9,31,43,72,77,89,100,124] ?_|with_reducible refine zE [0,1,2,3,4,5,6,7,8,9,31,43,72,77,89,100,124] ?_|refine m5 ?_ ?_<;>intro h<;>try simp only[l8] at h
         all_goals try clear hs
         exact zn ⟨u+1,by omega,E9 hst2 hq⟩ (zw [1,2,3,4,5,6] 3)
     ·have hok:x.links.all (Q6 c x.links)=true:=by rw[hal2,List.drop_eq_nil_of_le (by omega)];rfl
      have hs:=za hlu hw
      repeat' first|(with_reducible first|refine zz ?_|refine zE [0,1,2,3,4,5,6,7,8,9,31,43,72,77,89,100,124] ?_)|simp -dsimp[hs]|refine m5 ?_ ?_<;>intro h<;>try simp only[l8] at h
      all_goals try clear hs
      exact zn ⟨j+1,by omega,E9 hst (by rw[hlx,hok])⟩ (zw [1,2,3,4] 1)
    ·have hok:c.loops.all (I7 c)=true:=by rw[hall,List.drop_eq_nil_of_le (by omega)];rfl
     have hs:=hlj
     repeat' first|(with_reducible first|refine zz ?_|refine zr ?_|refine zE [0,1,2,3,4,5,6,7,8,9,31,43,72,77,89,100,124] ?_)|simp -dsimp[hs]|refine m5 ?_ ?_<;>intro h<;>try simp only[l8] at h
     all_goals try clear hs
     rw[hE,hok]
   ·have hd:(decide ((1:Int)≤(c.loops.length:Int))&&decide ((c.loops.length:Int)≤6))=false:=by simp;omega
    have hE:G5 c=false:=by simp[G5,hn]
    have hz:¬ idx (nums c.reg) c.of<0:=fun h=>him.1 h hof
    rw[hlet] at c1
    rw[hd] at c4
    have hs:=hz
    repeat' first|(with_reducible first|refine zz ?_|refine zr ?_)|simp -dsimp[hs]|refine zq c1 ?_|refine zq c2 ?_|refine zq c3 ?_|refine zq c4 ?_|refine zM 1 125 22 [0,1,2,3,4,5,6,7,8,9,31,43,72,77,89,100,124] ?_|with_reducible refine zE [0,1,2,3,4,5,6,7,8,9,31,43,72,77,89,100,124] ?_|refine m5 ?_ ?_<;>intro h<;>try simp only[l8] at h
    all_goals try clear hs
    rw[hE]
  ·have hE:G5 c=false:=by simp[G5,hof]
   have hz:idx (nums c.reg) c.of<0:=him.2 hof
   rw[hlet] at c1
   have hs:=hz
   repeat' first|(with_reducible first|refine zz ?_|refine zr ?_)|simp -dsimp[hs]|refine zq c1 ?_|refine zq c2 ?_|refine zq c3 ?_|refine zM 1 125 22 [0,1,2,3,4,5,6,7,8,9,31,43,72,77,89,100,124] ?_|with_reducible refine zE [0,1,2,3,4,5,6,7,8,9,31,43,72,77,89,100,124] ?_|refine m5 ?_ ?_<;>intro h<;>try simp only[l8] at h
   all_goals try clear hs
   rw[hE]
 ·have hlet':o5 c.reg c.lets=false:=by simpa using hlet
  have hE:G5 c=false:=by simp[G5,hlet']
  rw[hlet'] at c1
  have hs:=trivial
  repeat' first|(with_reducible first|refine zz ?_|refine zr ?_)|simp -dsimp[hs]|refine zq c1 ?_|refine zM 1 125 22 [0,1,2,3,4,5,6,7,8,9,31,43,72,77,89,100,124] ?_|with_reducible refine zE [0,1,2,3,4,5,6,7,8,9,31,43,72,77,89,100,124] ?_|refine m5 ?_ ?_<;>intro h<;>try simp only[l8] at h
  all_goals try clear hs
  rw[hE]
theorem nF {c:Chains} (h0:o6 c.reg=0):p7 c=if G5 c then 0 else 60:=by
 rw[Y8 h0]
 have:(G5 c=true)=(o5 c.reg c.lets=true∧c.of∈nums c.reg∧(1≤c.loops.length∧c.loops.length≤6)∧c.loops.all (I7 c)=true):=by
  simp only[G5,Bool.and_eq_true,decide_eq_true_eq,and_assoc]
 by_cases h:G5 c=true
 ·rw[if_pos h,if_pos (this ▸ h)]
 ·rw[if_neg h,if_neg (this ▸ h)]
theorem ka (c:Chains) (hs:w9 c):zP prog G 37 [M9 c] (iv (p7 c)):=by
 refine zf func37 ntmps37 ?_
 try simp only[M9]
 have c1:=vH (G:=G) c.reg hs.1
 by_cases hck:o6 c.reg=0
 ·have c2:=tt (G:=G) c hs hck
  have hE:=nF hck
  rw[hck] at c1
  cases hq:G5 c
  ·rw[hq] at c2 hE
   have hs:=trivial
   repeat' first|(with_reducible first|refine zz ?_|refine zr ?_|refine zE [0,1,2,3,8,12] ?_)|simp -dsimp[hs]|refine zp c1 ?_|refine zp c2 ?_|refine m5 ?_ ?_<;>intro h<;>try simp only[l8] at h
   all_goals try clear hs
   simp[hE]
  ·rw[hq] at c2 hE
   have hs:=trivial
   repeat' first|(with_reducible first|refine zz ?_|refine zr ?_|refine zE [0,1,2,3,8,12] ?_)|simp -dsimp[hs]|refine zp c1 ?_|refine zp c2 ?_|refine m5 ?_ ?_<;>intro h<;>try simp only[l8] at h
   all_goals try clear hs
   simp[hE]
 ·have hE:p7 c=o6 c.reg:=by simp[p7,hck]
  have hs:=hck
  repeat' first|(with_reducible first|refine zz ?_|refine zr ?_|refine zE [0,1,2,3,8,12] ?_)|simp -dsimp[hs]|refine zp c1 ?_|refine m5 ?_ ?_<;>intro h<;>try simp only[l8] at h
  all_goals try clear hs
  simp[hE]
end Go.Proofs
namespace Go.Ab
open Go
structure Spot where
 drawing:Int
 dim:Int
 deriving DecidableEq
def m6 (x:Spot):List IC:=[rI x.drawing,rI x.dim]
def A4 (l:List Spot):DV:=.one (.im (.sl (l.map m6)))
attribute [simp] m6 A4
def F5 (a b:Spot):Bool:=decide (a.drawing<b.drawing)||(decide (a.drawing=b.drawing)&&decide (a.dim<b.dim))
theorem ap {a b:Spot}:F5 a b=true↔a.drawing<b.drawing∨a.drawing=b.drawing∧a.dim<b.dim:=by simp[F5]
theorem be (a:Spot):F5 a a=false:=by simp[F5]
theorem cb {a b c:Spot} (h:F5 a b=true) (k:F5 b c=true):F5 a c=true:=by
 rw[ap] at *;omega
theorem kZ {a b:Spot} (h:a≠b):F5 a b=true∨F5 b a=true:=by
 rw[ap,ap]
 have:¬ (a.drawing=b.drawing∧a.dim=b.dim):=fun e=>h (by cases a;cases b;simp_all)
 omega
theorem nH {a b:Spot} (h:F5 a b=true):F5 b a=false:=by
 cases hq:F5 b a with
 | false=>rfl
 | true=>have:=cb h hq;rw[be] at this;cases this
def SortedS (l:List Spot):Prop:=l.Pairwise fun a b=>F5 a b=true
theorem SortedS.nodup {l:List Spot} (h:SortedS l):l.Nodup:=h.imp fun h e=>by rw[e,be] at h;cases h
theorem eu:∀ {a b:List Spot},SortedS a→SortedS b→(∀ x,x∈a↔x∈b)→a=b
 | [],[],_,_,_=>rfl
 | [],y :: b,_,_,h=>by have:=(h y).2 (by simp);simp at this
 | x :: a,[],_,_,h=>by have:=(h x).1 (by simp);simp at this
 | x :: a,y :: b,ha,hb,h=>by
   have ha':=ha
   have hb':=hb
   unfold SortedS at ha hb
   rw[List.pairwise_cons] at ha hb
   have e:x=y:=by
    rcases List.mem_cons.1 ((h x).1 (by simp)) with e|h1
    ·exact e
    rcases List.mem_cons.1 ((h y).2 (by simp)) with e|h2
    ·exact e.symm
    have:=nH (ha.1 y h2)
    rw[hb.1 x h1] at this;cases this
   subst e
   have:=eu ha.2 hb.2 fun z=>by
    have hz:=h z
    have hn1:=ha'.nodup;have hn2:=hb'.nodup
    rw[List.nodup_cons] at hn1 hn2
    constructor
    ·intro hm
     rcases List.mem_cons.1 (hz.1 (by simp[hm])) with e|h1
     ·subst e;exact absurd hm hn1.1
     ·exact h1
    ·intro hm
     rcases List.mem_cons.1 (hz.2 (by simp[hm])) with e|h1
     ·subst e;exact absurd hm hn2.1
     ·exact h1
   rw[this]
def aJ (x:Spot):List Spot→Nat
 | []=>0
 | y :: r=>if F5 y x then aJ x r+1 else 0
def fZ (x:Spot) (l:List Spot):List Spot:=l.take (aJ x l)++x :: l.drop (aJ x l)
theorem oU (x:Spot):∀ l:List Spot,aJ x l≤l.length
 | []=>Nat.le_refl _
 | y :: r=>by simp only[aJ];split<;>simp;exact oU x r
theorem oR (x:Spot):fZ x []=[x]:=rfl
theorem ml (x y:Spot) (r:List Spot):fZ x (y :: r)=if F5 y x then y :: fZ x r else x :: y :: r:=by
 simp only[fZ,aJ]
 split<;>simp
theorem mem_insS {x z:Spot}:∀ {l:List Spot},z∈fZ x l↔z=x∨z∈l
 | []=>by simp[oR]
 | y :: r=>by
   rw[ml]
   split
   ·rw[List.mem_cons,mem_insS,List.mem_cons]
    constructor<;>(rintro (h|h|h)<;>simp[h])
   ·simp
theorem iM {x:Spot}:∀ {l:List Spot},SortedS l→x∉l→SortedS (fZ x l)
 | [],_,_=>by rw[oR];exact List.pairwise_singleton _ _
 | y :: r,h,hn=>by
   unfold SortedS at h
   rw[List.pairwise_cons] at h
   rw[ml]
   have hne:x≠y:=fun e=>hn (by simp[e])
   split
   ·rename_i hb
    refine List.pairwise_cons.2 ⟨fun z hz=>?_,iM h.2 fun hm=>hn (by simp[hm])⟩
    rcases mem_insS.1 hz with rfl|hz
    ·exact hb
    ·exact h.1 z hz
   ·rename_i hb
    have hxy:F5 x y=true:=(kZ hne).resolve_right hb
    refine List.pairwise_cons.2 ⟨fun z hz=>?_,List.pairwise_cons.2 h⟩
    rcases List.mem_cons.1 hz with rfl|hz
    ·exact hxy
    ·exact cb hxy (h.1 z hz)
theorem oS (x:Spot) (l:List Spot):(fZ x l).length=l.length+1:=by
 have:=oU x l
 simp[fZ];omega
def di (f:Spot→Bool) (out:List Spot) (x:Spot):List Spot:=if f x=false∨x∈out then out else fZ x out
def wV (f:Spot→Bool) (l:List Spot):List Spot:=l.foldl (di f) []
theorem py {f:Spot→Bool} {out:List Spot} (h:SortedS out) (x:Spot):SortedS (di f out x):=by
 unfold di
 split
 ·exact h
 ·rename_i hc
  exact iM h fun hm=>hc (.inr hm)
theorem gb {f:Spot→Bool}:∀ (l out:List Spot),SortedS out→SortedS (l.foldl (di f) out)
 | [],_,h=>h
 | x :: l,out,h=>gb l _ (py h x)
theorem vV {f:Spot→Bool} {out:List Spot} {x z:Spot}:z∈di f out x↔z∈out∨z=x∧f x=true:=by
 unfold di
 split
 ·rename_i hc
  constructor
  ·exact .inl
  ·rintro (h|⟨rfl,h⟩)
   ·exact h
   ·rcases hc with hc|hc
    ·rw[h] at hc;cases hc
    ·exact hc
 ·rename_i hc
  rw[mem_insS]
  have:f x=true:=by
   cases hq:f x with
   | true=>rfl
   | false=>exact absurd (.inl hq) hc
  constructor
  ·rintro (h|h)
   ·exact .inr ⟨h,this⟩
   ·exact .inl h
  ·rintro (h|h)
   ·exact .inr h
   ·exact .inl h.1
theorem mf {f:Spot→Bool} {z:Spot}:∀ {l out:List Spot},z∈l.foldl (di f) out↔z∈out∨z∈l∧f z=true
 | [],out=>by simp
 | x :: l,out=>by
   rw[List.foldl_cons,mf,vV,List.mem_cons]
   constructor
   ·rintro ((h|⟨rfl,h⟩)|h)
    ·exact .inl h
    ·exact .inr ⟨.inl rfl,h⟩
    ·exact .inr ⟨.inr h.1,h.2⟩
   ·rintro (h|⟨rfl|h1,h2⟩)
    ·exact .inl (.inl h)
    ·exact .inl (.inr ⟨rfl,h2⟩)
    ·exact .inr ⟨h1,h2⟩
theorem iX (f:Spot→Bool) (l:List Spot):SortedS (wV f l):=gb l [] List.Pairwise.nil
theorem oD {f:Spot→Bool} {l:List Spot} {z:Spot}:z∈wV f l↔z∈l∧f z=true:=by rw[wV,mf];simp
def kS (x:Spot):List Value:=[.int .i64 x.drawing,.int .i64 x.dim]
def Q9 (l:List Spot):List (List Value×List DC):=l.map fun x=>(kS x,[.im (rB true)])
def cW (l:List Spot):List (List Value×List IC):=l.map fun x=>(kS x,[rB true])
def I9 (x:Spot) (l:List Spot):List Spot:=if x∈l then l else l++[x]
theorem wR (a b:Int) (y:Spot):B1 [.int .i64 a,.int .i64 b] (kS y)=decide (y=⟨a,b⟩):=by
 simp only[kS,B1,Bool.and_true]
 obtain⟨p,q⟩:=y
 rw[Bool.eq_iff_iff]
 simp only[decide_eq_true_eq,Bool.and_eq_true,beq_iff_eq,Spot.mk.injEq]
 constructor<;>(rintro⟨rfl,rfl⟩;exact⟨rfl,rfl⟩)
theorem Az (l:List Spot) (a b:Int):S6 [.int .i64 a,.int .i64 b] [.im (.raw (.bool true))] (Q9 l)=Q9 (I9 ⟨a,b⟩ l):=by
 have gen:∀ l:List Spot,(⟨a,b⟩∈l→S6 [.int .i64 a,.int .i64 b] [.im (.raw (.bool true))] (Q9 l)=Q9 l)∧(⟨a,b⟩∉l→S6 [.int .i64 a,.int .i64 b] [.im (.raw (.bool true))] (Q9 l)=Q9 (l++[⟨a,b⟩])):=by
  intro l
  induction l with
  | nil=>exact⟨fun h=>by simp at h,fun _=>rfl⟩
  | cons p r ih =>
    have e:∀ r,Q9 (p :: r)=(kS p,[.im (rB true)]) :: Q9 r:=fun _=>rfl
    rw[List.cons_append,e,e]
    simp only[S6,wR,decide_eq_true_eq]
    constructor
    ·intro h
     split
     ·rename_i h1;subst h1;rfl
     ·rename_i h1
      rw[ih.1 ((List.mem_cons.1 h).resolve_left fun h2=>h1 h2.symm)]
    ·intro h
     split
     ·rename_i h1;exact absurd (List.mem_cons.2 (.inl h1.symm)) h
     ·rw[ih.2 fun h2=>h (List.mem_cons_of_mem _ h2)]
 unfold I9
 split
 ·exact(gen l).1 ‹_›
 ·exact(gen l).2 ‹_›
theorem wz (l:List Spot):(Q9 l).length=l.length:=by simp[Q9]
theorem qB {x:Spot}:∀ {l:List Spot} {i:Nat},l.Nodup→l[i]?=some x→U9 [.int .i64 x.drawing,.int .i64 x.dim] (Q9 l)=some i
 | [],i,_,h=>by simp at h
 | y :: r,i,hn,h=>by
   rw[List.nodup_cons] at hn
   have e:Q9 (y :: r)=(kS y,[.im (rB true)]) :: Q9 r:=rfl
   rw[e]
   simp only[U9,wR,decide_eq_true_eq]
   cases i with
   | zero=>simp at h;subst h;rw[if_pos rfl]
   | succ i =>
     have h':r[i]?=some x:=by simpa using h
     rw[if_neg (fun e=>hn.1 (by cases x;cases y;cases e;exact List.mem_of_getElem? h')),qB hn.2 h'];rfl
theorem AA {x:Spot} {l:List Spot} {i:Nat} (hn:l.Nodup) (h:l[i]?=some x):fQ [.int .i64 x.drawing,.int .i64 x.dim] (Q9 l)=Q9 (l.eraseIdx i):=by
 rw[ia (qB hn h)]
 refine List.ext_getElem? fun j=>?_
 simp only[Q9,List.getElem?_map,List.getElem?_eraseIdx]
 split<;>simp
theorem nV {x:Spot} {l:List Spot} (h:l.Nodup):(I9 x l).Nodup:=by
 unfold I9
 split
 ·exact h
 ·rename_i hn
  rw[List.nodup_append]
  exact⟨h,by simp,fun a ha b hb=>by simp at hb;subst hb;exact fun e=>hn (e ▸ ha)⟩
theorem cU:∀ (ys:List Spot) (l:List Spot),l.Nodup→(ys.foldl (fun l x=>I9 x l) l).Nodup
 | [],_,h=>h
 | y :: ys,l,h=>cU ys _ (nV h)
theorem gZ {z:Spot}:∀ {ys l:List Spot},z∈ys.foldl (fun l x=>I9 x l) l↔z∈l∨z∈ys
 | [],l=>by simp
 | y :: ys,l=>by
   rw[List.foldl_cons,gZ,List.mem_cons]
   unfold I9
   split
   ·rename_i h
    constructor
    ·rintro (h1|h1)
     ·exact .inl h1
     ·exact .inr (.inr h1)
    ·rintro (h1|rfl|h1)
     ·exact .inl h1
     ·exact .inl h
     ·exact .inr h1
   ·rw[List.mem_append,List.mem_singleton]
    constructor
    ·rintro ((h1|h1)|h1)
     ·exact .inl h1
     ·exact .inr (.inl h1)
     ·exact .inr (.inr h1)
    ·rintro (h1|h1|h1)
     ·exact .inl (.inl h1)
     ·exact .inl (.inr h1)
     ·exact .inr h1
@[simp] theorem Dd (k n:Nat) (objs:List DObj) (l:List Spot):G2 (fun x:List Value×List DC=>(G2 (frz (k+1) n objs) x.2).map fun l=>(x.1,l)) (Q9 l)=some (cW l):=by
 induction l with
 | nil=>rfl
 | cons p r ih =>
   have e:Q9 (p :: r)=(kS p,[.im (rB true)]) :: Q9 r:=rfl
   rw[e]
   simp[G2,ih,cW]
@[simp] theorem BV (n:Nat) (objs:List DObj) (l:List Spot):((Q9 l).map fun x=>(x.1,x.2.map (fz n objs)))=Q9 l:=by
 simp[Q9,fz,DC.lt]
@[simp] theorem Cg (L:List Spot) (k:Nat) (h:k<(o7 (L.map m6)).length):(o7 (L.map m6))[k]=[DC.im (.raw (.int .i64 (L[k]'(by simpa[p6] using h)).drawing)),DC.im (.raw (.int .i64 (L[k]'(by simpa[p6] using h)).dim))]:=by
 simp[o7]
theorem wA {l:List Spot} {i:Nat} {x:List Value×List DC} (h:(Q9 l)[i]?=some x):∃ y,l[i]?=some y∧x=([.int .i64 y.drawing,.int .i64 y.dim],[.im (.raw (.bool true))]):=by
 simp only[Q9,List.getElem?_map,Option.map_eq_some_iff] at h
 obtain⟨y,h1,rfl⟩:=h
 exact⟨y,h1,rfl⟩
theorem ud {l:List Spot} {i:Nat} {a:List Value} {b:List DC} (h:(Q9 l)[i]?=some (a,b)):∃ y,l[i]?=some y∧a=[.int .i64 y.drawing,.int .i64 y.dim]∧b=[.im (.raw (.bool true))]:=by
 obtain⟨y,h1,h2⟩:=wA h
 cases h2
 exact⟨y,h1,rfl,rfl⟩
theorem ue {l:List Spot} {i:Nat} {a:List Value} {b:List IC} (h:(cW l)[i]?=some (a,b)):∃ y,l[i]?=some y∧a=[.int .i64 y.drawing,.int .i64 y.dim]∧b=[.raw (.bool true)]:=by
 simp only[cW,List.getElem?_map,Option.map_eq_some_iff] at h
 obtain⟨y,h1,h2⟩:=h
 cases h2
 exact⟨y,h1,rfl,rfl⟩
theorem pf (l:List Spot) (i:Nat):(cW l).eraseIdx i=cW (l.eraseIdx i):=by
 refine List.ext_getElem? fun j=>?_
 simp only[cW,List.getElem?_map,List.getElem?_eraseIdx]
 split<;>simp
theorem fS {α β:Type} (f:α→β) (l:List α) (i:Nat):(l.eraseIdx i).map f=(l.map f).eraseIdx i:=by
 refine List.ext_getElem? fun j=>?_
 simp only[List.getElem?_map,List.getElem?_eraseIdx]
 split<;>simp
theorem oX {l:List Nat} (hn:l.Nodup) {i s:Nat} (h:l[i]?=some s):l.idxOf? s=some i:=by
 rw[List.idxOf?,List.findIdx?_eq_some_iff_getElem]
 obtain⟨h1,h2⟩:=List.getElem?_eq_some_iff.1 h
 refine⟨h1,by simpa using h2,fun j hj he=>?_⟩
 have he:l[j]=s:=by simpa using he
 have:=(List.getElem_inj hn).1 (he.trans h2.symm)
 omega
def qL (f:Spot→Bool) (seen:List Nat) (p:Spot×Nat):Bool:=!(decide (p.2∈seen) && !f p.1)
def Q7 (f:Spot→Bool) (P:List (Spot×Nat)) (seen:List Nat):List (Spot×Nat):=P.filter (qL f seen)
theorem tH (f:Spot→Bool) (P:List (Spot×Nat)):Q7 f P []=P:=by
 unfold Q7
 exact List.filter_eq_self.2 fun p _=>by simp[qL]
theorem qD {f:Spot→Bool} {P:List (Spot×Nat)} {seen:List Nat} {x:Spot} {s:Nat} (hn:(P.map (·.2)).Nodup) (hm:(x,s)∈P) (hf:f x=true):Q7 f P (seen++[s])=Q7 f P seen:=by
 unfold Q7
 refine List.filter_congr fun p hp=>?_
 simp only[qL,List.mem_append,List.mem_singleton]
 by_cases e:p.2=s
 ·have:p=(x,s):=by
   obtain⟨i,hi⟩:=List.mem_iff_getElem?.1 hp
   obtain⟨j,hj⟩:=List.mem_iff_getElem?.1 hm
   have h1:(P.map (·.2))[i]?=some s:=by rw[List.getElem?_map,hi];simp[e]
   have h2:(P.map (·.2))[j]?=some s:=by rw[List.getElem?_map,hj];rfl
   have:i=j:=(List.getElem?_inj (g9 h1) hn).1 (h1.trans h2.symm)
   subst this
   rw[hi] at hj;cases hj;rfl
  subst this
  simp[hf]
 ·simp[e]
theorem W6 {α:Type} {p q:α→Bool} {a:α}:∀ {l:List α} {i:Nat},l.Nodup→(l.filter p)[i]?=some a→(∀ b∈l,b≠a→q b=p b)→q a=false→l.filter q=(l.filter p).eraseIdx i
 | [],i,_,h,_,_=>by simp at h
 | y :: l,i,hn,h,hq,ha=>by
   rw[List.nodup_cons] at hn
   by_cases e:y=a
   ·subst e
    have hp:p y=true:=(List.mem_filter.1 (List.mem_of_getElem? h)).2
    rw[List.filter_cons_of_pos hp] at h ⊢
    rw[List.filter_cons_of_neg (by simp[ha])]
    have hi:i=0:=by
     cases i with
     | zero=>rfl
     | succ i =>
       have:(l.filter p)[i]?=some y:=by simpa using h
       exact absurd (List.mem_filter.1 (List.mem_of_getElem? this)).1 hn.1
    subst hi
    rw[List.eraseIdx_cons_zero]
    exact List.filter_congr fun b hb=>hq b (by simp[hb]) fun e=>hn.1 (e ▸ hb)
   ·have hy:=hq y (by simp) e
    by_cases hp:p y=true
    ·rw[List.filter_cons_of_pos hp] at h ⊢
     rw[List.filter_cons_of_pos (by rw[hy];exact hp)]
     cases i with
     | zero=>simp at h;exact absurd h e
     | succ i =>
       rw[List.eraseIdx_cons_succ,W6 hn.2 (by simpa using h) (fun b hb=>hq b (by simp[hb])) ha]
    ·rw[List.filter_cons_of_neg hp] at h ⊢
     rw[List.filter_cons_of_neg (by rw[hy];exact hp)]
     exact W6 hn.2 h (fun b hb=>hq b (by simp[hb])) ha
theorem tJ {f:Spot→Bool} {P:List (Spot×Nat)} {seen:List Nat} {x:Spot} {s i:Nat} (hn:(P.map (·.2)).Nodup) (hi:(Q7 f P seen)[i]?=some (x,s)) (hf:f x=false):Q7 f P (seen++[s])=(Q7 f P seen).eraseIdx i:=by
 have hnP:P.Nodup:=by
  have:=hn
  rw[List.Nodup,List.pairwise_map] at this
  exact this.imp fun h e=>h (by rw[e])
 have hm:(x,s)∈P:=(List.mem_filter.1 (List.mem_of_getElem? hi)).1
 unfold Q7 at hi ⊢
 refine W6 hnP hi (fun p hp hne=>?_) (by simp[qL,hf])
 simp only[qL,List.mem_append,List.mem_singleton]
 have:p.2≠s:=fun e=>by
  obtain⟨i,hi⟩:=List.mem_iff_getElem?.1 hp
  obtain⟨j,hj⟩:=List.mem_iff_getElem?.1 hm
  have h1:(P.map (·.2))[i]?=some s:=by rw[List.getElem?_map,hi];simp[e]
  have h2:(P.map (·.2))[j]?=some s:=by rw[List.getElem?_map,hj];rfl
  have:i=j:=(List.getElem?_inj (g9 h1) hn).1 (h1.trans h2.symm)
  subst this
  rw[hi] at hj;cases hj;exact hne rfl
 simp[this]
theorem tI {f:Spot→Bool} {P:List (Spot×Nat)} {seen:List Nat} (h:∀ s∈(Q7 f P seen).map (·.2),s∈seen):(Q7 f P seen).map (·.1)=(P.map (·.1)).filter f:=by
 rw[List.filter_map]
 unfold Q7 at h ⊢
 congr 1
 refine List.filter_congr fun p hp=>?_
 simp only[Function.comp]
 cases hf:f p.1
 ·cases hq:qL f seen p with
  | false=>rfl
  | true =>
    have:=h p.2 (List.mem_map.2 ⟨p,List.mem_filter.2 ⟨hp,hq⟩,rfl⟩)
    simp[qL,hf,this] at hq
 ·simp[qL,hf]
def mP (P:List (Spot×Nat)) (seen:List Nat):Nat:=(P.filter fun p=>decide (p.2∉seen)).length
theorem sN {P:List (Spot×Nat)} {seen:List Nat} {x:Spot} {s:Nat} (hm:(x,s)∈P) (hs:s∉seen):mP P (seen++[s])<mP P seen:=by
 unfold mP
 have hsub:∀ l:List (Spot×Nat),(l.filter fun p=>decide (p.2∉seen++[s])).length≤(l.filter fun p=>decide (p.2∉seen)).length∧((x,s)∈l→(l.filter fun p=>decide (p.2∉seen++[s])).length<(l.filter fun p=>decide (p.2∉seen)).length):=by
  intro l
  induction l with
  | nil=>exact⟨Nat.le_refl _,fun h=>by simp at h⟩
  | cons p l ih =>
    by_cases h1:p.2∈seen
    ·rw[List.filter_cons_of_neg (by simp[h1]),List.filter_cons_of_neg (by simp[h1])]
     refine⟨ih.1,fun h=>ih.2 ?_⟩
     rcases List.mem_cons.1 h with rfl|h
     ·exact absurd h1 hs
     ·exact h
    ·by_cases h2:p.2=s
     ·rw[List.filter_cons_of_neg (by simp[h2]),List.filter_cons_of_pos (by simp[h1])]
      simp only[List.length_cons]
      exact⟨by omega,fun _=>by omega⟩
     ·rw[List.filter_cons_of_pos (by simp[h1,h2]),List.filter_cons_of_pos (by simp[h1])]
      simp only[List.length_cons]
      refine⟨by omega,fun h=>?_⟩
      rcases List.mem_cons.1 h with rfl|h
      ·exact absurd rfl h2
      ·have:=ih.2 h;omega
 exact(hsub P).2 hm
end Go.Ab
namespace Go.Proofs
open Go Go.Ab
def x4 (y:Link):Spot:=⟨y.drawing,y.dim⟩
def Z9 (d:Dim):Int:=min (max d.nominal d.lower) d.upper
def W0 (d:Dim) (g:Int):Dim:=⟨d.nominal,max d.lower (Z9 d-g),min d.upper (Z9 d+g)⟩
theorem vb {d:Dim} {g:Int} (h:D8 d=true) (hg:0≤g):D8 (W0 d g)=true:=by
 rw[M7] at *
 simp only[W0,Z9]
 omega
def Dm (c:Chains) (so:Spot→Bool) (g:Int) (y:Link):Dim:=if so (x4 y) then W0 (kM c y) g else kM c y
def Du (c:Chains) (so:Spot→Bool) (g:Int) (x:ChLoop):List Dim:=x.links.map (Dm c so g)
def DR (c:Chains) (so:Spot→Bool) (g:Int) (x:ChLoop):Int:=yw x.links (Du c so g x) false
def DY (c:Chains) (so:Spot→Bool) (g:Int) (x:ChLoop):Int:=yw x.links (Du c so g x) true
def yI (c:Chains) (so:Spot→Bool) (g:Int) (x:ChLoop):Bool:=decide (x.lo≤DR c so g x)&&decide (DY c so g x≤x.hi)
def yP (c:Chains) (so:Spot→Bool) (g:Int):Bool:=c.loops.all (yI c so g)
def E5 (c:Chains):List Spot:=c.loops.flatMap fun x=>x.links.map x4
def aW (B:List (Int×Issue)) (x:Spot):Bool:=decide ((p4 B x.drawing).kind≠3)
def O6 (c:Chains) (x:Spot):Bool:=decide ((j8 c.reg c.lets x.drawing).kind≠3)
def w8 (c:Chains):List Spot:=wV (O6 c) (E5 c)
theorem mem_spotsOf {c:Chains} {z:Spot}:z∈E5 c↔∃ x∈c.loops,∃ y∈x.links,x4 y=z:=by
 simp only[E5,List.mem_flatMap,List.mem_map]
theorem fU {c:Chains} (h:OkC c) {x:Spot} (hx:x∈E5 c):aW (C9 c.reg c.lets) x=O6 c x:=by
 obtain⟨l,hl,y,hy,rfl⟩:=mem_spotsOf.1 hx
 have:=(h.link l hl y hy).1
 rw[Bool.eq_iff_iff]
 simp only[aW,O6,x4,C9,F9,if_pos this,decide_eq_true_eq]
 exact decide_eq_true_iff.symm
theorem mS {c:Chains} (h:OkC c) {l:List Spot} (hp:l.Perm (((E5 c).foldl (fun l x=>I9 x l) []).filter (aW (C9 c.reg c.lets)))) (hs:SortedS l):l=w8 c:=by
 refine eu hs (iX _ _) fun x=>?_
 rw[hp.mem_iff,List.mem_filter,gZ,w8,oD]
 constructor
 ·rintro⟨h1|h1,h2⟩
  ·simp at h1
  ·exact⟨h1,by rw[← fU h h1];exact h2⟩
 ·rintro⟨h1,h2⟩
  exact⟨.inr h1,by rw[fU h h1];exact h2⟩
theorem jN {c:Chains} (h:OkC c):(w8 c).Perm (((E5 c).foldl (fun l x=>I9 x l) []).filter (aW (C9 c.reg c.lets))):=by
 have hn:(((E5 c).foldl (fun l x=>I9 x l) []).filter (aW (C9 c.reg c.lets))).Nodup:=(cU _ _ (by simp)).filter _
 refine(List.perm_ext_iff_of_nodup (iX _ _).nodup hn).2 fun x=>?_
 rw[List.mem_filter,gZ,oD]
 constructor
 ·rintro⟨h1,h2⟩
  exact⟨.inr h1,by rw[fU h h1];exact h2⟩
 ·rintro⟨h1|h1,h2⟩
  ·simp at h1
  ·exact⟨h1,by rw[← fU h h1];exact h2⟩
def gs (p:Int→Bool):Nat→Int→Int→Int
 | 0,lo,_=>lo
 | k+1,lo,hi=>if lo<hi then (if p (hi-(hi-lo) / 2) then gs p k (hi-(hi-lo) / 2) hi else gs p k lo (hi-(hi-lo) / 2-1)) else lo
def Ea (p:Int→Bool) (lo hi:Int):Int:=gs p (hi-lo).toNat lo hi
def Db:Int:=1000000000
def wp (c:Chains):Int:=Ea (yP c (O6 c)) 0 Db
end Go.Proofs
