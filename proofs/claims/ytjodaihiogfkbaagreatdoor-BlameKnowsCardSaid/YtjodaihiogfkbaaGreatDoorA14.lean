/- Part 14 of the proofs. -/
import Derived.Test.YtjodaihiogfkbaaGreatDoorA09
import Derived.Test.YtjodaihiogfkbaaGreatDoorA12
import Derived.Test.YtjodaihiogfkbaaGreatDoorA13
set_option linter.all false
set_option linter.deprecated false
set_option maxHeartbeats 100000000
namespace Go.Proofs
open Go Go.Ab Tryz
variable {G:GW}
def iK (m:List (Int×Int)) (lv:List (Int×Int)):List (Int×Int):=lv.foldl (fun m p=>M8 p.1 (IntKind.i64.wrap (m7 m p.1+p.2)) m) m
def fQ (by':List (Int×Issue)) (cnt:List (Int×Int)):List DObj:=[.row [.im (.mp [.int .i64] (cP by'))],.map [.int .i64] (M9 cnt),.row [.map 1],.row [.fn (.func 312) [.ptr 0 0,.ptr 2 0,.ptr 3 0]]]
theorem qZ (l:List Issue) (lets:List Int) (h0:j9 l=0) (hlet:n5 l lets=true) (dep:Int→Int) (hdep:∀ n∈nums l,1≤dep n∧dep n≤6∧∀ c∈cb l n,c∈nums l∧dep c<dep n) :
 ∀ (k:Nat) (d m:Int) (cnt:List (Int×Int)),d∈nums l→dep d≤k →
  DCall prog G 312 [iv d,iv m,.one (.ptr 0 0),.one (.ptr 2 0),.one (.ptr 3 0)] (fQ (au l lets) cnt)
   (fun r o=>r=.tup []∧o=fQ (au l lets) (iK cnt (F1 (o3 l lets) k d m))):=by
 intro k
 induction k with
 | zero=>intro d m C hd hk;have:=(hdep d hd).1;omega
 | succ k ih =>
   intro d m cnt hd hk
   have hti:=ei h0 hlet hd
   obtain⟨htm,_,_⟩:=X9 h0 hlet hd
   have htok:=(I3 (F7 (D9 h0))).2.2.2.1 _ htm
   have hsm:=aB htok
   have hkd:(o3 l lets d).kind=1∨(2≤(o3 l lets d).kind∧(o3 l lets d).items.length=0):=by
    simp only[n3,Bool.and_assoc] at htok
    rw[← Bool.and_assoc,Bool.and_eq_true] at htok
    have:=(cV _).1 htok.1;omega
   have hch:=(hdep d hd).2.2
   have hE:F1 (o3 l lets) (k+1) d m=if 1<(o3 l lets d).kind then [(d,m)] else (o3 l lets d).items.flatMap fun y=>F1 (o3 l lets) k y.drawing (IntKind.i64.wrap (m*y.count)):=rfl
   have hlook:J4 (au l lets) d=o3 l lets d:=by rw[au,S8,if_pos hd]
   generalize o3 l lets d=x at *
   refine DCall.drop ?_
   refine i7 func312 rfl ntmps312 (by simp) rfl ?_
   simp only[fQ,iv]
   by_cases hkind:x.kind=1
   ·rw[if_neg (by omega)] at hE
    have hs:=za hlook hkind
    repeat' first|(with_reducible first|refine zz ?_|refine zE [0,1,2,3,4,7,9,15,22,23,24,25] ?_)|simp -dsimp[hs]|refine i8 ?_ ?_<;>intro h<;>try simp only[i6] at h
    refine g9 (ι:={ p:Nat×List (Int×Int) // p.1≤x.items.length∧iK cnt (x.items.flatMap fun y=>F1 (o3 l lets) k y.drawing (IntKind.i64.wrap (m*y.count)))=iK p.2 ((x.items.drop p.1).flatMap fun y=>F1 (o3 l lets) k y.drawing (IntKind.i64.wrap (m*y.count))) }) (fun p=>⟨37,[(1,iv m),(2,.one (.ptr 0 0)),(3,.one (.ptr 2 0)),(4,.one (.ptr 3 0)),(22,.one (.im (.sl (x.items.map p6)))),(23,iv (x.items.length:Int)),(24,iv (p.1.1:Int))],fQ (au l lets) p.1.2⟩) (fun p=>x.items.length-p.1.1) ⟨(0,cnt),by simp⟩ (zw [1,2,3,4,22,23,24] 4 (by simp[fQ])) ?_
    rintro⟨⟨u,cnt'⟩,hu,hadd⟩
    simp only at hu hadd
    simp only[iv,fQ]
    by_cases hlt:u<x.items.length
    ·have hx:x.items[u]?=some x.items[u]:=by simp[hlt]
     have hw:=zk u
     have hc:=hch _ (hti x.items[u] (List.getElem_mem hlt))
     have hrec:=ih x.items[u].drawing (IntKind.i64.wrap (m*x.items[u].count)) cnt' hc.1 (by omega)
     rw[List.drop_eq_getElem_cons hlt,List.flatMap_cons,iK,iK,List.foldl_append] at hadd
     simp only[iv,fQ] at hrec
     have hs:=za hx (za hw hlt)
     repeat' first|(with_reducible first|refine zz ?_|refine zE [0,1,2,3,4,7,9,15,22,23,24,25] ?_)|simp -dsimp[hs]|refine CallE.embed [0,1,2,3] (hrec) ?_ ?_ ?_ ?_ ?_ ?_;(focus simp[w9];done);(focus simp;done);(focus simp;done);(focus simp;done);(focus refine s0 ?_;simp[w9,v8];done);try simp -dsimp[p9,w9,hs]|refine i8 ?_ ?_<;>intro h<;>try simp only[i6] at h
     exact zn ⟨(u+1,iK cnt' (F1 (o3 l lets) k x.items[u].drawing (IntKind.i64.wrap (m*x.items[u].count)))),by omega,hadd⟩ (zw [1,2,3,4,22,23,24] 4 (by simp[fQ]))
    ·rw[List.drop_eq_nil_of_le (by omega)] at hadd
     have hs:=hlt
     repeat' first|(with_reducible first|refine zz ?_|refine ze ?_|refine zE [0,1,2,3,4,7,9,15,22,23,24,25] ?_)|simp -dsimp[hs]|refine i8 ?_ ?_<;>intro h<;>try simp only[i6] at h|with_reducible refine And.intro ?_ ?_
     rw[hE,hadd];simp[fQ,iK]
   ·rw[if_pos (by omega)] at hE
    have hz:x.items.length=0:=by omega
    have hs:=za hlook (za hkind hz)
    repeat' first|(with_reducible first|refine zz ?_|refine zE [0,1,2,3,4,7,9,15,22,23,24,25] ?_)|simp -dsimp[hs]|refine i8 ?_ ?_<;>intro h<;>try simp only[i6] at h
    refine g9 (ι:=Unit) (fun _=>⟨37,[(23,iv 0),(24,iv 0)],fQ (au l lets) (iK cnt [(d,m)])⟩) (fun _=>0) () (zw [23,24] 4 (by simp[fQ,iK])) ?_
    intro _
    simp only[iv,fQ]
    have hs:=trivial
    repeat' first|(with_reducible first|refine zz ?_|refine ze ?_|refine zE [0,1,2,3,4,7,9,15,22,23,24,25] ?_)|simp -dsimp[hs]|refine i8 ?_ ?_<;>intro h<;>try simp only[i6] at h|with_reducible refine And.intro ?_ ?_
    rw[hE]
def lc (l:List Issue) (lets:List Int) (d:Int):List (Int×Int):=iK [] (F1 (o3 l lets) 6 d 1)
def K5 (ns:List Int) (m:List (Int×Int)):List Itm:=(ns.filter fun n=>decide (0<m7 m n)).map fun n=>⟨n,m7 m n⟩
def aX (l:List Issue) (lets:List Int) (d:Int):List Itm:=if A9 l lets d=0 then K5 (nums l) (lc l lets d) else []
theorem ut (l:List Issue) (lets:List Int) (d:Int) (hG:s6 G) (hs:T2 l) (hll:lets.length<1000000):zP prog G 299 [A8 l,n7 lets,iv d] (.tup [.one (.im (.sl ((aX l lets d).map p6))),iv (A9 l lets d)]):=by
 refine zf func299 ntmps299 ?_
 try simp only[A8,n7,iv]
 have c1:=wj (G:=G) l lets d hG hs hll
 by_cases hE:A9 l lets d=0
 ·have h0:j9 l=0:=by
   by_cases h:j9 l=0
   ·exact h
   ·simp[A9,h] at hE
  have hlet:n5 l lets=true:=by
   cases h:n5 l lets
   ·simp[A9,h0,h] at hE
   ·rfl
  have hd:d∈nums l:=Classical.byContradiction fun h=>by simp[A9,h0,hlet,h] at hE
  obtain⟨dep,hdep⟩:=kq h0
  have c2:=qZ (G:=G) l lets h0 hlet dep hdep 6 d 1 [] hd (by have:=(hdep d hd).2.1;omega)
  have hR:aX l lets d=K5 (nums l) (lc l lets d):=by simp[aX,hE]
  have hnl:(nums l).length≤l.length:=n0 l l.length
  have hl80:=hs.1
  change DCall _ _ _ _ _ (fun r o=>r=.tup []∧o=fQ (au l lets) (lc l lets d)) at c2
  generalize lc l lets d=cnt at *
  simp only[aw,hE,if_true,s7] at c1
  simp only[iv,fQ,show M9 []=[] from rfl] at c2
  generalize nums l=ns at *
  have hs:=trivial
  repeat' first|(with_reducible first|refine zz ?_|refine zE [0,1,2,3,6,7,8,9,10,11,12,13,15,25,35,36,37,38,44] ?_)|simp -dsimp[hs]|refine zp c1 ?_|refine CallE.embed [2,3,4,5] (c2) ?_ ?_ ?_ ?_ ?_ ?_;(focus simp[w9];done);(focus simp;done);(focus simp;done);(focus simp;done);(focus refine s0 ?_;simp[w9,v8];done);try simp -dsimp[p9,w9,hs]|refine i8 ?_ ?_<;>intro h<;>try simp only[i6] at h
  all_goals try clear hs
  refine g9 (ι:={ p:Nat×Nat×Bool×List Itm // p.1≤ns.length∧p.2.2.2.length≤p.1∧K5 ns cnt=p.2.2.2++K5 (ns.drop p.1) cnt }) (fun p=>⟨55,[(11,.one (.ptr 4 0)),(13,.one (.vec 6 p.1.2.1 0 p.1.2.2.2.length)),(35,n7 ns),(36,iv (ns.length:Int)),(37,iv (p.1.1:Int))],[.row [.im (.sl (l.map e9))],.vec 2 [] 0 true,.row [.im (.mp [.int .i64] (cP (au l lets)))],.map [.int .i64] (M9 cnt),.row [.map 3],.row [.fn (.func 312) [.ptr 2 0,.ptr 4 0,.ptr 5 0]],.vec 2 (n4 (p.1.2.2.2.map p6)) p.1.2.1 p.1.2.2.1]⟩) (fun p=>ns.length-p.1.1) ⟨(0,0,true,[]),by simp⟩ (zv [11,13,35,36,37]) ?_
  rintro⟨⟨k,g,nl,out⟩,hk,hol,hp⟩
  simp only at hk hol hp
  simp only[iv,n7]
  by_cases hlt:k<ns.length
  ·have hx:ns[k]?=some ns[k]:=by simp[hlt]
   have hw:=zk k
   rw[List.drop_eq_getElem_cons hlt] at hp
   by_cases hpos:0<m7 cnt ns[k]
   ·rw[K5,K5,List.filter_cons_of_pos (by simpa using hpos),List.map_cons] at hp
    have hs:=za hx (za hw (za hlt hpos))
    repeat' first|(with_reducible first|refine zz ?_|refine And.intro (by omega) ?_|refine zE [0,1,2,3,6,7,8,9,10,11,12,13,15,25,35,36,37,38,44] ?_)|simp -dsimp[hs]|refine i8 ?_ ?_<;>intro h<;>try simp only[i6] at h
    all_goals try clear hs
    all_goals try omega
    exact zn ⟨(k+1,g+1,false,out++[⟨ns[k],m7 cnt ns[k]⟩]),by omega,by simp;omega,by rw[K5,hp,K5];simp⟩ (zw [11,13,35,36,37] 7)
   ·rw[K5,K5,List.filter_cons_of_neg (by simpa using hpos)] at hp
    have hs:=za hx (za hw (za hlt hpos))
    repeat' first|(with_reducible first|refine zz ?_|refine zE [0,1,2,3,6,7,8,9,10,11,12,13,15,25,35,36,37,38,44] ?_)|simp -dsimp[hs]|refine i8 ?_ ?_<;>intro h<;>try simp only[i6] at h
    all_goals try clear hs
    exact zn ⟨(k+1,g,nl,out),by omega,by show out.length≤k+1;omega,hp⟩ (zv [11,13,35,36,37])
  ·rw[List.drop_eq_nil_of_le (by omega)] at hp
   have hs:=hlt
   repeat' first|(with_reducible first|refine zz ?_|refine zr ?_|refine zE [0,1,2,3,6,7,8,9,10,11,12,13,15,25,35,36,37,38,44] ?_)|simp -dsimp[hs]|refine i8 ?_ ?_<;>intro h<;>try simp only[i6] at h
   all_goals try clear hs
   all_goals try omega
   rw[hR,hp];simp[K5,hE]
 ·have hR:aX l lets d=[]:=by simp[aX,hE]
  simp only[aw,hE,if_false] at c1
  have hs:=hE
  repeat' first|(with_reducible first|refine zz ?_|refine zr ?_|refine zE [0,1,2,3,6,7,8,9,10,11,12,13,15,25,35,36,37,38,44] ?_)|simp -dsimp[hs]|refine zp c1 ?_|refine i8 ?_ ?_<;>intro h<;>try simp only[i6] at h
  all_goals try clear hs
  simp[hR]
end Go.Proofs
namespace Go.Ab
open Go
structure Link where
 drawing:Int
 dim:Int
 back:Bool
 deriving DecidableEq
structure ChLoop where
 links:List Link
 lo:Int
 hi:Int
 deriving DecidableEq
structure Chains where
 reg:List Issue
 lets:List Int
 of:Int
 loops:List ChLoop
 deriving DecidableEq
def G8 (x:Link):List IC:=[rI x.drawing,rI x.dim,rB x.back]
def D7 (x:ChLoop):List IC:=[.sl (x.links.map G8),rI x.lo,rI x.hi]
def E5 (c:Chains):List IC:=[.sl (c.reg.map e9),.sl (c.lets.map l7),rI c.of,.sl (c.loops.map D7)]
def jQ (x:Link):DV:=.agg ((G8 x).map .im)
def jN (x:ChLoop):DV:=.agg ((D7 x).map .im)
def gS (c:Chains):DV:=.agg ((E5 c).map .im)
attribute [simp] G8 D7 E5 jQ jN gS
end Go.Ab
namespace Go.Proofs
open Go Go.Ab
variable {G:GW}
theorem ui (x lo hi:Int):DCall Tryz.prog G 216 (iv x :: [DC.ptr 0 0,DC.ptr 1 0].map .one) [.row [.im (rI lo)],.row [.im (rI hi)]] (fun d o=>d=bv (decide (x<lo)||decide (hi<x))∧o=[.row [.im (rI lo)],.row [.im (rI hi)]]):=by
 refine i7 Tryz.func216 rfl Tryz.ntmps216 (by simp) rfl ?_
 simp only[rI]
 have hs:=trivial
 repeat' first|(with_reducible first|refine zz ?_|refine zr ?_|refine zE [0,1,2,4] ?_)|simp -dsimp[hs]|with_reducible refine j0 ?_ ?_<;>intro h<;>have h0:=h<;>(try simp only[i6] at h)<;>have h2:=h<;>(try simp at h2)<;>replace hs:=za h0 (za h (za h2 hs))|with_reducible refine And.intro ?_ ?_
 all_goals try clear hs
 all_goals simp[*]
theorem aT (lo hi:Int) (l:List Int) (hl:l.length<1000000):zP Tryz.prog G 168 [iv lo,iv hi,n7 l] (bv (l.all fun x=>decide (lo≤x)&&decide (x≤hi))):=by
 refine zf Tryz.func168 Tryz.ntmps168 ?_
 try simp only[iv,iv,n7]
 have hc:=C1 (G:=G) l (fun x=>decide (x<lo)||decide (hi<x)) 216 [.ptr 0 0,.ptr 1 0] [.row [.im (rI lo)],.row [.im (rI hi)]] (by simp) (fun x _=>ui x lo hi) hl
 simp only[rI] at hc
 repeat' first|(with_reducible first|refine zz ?_|refine zx ?_|refine zE [0,1,2,3,4,6] ?_)|simp -dsimp|refine CallE.here hc ?_
 rw[Bool.eq_iff_iff];simp
 exact exists_congr fun x=>and_congr_right fun _=>by omega
def K0 (c:Chains) (D:List (Int×Int)) (B:List (Int×Issue)):IC:=.ip [.sl (c.reg.map e9),.sl (c.lets.map l7),rI c.of,.sl (c.loops.map D7),.mp [.int .i64] (Z2 D),.mp [.int .i64] (cP B)]
def kB (x:ChLoop):Bool:=decide (1≤x.links.length)&&decide (x.links.length≤8)
def kA (x:ChLoop):Bool:=(decide (-8000000000≤x.lo)&&decide (x.lo≤8000000000))&&(decide (-8000000000≤x.hi)&&decide (x.hi≤8000000000))&&decide (x.lo≤x.hi)
def V5 (D:List (Int×Int)) (B:List (Int×Issue)):List (Int×Int)→List Link→Bool
 | _,[]=>true
 | U,y :: r=>decide (m7 U y.drawing+1≤m7 D y.drawing)&&(decide (0≤y.dim)&&decide (y.dim≤((J4 B y.drawing).dims.length:Int)-1))&&V5 D B (M8 y.drawing (m7 U y.drawing+1) U) r
theorem CV (d:IC) (x:ChLoop):zP Tryz.prog G 372 [.one (.im d),jN x] (bv (kB x)):=by
 refine zf Tryz.func372 Tryz.ntmps372 ?_
 try simp only[jN]
 have c1:=aT (G:=G) 1 8 [(x.links.length:Int)] (by simp)
 repeat' first|(with_reducible first|refine zz ?_|refine zx ?_|refine zE [1,3,4] ?_)|simp -dsimp|refine zt c1 ?_ ?_ ?_;(focus simp;done);focus (simp;done)
 rw[Bool.eq_iff_iff]
 simp[kB]
 omega
theorem pn (x:ChLoop):kA x=true↔-8000000000≤x.lo∧x.lo≤8000000000∧-8000000000≤x.hi∧x.hi≤8000000000∧x.lo≤x.hi:=by
 simp[kA];omega
theorem CU (d:IC) (x:ChLoop):zP Tryz.prog G 373 [.one (.im d),jN x] (bv (kA x)):=by
 refine zf Tryz.func373 Tryz.ntmps373 ?_
 try simp only[jN]
 have c1:=aT (G:=G) (-8000000000) 8000000000 [x.lo,x.hi] (by simp)
 have hi:=pn x
 cases hq:([x.lo,x.hi].all fun y=>decide (-8000000000≤y)&&decide (y≤8000000000))
 ·rw[hq] at c1
  repeat' first|(with_reducible first|refine zz ?_|refine zx ?_|refine zE [1,3,4] ?_)|simp -dsimp|refine zt c1 ?_ ?_ ?_;(focus simp;done);focus (simp;done)
  all_goals simp at hq
  all_goals exact aW hi (by omega)
 ·rw[hq] at c1
  repeat' first|(with_reducible first|refine zz ?_|refine zx ?_|refine zE [1,3,4] ?_)|simp -dsimp|refine zt c1 ?_ ?_ ?_;(focus simp;done);focus (simp;done)
  all_goals simp at hq
  all_goals rw[Bool.eq_iff_iff,hi]
  all_goals simp
  all_goals omega
theorem CT (c:Chains) (D:List (Int×Int)) (B:List (Int×Issue)) (x:ChLoop) (hl:x.links.length<1000000) (hB:∀ n,(J4 B n).dims.length<1000000):zP Tryz.prog G 374 [.one (.im (K0 c D B)),jN x] (bv (V5 D B [] x.links)):=by
 refine zf Tryz.func374 Tryz.ntmps374 ?_
 try simp only[jN]
 simp only[K0]
 have hs:=trivial
 repeat' first|(with_reducible first|refine zz ?_|refine zE [0,1,3,4,5,7,10,11,12,13,48] ?_)|simp -dsimp[hs]
 refine g9 (ι:={ p:Nat×List (Int×Int) // p.1≤x.links.length∧V5 D B [] x.links=V5 D B p.2 (x.links.drop p.1)∧bd p.2 p.1 }) (fun p=>⟨50,[(0,.one (.im (K0 c D B))),(5,.one (.map 1)),(10,.one (.im (.sl (x.links.map G8)))),(11,iv (x.links.length:Int)),(12,iv (p.1.1:Int))],[.row ((D7 x).map .im),.map [.int .i64] (M9 p.1.2)]⟩) (fun p=>x.links.length-p.1.1) ⟨(0,[]),by simp[bd]⟩ (zv [0,5,10,11,12] (by simp[K0,M9])) ?_
 rintro⟨⟨k,U⟩,hk,hu,hb⟩
 simp only at hk hu hb
 simp only[iv,K0]
 by_cases hlt:k<x.links.length
 ·have hx:x.links[k]?=some x.links[k]:=by simp[hlt]
  have hw:=zk k
  have hbl:=sT hb x.links[k].drawing
  have hwu:IntKind.i64.wrap (m7 U x.links[k].drawing+1)=m7 U x.links[k].drawing+1:=n8 (by omega) (by omega)
  have hput:m7 (M8 x.links[k].drawing (m7 U x.links[k].drawing+1) U) x.links[k].drawing=m7 U x.links[k].drawing+1:=by rw[Y1,if_pos rfl]
  have hBn:=hB x.links[k].drawing
  have hwd:IntKind.i64.wrap (((J4 B x.links[k].drawing).dims.length:Int)-1)=((J4 B x.links[k].drawing).dims.length:Int)-1:=n8 (by omega) (by omega)
  have c1:=aT (G:=G) 0 (((J4 B x.links[k].drawing).dims.length:Int)-1) [x.links[k].dim] (by simp)
  have hbn:bd (M8 x.links[k].drawing (m7 U x.links[k].drawing+1) U) (k+1):=rD (dG hb (by omega)) (by omega) (by omega)
  rw[List.drop_eq_getElem_cons hlt,V5] at hu
  by_cases hle:m7 U x.links[k].drawing+1≤m7 D x.links[k].drawing
  ·rw[decide_eq_true hle,Bool.true_and] at hu
   cases hq:([x.links[k].dim].all fun y=>decide (0≤y)&&decide (y≤((J4 B x.links[k].drawing).dims.length:Int)-1))
   ·rw[hq] at c1
    have hq':(decide (0≤x.links[k].dim)&&decide (x.links[k].dim≤((J4 B x.links[k].drawing).dims.length:Int)-1))=false:=by simpa using hq
    rw[hq',Bool.false_and] at hu
    have hs:=za hx (za hw (za hlt (za hwu (za hput (za hwd hle)))))
    repeat' first|(with_reducible first|refine zz ?_|refine zr ?_)|simp -dsimp[hs]|refine zq c1 ?_|refine zM 6 50 28 [0,1,3,4,5,7,10,11,12,13,48] ?_|with_reducible refine zE [0,1,3,4,5,7,10,11,12,13,48] ?_|refine i8 ?_ ?_<;>intro h<;>try simp only[i6] at h
    rw[hu]
   ·rw[hq] at c1
    have hq':(decide (0≤x.links[k].dim)&&decide (x.links[k].dim≤((J4 B x.links[k].drawing).dims.length:Int)-1))=true:=by simpa using hq
    rw[hq',Bool.true_and] at hu
    have hs:=za hx (za hw (za hlt (za hwu (za hput (za hwd hle)))))
    repeat' first|with_reducible refine zz ?_|simp -dsimp[hs]|refine zq c1 ?_|refine zM 6 50 28 [0,1,3,4,5,7,10,11,12,13,48] ?_|with_reducible refine zE [0,1,3,4,5,7,10,11,12,13,48] ?_|refine i8 ?_ ?_<;>intro h<;>try simp only[i6] at h
    exact zn ⟨(k+1,M8 x.links[k].drawing (m7 U x.links[k].drawing+1) U),by omega,hu,hbn⟩ (zw [0,5,10,11,12] 2 (by simp[K0]))
  ·rw[decide_eq_false hle,Bool.false_and,Bool.false_and] at hu
   have hs:=za hx (za hw (za hlt (za hwu (za hput (za hwd hle)))))
   repeat' first|(with_reducible first|refine zz ?_|refine zr ?_)|simp -dsimp[hs]|refine zM 6 50 28 [0,1,3,4,5,7,10,11,12,13,48] ?_|with_reducible refine zE [0,1,3,4,5,7,10,11,12,13,48] ?_|refine i8 ?_ ?_<;>intro h<;>try simp only[i6] at h
   rw[hu]
 ·rw[List.drop_eq_nil_of_le (by omega)] at hu
  have hs:=hlt
  repeat' first|(with_reducible first|refine zz ?_|refine zr ?_|refine zE [0,1,3,4,5,7,10,11,12,13,48] ?_)|simp -dsimp[hs]|refine i8 ?_ ?_<;>intro h<;>try simp only[i6] at h
  rw[hu];rfl
end Go.Proofs
namespace Go.Proofs
open Go Go.Ab Tryz
variable {G:GW}
def V9 (G:GW):Prop:=G 7=some [.fn (.func 372) [],.fn (.func 373) [],.fn (.func 374) []]
def T3 (c:Chains):Prop:=T2 c.reg∧c.lets.length≤80∧c.loops.length≤10∧∀ x∈c.loops,x.links.length≤12
def Q4 (c:Chains):List (Int×Int):=(aX c.reg c.lets c.of).foldl (fun m x=>M8 x.drawing x.count m) []
def gc (D:List (Int×Int)) (B:List (Int×Issue)) (x:ChLoop):Nat→Bool
 | 0=>kB x
 | 1=>kA x
 | _=>V5 D B [] x.links
def N3 (D:List (Int×Int)) (B:List (Int×Issue)) (x:ChLoop):Bool:=kB x&&kA x&&V5 D B [] x.links
theorem ya {D:List (Int×Int)} {B:List (Int×Issue)} {x:ChLoop} {i:Nat} (h:gc D B x i=false):N3 D B x=false:=by
 unfold N3
 match i with
 | 0=>simp only[gc] at h;simp[h]
 | 1=>simp only[gc] at h;simp[h]
 | i+2=>simp only[gc] at h;simp[h]
theorem yb {D:List (Int×Int)} {B:List (Int×Issue)} {x:ChLoop} (h:∀ i<3,gc D B x i=true):N3 D B x=true:=by
 have h0:=h 0 (by omega);have h1:=h 1 (by omega);have h2:=h 2 (by omega)
 simp only[gc] at h0 h1 h2
 simp[N3,h0,h1,h2]
def p8 (c:Chains):Int:=if j9 c.reg≠0 then j9 c.reg else if A9 c.reg c.lets c.of≠0∨¬ (1≤c.loops.length∧c.loops.length≤6) then 60 else if c.loops.all (N3 (Q4 c) (au c.reg c.lets)) then 0 else 60
def am (c:Chains):DV:=if p8 c=0 then .one (.im (K0 c (Q4 c) (au c.reg c.lets))) else .one (.im (.raw (.pointer none)))
theorem xX (c:Chains):ImV (am c):=by unfold am;split<;>simp[K0]
attribute [simp] xX
theorem uu (l:List Issue) (lets:List Int) (d:Int):(aX l lets d).length≤l.length:=by
 unfold aX
 split
 ·simp only[K5,List.length_map]
  have:=List.length_filter_le (fun n=>decide (0<m7 (lc l lets d) n)) (nums l)
  have:=n0 l l.length
  simp only[nums] at *;omega
 ·simp
theorem yc (c:Chains) (hG:s6 G) (hC:V9 G) (hs:T3 c):zP prog G 261 [gS c] (.tup [am c,iv (p8 c)]):=by
 refine zf func261 ntmps261 ?_
 try simp only[gS]
 obtain⟨hsr,hsl,hso,hsk⟩:=hs
 have hC':G 7=some [.fn (.func 372) [],.fn (.func 373) [],.fn (.func 374) []]:=hC
 have c1:=mD c.reg hG hsr
 by_cases h0:j9 c.reg=0
 ·rw[h0] at c1
  have c2:=ut c.reg c.lets c.of hG hsr (by omega)
  have c3:=aT (G:=G) 1 6 [(c.loops.length:Int)] (by simp)
  by_cases hT:A9 c.reg c.lets c.of≠0∨¬ (1≤c.loops.length∧c.loops.length≤6)
  ·have hE:p8 c=60:=by unfold p8;rw[if_neg (by simp[h0]),if_pos hT]
   by_cases hT0:A9 c.reg c.lets c.of=0
   ·rw[hT0] at c2
    have hr:([(c.loops.length:Int)].all fun x=>decide (1≤x)&&decide (x≤6))=false:=by
     simp;omega
    rw[hr] at c3
    have hs:=trivial
    repeat' first|(with_reducible first|refine zz ?_|refine zr ?_|refine zE [0,1,2,3,4,5,6,7,8,10,11,13,15,17,22,43,55,56,57,58,81,82,83,84,97,98,99,100,103,104,105,112] ?_)|simp -dsimp[hs]|refine zp c1 ?_|refine zp c2 ?_|refine zt c3 ?_ ?_ ?_;(focus simp;done);focus (simp;done)|refine i8 ?_ ?_<;>intro h<;>try simp only[i6] at h
    all_goals try clear hs
    all_goals simp[am,hE]
   ·have hs:=hT0
    repeat' first|(with_reducible first|refine zz ?_|refine zr ?_|refine zE [0,1,2,3,4,5,6,7,8,10,11,13,15,17,22,43,55,56,57,58,81,82,83,84,97,98,99,100,103,104,105,112] ?_)|simp -dsimp[hs]|refine zp c1 ?_|refine zp c2 ?_|refine i8 ?_ ?_<;>intro h<;>try simp only[i6] at h
    all_goals try clear hs
    all_goals simp[am,hE]
  ·have hT0:A9 c.reg c.lets c.of=0:=Classical.byContradiction fun h=>hT (.inl h)
   have hr6:1≤c.loops.length∧c.loops.length≤6:=Classical.byContradiction fun h=>hT (.inr h)
   have hr:([(c.loops.length:Int)].all fun x=>decide (1≤x)&&decide (x≤6))=true:=by
    simp;omega
   rw[hT0] at c2
   rw[hr] at c3
   have hlet:n5 c.reg c.lets=true:=by
    cases h:n5 c.reg c.lets
    ·simp[A9,h0,h] at hT0
    ·rfl
   have c4:=bH c.reg hG hsr
   rw[h0,show cR c.reg=nums c.reg by simp[cR,h0]] at c4
   have hE:p8 c=if c.loops.all (N3 (Q4 c) (au c.reg c.lets)) then 0 else 60:=by simp[p8,h0,hT0];omega
   have hs:=trivial
   repeat' first|with_reducible refine zz ?_|simp -dsimp[hs]|refine zp c1 ?_|refine zp c2 ?_|refine zt c3 ?_ ?_ ?_;(focus simp;done);focus (simp;done)|refine zp c4 ?_|with_reducible refine O1 (id:=7) (nt:=116) [0,1,2,3,4,5,6,7,8,10,11,13,15,17,22,43,55,56,57,58,81,82,83,84,97,98,99,100,103,104,105,112] rfl ?_;simp -dsimp[hs]|with_reducible refine zE [0,1,2,3,4,5,6,7,8,10,11,13,15,17,22,43,55,56,57,58,81,82,83,84,97,98,99,100,103,104,105,112] ?_|refine i8 ?_ ?_<;>intro h<;>try simp only[i6] at h
   all_goals try clear hs
   have hnd:(nums c.reg).Nodup:=(C2 h0).1.imp fun h=>Int.ne_of_lt h
   have hnl:(nums c.reg).length≤c.reg.length:=n0 c.reg c.reg.length
   have hll:c.lets.length=(nums c.reg).length:=by
    simp only[n5,Bool.and_eq_true,decide_eq_true_eq] at hlet;exact hlet.1
   have hreg:=hsr.1
   refine g9 (ι:={ k:Nat // k≤(nums c.reg).length }) (fun p=>⟨116,[(1,.one (.ptr 0 0)),(2,.one (.im (.raw (.pointer none)))),(3,iv 0),(5,.one (.im (.sl ((aX c.reg c.lets c.of).map p6)))),(7,.one (.ptr 7 0)),(55,n7 (nums c.reg)),(56,iv ((nums c.reg).length:Int)),(57,iv (p.1:Int))],[.row ((E5 c).map .im),.vec 1 [[.im (rI (c.loops.length:Int))]] 0 false,.map [.int .i64] [],.map [.int .i64] (I9 (((nums c.reg).take p.1).map fun d=>(d,o3 c.reg c.lets d))),.vec 0 [] 0 true,.vec 0 [] 0 true,.vec 0 [] 0 true,.row ((E5 c).map .im++[.map 2,.map 3])]⟩) (fun p=>(nums c.reg).length-p.1) ⟨0,by omega⟩ (zv [1,2,3,5,7,55,56,57] (by simp[I9])) ?_
   rintro⟨k,hk⟩
   simp only[iv,n7]
   by_cases hlt:k<(nums c.reg).length
   ·have hx:(nums c.reg)[k]?=some (nums c.reg)[k]:=by simp[hlt]
    have hkl:k<c.lets.length:=by omega
    have hy:c.lets[k]?=some c.lets[k]:=by simp[hkl]
    have hw:=zk k
    have c5:=AY c.reg (nums c.reg)[k] c.lets[k] hG hsr
    have hta:=sn hnd hlt hkl
    rw[show atR c.reg (nums c.reg)[k] c.lets[k]=o3 c.reg c.lets (nums c.reg)[k] by rw[hta];simp[atR,h0]] at c5
    have hmp:dU (nums c.reg)[k] (o3 c.reg c.lets (nums c.reg)[k]) (((nums c.reg).take k).map fun d=>(d,o3 c.reg c.lets d))=(((nums c.reg).take (k+1)).map fun d=>(d,o3 c.reg c.lets d)):=by
     rw[gF,List.take_succ_eq_append_getElem hlt,List.map_append,List.map_singleton]
     rw[List.map_map]
     intro hm
     obtain⟨z,hz,e⟩:=List.mem_map.1 hm
     simp only[Function.comp] at e
     subst e
     obtain⟨i,hi,e⟩:=List.mem_take_iff_getElem.1 hz
     have:=(List.getElem_inj hnd).1 e;omega
    generalize o3 c.reg c.lets (nums c.reg)[k]=y at *
    have hmp':dU (nums c.reg)[k] ⟨y.drawing,y.letter,y.kind,y.items,y.dims⟩ (((nums c.reg).take k).map fun d=>(d,o3 c.reg c.lets d))=(((nums c.reg).take (k+1)).map fun d=>(d,o3 c.reg c.lets d)):=hmp
    simp only[C9] at c5
    simp only[List.map_take] at hmp'
    have hs:=za hx (za hy (za hlt (za hkl hw)))
    repeat' first|with_reducible refine zz ?_|simp -dsimp[hs]|refine zq c5 ?_|refine s9 (id:=12) (nt:=116) 18 [17] [0,1,2,3,4,5,6,7,8,10,11,13,15,17,22,43,55,56,57,58,62,63,64,65,66,67,68,69,70,71,72,73,74,75,76,77,78,81,82,83,84,97,98,99,100,103,104,105,112] [0,1,2,3,4,5,6,7,8,10,11,13,15,17,22,43,55,56,57,58,81,82,83,84,97,98,99,100,103,104,105,112] mixed rfl (by kernel_rfl) ?_|with_reducible refine zE [0,1,2,3,4,5,6,7,8,10,11,13,15,17,22,43,55,56,57,58,81,82,83,84,97,98,99,100,103,104,105,112] ?_|refine i8 ?_ ?_<;>intro h<;>try simp only[i6] at h
    all_goals try clear hs
    exact zn ⟨k+1,by omega⟩ (zw [1,2,3,5,7,55,56,57] 8 (by simp[hmp']))
   have htk:(nums c.reg).take k=nums c.reg:=List.take_of_length_le (by omega)
   rw[htk]
   change DT _ _ _ _ ⟨_,_,[_,_,_,.map _ (I9 (au c.reg c.lets)),_,_,_,_]⟩ _
   have hs:=hlt
   repeat' first|(with_reducible first|refine zz ?_|refine zE [0,1,2,3,4,5,6,7,8,10,11,13,15,17,22,43,55,56,57,58,81,82,83,84,97,98,99,100,103,104,105,112] ?_)|simp -dsimp[hs]|refine i8 ?_ ?_<;>intro h<;>try simp only[i6] at h
   all_goals try clear hs
   have hpl:=uu c.reg c.lets c.of
   have hcD:Q4 c=(aX c.reg c.lets c.of).foldl (fun m x=>M8 x.drawing x.count m) []:=rfl
   generalize aX c.reg c.lets c.of=ps at *
   refine g9 (ι:={ p:Nat×List (Int×Int) // p.1≤ps.length∧Q4 c=(ps.drop p.1).foldl (fun m x=>M8 x.drawing x.count m) p.2 }) (fun p=>⟨116,[(1,.one (.ptr 0 0)),(2,.one (.im (.raw (.pointer none)))),(3,iv 0),(7,.one (.ptr 7 0)),(81,.one (.im (.sl (ps.map p6)))),(82,iv (ps.length:Int)),(83,iv (p.1.1:Int))],[.row ((E5 c).map .im),.vec 1 [[.im (rI (c.loops.length:Int))]] 0 false,.map [.int .i64] (M9 p.1.2),.map [.int .i64] (I9 (au c.reg c.lets)),.vec 0 [] 0 true,.vec 0 [] 0 true,.vec 0 [] 0 true,.row ((E5 c).map .im++[.map 2,.map 3])]⟩) (fun p=>ps.length-p.1.1) ⟨(0,[]),by simp[hcD]⟩ (zv [1,2,3,7,81,82,83] (by simp[M9])) ?_
   rintro⟨⟨u,D⟩,hu,hD⟩
   simp only at hu hD
   simp only[iv]
   by_cases hlu:u<ps.length
   ·have hx:ps[u]?=some ps[u]:=by simp[hlu]
    have hw:=zk u
    rw[List.drop_eq_getElem_cons hlu,List.foldl_cons] at hD
    have hs:=za hx (za hlu hw)
    repeat' first|with_reducible refine zz ?_|simp -dsimp[hs]|refine zM 17 116 8 [0,1,2,3,4,5,6,7,8,10,11,13,15,17,22,43,55,56,57,58,81,82,83,84,97,98,99,100,103,104,105,112] ?_|with_reducible refine zE [0,1,2,3,4,5,6,7,8,10,11,13,15,17,22,43,55,56,57,58,81,82,83,84,97,98,99,100,103,104,105,112] ?_|refine i8 ?_ ?_<;>intro h<;>try simp only[i6] at h
    all_goals try clear hs
    exact zn ⟨(u+1,M8 ps[u].drawing ps[u].count D),by omega,hD⟩ (zw [1,2,3,7,81,82,83] 8)
   have hDe:D=Q4 c:=by rw[hD,List.drop_eq_nil_of_le (by omega)];rfl
   subst hDe
   have hB:∀ n,(J4 (au c.reg c.lets) n).dims.length<1000000:=fun n=>by
    rw[au,S8]
    split
    ·rename_i hn
     obtain⟨hm,_⟩:=X9 h0 hlet hn
     have:=(hsr.2 _ hm).2.2.2;omega
    ·decide
   have hs:=hlu
   repeat' first|(with_reducible first|refine zz ?_|refine zE [0,1,2,3,4,5,6,7,8,10,11,13,15,17,22,43,55,56,57,58,81,82,83,84,97,98,99,100,103,104,105,112] ?_)|simp -dsimp[hs]|refine i8 ?_ ?_<;>intro h<;>try simp only[i6] at h
   all_goals try clear hs
   refine g9 (ι:={ j:Nat // j≤c.loops.length∧c.loops.all (N3 (Q4 c) (au c.reg c.lets))=(c.loops.drop j).all (N3 (Q4 c) (au c.reg c.lets)) }) (fun p=>⟨116,[(2,.one (.im (.raw (.pointer none)))),(3,iv 0),(7,.one (.im (K0 c (Q4 c) (au c.reg c.lets)))),(97,.one (.im (.sl (c.loops.map D7)))),(98,iv (c.loops.length:Int)),(99,iv (p.1:Int))],[]⟩) (fun p=>c.loops.length-p.1) ⟨0,by simp⟩ (zw [2,3,7,97,98,99] 0 (by simp[K0])) ?_
   rintro⟨j,hj,hall⟩
   simp only[iv]
   by_cases hlj:j<c.loops.length
   ·have hx:c.loops[j]?=some c.loops[j]:=by simp[hlj]
    have hw:=zk j
    have hst:=Q7 hlj hall
    have hln:=hsk c.loops[j] (List.getElem_mem hlj)
    have k1:=CV (G:=G) (K0 c (Q4 c) (au c.reg c.lets)) c.loops[j]
    have k2:=CU (G:=G) (K0 c (Q4 c) (au c.reg c.lets)) c.loops[j]
    have k3:=CT (G:=G) c (Q4 c) (au c.reg c.lets) c.loops[j] (by omega) hB
    have hbad:∀ i,gc (Q4 c) (au c.reg c.lets) c.loops[j] i=false→p8 c=60:=fun i h=>by
     rw[hE,s8 hst (by rw[ya h];exact Bool.false_ne_true)];rfl
    have hq1:gc (Q4 c) (au c.reg c.lets) c.loops[j] 0=kB c.loops[j]:=rfl
    have hq2:gc (Q4 c) (au c.reg c.lets) c.loops[j] 1=kA c.loops[j]:=rfl
    have hq3:gc (Q4 c) (au c.reg c.lets) c.loops[j] 2=V5 (Q4 c) (au c.reg c.lets) [] c.loops[j].links:=rfl
    rw[← hq1] at k1;rw[← hq2] at k2;rw[← hq3] at k3
    clear hq1 hq2 hq3
    have hs:=za hx (za hlj hC')
    repeat' first|(with_reducible first|refine zz ?_|refine zE [0,1,2,3,4,5,6,7,8,10,11,13,15,17,22,43,55,56,57,58,81,82,83,84,97,98,99,100,103,104,105,112] ?_)|simp -dsimp[hs]|refine i8 ?_ ?_<;>intro h<;>try simp only[i6] at h
    all_goals try clear hs
    refine g9 (ι:={ i:Nat // i≤3∧∀ e<i,gc (Q4 c) (au c.reg c.lets) c.loops[j] e=true }) (fun p=>⟨116,[(2,.one (.im (.raw (.pointer none)))),(3,iv 0),(7,.one (.im (K0 c (Q4 c) (au c.reg c.lets)))),(15,.one (.ptr 1 0)),(97,.one (.im (.sl (c.loops.map D7)))),(98,iv (c.loops.length:Int)),(99,iv (j:Int)),(103,.agg [.im (.fn (.func 372) []),.im (.fn (.func 373) []),.im (.fn (.func 374) [])]),(104,iv (p.1:Int))],[.vec 0 [] 0 true,.row ((D7 c.loops[j]).map .im)]⟩) (fun p=>3-p.1) ⟨0,by simp⟩ (zv [2,3,7,15,97,98,99,103,104]) ?_
    rintro⟨i,hi,hcc⟩
    simp only[iv]
    by_cases hi3:i<3
    ·have hwc:=zk i
     match i,hi3,hi,hcc,hwc with
     | 0,hi3,hi,hcc,hwc =>
       cases hq:gc (Q4 c) (au c.reg c.lets) c.loops[j] 0<;>simp only[hq] at k1
       ·have h60:=hbad 0 hq
        have hs:=trivial
        repeat' first|(with_reducible first|refine zz ?_|refine zr ?_|refine zE [0,1,2,3,4,5,6,7,8,10,11,13,15,17,22,43,55,56,57,58,81,82,83,84,97,98,99,100,103,104,105,112] ?_)|simp -dsimp[hs]|refine zp k1 ?_|refine i8 ?_ ?_<;>intro h<;>try simp only[i6] at h
        all_goals try clear hs
        all_goals simp[am,h60]
       ·have hs:=hwc
        repeat' first|(with_reducible first|refine zz ?_|refine zE [0,1,2,3,4,5,6,7,8,10,11,13,15,17,22,43,55,56,57,58,81,82,83,84,97,98,99,100,103,104,105,112] ?_)|simp -dsimp[hs]|refine zp k1 ?_|refine i8 ?_ ?_<;>intro h<;>try simp only[i6] at h
        all_goals try clear hs
        exact At.round ⟨1,by omega,fun i hi=>by
         rcases Nat.lt_succ_iff_lt_or_eq.1 hi with h|rfl
         ·exact hcc i h
         ·exact hq⟩ (by simp) (zw [2,3,7,15,97,98,99,103,104] 2 (by simp;exact n8 (by omega) (by omega)))
     | 1,hi3,hi,hcc,hwc =>
       cases hq:gc (Q4 c) (au c.reg c.lets) c.loops[j] 1<;>simp only[hq] at k2
       ·have h60:=hbad 1 hq
        have hs:=trivial
        repeat' first|(with_reducible first|refine zz ?_|refine zr ?_|refine zE [0,1,2,3,4,5,6,7,8,10,11,13,15,17,22,43,55,56,57,58,81,82,83,84,97,98,99,100,103,104,105,112] ?_)|simp -dsimp[hs]|refine zp k2 ?_|refine i8 ?_ ?_<;>intro h<;>try simp only[i6] at h
        all_goals try clear hs
        all_goals simp[am,h60]
       ·have hs:=hwc
        repeat' first|(with_reducible first|refine zz ?_|refine zE [0,1,2,3,4,5,6,7,8,10,11,13,15,17,22,43,55,56,57,58,81,82,83,84,97,98,99,100,103,104,105,112] ?_)|simp -dsimp[hs]|refine zp k2 ?_|refine i8 ?_ ?_<;>intro h<;>try simp only[i6] at h
        all_goals try clear hs
        exact At.round ⟨2,by omega,fun i hi=>by
         rcases Nat.lt_succ_iff_lt_or_eq.1 hi with h|rfl
         ·exact hcc i h
         ·exact hq⟩ (by simp) (zw [2,3,7,15,97,98,99,103,104] 2 (by simp;exact n8 (by omega) (by omega)))
     | 2,hi3,hi,hcc,hwc =>
       cases hq:gc (Q4 c) (au c.reg c.lets) c.loops[j] 2<;>simp only[hq] at k3
       ·have h60:=hbad 2 hq
        have hs:=trivial
        repeat' first|(with_reducible first|refine zz ?_|refine zr ?_|refine zE [0,1,2,3,4,5,6,7,8,10,11,13,15,17,22,43,55,56,57,58,81,82,83,84,97,98,99,100,103,104,105,112] ?_)|simp -dsimp[hs]|refine zp k3 ?_|refine i8 ?_ ?_<;>intro h<;>try simp only[i6] at h
        all_goals try clear hs
        all_goals simp[am,h60]
       ·have hs:=hwc
        repeat' first|(with_reducible first|refine zz ?_|refine zE [0,1,2,3,4,5,6,7,8,10,11,13,15,17,22,43,55,56,57,58,81,82,83,84,97,98,99,100,103,104,105,112] ?_)|simp -dsimp[hs]|refine zp k3 ?_|refine i8 ?_ ?_<;>intro h<;>try simp only[i6] at h
        all_goals try clear hs
        exact At.round ⟨3,by omega,fun i hi=>by
         rcases Nat.lt_succ_iff_lt_or_eq.1 hi with h|rfl
         ·exact hcc i h
         ·exact hq⟩ (by simp) (zw [2,3,7,15,97,98,99,103,104] 2 (by simp;exact n8 (by omega) (by omega)))
    ·obtain rfl:i=3:=by omega
     have hok:=yb hcc
     have hs:=hw
     repeat' first|(with_reducible first|refine zz ?_|refine zE [0,1,2,3,4,5,6,7,8,10,11,13,15,17,22,43,55,56,57,58,81,82,83,84,97,98,99,100,103,104,105,112] ?_)|simp -dsimp[hs]|refine i8 ?_ ?_<;>intro h<;>try simp only[i6] at h
     all_goals try clear hs
     exact zn ⟨j+1,by omega,D3 hst hok⟩ (zw [2,3,7,97,98,99] 0)
   ·have hok:c.loops.all (N3 (Q4 c) (au c.reg c.lets))=true:=by rw[hall,List.drop_eq_nil_of_le (by omega)];rfl
    rw[hok] at hE
    have hs:=hlj
    repeat' first|(with_reducible first|refine zz ?_|refine zr ?_|refine zE [0,1,2,3,4,5,6,7,8,10,11,13,15,17,22,43,55,56,57,58,81,82,83,84,97,98,99,100,103,104,105,112] ?_)|simp -dsimp[hs]|refine i8 ?_ ?_<;>intro h<;>try simp only[i6] at h
    all_goals try clear hs
    simp[am,hE]
 ·have hE:p8 c=j9 c.reg:=by simp[p8,h0]
  have hs:=h0
  repeat' first|(with_reducible first|refine zz ?_|refine zr ?_|refine zE [0,1,2,3,4,5,6,7,8,10,11,13,15,17,22,43,55,56,57,58,81,82,83,84,97,98,99,100,103,104,105,112] ?_)|simp -dsimp[hs]|refine zp c1 ?_|refine i8 ?_ ?_<;>intro h<;>try simp only[i6] at h
  all_goals try clear hs
  simp[am,hE,h0]
end Go.Proofs
namespace Go.Proofs
open Go Go.Ab
theorem BS:Rd 111 G8 (fun _=>True):=(Opens.struct Tryz.underlying111 (by kernel_rfl) (wI (fun _=>True) (fun l=>∃ n:Int,l=[rI n]) (fun l=>∃ n:Int,l=[rI n]) (fun l=>∃ b:Bool,l=[rB b])) (fun i f hf=>by
 rcases i with _|_|_|i<;>simp at hf<;>subst hf
 ·exact oInt
 ·exact oInt
 ·exact Br)).mono (by
 rintro l ⟨ls,h1,h2,rfl⟩
 obtain⟨a,b,c,rfl⟩:=Ak h1
 obtain⟨x,rfl⟩:=h2 0 a rfl
 obtain⟨y,rfl⟩:=h2 1 b rfl
 obtain⟨z,rfl⟩:=h2 2 c rfl
 exact⟨⟨x,y,z⟩,trivial,rfl⟩)
theorem Cj:Opens Tryz.prog 32 (fun l=>∃ xs:List Link,l=[.sl (xs.map G8)]):=
 (Opens.sliceOf Tryz.underlying32 (sz:=3) (by kernel_rfl) (by decide) (fun _=>rfl) BS).mono (by rintro l ⟨xs,_,h⟩;exact⟨xs,h⟩)
theorem Eb:Opens Tryz.prog 34 (fun l=>∃ n m:Int,l=[rI n,rI m]):=(Opens.struct Tryz.underlying34 (by kernel_rfl) (fun _ l=>∃ n:Int,l=[rI n]) (fun i f hf=>by
 rcases i with _|_|i<;>simp at hf<;>subst hf<;>exact oInt)).mono (by
 rintro l ⟨ls,h1,h2,rfl⟩
 obtain⟨a,b,rfl⟩:=tZ h1
 obtain⟨x,rfl⟩:=h2 0 a rfl
 obtain⟨y,rfl⟩:=h2 1 b rfl
 exact⟨x,y,rfl⟩)
theorem wu:Rd 36 D7 (fun _=>True):=(Opens.struct Tryz.underlying36 (by kernel_rfl) (wI (fun _=>True) (fun l=>∃ xs:List Link,l=[.sl (xs.map G8)]) (fun l=>∃ n m:Int,l=[rI n,rI m]) (fun _=>True)) (fun i f hf=>by
 rcases i with _|_|i<;>simp at hf<;>subst hf
 ·exact Cj
 ·exact Eb)).mono (by
 rintro l ⟨ls,h1,h2,rfl⟩
 obtain⟨a,b,rfl⟩:=tZ h1
 obtain⟨x,rfl⟩:=h2 0 a rfl
 obtain⟨y,z,rfl⟩:=h2 1 b rfl
 exact⟨⟨x,y,z⟩,trivial,rfl⟩)
theorem Ci:Opens Tryz.prog 165 (fun l=>∃ xs:List ChLoop,l=[.sl (xs.map D7)]):=
 (Opens.sliceOf Tryz.underlying165 (sz:=3) (by kernel_rfl) (by decide) (fun _=>rfl) wu).mono (by rintro l ⟨xs,_,h⟩;exact⟨xs,h⟩)
theorem DI:Rd 167 E5 (fun c=>∀ x∈c.reg,eE x):=(Opens.struct Tryz.underlying167 (by kernel_rfl) (Bq (fun _=>True) (fun l=>∃ xs:List Issue,(∀ x∈xs,eE x)∧l=[.sl (xs.map e9)]) (fun l=>∃ xs:List Int,l=[.sl (xs.map l7)]) (fun l=>∃ n:Int,l=[rI n]) (fun l=>∃ xs:List ChLoop,l=[.sl (xs.map D7)]) (fun _=>True)) (fun i f hf=>by
 rcases i with _|_|_|_|i<;>simp at hf<;>subst hf
 ·exact DZ
 ·exact wP
 ·exact oInt
 ·exact Ci)).mono (by
 rintro l ⟨ls,h1,h2,rfl⟩
 obtain⟨a,b,c,d,rfl⟩:=Ez h1
 obtain⟨x,hx,rfl⟩:=h2 0 a rfl
 obtain⟨y,rfl⟩:=h2 1 b rfl
 obtain⟨z,rfl⟩:=h2 2 c rfl
 obtain⟨u,rfl⟩:=h2 3 d rfl
 exact⟨⟨x,y,z,u⟩,hx,rfl⟩)
end Go.Proofs
namespace Go.Ab
open Go
structure Note where
 number:Int
 day:Int
 signed:Int
 drawing:Int
 letter:Int
 frm:Int
 to:Int
 cancels:Int
 useUp:Bool
 ways:Int
 deriving DecidableEq
structure Notes where
 reg:List Issue
 notes:List Note
 deriving DecidableEq
def l9 (x:Note):List IC:=[rI x.number,rI x.day,.raw (.int .u8 x.signed),rI x.drawing,rI x.letter,rI x.frm,rI x.to,rI x.cancels,rB x.useUp,.raw (.int .u8 x.ways)]
def m4 (n:Notes):List IC:=[.sl (n.reg.map e9),.sl (n.notes.map l9)]
def dT (x:Note):DV:=.agg ((l9 x).map .im)
def l4 (n:Notes):DV:=.agg ((m4 n).map .im)
attribute [simp] l9 m4 dT l4
end Go.Ab
namespace Go.Proofs
open Go Go.Ab
variable {G:GW}
def Cr (x:Note):Bool:=(decide (1≤x.number)&&decide (x.number≤9999))&&(decide (0≤x.day)&&decide (x.day≤14610))
theorem El (n:Notes) (i:Nat) (x:Note) (hx:n.notes[i]?=some x):zP Tryz.prog G 346 [l4 n,iv (i:Int)] (bv (Cr x)):=by
 refine zf Tryz.func346 Tryz.ntmps346 ?_
 try simp only[l4,iv]
 have hi:i<n.notes.length:=e7 hx
 have hxe:n.notes[i]=x:=(List.getElem?_eq_some_iff.1 hx).2
 have c1:=fL (G:=G) 1 9999 [x.number] (by simp)
 have c2:=fL (G:=G) 0 14610 [x.day] (by simp)
 have hs:=za hxe hi
 repeat' first|(with_reducible first|refine zz ?_|refine zr ?_|refine zE [0,1,2,4] ?_)|simp -dsimp[hs]|refine zt c1 ?_ ?_ ?_;(focus simp;done);focus (simp;done)|refine zt c2 ?_ ?_ ?_;(focus simp;done);focus (simp;done)|with_reducible refine j0 ?_ ?_<;>intro h<;>have h0:=h<;>(try simp only[i6] at h)<;>have h2:=h<;>(try simp at h2)<;>replace hs:=za h0 (za h (za h2 hs))
 all_goals try clear hs
 all_goals simp_all [Cr]
 all_goals omega
def Cq (x:Note):Bool:=decide (x.signed≤2)&&decide (x.ways≤3)
theorem Ek (n:Notes) (i:Nat) (x:Note) (hx:n.notes[i]?=some x):zP Tryz.prog G 347 [l4 n,iv (i:Int)] (bv (Cq x)):=by
 refine zf Tryz.func347 Tryz.ntmps347 ?_
 try simp only[l4,iv]
 have hi:i<n.notes.length:=e7 hx
 have hxe:n.notes[i]=x:=(List.getElem?_eq_some_iff.1 hx).2
 have hs:=za hxe hi
 repeat' first|(with_reducible first|refine zz ?_|refine zr ?_|refine zE [0,1,2,4] ?_)|simp -dsimp[hs]|with_reducible refine j0 ?_ ?_<;>intro h<;>have h0:=h<;>(try simp only[i6] at h)<;>have h2:=h<;>(try simp at h2)<;>replace hs:=za h0 (za h (za h2 hs))
 all_goals try clear hs
 all_goals (clear hx;simp_all [Cq])
 all_goals omega
def Bt (x:Note):Bool:=(decide (1≤x.frm)&&decide (x.frm≤999))&&(decide (1≤x.to)&&decide (x.to≤999))&&decide (x.frm≤x.to)
theorem Ej (n:Notes) (i:Nat) (x:Note) (hx:n.notes[i]?=some x):zP Tryz.prog G 348 [l4 n,iv (i:Int)] (bv (Bt x)):=by
 refine zf Tryz.func348 Tryz.ntmps348 ?_
 try simp only[l4,iv]
 have hi:i<n.notes.length:=e7 hx
 have hxe:n.notes[i]=x:=(List.getElem?_eq_some_iff.1 hx).2
 have c1:=fL (G:=G) 1 999 [x.frm,x.to] (by simp)
 have hs:=za hxe hi
 repeat' first|(with_reducible first|refine zz ?_|refine zr ?_|refine zE [0,1,2,4,5] ?_)|simp -dsimp[hs]|refine zt c1 ?_ ?_ ?_;(focus simp;done);focus (simp;done)|with_reducible refine j0 ?_ ?_<;>intro h<;>have h0:=h<;>(try simp only[i6] at h)<;>have h2:=h<;>(try simp at h2)<;>replace hs:=za h0 (za h (za h2 hs))
 all_goals try clear hs
 all_goals (clear hx c1;simp_all [Bt])
 all_goals omega
end Go.Proofs
namespace Go.Proofs
open Go Go.Ab Tryz
variable {G:GW}
theorem jZ (l:List Note) (p:Note→Bool) (k:Nat) (caps:List DC) (objs:List DObj) (hok:D4 prog k) (hf:∀ x∈l,DCall prog G k (dT x :: caps.map .one) objs (fun d o=>d=bv (p x)∧o=objs)) (hl:l.length<1000000):DCall prog G 111 [.one (.im (.sl (l.map l9))),.one (.fn (.func k) caps)] objs (fun d o=>d=iv (G7 p l)∧o=objs):=by
 refine i7 func111 rfl ntmps111 (by simp) rfl ?_
 have hs:=trivial
 repeat' first|(with_reducible first|refine zz ?_|refine zE [0,1,4,5,7,8,9,16] ?_)|simp -dsimp[hs]
 refine g9 (ι:={ k:Nat // k≤l.length∧∀ j x,j<k→l[j]?=some x→p x=false }) (fun i=>⟨19,[(0,.one (.im (.sl (l.map l9)))),(1,.one (.fn (.func k) caps)),(7,iv (l.length:Int)),(8,iv (i.1:Int))],objs⟩) (fun i=>l.length-i.1) ⟨0,by simp⟩ (zv [0,1,7,8]) ?_
 rintro⟨i,hi,hno⟩
 simp only[iv]
 by_cases hlt:i<l.length
 ·have hx:l[i]?=some l[i]:=by simp[hlt]
  have hw:=zk i
  have hc:=hf l[i] (by simp)
  simp only[dT,l9,List.map_cons,List.map_nil,bv,rI] at hc
  have hs:=za hx (za hw hok)
  repeat' first|(with_reducible first|refine zz ?_|refine And.intro (by omega) ?_|refine zr ?_|refine zE [0,1,4,5,7,8,9,16] ?_)|simp -dsimp[hs]|refine CallE.here hc ?_|refine i8 ?_ ?_<;>intro h<;>try simp only[i6] at h|with_reducible refine And.intro ?_ ?_
  all_goals try omega
  ·exact(I5 hx (by assumption) hno).symm
  ·exact At.round ⟨i+1,by omega,fun j x hj hjx=>by
    by_cases e:j=i
    ·subst e;rw[hx] at hjx;cases hjx;assumption
    ·exact hno j x (by omega) hjx⟩ (by simp;omega) (zv [0,1,7,8])
 ·have hs:=trivial
  repeat' first|(with_reducible first|refine zz ?_|refine zr ?_|refine zE [0,1,4,5,7,8,9,16] ?_)|simp -dsimp[hs]|refine i8 ?_ ?_<;>intro h<;>try simp only[i6] at h|with_reducible refine And.intro ?_ ?_
  all_goals try omega
  exact(Q3 fun j x hjx=>hno j x (by have:=e7 hjx;omega) hjx).symm
theorem an (l:List Note) (p:Note→Bool) (k:Nat) (caps:List DC) (objs:List DObj) (hok:D4 prog k) (hf:∀ x∈l,DCall prog G k (dT x :: caps.map .one) objs (fun d o=>d=bv (p x)∧o=objs)) (hl:l.length<1000000):DCall prog G 352 [.one (.im (.sl (l.map l9))),.one (.fn (.func k) caps)] objs (fun d o=>d=bv (l.any p)∧o=objs):=by
 refine i7 func352 rfl ntmps352 (by simp) rfl ?_
 have hc:=jZ l p k caps objs hok hf hl
 repeat' first|(with_reducible first|refine zz ?_|refine zx ?_|refine zE [0,1,4] ?_)|simp -dsimp|refine CallE.here hc ?_|with_reducible refine And.intro ?_ ?_
 simp[u7]
def Co (x:Note):Bool:=decide (2≤x.letter) || !x.useUp&&decide (x.ways=0)
theorem Eh (n:Notes) (i:Nat) (x:Note) (hx:n.notes[i]?=some x):zP prog G 350 [l4 n,iv (i:Int)] (bv (Co x)):=by
 refine zf func350 ntmps350 ?_
 try simp only[l4,iv]
 have hi:i<n.notes.length:=e7 hx
 have hxe:n.notes[i]=x:=(List.getElem?_eq_some_iff.1 hx).2
 have hs:=za hxe hi
 repeat' first|(with_reducible first|refine zz ?_|refine zr ?_|refine zE [0,1,2,4,5] ?_)|simp -dsimp[hs]|with_reducible refine j0 ?_ ?_<;>intro h<;>have h0:=h<;>(try simp only[i6] at h)<;>have h2:=h<;>(try simp at h2)<;>replace hs:=za h0 (za h (za h2 hs))
 all_goals try clear hs
 all_goals (clear hx;simp_all [Co])
 all_goals omega
theorem Cn (n:Notes) (x y:Note):DCall prog G 353 (dT y :: [DC.ptr 1 0].map .one) [.row ((m4 n).map .im),.row ((l9 x).map .im)] (fun d o=>d=bv (decide (y.number=x.cancels))∧o=[.row ((m4 n).map .im),.row ((l9 x).map .im)]):=by
 refine DCall.drop ?_
 refine i7 func353 rfl ntmps353 (by simp) rfl ?_
 simp only[dT,l9,m4,rI,rB]
 repeat' first|(with_reducible first|refine zz ?_|refine zx ?_|refine zE [0,1,2,3] ?_)|simp -dsimp|with_reducible refine And.intro ?_ ?_
def yR (l:List Note) (i:Nat) (x:Note):Bool:=decide (x.cancels=0)||(l.take i).any fun y=>decide (y.number=x.cancels)
theorem Eg (n:Notes) (i:Nat) (x:Note) (hx:n.notes[i]?=some x) (hl:n.notes.length<1000):zP prog G 351 [l4 n,iv (i:Int)] (bv (yR n.notes i x)):=by
 refine zf func351 ntmps351 ?_
 try simp only[l4,iv]
 have hi:i<n.notes.length:=e7 hx
 have hxe:n.notes[i]=x:=(List.getElem?_eq_some_iff.1 hx).2
 have hlt:(n.notes.take i).length<1000000:=by simp;omega
 have hil:i≤n.notes.length:=by omega
 have c1:=an (G:=G) (n.notes.take i) (fun y=>decide (y.number=x.cancels)) 353 [.ptr 1 0] [.row ((m4 n).map .im),.row ((l9 x).map .im)] (by simp) (fun y _=>Cn n x y) hlt
 simp only[l9,m4,rI,rB,List.map_take,List.map_cons,List.map_nil] at c1
 have hs:=za hxe (za hi hil)
 repeat' first|(with_reducible first|refine zz ?_|refine zr ?_|refine zE [0,1,2,4,5] ?_)|simp -dsimp[hs]|refine zh c1 ?_|with_reducible refine j0 ?_ ?_<;>intro h<;>have h0:=h<;>(try simp only[i6] at h)<;>have h2:=h<;>(try simp at h2)<;>replace hs:=za h0 (za h (za h2 hs))
 all_goals try clear hs
 all_goals (clear hx c1;simp_all [yR])
theorem Cm (n:Notes) (i:Nat) (x y:Note) (hx:n.notes[i]?=some x):DCall prog G 355 (dT y :: [DC.ptr 0 0,DC.ptr 1 0].map .one) [.row ((m4 n).map .im),.row [.im (rI (i:Int))]] (fun d o=>d=bv (decide (y.number=x.number))∧o=[.row ((m4 n).map .im),.row [.im (rI (i:Int))]]):=by
 have hi:i<n.notes.length:=e7 hx
 have hxe:n.notes[i]=x:=(List.getElem?_eq_some_iff.1 hx).2
 refine DCall.drop ?_
 refine i7 func355 rfl ntmps355 (by simp) rfl ?_
 simp only[dT,l9,m4,rI,rB]
 have hs:=za hxe hi
 repeat' first|(with_reducible first|refine zz ?_|refine zr ?_)|simp -dsimp[hs]|refine zM 1 14 10 [0,1,2,3,4] ?_|with_reducible refine zE [0,1,2,3,4] ?_|with_reducible refine And.intro ?_ ?_
def sD (l:List Note) (i:Nat) (x:Note):Bool:=!(l.take i).any fun y=>decide (y.number=x.number)
theorem Ef (n:Notes) (i:Nat) (x:Note) (hx:n.notes[i]?=some x) (hl:n.notes.length<1000):zP prog G 354 [l4 n,iv (i:Int)] (bv (sD n.notes i x)):=by
 refine zf func354 ntmps354 ?_
 try simp only[l4,iv]
 have hi:i<n.notes.length:=e7 hx
 have hlt:(n.notes.take i).length<1000000:=by simp;omega
 have hil:i≤n.notes.length:=by omega
 have c1:=an (G:=G) (n.notes.take i) (fun y=>decide (y.number=x.number)) 355 [.ptr 0 0,.ptr 1 0] [.row ((m4 n).map .im),.row [.im (rI (i:Int))]] (by simp) (fun y _=>Cm n i x y hx) hlt
 simp only[l9,m4,rI,rB,List.map_take,List.map_cons,List.map_nil] at c1
 have hs:=za hi hil
 repeat' first|(with_reducible first|refine zz ?_|refine zr ?_|refine zE [0,1,2,3,4] ?_)|simp -dsimp[hs]|refine zh c1 ?_
 all_goals try clear hs
 all_goals (clear hx c1;simp_all [sD])
def zW:List Int→Int
 | []=>0
 | x :: r=>if x=0 then zW r else x
theorem Fr (l:List Int) (hl:l.length<1000000):zP prog G 84 [n7 l] (iv (zW l)):=by
 refine zf func84 ntmps84 ?_
 try simp only[n7]
 have hs:=trivial
 repeat' first|(with_reducible first|refine zz ?_|refine zE [0,2,3,5,6,7,8,9,14] ?_)|simp -dsimp[hs]
 refine g9 (ι:={ p:Nat // p≤l.length∧zW l=zW (l.drop p) }) (fun p=>⟨18,[(3,iv 0),(6,.one (.im (.sl (l.map l7)))),(7,iv (l.length:Int)),(8,iv (p.1:Int))],[]⟩) (fun p=>l.length-p.1) ⟨0,by simp⟩ (zv [3,6,7,8]) ?_
 rintro⟨k,hk,hu⟩
 simp only[iv]
 by_cases hlt:k<l.length
 ·have hw:=zk k
  rw[List.drop_eq_getElem_cons hlt,zW] at hu
  generalize hx:l[k]=x at *
  have hs:=za hx (za hw hlt)
  repeat' first|(with_reducible first|refine zz ?_|refine zr ?_|refine zE [0,2,3,5,6,7,8,9,14] ?_)|simp -dsimp[hs]|refine i8 ?_ ?_<;>intro h<;>try simp only[i6] at h
  ·rw[hu,if_neg (by assumption)]
  ·rw[if_pos (by assumption)] at hu
   exact zn ⟨k+1,by omega,hu⟩ (zv [3,6,7,8])
 ·rw[List.drop_eq_nil_of_le (by omega)] at hu
  have hs:=hlt
  repeat' first|(with_reducible first|refine zz ?_|refine zr ?_|refine zE [0,2,3,5,6,7,8,9,14] ?_)|simp -dsimp[hs]|refine i8 ?_ ?_<;>intro h<;>try simp only[i6] at h
  rw[hu];rfl
def yj (y x:Note):Bool:=decide (y.day<x.day)||decide (y.day=x.day)&&decide (y.number<x.number)
def vD (l:List Note) (i:Nat) (x:Note):Bool:=if i=0 then true else match l[i-1]? with|some y=>yj y x|none=>false
theorem Ce (y x:Note):decide (zW [dO y.day x.day,dO y.number x.number]<0)=yj y x:=by
 unfold yj dO zW zW zW
 rw[Bool.eq_iff_iff]
 simp only[decide_eq_true_eq,Bool.or_eq_true,Bool.and_eq_true]
 repeat' split
 all_goals omega
theorem Ee (n:Notes) (i:Nat) (x:Note) (hx:n.notes[i]?=some x) (hl:n.notes.length<1000):zP prog G 356 [l4 n,iv (i:Int)] (bv (vD n.notes i x)):=by
 refine zf func356 ntmps356 ?_
 try simp only[l4,iv]
 have hi:i<n.notes.length:=e7 hx
 have hxe:n.notes[i]=x:=(List.getElem?_eq_some_iff.1 hx).2
 by_cases h00:i=0
 ·subst h00
  have hs:=za hxe hi
  repeat' first|(with_reducible first|refine zz ?_|refine zr ?_)|simp -dsimp[hs]|refine zM 1 40 36 [0,1,2,4] ?_|with_reducible refine zE [0,1,2,4] ?_
  all_goals simp[vD]
 ·have hi1:i-1<n.notes.length:=by omega
  have hw:IntKind.i64.wrap ((i:Int)-1)=((i-1:Nat):Int):=by rw[n8 (by omega) (by omega)];omega
  have hne:((i:Int)=0)=False:=by simp[h00]
  generalize hy:n.notes[i-1]=y
  have c1:=gR (G:=G) y.day x.day
  have c2:=gR (G:=G) y.number x.number
  have c3:=Fr (G:=G) [dO y.day x.day,dO y.number x.number] (by simp)
  have hs:=za hxe (za hi (za hi1 (za hw (za hne (za hy h00)))))
  repeat' first|(with_reducible first|refine zz ?_|refine zr ?_)|simp -dsimp[hs]|refine zq c1 ?_|refine zq c2 ?_|refine zq c3 ?_|refine zM 1 40 36 [0,1,2,4] ?_|with_reducible refine zE [0,1,2,4] ?_
  rw[Ce,vD,if_neg h00,List.getElem?_eq_getElem hi1,hy]
def Bs (l:List Issue) (x:Note):Bool:=if x.drawing=0∧x.letter=0 then decide (x.cancels≠0) else decide (yT l x.drawing x.letter=0)
theorem Ei (n:Notes) (i:Nat) (x:Note) (hx:n.notes[i]?=some x) (hG:s6 G) (hs:T2 n.reg):zP prog G 349 [l4 n,iv (i:Int)] (bv (Bs n.reg x)):=by
 refine zf func349 ntmps349 ?_
 try simp only[l4,iv]
 have hi:i<n.notes.length:=e7 hx
 have hxe:n.notes[i]=x:=(List.getElem?_eq_some_iff.1 hx).2
 have c1:=AY (G:=G) n.reg x.drawing x.letter hG hs
 simp only[C9] at c1
 have hs:=za hxe hi
 repeat' first|(with_reducible first|refine zz ?_|refine zr ?_|refine zE [0,1,2,4,5,7,19] ?_)|simp -dsimp[hs]|refine zp c1 ?_|refine i8 ?_ ?_<;>intro h<;>try simp only[i6] at h
 all_goals try clear hs
 ·have h1:x.drawing=0∧x.letter=0:=⟨h.1.symm,h.2.symm⟩
  rw[Bs,if_pos h1];simp
 ·rw[Bs,if_neg (by omega)]
theorem oO (l:List Int) (n:Int) (hl:l.length<1000000):zP prog G 174 [n7 l,iv n] (iv (G7 (fun x=>decide (n=x)) l)):=by
 refine zf func174 ntmps174 ?_
 try simp only[n7,iv]
 have hs:=trivial
 repeat' first|(with_reducible first|refine zz ?_|refine zE [0,1,4,5,7,8,9,16] ?_)|simp -dsimp[hs]
 refine g9 (ι:={ k:Nat // k≤l.length∧∀ j x,j<k→l[j]?=some x→decide (n=x)=false }) (fun i=>⟨19,[(0,n7 l),(1,iv n),(7,iv (l.length:Int)),(8,iv (i.1:Int))],[]⟩) (fun i=>l.length-i.1) ⟨0,by simp⟩ (zv [0,1,7,8]) ?_
 rintro⟨i,hi,hno⟩
 simp only[iv,n7]
 by_cases hlt:i<l.length
 ·have hx0:l[i]?=some l[i]:=by simp[hlt]
  have hw:=zk i
  generalize hx:l[i]=x at *
  have hs:=za hx (za hw hlt)
  repeat' first|(with_reducible first|refine zz ?_|refine zr ?_|refine zE [0,1,4,5,7,8,9,16] ?_)|simp -dsimp[hs]|refine i8 ?_ ?_<;>intro h<;>try simp only[i6] at h
  ·exact(I5 hx0 (by simp;assumption) hno).symm
  ·exact At.round ⟨i+1,by omega,fun j y hj hjx=>by
    by_cases e:j=i
    ·subst e;rw[hx0] at hjx;cases hjx;simp;assumption
    ·exact hno j y (by omega) hjx⟩ (by simp;omega) (zv [0,1,7,8])
 ·have hs:=hlt
  repeat' first|(with_reducible first|refine zz ?_|refine zr ?_|refine zE [0,1,4,5,7,8,9,16] ?_)|simp -dsimp[hs]|refine i8 ?_ ?_<;>intro h<;>try simp only[i6] at h
  exact(Q3 fun j x hjx=>hno j x (by have:=e7 hjx;omega) hjx).symm
theorem bL (l:List Int) (n:Int) (hl:l.length<1000000):zP prog G 107 [n7 l,iv n] (bv (decide (n∈l))):=by
 refine zf func107 ntmps107 ?_
 try simp only[n7,iv]
 have hc:=oO (G:=G) l n hl
 repeat' first|(with_reducible first|refine zz ?_|refine zx ?_|refine zE [0,1,4] ?_)|simp -dsimp|refine zp hc ?_
 have h1:=u7 (fun x=>decide (n=x)) l
 rw[← decide_eq_true_iff (p:=0≤_),h1]
 simp
theorem aL (n lo hi:Int):zP prog G 252 [iv n,iv lo,iv hi] (bv (decide (lo≤n)&&decide (n≤hi))):=by
 refine zf func252 ntmps252 ?_
 try simp only[iv,iv,iv]
 have hs:=trivial
 repeat' first|(with_reducible first|refine zz ?_|refine zr ?_|refine zE [0,1,2,6] ?_)|simp -dsimp[hs]|with_reducible refine j0 ?_ ?_<;>intro h<;>have h0:=h<;>(try simp only[i6] at h)<;>have h2:=h<;>(try simp at h2)<;>replace hs:=za h0 (za h (za h2 hs))
 all_goals try clear hs
 all_goals simp_all
theorem qT (l:List Int) (n:Int) (hl:l.length<1000000):zP prog G 137 [n7 l,iv n] (bv (decide (n∈l))):=by
 refine zf func137 ntmps137 ?_
 try simp only[n7,iv]
 have hs:=trivial
 repeat' first|(with_reducible first|refine zz ?_|refine zE [0,1,4,5,9,17] ?_)|simp -dsimp[hs]
 refine g9 (ι:={ k:Nat // k≤l.length∧decide (n∈l)=decide (n∈l.drop k) }) (fun i=>⟨18,[(0,n7 l),(1,iv n),(5,iv (i.1:Int))],[]⟩) (fun i=>l.length-i.1) ⟨0,by simp⟩ (zv [0,1,5]) ?_
 rintro⟨i,hi,hno⟩
 simp only[iv,n7]
 by_cases hlt:i<l.length
 ·have hw:=zk i
  rw[List.drop_eq_getElem_cons hlt] at hno
  generalize hx:l[i]=x at *
  have hs:=za hx (za hw hlt)
  repeat' first|(with_reducible first|refine zz ?_|refine zr ?_|refine zE [0,1,4,5,9,17] ?_)|simp -dsimp[hs]|refine i8 ?_ ?_<;>intro h<;>try simp only[i6] at h
  all_goals try clear hs
  ·exact of_decide_eq_true (by rw[hno];simp[*])
  ·exact zn ⟨i+1,by omega,by rw[hno,decide_eq_decide,List.mem_cons];exact or_iff_right (fun e=>absurd e.symm (by assumption))⟩ (zv [0,1,5])
 ·rw[List.drop_eq_nil_of_le (by omega)] at hno
  have hs:=hlt
  repeat' first|(with_reducible first|refine zz ?_|refine zr ?_|refine zE [0,1,4,5,9,17] ?_)|simp -dsimp[hs]|refine i8 ?_ ?_<;>intro h<;>try simp only[i6] at h
  exact fun hm=>by simp[hm] at hno
end Go.Proofs
namespace Go.Proofs
open Go Go.Ab
def sC (n:Notes) (i:Nat) (x:Note):Bool:=Cr x&&Cq x&&Bt x&&Bs n.reg x&&Co x&&yR n.notes i x&&sD n.notes i x&&vD n.notes i x
def oy (n:Notes) (i:Nat) (x:Note):Nat→Bool
 | 0=>Cr x
 | 1=>Cq x
 | 2=>Bt x
 | 3=>Bs n.reg x
 | 4=>Co x
 | 5=>yR n.notes i x
 | 6=>sD n.notes i x
 | _=>vD n.notes i x
theorem Ac {n:Notes} {i:Nat} {x:Note} {k:Nat} (h:oy n i x k=false):sC n i x=false:=by
 unfold sC
 match k with
 | 0|1|2|3|4|5|6=>simp only[oy] at h;simp[h]
 | k+7=>simp only[oy] at h;simp[h]
theorem Ad {n:Notes} {i:Nat} {x:Note} (h:∀ k<8,oy n i x k=true):sC n i x=true:=by
 have h0:=h 0 (by omega);have h1:=h 1 (by omega);have h2:=h 2 (by omega);have h3:=h 3 (by omega)
 have h4:=h 4 (by omega);have h5:=h 5 (by omega);have h6:=h 6 (by omega);have h7:=h 7 (by omega)
 simp only[oy] at h0 h1 h2 h3 h4 h5 h6 h7
 simp[sC,h0,h1,h2,h3,h4,h5,h6,h7]
def BN (x:Note):Bool:=(decide (1≤x.number)&&decide (x.number≤9999))&&(decide (0≤x.day)&&decide (x.day≤14610))&&decide (x.signed≤2)&&(decide (1≤x.frm)&&decide (x.frm≤x.to))&&decide (x.to≤999)&&decide (x.ways≤3)
def BM (l:List Issue) (x:Note):Bool:=if x.drawing=0∧x.letter=0 then decide (x.cancels≠0) else (n9 l x.drawing x.letter).isSome
def BL (x:Note):Bool:=!(decide (x.letter<2)&&(x.useUp||decide (0<x.ways)))
def kL (n:Notes) (i:Nat) (x:Note):Bool:=BN x&&BM n.reg x&&BL x&&sD n.notes i x&&yR n.notes i x&&vD n.notes i x
theorem wr {n:Notes} {i:Nat} {x:Note} (h0:j9 n.reg=0) (hw:0≤x.ways):kL n i x=sC n i x:=by
 have hB:BM n.reg x=Bs n.reg x:=by
  unfold BM Bs yT
  rw[if_neg (show ¬ j9 n.reg≠0 by simp[h0])]
  split
  ·rfl
  ·cases (n9 n.reg x.drawing x.letter).isSome<;>rfl
 have hC:BL x=Co x:=by
  unfold BL Co
  rw[Bool.eq_iff_iff]
  cases x.useUp<;>simp<;>omega
 have hA:BN x=(Cr x&&Cq x&&Bt x):=by
  unfold BN Cr Cq Bt
  rw[Bool.eq_iff_iff]
  simp only[Bool.and_eq_true,decide_eq_true_eq]
  omega
 unfold kL sC
 rw[hA,hB,hC]
 generalize yR n.notes i x=a
 generalize sD n.notes i x=b
 cases a<;>cases b<;>simp
def j6 (l:List Note):List Int:=(l.filter fun x=>decide (x.signed=1)).map (·.number)
theorem bt (l:List Note) (k:Nat) (h:k<l.length):j6 (l.take (k+1))=j6 (l.take k)++(if l[k].signed=1 then [l[k].number] else []):=by
 unfold j6
 rw[List.take_succ_eq_append_getElem h,List.filter_append,List.map_append]
 congr 1
 by_cases e:l[k].signed=1<;>simp[e]
theorem Y0 (l:List Note):(j6 l).length≤l.length:=by
 unfold j6;rw[List.length_map];exact List.length_filter_le _ _
def cZ (n:Notes):Prop:=∀ (i:Nat) (x:Note),n.notes[i]?=some x→sC n i x=true
def cK (n:Notes):Bool:=decide (n.notes.length≤12)&&(List.range n.notes.length).all (fun i=>match n.notes[i]? with|some x=>sC n i x|none=>true)&&decide ((j6 n.notes).length≤5)
def q8 (n:Notes):Int:=if j9 n.reg≠0 then j9 n.reg else if cK n then 0 else 30
theorem notesB_iff {n:Notes}:cK n=true↔n.notes.length≤12∧cZ n∧(j6 n.notes).length≤5:=by
 simp only[cK,Bool.and_eq_true,decide_eq_true_eq,List.all_eq_true,List.mem_range,and_assoc]
 refine and_congr_right fun _=>and_congr_left fun _=>⟨fun h i x hx=>?_,fun h i hi=>?_⟩
 ·have:=h i (List.getElem?_eq_some_iff.1 hx).1
  rw[hx] at this;exact this
 ·rw[List.getElem?_eq_getElem hi]
  exact h i _ (List.getElem?_eq_getElem hi)
theorem jH {n:Notes} (h:cZ n):(n.notes.map (·.number)).Nodup:=by
 rw[List.nodup_iff_pairwise_ne,List.pairwise_iff_getElem]
 intro i j hi hj hij
 simp only[List.length_map] at hi hj
 simp only[List.getElem_map]
 have h1:=h j _ (List.getElem?_eq_getElem hj)
 simp only[sC,Bool.and_eq_true,sD,Bool.not_eq_true',List.any_eq_false,decide_eq_true_eq] at h1
 refine h1.1.2 _ (List.mem_iff_getElem.2 ⟨i,by simp;omega,?_⟩)
 simp
theorem cJ {n:Notes} (h:cZ n):(j6 n.notes).Nodup:=by
 have:=jH h
 unfold j6
 exact this.sublist ((List.filter_sublist).map _)
def pZ (o s:List Int):Prop:=∀ (i:Nat) (v:Int),s[i]?=some v→v∈o∧∀ j u,i=j+1→s[j]?=some u→u<v
def eY (o s:List Int) (v:Int):Nat→Bool
 | 0=>decide (v∈o)
 | j+1=>decide (v∈o)&&(match s[j]? with|some u=>decide (u<v)|none=>true)
def C0 (o s:List Int):Bool:=(List.range s.length).all fun i=>match s[i]? with|some v=>eY o s v i|none=>true
theorem truthB_iff {o s:List Int}:C0 o s=true↔pZ o s:=by
 simp only[C0,List.all_eq_true,List.mem_range]
 constructor
 ·intro h i v hv
  have h1:=h i (List.getElem?_eq_some_iff.1 hv).1
  rw[hv] at h1
  simp only at h1
  cases i with
  | zero =>
    simp only[eY,decide_eq_true_eq] at h1
    exact⟨h1,fun j u e=>by omega⟩
  | succ i =>
    simp only[eY,decide_eq_true_eq,Bool.and_eq_true] at h1
    refine⟨h1.1,fun j u e hu=>?_⟩
    obtain rfl:j=i:=by omega
    rw[hu] at h1;simpa using h1.2
 ·intro h i hi
  rw[List.getElem?_eq_getElem hi]
  simp only
  obtain⟨h1,h2⟩:=h i _ (List.getElem?_eq_getElem hi)
  cases i with
  | zero=>simpa only[eY,decide_eq_true_eq] using h1
  | succ i =>
    have hj:i<s.length:=by omega
    simp only[eY,List.getElem?_eq_getElem hj,Bool.and_eq_true,decide_eq_true_eq]
    exact⟨h1,h2 i _ rfl (List.getElem?_eq_getElem hj)⟩
theorem di {o s:List Int} {i:Nat} {v:Int} (h:s[i]?=some v) (hb:v∉o∨∃ j u,i=j+1∧s[j]?=some u∧v≤u):C0 o s=false:=by
 rw[← Bool.not_eq_true,truthB_iff]
 intro ht
 obtain⟨h1,h2⟩:=ht i v h
 rcases hb with hb|⟨j,u,e,hu,hle⟩
 ·exact hb h1
 ·have:=h2 j u e hu;omega
theorem eg {o s:List Int} (h:pZ o s):C0 o s=true:=truthB_iff.2 h
def bh (o s:List Int) (k:Nat):Prop:=∀ (i:Nat) (v:Int),i<k→s[i]?=some v→v∈o∧∀ j u,i=j+1→s[j]?=some u→u<v
theorem W8 {o s:List Int} {k:Nat} {v:Int} (h:bh o s k) (hv:s[k]?=some v) (ho:v∈o) (hl:∀ j u,k=j+1→s[j]?=some u→u<v):bh o s (k+1):=by
 intro i w hi hw
 by_cases e:i=k
 ·subst e;rw[hv] at hw;cases hw;exact⟨ho,hl⟩
 ·exact h i w (by omega) hw
theorem ia {o s:List Int} (h:bh o s s.length):pZ o s:=fun i v hv=>h i v (List.getElem?_eq_some_iff.1 hv).1 hv
theorem jm {o s:List Int} {k:Nat} (h:bh o s k):∀ (j i:Nat) (u v:Int),i<j→j<k→s[i]?=some u→s[j]?=some v→u<v
 | 0,_,_,_,h1,_,_,_=>by omega
 | j+1,i,u,v,h1,h2,h3,h4=>by
   have hj:j<s.length:=by have:=(List.getElem?_eq_some_iff.1 h4).1;omega
   have hw:s[j]?=some s[j]:=List.getElem?_eq_getElem hj
   have h5:=(h (j+1) v h2 h4).2 j s[j] rfl hw
   by_cases e:i=j
   ·subst e;rw[hw] at h3;cases h3;exact h5
   ·have:=jm h j i u s[j] (by omega) (by omega) h3 hw;omega
theorem nH {o s:List Int} {k:Nat} {v:Int} (h:bh o s (k+1)) (hk:k<s.length) (hv:s[k]<v):v∉s.take (k+1):=by
 intro hm
 obtain⟨i,hi,e⟩:=List.mem_take_iff_getElem.1 hm
 by_cases he:i=k
 ·subst he;omega
 ·have:=jm h k i s[i] s[k] (by omega) (by omega) (List.getElem?_eq_getElem _) (List.getElem?_eq_getElem _);omega
open Go Go.Ab Tryz
variable {G:GW}
def nz (n:Notes):Prop:=gj n.reg∧n.notes.length≤16
def bj (n:Notes):Bool:=open Classical in decide (gj n.reg)&&decide (n.notes.length≤16)
theorem xB (n:Notes):zP prog G 124 [l4 n] (bv (!bj n)):=by
 refine zf func124 ntmps124 ?_
 try simp only[l4]
 have c1:=AB (G:=G) n.reg
 have hE:bj n=(open Classical in decide (gj n.reg)&&decide (n.notes.length≤16)):=rfl
 by_cases hS:gj n.reg
 ·have c1':∀ objs,DCall prog G 189 [A8 n.reg] objs (fun d objs'=>d=bv false∧objs'=objs):=fun objs=>(c1 objs).mono fun d o ⟨h1,h2⟩=>⟨by rw[h1];simp[hS],h2⟩
  rw[decide_eq_true hS,Bool.true_and] at hE
  repeat' first|(with_reducible first|refine zz ?_|refine zx ?_|refine zE [0,1,2] ?_)|simp -dsimp|refine zp c1' ?_
  rw[hE,← decide_not,decide_eq_decide];omega
 ·have c1':∀ objs,DCall prog G 189 [A8 n.reg] objs (fun d objs'=>d=bv true∧objs'=objs):=fun objs=>(c1 objs).mono fun d o ⟨h1,h2⟩=>⟨by rw[h1];simp[hS],h2⟩
  rw[decide_eq_false hS,Bool.false_and] at hE
  repeat' first|(with_reducible first|refine zz ?_|refine zx ?_|refine zE [0,1,2] ?_)|simp -dsimp|refine zp c1' ?_
  rw[hE];try rfl
theorem zC (n:Notes) (hs:nz n):zP prog G 139 [l4 n,l4 n] (bv true):=by
 refine zf func139 ntmps139 ?_
 try simp only[l4,l4]
 have c1:=BJ (G:=G) n.reg n.reg hs.1
 simp only[decide_true] at c1
 have hl:=hs.2
 have hs:=trivial
 repeat' first|(with_reducible first|refine zz ?_|refine zE [0,1,2,3,4,5,20,25,38] ?_)|simp -dsimp[hs]|refine zp c1 ?_|refine i8 ?_ ?_<;>intro h<;>try simp only[i6] at h
 all_goals try clear hs
 refine g9 (ι:={ k:Nat // k≤n.notes.length }) (fun p=>⟨39,[(2,.one (.ptr 0 0)),(3,.one (.ptr 1 0)),(4,bv false),(5,iv (p.1:Int))],[.row ((m4 n).map .im),.row ((m4 n).map .im)]⟩) (fun p=>n.notes.length-p.1) ⟨0,by simp⟩ (zv [2,3,4,5]) ?_
 rintro⟨k,hk⟩
 simp only[iv,bv]
 by_cases hlt:k<n.notes.length
 ·have hw:=zk k
  generalize hx:n.notes[k]=x
  have hs:=za hx (za hlt hw)
  repeat' first|with_reducible refine zz ?_|simp -dsimp[hs]|refine zM 6 39 11 [0,1,2,3,4,5,20,25,38] ?_|with_reducible refine zE [0,1,2,3,4,5,20,25,38] ?_|refine i8 ?_ ?_<;>intro h<;>try simp only[i6] at h
  all_goals try clear hs
  exact zn ⟨k+1,by omega⟩ (zv [2,3,4,5])
 ·have hs:=hlt
  repeat' first|(with_reducible first|refine zz ?_|refine zr ?_|refine zE [0,1,2,3,4,5,20,25,38] ?_)|simp -dsimp[hs]|refine i8 ?_ ?_<;>intro h<;>try simp only[i6] at h
  all_goals try clear hs
theorem zb (n:Notes) (hs:nz n):zP prog G 125 [l4 n] (l4 n):=by
 refine zf func125 ntmps125 ?_
 try simp only[l4]
 have c1:=BC (G:=G) n.reg hs.1
 have hl:=hs.2
 have hs:=trivial
 repeat' first|(with_reducible first|refine zz ?_|refine And.intro (by omega) ?_|refine zr ?_)|simp -dsimp[hs]|refine zq c1 ?_|refine zM 1 11 8 [0,1,2] ?_|with_reducible refine zE [0,1,2] ?_
 all_goals try clear hs
end Go.Proofs
namespace Go.Ab
open Go
def dM (b:Bool):List IC:=[rB b]
def vH (l:List Bool):DV:=.one (.im (.sl (l.map dM)))
attribute [simp] dM vH
def kM (l:List Note) (b:List Bool) (d:Int):Nat→Int
 | 0=>-1
 | k+1=>if b[k]?=some true∧(l[k]?.map (·.drawing))=some d then (k:Int) else kM l b d k
theorem ru (l:List Note) (b:List Bool) (d:Int):∀ k,-1≤kM l b d k∧kM l b d k<k
 | 0=>by simp[kM]
 | k+1=>by
   have:=ru l b d k
   unfold kM
   split<;>omega
def ak (l:List Note) (b:List Bool) (d:Int):Int:=if kM l b d b.length<0 then 1 else match l[(kM l b d b.length).toNat]? with|some x=>x.letter|none=>0
end Go.Ab
namespace Go.Proofs
open Go Go.Ab
variable {G:GW}
theorem EZ (n:Notes) (b:List Bool) (d:Int) (hb:b.length=n.notes.length) (hl:n.notes.length<1000):zP Tryz.prog G 291 [l4 n,vH b,iv d] (iv (kM n.notes b d b.length)):=by
 refine zf Tryz.func291 Tryz.ntmps291 ?_
 try simp only[l4,iv]
 simp only[vH]
 have hs:=trivial
 repeat' first|(with_reducible first|refine zz ?_|refine zE [0,1,2,3,6,7,8,12,28] ?_)|simp -dsimp[hs]
 refine g9 (ι:={ k:Nat // k≤b.length }) (fun p=>⟨31,[(1,vH b),(2,iv d),(3,.one (.ptr 0 0)),(6,iv 0),(7,iv (kM n.notes b d p.1)),(8,iv (p.1:Int))],[.row ((m4 n).map .im)]⟩) (fun p=>b.length-p.1) ⟨0,by simp⟩ (zv [1,2,3,6,7,8] (by simp[kM])) ?_
 rintro⟨k,hk⟩
 simp only[iv,vH]
 by_cases hlt:k<b.length
 ·have hlt2:k<n.notes.length:=by omega
  have hw:=zk k
  have hst:kM n.notes b d (k+1)=if b[k]=true∧n.notes[k].drawing=d then (k:Int) else kM n.notes b d k:=by
   rw[kM,List.getElem?_eq_getElem hlt,List.getElem?_eq_getElem hlt2];simp
  generalize hx:n.notes[k]=x at *
  generalize hy:b[k]=y at *
  cases y
  ·simp at hst
   have hs:=za hx (za hy (za hlt (za hlt2 hw)))
   repeat' first|(with_reducible first|refine zz ?_|refine zE [0,1,2,3,6,7,8,12,28] ?_)|simp -dsimp[hs]|refine i8 ?_ ?_<;>intro h<;>try simp only[i6] at h
   exact zn ⟨k+1,by omega⟩ (zv [1,2,3,6,7,8] (by simp[hst]))
  ·simp at hst
   have hs:=za hx (za hy (za hlt (za hlt2 hw)))
   repeat' first|(with_reducible first|refine zz ?_|refine zE [0,1,2,3,6,7,8,12,28] ?_)|simp -dsimp[hs]|refine i8 ?_ ?_<;>intro h<;>try simp only[i6] at h
   all_goals try clear hs
   ·exact zn ⟨k+1,by omega⟩ (zv [1,2,3,6,7,8] (by simp_all))
   ·exact zn ⟨k+1,by omega⟩ (zv [1,2,3,6,7,8] (by simp_all))
 ·have e:k=b.length:=by omega
  have hs:=hlt
  repeat' first|(with_reducible first|refine zz ?_|refine zr ?_|refine zE [0,1,2,3,6,7,8,12,28] ?_)|simp -dsimp[hs]|refine i8 ?_ ?_<;>intro h<;>try simp only[i6] at h
  try simp[e]
end Go.Proofs
namespace Go.Proofs
open Go Go.Ab Tryz
variable {G:GW}
theorem tY (n:Notes) (b:List Bool) (d:Int) (hb:b.length=n.notes.length) (hl:n.notes.length<1000):zP prog G 254 [l4 n,vH b,iv d] (iv (ak n.notes b d)):=by
 refine zf func254 ntmps254 ?_
 try simp only[l4,iv]
 simp only[vH]
 have c1:=EZ (G:=G) n b d hb hl
 have hlt:=ru n.notes b d b.length
 simp only[vH] at c1
 unfold ak
 generalize kM n.notes b d b.length=m at *
 by_cases h00:m<0
 ·have h01:¬ 0≤m:=by omega
  have hs:=za h00 h01
  repeat' first|(with_reducible first|refine zz ?_|refine zr ?_|refine zE [0,1,2,3,6,7,13] ?_)|simp -dsimp[hs]|refine zp c1 ?_|refine i8 ?_ ?_<;>intro h<;>try simp only[i6] at h
  all_goals try omega
 ·obtain⟨j,rfl⟩:=Int.eq_ofNat_of_zero_le (show 0≤m by omega)
  have hj:j<n.notes.length:=by omega
  have hs:=za h00 hj
  repeat' first|(with_reducible first|refine zz ?_|refine zr ?_|refine zE [0,1,2,3,6,7,13] ?_)|simp -dsimp[hs]|refine zp c1 ?_|refine i8 ?_ ?_<;>intro h<;>try simp only[i6] at h
end Go.Proofs
namespace Go.Ab
open Go
def oT (signed without:List Int) (m:Int) (x:Note):Bool:=(decide (x.signed=2)||decide (x.number∈signed)) && !decide (x.number∈without)&&(decide (x.frm≤m)&&decide (m≤x.to))
def dL (n:Int):List Note→List Bool→Bool
 | y :: l,b :: o=>!(b&&decide (y.cancels=n))&&dL n l o
 | _,_=>true
def E4 (signed without:List Int) (m:Int):List Note→List Bool
 | []=>[]
 | x :: r=>(oT signed without m x&&dL x.number r (E4 signed without m r)) :: E4 signed without m r
theorem V0 (signed without:List Int) (m:Int):∀ l,(E4 signed without m l).length=l.length
 | []=>rfl
 | x :: r=>by simp[E4,V0 signed without m r]
@[simp] theorem EF (L:List Bool) (k:Nat) (v:Bool):(n4 (L.map dM)).set k [DC.im (.raw (.bool v))]=n4 ((L.set k v).map dM):=by
 simp only[n4,List.map_set,dM,rB,List.map_cons,List.map_nil]
@[simp] theorem EK (L:List Bool) (k:Nat) (h:k<(n4 (L.map dM)).length):(n4 (L.map dM))[k]=[DC.im (.raw (.bool (L[k]'(by simpa[o2] using h))))]:=by
 simp[n4]
theorem lS (signed without:List Int) (m:Int):∀ (l:List Note) (k:Nat),(E4 signed without m l).drop k=E4 signed without m (l.drop k)
 | _,0=>rfl
 | [],_+1=>rfl
 | x :: r,k+1=>by simp[E4,lS signed without m r k]
end Go.Ab
namespace Go.Proofs
open Go Go.Ab
variable {G:GW}
theorem xH (n:Notes) (signed without:List Int) (m:Int) (hl:n.notes.length<1000) (hsi:signed.length<1000) (hwo:without.length<1000):zP Tryz.prog G 253 [l4 n,n7 signed,n7 without,iv m] (vH (E4 signed without m n.notes)):=by
 refine zf Tryz.func253 Tryz.ntmps253 ?_
 try simp only[l4,n7,n7,iv]
 have hw0:IntKind.i64.wrap ((n.notes.length:Int)-1)=(n.notes.length:Int)-1:=n8 (by omega) (by omega)
 have hs:=hw0
 repeat' first|(with_reducible first|refine zz ?_|refine And.intro (by omega) ?_|refine zE [0,1,2,3,4,8,9,10,11,12,13,23,61] ?_)|simp -dsimp[hs]
 all_goals try clear hs
 refine g9 (ι:={ i:Nat // i≤n.notes.length }) (fun p=>⟨88,[(1,n7 signed),(2,n7 without),(3,iv m),(4,.one (.ptr 0 0)),(8,.one (.vec 1 0 0 0)),(9,.one (.vec 2 0 0 n.notes.length)),(10,iv ((p.1:Int)-1))],[.row ((m4 n).map .im),.vec 1 [] 0 true,.vec 1 (n4 ((List.replicate p.1 false++E4 signed without m (n.notes.drop p.1)).map dM)) 0 false]⟩) (fun p=>p.1) ⟨n.notes.length,Nat.le_refl _⟩ (zv [1,2,3,4,8,9,10] (by simp[E4])) ?_
 rintro⟨i,hi⟩
 simp only[iv,n7]
 cases i with
 | zero =>
   have hlen:=V0 signed without m n.notes
   have htk:(n4 ((E4 signed without m n.notes).map dM)).take n.notes.length=n4 ((E4 signed without m n.notes).map dM):=List.take_of_length_le (by simp[o2,hlen])
   have hs:=za hlen htk
   repeat' first|(with_reducible first|refine zz ?_|refine zr ?_|refine zE [0,1,2,3,4,8,9,10,11,12,13,23,61] ?_)|simp -dsimp[hs]|refine i8 ?_ ?_<;>intro h<;>try simp only[i6] at h
   all_goals try clear hs
 | succ j =>
   have hj:j<n.notes.length:=hi
   have hwj:IntKind.i64.wrap ((j:Int)-1)=(j:Int)-1:=n8 (by omega) (by omega)
   generalize hx:n.notes[j]=x
   have c1:=qT (G:=G) signed x.number (by omega)
   have c2:=qT (G:=G) without x.number (by omega)
   have c3:=aL (G:=G) m x.frm x.to
   have hwk:=zk j
   obtain⟨O,hO⟩:∃ O,O=List.replicate (j+1) false++E4 signed without m (n.notes.drop (j+1)):=⟨_,rfl⟩
   have hOl:O.length=n.notes.length:=by rw[hO];simp[V0];omega
   have hOi:n4 (List.replicate (j+1) [IC.raw (.bool false)])++n4 ((E4 signed without m (n.notes.drop (j+1))).map dM)=n4 (O.map dM):=by rw[hO];simp
   have hOk:∀ (k:Nat) (h1:j+1≤k) (h2:k<n.notes.length),E4 signed without m (n.notes.drop k)=O[k] :: E4 signed without m (n.notes.drop (k+1)):=by
    have hOd:∀ q,j+1≤q→O.drop q=E4 signed without m (n.notes.drop q):=fun q hq=>by
     obtain⟨r,rfl⟩:=Nat.exists_eq_add_of_le hq
     rw[hO,← List.drop_drop,List.drop_left' (by simp),lS,List.drop_drop]
    intro k h1 h2
    rw[← hOd k h1,← hOd (k+1) (by omega)]
    exact List.drop_eq_getElem_cons (by omega)
   have hs:=za hx (za hj (za hwj hwk))
   repeat' first|(with_reducible first|refine zz ?_|refine zE [0,1,2,3,4,8,9,10,11,12,13,23,61] ?_)|simp -dsimp[hs]|refine zp c1 ?_|refine zp c2 ?_|refine zp c3 ?_|refine i8 ?_ ?_<;>intro h<;>try simp only[i6] at h|with_reducible refine j0 ?_ ?_<;>intro h<;>have h0:=h<;>(try simp only[i6] at h)<;>have h2:=h<;>(try simp at h2)<;>replace hs:=za h0 (za h (za h2 hs))
   all_goals try clear hs
   all_goals simp only[hOi]
   all_goals refine g9 (ι:={ p:Nat×Bool // j+1≤p.1∧p.1≤n.notes.length∧(oT signed without m x&&dL x.number (n.notes.drop (j+1)) (E4 signed without m (n.notes.drop (j+1))))=(p.2&&dL x.number (n.notes.drop p.1) (E4 signed without m (n.notes.drop p.1))) }) (fun p=>⟨88,[(1,n7 signed),(2,n7 without),(3,iv m),(4,.one (.ptr 0 0)),(8,.one (.vec 1 0 0 0)),(9,.one (.vec 2 0 0 n.notes.length)),(10,iv (j:Int)),(11,.one (.ptr 3 0)),(12,bv p.1.2),(13,iv (p.1.1:Int))],[.row ((m4 n).map .im),.vec 1 [] 0 true,.vec 1 (n4 (O.map dM)) 0 false,.row ((l9 x).map .im)]⟩) (fun p=>n.notes.length-p.1.1) ⟨(j+1,oT signed without m x),by simp;omega⟩ (zv [1,2,3,4,8,9,10,11,12,13] (by clear hO hOi hOk hOl hx hwk hwj hw0 c1 c2 c3;simp[oT, *])) ?_
   all_goals
    rintro⟨⟨k,v⟩,hk1,hk2,hv⟩
    simp only at hk1 hk2 hv
    simp only[iv,n7,bv]
    by_cases hlk:k<n.notes.length
    ·have hwk2:=zk k
     have hko:k<O.length:=by omega
     rw[hOk k hk1 hlk,List.drop_eq_getElem_cons hlk,dL] at hv
     clear hOk hOi hO
     generalize hy:n.notes[k]=y at *
     generalize hz:O[k]=z at *
     cases v<;>cases z
     all_goals
      have hs:=za hy (za hz (za hlk (za hko (za hwk2 hOl))))
      repeat' first|with_reducible refine zz ?_|simp -dsimp[hs]|refine zM 10 88 20 [0,1,2,3,4,8,9,10,11,12,13,23,61] ?_|with_reducible refine zE [0,1,2,3,4,8,9,10,11,12,13,23,61] ?_|refine i8 ?_ ?_<;>intro h<;>try simp only[i6] at h
      all_goals try clear hs
     all_goals exact zn ⟨(k+1,_),by simp only;omega,by simp only;omega,hv.trans (Bool.and_assoc ..).symm⟩ (zv [1,2,3,4,8,9,10,11,12,13] (by simp;try (cases decide (y.cancels=x.number)<;>rfl)))
    ·have e:k=n.notes.length:=by omega
     have hend:(List.replicate j false++E4 signed without m (n.notes.drop j))=O.set j v:=by
      have hnil:dL x.number (n.notes.drop k) (E4 signed without m (n.notes.drop k))=true:=by
       rw[List.drop_eq_nil_of_le (by omega)];rfl
      rw[hnil,Bool.and_true] at hv
      rw[List.drop_eq_getElem_cons hj,hx,E4,hv,hO,List.replicate_succ',List.append_assoc]
      simp
     have hend2:n4 ((O.map dM).set j [IC.raw (.bool v)])=n4 (List.replicate j [IC.raw (.bool false)])++n4 ((E4 signed without m (n.notes.drop j)).map dM):=by
      rw[show [IC.raw (.bool v)]=dM v from rfl,← List.map_set,← hend,List.map_append,Z1]
      simp
     have hjO:j<O.length:=by omega
     clear hOk hOi hO
     have hs:=za hlk (za hj (za hOl hjO))
     repeat' first|(with_reducible first|refine zz ?_|refine zE [0,1,2,3,4,8,9,10,11,12,13,23,61] ?_)|simp -dsimp[hs]|refine i8 ?_ ?_<;>intro h<;>try simp only[i6] at h
     all_goals try clear hs
     all_goals exact At.round ⟨j,by omega⟩ (by simp) (zw [1,2,3,4,8,9,10] 3 (by simp[hend2,hwj]))
end Go.Proofs
namespace Go.Proofs
open Go Go.Ab
def A0 (l:List Note) (i:Nat):Int:=((l[i]?).map (·.number)).getD 0
def iE (l:List Note) (i:Nat):Bool:=match l[i]? with|some x=>decide (x.signed=1)|none=>false
structure OpenTo (l:List Note) (k:Nat) (S:List Nat):Prop where
 perm:S.Perm ((List.range k).filter (iE l))
 srt:S.Pairwise fun a b=>A0 l a≤A0 l b
theorem OpenTo.nil (l:List Note):OpenTo l 0 []:=⟨by simp,by simp⟩
theorem OpenTo.lt {l:List Note} {k:Nat} {S:List Nat} (h:OpenTo l k S):∀ i∈S,i<k∧iE l i=true:=fun i hi=>by
 have:=h.perm.mem_iff.1 hi
 simpa using this
theorem OpenTo.len {l:List Note} {k:Nat} {S:List Nat} (h:OpenTo l k S):S.length≤k:=by
 rw[h.perm.length_eq]
 have:=List.length_filter_le (iE l) (List.range k)
 simpa using this
theorem OpenTo.skip {l:List Note} {k:Nat} {S:List Nat} (h:OpenTo l k S) (hk:iE l k=false):OpenTo l (k+1) S:=
 ⟨by rw[List.range_succ,List.filter_append];simpa[hk] using h.perm,h.srt⟩
theorem OpenTo.put {l:List Note} {k:Nat} {S:List Nat} (h:OpenTo l k S) (hk:iE l k=true) (q:Nat)
 (h1:∀ i∈S.take q,A0 l i≤A0 l k) (h2:∀ i∈S.drop q,A0 l k≤A0 l i):OpenTo l (k+1) (S.take q++k :: S.drop q):=by
 constructor
 ·rw[List.range_succ,List.filter_append]
  simp only[List.filter_cons,hk,if_true,List.filter_nil]
  refine List.perm_middle.trans ?_
  rw[List.take_append_drop]
  exact(List.perm_append_singleton k _).symm.trans (List.Perm.append_right _ h.perm)
 ·have h3:=h.srt
  rw[← List.take_append_drop q S,List.pairwise_append] at h3
  obtain⟨p1,p2,p3⟩:=h3
  rw[List.pairwise_append,List.pairwise_cons]
  refine⟨p1,⟨h2,p2⟩,fun a ha b hb=>?_⟩
  rcases List.mem_cons.1 hb with rfl|hb
  ·exact h1 a ha
  ·exact p3 a ha b hb
theorem OpenTo.first {l:List Note} {k:Nat} {S:List Nat} (h:OpenTo l k S) {q:Nat} (hq:q<S.length) {v:Int} (hv:A0 l S[q]≤v):∀ i∈S.take (q+1),A0 l i≤v:=fun i hi=>by
 obtain⟨j,hj,e⟩:=List.mem_take_iff_getElem.1 hi
 have h3:=List.pairwise_iff_getElem.1 h.srt
 by_cases he:j=q
 ·subst he;rw[← e];exact hv
 ·have:=h3 j q (by omega) hq (by omega)
  rw[e] at this;omega
theorem fN (l:List Note):∀ k,k≤l.length→((List.range k).filter (iE l)).map (A0 l)=j6 (l.take k)
 | 0,_=>by simp[j6]
 | k+1,h=>by
   have hk:k<l.length:=by omega
   rw[List.range_succ,List.filter_append,List.map_append,fN l k (by omega),bt l k hk]
   congr 1
   have e:l[k]?=some l[k]:=by simp[hk]
   by_cases h1:l[k].signed=1
   ·simp[iE,e,h1,A0]
   ·simp[iE,e,h1]
theorem OpenTo.nums {l:List Note} {S:List Nat} (h:OpenTo l l.length S):S.map (A0 l)=j8 (j6 l):=by
 have h1:(S.map (A0 l)).Perm (j8 (j6 l)):=by
  refine(h.perm.map _).trans ?_
  rw[fN l _ (Nat.le_refl _),List.take_length]
  exact(List.mergeSort_perm _ _).symm
 refine h1.eq_of_pairwise (le:=(·≤·)) (fun a b _ _ h2 h3=>by omega) (by rw[List.pairwise_map];exact h.srt) ?_
 have:=List.pairwise_mergeSort (le:=fun x y:Int=>decide (x≤y)) (fun a b c h1 h2=>by simp at *;omega) (fun a b=>by simp;omega) (j6 l)
 exact this.imp fun h=>by simpa using h
theorem isort_mem {l:List Int} {n:Int}:n∈j8 l↔n∈l:=(List.mergeSort_perm l _).mem_iff
theorem oL {l:List Int} (h:l.Nodup):(j8 l).Nodup:=(List.mergeSort_perm l _).nodup_iff.2 h
theorem mP (l:List Int):(j8 l).Pairwise (·≤·):=by
 have:=List.pairwise_mergeSort (le:=fun x y:Int=>decide (x≤y)) (fun a b c h1 h2=>by simp at *;omega) (fun a b=>by simp;omega) l
 exact this.imp fun h=>by simpa using h
theorem eJ (signed without:List Int) (m:Int):∀ (l:List Note) (k:Nat),(E4 signed without m l).drop k=E4 signed without m (l.drop k)
 | _,0=>rfl
 | [],_+1=>rfl
 | x :: r,k+1=>by simp[E4,eJ signed without m r k]
theorem AJ {s w:List Int} {m:Int} {l:List Note} {k:Nat} (hk:k<l.length) (hk':k<(E4 s w m l).length):(E4 s w m l)[k]=(oT s w m l[k]&&dL l[k].number (l.drop (k+1)) ((E4 s w m l).drop (k+1))):=by
 have h1:=eJ s w m l k
 rw[List.drop_eq_getElem_cons hk,List.drop_eq_getElem_cons hk',E4] at h1
 rw[eJ]
 exact(List.cons.inj h1).1
theorem up {n:Int} {l:List Note} {F:List Bool} {k:Nat} (hk:k<l.length) (hf:k<F.length):dL n (l.drop k) (F.drop k)=(!(F[k]&&decide (l[k].cancels=n))&&dL n (l.drop (k+1)) (F.drop (k+1))):=by
 rw[List.drop_eq_getElem_cons hk,List.drop_eq_getElem_cons hf,dL]
theorem xF {n:Int} {l:List Note} {F:List Bool} {k:Nat} (hk:l.length≤k):dL n (l.drop k) (F.drop k)=true:=by
 rw[List.drop_eq_nil_of_le hk];rfl
def jI:Note:=⟨0,0,0,0,1,0,0,0,false,0⟩
def CY (l:List Note) (b:List Bool) (d:Int):Nat→Note
 | 0=>jI
 | k+1=>match l[k]? with
   | some x=>if b[k]?=some true∧x.drawing=d then x else CY l b d k
   | none=>jI
theorem Bx (l:List Note) (b:List Bool) (d:Int):∀ k,k≤l.length→CY l b d k=if kM l b d k<0 then jI else match l[(kM l b d k).toNat]? with|some x=>x|none=>jI
 | 0,_=>by simp[CY,kM]
 | k+1,h=>by
   have hk:k<l.length:=by omega
   have e:l[k]?=some l[k]:=by simp[hk]
   simp only[CY,kM,e,Option.map_some,Option.some.injEq]
   split
   ·rw[if_neg (by omega)];simp[e]
   ·exact Bx l b d k (by omega)
end Go.Proofs
