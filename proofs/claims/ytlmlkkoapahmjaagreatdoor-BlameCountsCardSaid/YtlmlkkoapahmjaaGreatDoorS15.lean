/- Part 15 of the proofs. -/
import Derived.Test.YtlmlkkoapahmjaaGreatDoorS09
import Derived.Test.YtlmlkkoapahmjaaGreatDoorS13
import Derived.Test.YtlmlkkoapahmjaaGreatDoorS14
set_option linter.all false
set_option maxHeartbeats 100000000
namespace Go.Proofs
open Go Go.Ab Tryz
variable {G:Hn}
def jt (m:List (Int×Int)) (lv:List (Int×Int)):List (Int×Int):=lv.foldl (λm p=>M9 p.1 (IntKind.i64.wrap (m5 m p.1+p.2)) m) m
def gx (by':List (Int×Issue)) (cnt:List (Int×Int)):List DObj:=[.row [.im (.mp [.int .i64] (di by'))],.map [.int .i64] (N0 cnt),.row [.map 1],.row [.fn (.func 282) [.ptr 0 0,.ptr 2 0,.ptr 3 0]]]
@[simp] abbrev Km:List Nat:=[0,1,2,3,4,7,9,15,22,23,24,25]
theorem rt (l:List Issue) (lets:List Int) (h0:j8 l=0) (hlet:n5 l lets=true) (dep:Int->Int) (hdep:∀ n∈nums l,1<=dep n/\dep n<=6/\∀ c∈cp l n,c∈nums l/\dep c<dep n) :
 ∀ (k:Nat) (d m:Int) (cnt:List (Int×Int)),d∈nums l->dep d<=k ->
  DCall prog G 282 [iv d,iv m,.one (.ptr 0 0),.one (.ptr 2 0),.one (.ptr 3 0)] (gx (aK l lets) cnt)
   (λr o=>r=.tup []/\o=gx (aK l lets) (jt cnt (F0 (o4 l lets) k d m))):=by
 intro k;induction k with
 | zero=>intro d m C hd hk;have:=(hdep d hd).1;omega
 | succ k ih =>
   intro d m cnt hd hk;have hti:=eL h0 hlet hd;obtain⟨htm,_,_⟩:=Y6 h0 hlet hd;have htok:=(I2 (F7 (D8 h0))).2.2.2.1 _ htm;have hsm:=aR htok;have hkd:(o4 l lets d).kind=1\/(2<=(o4 l lets d).kind/\(o4 l lets d).items.length=0):=by
    simp only[n4,Bool.and_assoc] at htok;rw[<- Bool.and_assoc,Bool.and_eq_true] at htok;have:=(du _).1 htok.1;omega
   have hch:=(hdep d hd).2.2;have hE:F0 (o4 l lets) (k+1) d m=if 1<(o4 l lets d).kind then [(d,m)] else (o4 l lets d).items.flatMap λy=>F0 (o4 l lets) k y.drawing (IntKind.i64.wrap (m*y.count)):=rfl;have hlook:J3 (aK l lets) d=o4 l lets d:=by rw[aK,T1,if_pos hd]
   generalize o4 l lets d=x at *;refine DCall.drop ?_;refine i8 func282 rfl ntmps282 (by simp) rfl ?_;simp only[gx,iv];by_cases hkind:x.kind=1
   ·rw[if_neg (by omega)] at hE;have hs:=za hlook hkind;repeat' first|(with_reducible first|refine zz ?_|refine zE Km ?_)|simp -dsimp[hs]|refine i7 ?_ ?_<;>intro h<;>try exact h.elim
    refine g9 (ι:={ p:Nat×List (Int×Int) // p.1<=x.items.length/\jt cnt (x.items.flatMap λy=>F0 (o4 l lets) k y.drawing (IntKind.i64.wrap (m*y.count)))=jt p.2 ((x.items.drop p.1).flatMap λy=>F0 (o4 l lets) k y.drawing (IntKind.i64.wrap (m*y.count))) }) (λp=>⟨37,[(1,iv m),(2,.one (.ptr 0 0)),(3,.one (.ptr 2 0)),(4,.one (.ptr 3 0)),(22,.one (.im (.sl (x.items.map p7)))),(23,iv (x.items.length:Int)),(24,iv (p.1.1:Int))],gx (aK l lets) p.1.2⟩) (λp=>x.items.length-p.1.1) ⟨(0,cnt),by simp⟩ (zw [1,2,3,4,22,23,24] 4 (by simp[gx])) ?_;rintro⟨⟨u,cnt'⟩,hu,hadd⟩;simp only at hu hadd;simp only[iv,gx];by_cases hlt:u<x.items.length
    ·have hx:x.items[u]?=some x.items[u]:=by simp[hlt]
     have hw:=zk u;have hc:=hch _ (hti x.items[u] (List.getElem_mem hlt));have hrec:=ih x.items[u].drawing (IntKind.i64.wrap (m*x.items[u].count)) cnt' hc.1 (by omega);rw[List.drop_eq_getElem_cons hlt,List.flatMap_cons,jt,jt,List.foldl_append] at hadd;simp only[iv,gx] at hrec;have hs:=za hx (za hw hlt);repeat' first|(with_reducible first|refine zz ?_|refine zE Km ?_)|simp -dsimp[hs]|refine CallE.embed [0,1,2,3] (hrec) ?_ ?_ ?_ ?_ ?_ ?_;(focus simp[D6];done);(focus simp;done);(focus simp;done);(focus simp;done);(focus refine C4 ?_;simp[D6,D5];done);try simp -dsimp[u7,D6,hs]|refine i7 ?_ ?_<;>intro h<;>try exact h.elim
     exact zn ⟨(u+1,jt cnt' (F0 (o4 l lets) k x.items[u].drawing (IntKind.i64.wrap (m*x.items[u].count)))),by omega,hadd⟩ (zw [1,2,3,4,22,23,24] 4 (by simp[gx]))
    ·rw[List.drop_eq_nil_of_le (by omega)] at hadd;have hs:=hlt;repeat' first|(with_reducible first|refine zz ?_|refine ze ?_|refine zE Km ?_)|simp -dsimp[hs]|refine i7 ?_ ?_<;>intro h<;>try exact h.elim|with_reducible refine And.intro ?_ ?_
     rw[hE,hadd];simp[gx,jt]
   ·rw[if_pos (by omega)] at hE;have hz:x.items.length=0:=by omega
    have hs:=za hlook (za hkind hz);repeat' first|(with_reducible first|refine zz ?_|refine zE Km ?_)|simp -dsimp[hs]|refine i7 ?_ ?_<;>intro h<;>try exact h.elim
    refine g9 (ι:=Unit) (λ_=>⟨37,[(23,iv 0),(24,iv 0)],gx (aK l lets) (jt cnt [(d,m)])⟩) (λ_=>0) () (zw [23,24] 4 (by simp[gx,jt])) ?_;intro _;simp only[iv,gx];have hs:=trivial;repeat' first|(with_reducible first|refine zz ?_|refine ze ?_|refine zE Km ?_)|simp -dsimp[hs]|refine i7 ?_ ?_<;>intro h<;>try exact h.elim|with_reducible refine And.intro ?_ ?_
    rw[hE]
def lP (l:List Issue) (lets:List Int) (d:Int):List (Int×Int):=jt [] (F0 (o4 l lets) 6 d 1)
def K6 (ns:List Int) (m:List (Int×Int)):List Itm:=(ns.filter λn=>decide (0<m5 m n)).map λn=>⟨n,m5 m n⟩
def bp (l:List Issue) (lets:List Int) (d:Int):List Itm:=if A8 l lets d=0 then K6 (nums l) (lP l lets d) else []
@[simp] abbrev Kn:List Nat:=[0,1,2,3,6,7,8,9,10,11,12,13,15,25,35,36,37,38,44]
theorem uE (l:List Issue) (lets:List Int) (d:Int) (hG:s9 G) (hs:T6 l) (hll:lets.length<1000000):zP prog G 269 [A6 l,n9 lets,iv d] (.tup [.one (.im (.sl ((bp l lets d).map p7))),iv (A8 l lets d)]):=by
 refine zf func269 ntmps269 ?_;try simp only[A6,n9,iv]
 have c1:=wx (G:=G) l lets d hG hs hll;by_cases hE:A8 l lets d=0
 ·have h0:j8 l=0:=by
   by_cases h:j8 l=0
   ·exact h
   ·simp[A8,h] at hE
  have hlet:n5 l lets=true:=by
   cases h:n5 l lets
   ·simp[A8,h0,h] at hE
   ·rfl
  have hd:d∈nums l:=Classical.byContradiction λh=>by simp[A8,h0,hlet,h] at hE
  obtain⟨dep,hdep⟩:=kY h0;have c2:=rt (G:=G) l lets h0 hlet dep hdep 6 d 1 [] hd (by have:=(hdep d hd).2.1;omega);have hR:bp l lets d=K6 (nums l) (lP l lets d):=by simp[bp,hE]
  have hnl:(nums l).length<=l.length:=n3 l l.length;have hl80:=hs.1;change DCall _ _ _ _ _ (λr o=>r=.tup []/\o=gx (aK l lets) (lP l lets d)) at c2;generalize lP l lets d=cnt at *;simp only[aM,hE,if_true,s8] at c1;simp only[iv,gx,show N0 []=[] from rfl] at c2;generalize nums l=ns at *;have hs:=trivial;repeat' first|(with_reducible first|refine zz ?_|refine zE Kn ?_)|simp -dsimp[hs]|refine zp c1 ?_|refine CallE.embed [2,3,4,5] (c2) ?_ ?_ ?_ ?_ ?_ ?_;(focus simp[D6];done);(focus simp;done);(focus simp;done);(focus simp;done);(focus refine C4 ?_;simp[D6,D5];done);try simp -dsimp[u7,D6,hs]|refine i7 ?_ ?_<;>intro h<;>try exact h.elim
  all_goals try clear hs
  refine g9 (ι:={ p:Nat×Nat×Bool×List Itm // p.1<=ns.length/\p.2.2.2.length<=p.1/\K6 ns cnt=p.2.2.2++K6 (ns.drop p.1) cnt }) (λp=>⟨55,[(11,.one (.ptr 4 0)),(13,.one (.vec 6 p.1.2.1 0 p.1.2.2.2.length)),(35,n9 ns),(36,iv (ns.length:Int)),(37,iv (p.1.1:Int))],[.row [.im (.sl (l.map e9))],.vec 2 [] 0 true,.row [.im (.mp [.int .i64] (di (aK l lets)))],.map [.int .i64] (N0 cnt),.row [.map 3],.row [.fn (.func 282) [.ptr 2 0,.ptr 4 0,.ptr 5 0]],.vec 2 (l8 (p.1.2.2.2.map p7)) p.1.2.1 p.1.2.2.1]⟩) (λp=>ns.length-p.1.1) ⟨(0,0,true,[]),by simp⟩ (zv [11,13,35,36,37]) ?_;rintro⟨⟨k,g,nl,out⟩,hk,hol,hp⟩;simp only at hk hol hp;simp only[iv,n9];by_cases hlt:k<ns.length
  ·have hx:ns[k]?=some ns[k]:=by simp[hlt]
   have hw:=zk k;rw[List.drop_eq_getElem_cons hlt] at hp;by_cases hpos:0<m5 cnt ns[k]
   ·rw[K6,K6,List.filter_cons_of_pos (by simpa using hpos),List.map_cons] at hp;have hs:=za hx (za hw (za hlt hpos));repeat' first|(with_reducible first|refine zz ?_|refine And.intro (by omega) ?_|refine zE Kn ?_)|simp -dsimp[hs]|refine i7 ?_ ?_<;>intro h<;>try exact h.elim
    all_goals try clear hs
    all_goals try omega
    exact zn ⟨(k+1,g+1,false,out++[⟨ns[k],m5 cnt ns[k]⟩]),by omega,by simp;omega,by rw[K6,hp,K6];simp⟩ (zw [11,13,35,36,37] 7)
   ·rw[K6,K6,List.filter_cons_of_neg (by simpa using hpos)] at hp;have hs:=za hx (za hw (za hlt hpos));repeat' first|(with_reducible first|refine zz ?_|refine zE Kn ?_)|simp -dsimp[hs]|refine i7 ?_ ?_<;>intro h<;>try exact h.elim
    all_goals try clear hs
    exact zn ⟨(k+1,g,nl,out),by omega,by show out.length<=k+1;omega,hp⟩ (zv [11,13,35,36,37])
  ·rw[List.drop_eq_nil_of_le (by omega)] at hp;have hs:=hlt;repeat' first|(with_reducible first|refine zz ?_|refine zr ?_|refine zE Kn ?_)|simp -dsimp[hs]|refine i7 ?_ ?_<;>intro h<;>try exact h.elim
   all_goals try clear hs
   all_goals try omega
   rw[hR,hp];simp[K6,hE]
 ·have hR:bp l lets d=[]:=by simp[bp,hE]
  simp only[aM,hE,if_false] at c1;have hs:=hE;repeat' first|(with_reducible first|refine zz ?_|refine zr ?_|refine zE Kn ?_)|simp -dsimp[hs]|refine zp c1 ?_|refine i7 ?_ ?_<;>intro h<;>try exact h.elim
  all_goals try clear hs
  simp[hR]
end Go.Proofs
namespace Go.Ab
open Go
structure Link where
 drawing:Int
 dim:Int
 back:Bool
 deriving DecidableEq
structure ChLoop where
 links:List Link
 lo:Int
 hi:Int
 deriving DecidableEq
structure Chains where
 reg:List Issue
 lets:List Int
 of:Int
 loops:List ChLoop
 deriving DecidableEq
def G7 (x:Link):List IC:=[rI x.drawing,rI x.dim,rB x.back]
def D4 (x:ChLoop):List IC:=[.sl (x.links.map G7),rI x.lo,rI x.hi]
def E4 (c:Chains):List IC:=[.sl (c.reg.map e9),.sl (c.lets.map encI),rI c.of,.sl (c.loops.map D4)]
def kE (x:Link):DV:=.agg ((G7 x).map .im)
def kC (x:ChLoop):DV:=.agg ((D4 x).map .im)
def iL (c:Chains):DV:=.agg ((E4 c).map .im)
attribute [simp] G7 D4 E4 kE kC iL
end Go.Ab
namespace Go.Proofs
open Go Go.Ab
variable {G:Hn}
theorem uv (x lo hi:Int):DCall Tryz.prog G 189 (iv x :: [DC.ptr 0 0,DC.ptr 1 0].map .one) [.row [.im (rI lo)],.row [.im (rI hi)]] (λd o=>d=bv (decide (x<lo)||decide (hi<x))/\o=[.row [.im (rI lo)],.row [.im (rI hi)]]):=by
 refine i8 Tryz.func189 rfl Tryz.ntmps189 (by simp) rfl ?_;simp only[rI];have hs:=trivial;repeat' first|(with_reducible first|refine zz ?_|refine zr ?_|refine zE [0,1,2,4] ?_)|simp -dsimp[hs]|with_reducible refine j0 ?_ ?_<;>intro h<;>have h0:=h<;>(try simp only[i6] at h)<;>have h2:=h<;>(try simp at h2)<;>replace hs:=za h0 (za h (za h2 hs))|with_reducible refine And.intro ?_ ?_
 all_goals try clear hs
 all_goals simp[*]
theorem bk (lo hi:Int) (l:List Int) (hl:l.length<1000000):zP Tryz.prog G 142 [iv lo,iv hi,n9 l] (bv (l.all λx=>decide (lo<=x)&&decide (x<=hi))):=by
 refine zf Tryz.func142 Tryz.ntmps142 ?_;try simp only[iv,iv,n9]
 have hc:=B9 (G:=G) l (λx=>decide (x<lo)||decide (hi<x)) 189 [.ptr 0 0,.ptr 1 0] [.row [.im (rI lo)],.row [.im (rI hi)]] (by simp) (λx _=>uv x lo hi) hl;simp only[rI] at hc;repeat' first|(with_reducible first|refine zz ?_|refine zx ?_|refine zE [0,1,2,3,4,6] ?_)|simp -dsimp|refine CallE.here hc ?_
 rw[Bool.eq_iff_iff];simp;exact exists_congr λx=>and_congr_right λ_=>by omega
def K0 (c:Chains) (D:List (Int×Int)) (B:List (Int×Issue)):IC:=.ip [.sl (c.reg.map e9),.sl (c.lets.map encI),rI c.of,.sl (c.loops.map D4),.mp [.int .i64] (Z8 D),.mp [.int .i64] (di B)]
def li (x:ChLoop):Bool:=decide (1<=x.links.length)&&decide (x.links.length<=8)
def lh (x:ChLoop):Bool:=(decide (-8000000000<=x.lo)&&decide (x.lo<=8000000000))&&(decide (-8000000000<=x.hi)&&decide (x.hi<=8000000000))&&decide (x.lo<=x.hi)
def W2 (D:List (Int×Int)) (B:List (Int×Issue)):List (Int×Int)->List Link->Bool
 | _,[]=>true
 | U,y :: r=>decide (m5 U y.drawing+1<=m5 D y.drawing)&&(decide (0<=y.dim)&&decide (y.dim<=((J3 B y.drawing).dims.length:Int)-1))&&W2 D B (M9 y.drawing (m5 U y.drawing+1) U) r
theorem Dj (d:IC) (x:ChLoop):zP Tryz.prog G 345 [.one (.im d),kC x] (bv (li x)):=by
 refine zf Tryz.func345 Tryz.ntmps345 ?_;try simp only[kC]
 have c1:=bk (G:=G) 1 8 [(x.links.length:Int)] (by simp);repeat' first|(with_reducible first|refine zz ?_|refine zx ?_|refine zE [1,3,4] ?_)|simp -dsimp|refine zt c1 ?_ ?_ ?_;(focus simp;done);focus (simp;done)
 rw[Bool.eq_iff_iff];simp[li];omega
theorem pE (x:ChLoop):lh x=true↔-8000000000<=x.lo/\x.lo<=8000000000/\-8000000000<=x.hi/\x.hi<=8000000000/\x.lo<=x.hi:=by
 simp[lh];omega
theorem Di (d:IC) (x:ChLoop):zP Tryz.prog G 346 [.one (.im d),kC x] (bv (lh x)):=by
 refine zf Tryz.func346 Tryz.ntmps346 ?_;try simp only[kC]
 have c1:=bk (G:=G) (-8000000000) 8000000000 [x.lo,x.hi] (by simp);have hi:=pE x;cases hq:([x.lo,x.hi].all λy=>decide (-8000000000<=y)&&decide (y<=8000000000))
 ·rw[hq] at c1;repeat' first|(with_reducible first|refine zz ?_|refine zx ?_|refine zE [1,3,4] ?_)|simp -dsimp|refine zt c1 ?_ ?_ ?_;(focus simp;done);focus (simp;done)
  all_goals simp at hq
  all_goals exact bo hi (by omega)
 ·rw[hq] at c1;repeat' first|(with_reducible first|refine zz ?_|refine zx ?_|refine zE [1,3,4] ?_)|simp -dsimp|refine zt c1 ?_ ?_ ?_;(focus simp;done);focus (simp;done)
  all_goals simp at hq
  all_goals rw[Bool.eq_iff_iff,hi]
  all_goals simp
  all_goals omega
@[simp] abbrev LC:List Nat:=[0,1,3,4,5,7,10,11,12,13,48]
theorem Dh (c:Chains) (D:List (Int×Int)) (B:List (Int×Issue)) (x:ChLoop) (hl:x.links.length<1000000) (hB:∀ n,(J3 B n).dims.length<1000000):zP Tryz.prog G 347 [.one (.im (K0 c D B)),kC x] (bv (W2 D B [] x.links)):=by
 refine zf Tryz.func347 Tryz.ntmps347 ?_;try simp only[kC]
 simp only[K0];have hs:=trivial;repeat' first|(with_reducible first|refine zz ?_|refine zE LC ?_)|simp -dsimp[hs]
 refine g9 (ι:={ p:Nat×List (Int×Int) // p.1<=x.links.length/\W2 D B [] x.links=W2 D B p.2 (x.links.drop p.1)/\bd p.2 p.1 }) (λp=>⟨50,[(0,.one (.im (K0 c D B))),(5,.one (.map 1)),(10,.one (.im (.sl (x.links.map G7)))),(11,iv (x.links.length:Int)),(12,iv (p.1.1:Int))],[.row ((D4 x).map .im),.map [.int .i64] (N0 p.1.2)]⟩) (λp=>x.links.length-p.1.1) ⟨(0,[]),by simp[bd]⟩ (zv [0,5,10,11,12] (by simp[K0,N0])) ?_;rintro⟨⟨k,U⟩,hk,hu,hb⟩;simp only at hk hu hb;simp only[iv,K0];by_cases hlt:k<x.links.length
 ·have hx:x.links[k]?=some x.links[k]:=by simp[hlt]
  have hw:=zk k;have hbl:=tf hb x.links[k].drawing;have hwu:IntKind.i64.wrap (m5 U x.links[k].drawing+1)=m5 U x.links[k].drawing+1:=m9 (by omega) (by omega);have hput:m5 (M9 x.links[k].drawing (m5 U x.links[k].drawing+1) U) x.links[k].drawing=m5 U x.links[k].drawing+1:=by rw[Y8,if_pos rfl]
  have hBn:=hB x.links[k].drawing;have hwd:IntKind.i64.wrap (((J3 B x.links[k].drawing).dims.length:Int)-1)=((J3 B x.links[k].drawing).dims.length:Int)-1:=m9 (by omega) (by omega);have c1:=bk (G:=G) 0 (((J3 B x.links[k].drawing).dims.length:Int)-1) [x.links[k].dim] (by simp);have hbn:bd (M9 x.links[k].drawing (m5 U x.links[k].drawing+1) U) (k+1):=rQ (ec hb (by omega)) (by omega) (by omega);rw[List.drop_eq_getElem_cons hlt,W2] at hu;by_cases hle:m5 U x.links[k].drawing+1<=m5 D x.links[k].drawing
  ·rw[decide_eq_true hle,Bool.true_and] at hu;cases hq:([x.links[k].dim].all λy=>decide (0<=y)&&decide (y<=((J3 B x.links[k].drawing).dims.length:Int)-1))
   ·rw[hq] at c1;have hq':(decide (0<=x.links[k].dim)&&decide (x.links[k].dim<=((J3 B x.links[k].drawing).dims.length:Int)-1))=false:=by simpa using hq
    rw[hq',Bool.false_and] at hu;have hs:=za hx (za hw (za hlt (za hwu (za hput (za hwd hle)))));repeat' first|(with_reducible first|refine zz ?_|refine zr ?_)|simp -dsimp[hs]|refine zq c1 ?_|refine zM 6 50 28 LC ?_|with_reducible refine zE LC ?_|refine i7 ?_ ?_<;>intro h<;>try exact h.elim
    rw[hu]
   ·rw[hq] at c1;have hq':(decide (0<=x.links[k].dim)&&decide (x.links[k].dim<=((J3 B x.links[k].drawing).dims.length:Int)-1))=true:=by simpa using hq
    rw[hq',Bool.true_and] at hu;have hs:=za hx (za hw (za hlt (za hwu (za hput (za hwd hle)))));repeat' first|with_reducible refine zz ?_|simp -dsimp[hs]|refine zq c1 ?_|refine zM 6 50 28 LC ?_|with_reducible refine zE LC ?_|refine i7 ?_ ?_<;>intro h<;>try exact h.elim
    exact zn ⟨(k+1,M9 x.links[k].drawing (m5 U x.links[k].drawing+1) U),by omega,hu,hbn⟩ (zw [0,5,10,11,12] 2 (by simp[K0]))
  ·rw[decide_eq_false hle,Bool.false_and,Bool.false_and] at hu;have hs:=za hx (za hw (za hlt (za hwu (za hput (za hwd hle)))));repeat' first|(with_reducible first|refine zz ?_|refine zr ?_)|simp -dsimp[hs]|refine zM 6 50 28 LC ?_|with_reducible refine zE LC ?_|refine i7 ?_ ?_<;>intro h<;>try exact h.elim
   rw[hu]
 ·rw[List.drop_eq_nil_of_le (by omega)] at hu;have hs:=hlt;repeat' first|(with_reducible first|refine zz ?_|refine zr ?_|refine zE LC ?_)|simp -dsimp[hs]|refine i7 ?_ ?_<;>intro h<;>try exact h.elim
  rw[hu];rfl
end Go.Proofs
namespace Go.Proofs
open Go Go.Ab Tryz
variable {G:Hn}
def W6 (G:Hn):Prop:=G 7=some [.fn (.func 345) [],.fn (.func 346) [],.fn (.func 347) []]
def T7 (c:Chains):Prop:=T6 c.reg/\c.lets.length<=80/\c.loops.length<=10/\∀ x∈c.loops,x.links.length<=12
def Q6 (c:Chains):List (Int×Int):=(bp c.reg c.lets c.of).foldl (λm x=>M9 x.drawing x.count m) []
def gK (D:List (Int×Int)) (B:List (Int×Issue)) (x:ChLoop):Nat->Bool
 | 0=>li x
 | 1=>lh x
 | _=>W2 D B [] x.links
def N6 (D:List (Int×Int)) (B:List (Int×Issue)) (x:ChLoop):Bool:=li x&&lh x&&W2 D B [] x.links
theorem yh {D:List (Int×Int)} {B:List (Int×Issue)} {x:ChLoop} {i:Nat} (h:gK D B x i=false):N6 D B x=false:=by
 unfold N6;match i with
 | 0=>simp only[gK] at h;simp[h]
 | 1=>simp only[gK] at h;simp[h]
 | i+2=>simp only[gK] at h;simp[h]
theorem yi {D:List (Int×Int)} {B:List (Int×Issue)} {x:ChLoop} (h:∀ i<3,gK D B x i=true):N6 D B x=true:=by
 have h0:=h 0 (by omega);have h1:=h 1 (by omega);have h2:=h 2 (by omega);simp only[gK] at h0 h1 h2;simp[N6,h0,h1,h2]
def p9 (c:Chains):Int:=if j8 c.reg≠0 then j8 c.reg else if A8 c.reg c.lets c.of≠0\/¬ (1<=c.loops.length/\c.loops.length<=6) then 60 else if c.loops.all (N6 (Q6 c) (aK c.reg c.lets)) then 0 else 60
def aD (c:Chains):DV:=if p9 c=0 then .one (.im (K0 c (Q6 c) (aK c.reg c.lets))) else .one (.im (.raw (.pointer none)))
theorem yc (c:Chains):ImV (aD c):=by unfold aD;split<;>simp[K0]
attribute [simp] yc
theorem uF (l:List Issue) (lets:List Int) (d:Int):(bp l lets d).length<=l.length:=by
 unfold bp;split
 ·simp only[K6,List.length_map];have:=List.length_filter_le (λn=>decide (0<m5 (lP l lets d) n)) (nums l);have:=n3 l l.length;simp only[nums] at *;omega
 ·simp
@[simp] abbrev Lf:List Nat:=[0,1,2,3,4,5,6,7,8,10,11,13,15,17,22,43,55,56,57,58,81,82,83,84,97,98,99,100,103,104,105,112]
@[simp] abbrev Je:List Nat:=[2,3,7,15,97,98,99,103,104]
theorem yj (c:Chains) (hG:s9 G) (hC:W6 G) (hs:T7 c):zP prog G 234 [iL c] (.tup [aD c,iv (p9 c)]):=by
 refine zf func234 ntmps234 ?_;try simp only[iL]
 obtain⟨hsr,hsl,hso,hsk⟩:=hs;have hC':G 7=some [.fn (.func 345) [],.fn (.func 346) [],.fn (.func 347) []]:=hC;have c1:=nm c.reg hG hsr;by_cases h0:j8 c.reg=0
 ·rw[h0] at c1;have c2:=uE c.reg c.lets c.of hG hsr (by omega);have c3:=bk (G:=G) 1 6 [(c.loops.length:Int)] (by simp);by_cases hT:A8 c.reg c.lets c.of≠0\/¬ (1<=c.loops.length/\c.loops.length<=6)
  ·have hE:p9 c=60:=by unfold p9;rw[if_neg (by simp[h0]),if_pos hT]
   by_cases hT0:A8 c.reg c.lets c.of=0
   ·rw[hT0] at c2;have hr:([(c.loops.length:Int)].all λx=>decide (1<=x)&&decide (x<=6))=false:=by
     simp;omega
    rw[hr] at c3;have hs:=trivial;repeat' first|(with_reducible first|refine zz ?_|refine zr ?_|refine zE Lf ?_)|simp -dsimp[hs]|refine zp c1 ?_|refine zp c2 ?_|refine zt c3 ?_ ?_ ?_;(focus simp;done);focus (simp;done)|refine i7 ?_ ?_<;>intro h<;>try exact h.elim
    all_goals try clear hs
    all_goals simp[aD,hE]
   ·have hs:=hT0;repeat' first|(with_reducible first|refine zz ?_|refine zr ?_|refine zE Lf ?_)|simp -dsimp[hs]|refine zp c1 ?_|refine zp c2 ?_|refine i7 ?_ ?_<;>intro h<;>try exact h.elim
    all_goals try clear hs
    all_goals simp[aD,hE]
  ·have hT0:A8 c.reg c.lets c.of=0:=Classical.byContradiction λh=>hT (.inl h);have hr6:1<=c.loops.length/\c.loops.length<=6:=Classical.byContradiction λh=>hT (.inr h);have hr:([(c.loops.length:Int)].all λx=>decide (1<=x)&&decide (x<=6))=true:=by
    simp;omega
   rw[hT0] at c2;rw[hr] at c3;have hlet:n5 c.reg c.lets=true:=by
    cases h:n5 c.reg c.lets
    ·simp[A8,h0,h] at hT0
    ·rfl
   have c4:=bT c.reg hG hsr;rw[h0,show dl c.reg=nums c.reg by simp[dl,h0]] at c4;have hE:p9 c=if c.loops.all (N6 (Q6 c) (aK c.reg c.lets)) then 0 else 60:=by simp[p9,h0,hT0];omega
   have hs:=trivial;repeat' first|with_reducible refine zz ?_|simp -dsimp[hs]|refine zp c1 ?_|refine zp c2 ?_|refine zt c3 ?_ ?_ ?_;(focus simp;done);focus (simp;done)|refine zp c4 ?_|with_reducible refine O2 (id:=7) (nt:=116) Lf rfl ?_;simp -dsimp[hs]|with_reducible refine zE Lf ?_|refine i7 ?_ ?_<;>intro h<;>try exact h.elim
   all_goals try clear hs
   have hnd:(nums c.reg).Nodup:=(C0 h0).1.imp λh=>Int.ne_of_lt h;have hnl:(nums c.reg).length<=c.reg.length:=n3 c.reg c.reg.length;have hll:c.lets.length=(nums c.reg).length:=by
    simp only[n5,Bool.and_eq_true,decide_eq_true_eq] at hlet;exact hlet.1
   have hreg:=hsr.1;refine g9 (ι:={ k:Nat // k<=(nums c.reg).length }) (λp=>⟨116,[(1,.one (.ptr 0 0)),(2,.one (.im (.raw (.pointer none)))),(3,iv 0),(5,.one (.im (.sl ((bp c.reg c.lets c.of).map p7)))),(7,.one (.ptr 7 0)),(55,n9 (nums c.reg)),(56,iv ((nums c.reg).length:Int)),(57,iv (p.1:Int))],[.row ((E4 c).map .im),.vec 1 [[.im (rI (c.loops.length:Int))]] 0 false,.map [.int .i64] [],.map [.int .i64] (I8 (((nums c.reg).take p.1).map λd=>(d,o4 c.reg c.lets d))),.vec 0 [] 0 true,.vec 0 [] 0 true,.vec 0 [] 0 true,.row ((E4 c).map .im++[.map 2,.map 3])]⟩) (λp=>(nums c.reg).length-p.1) ⟨0,by omega⟩ (zv [1,2,3,5,7,55,56,57] (by simp[I8])) ?_;rintro⟨k,hk⟩;simp only[iv,n9];by_cases hlt:k<(nums c.reg).length
   ·have hx:(nums c.reg)[k]?=some (nums c.reg)[k]:=by simp[hlt]
    have hkl:k<c.lets.length:=by omega
    have hy:c.lets[k]?=some c.lets[k]:=by simp[hkl]
    have hw:=zk k;have c5:=Bg c.reg (nums c.reg)[k] c.lets[k] hG hsr;have hta:=sE hnd hlt hkl;rw[show atR c.reg (nums c.reg)[k] c.lets[k]=o4 c.reg c.lets (nums c.reg)[k] by rw[hta];simp[atR,h0]] at c5;have hmp:eA (nums c.reg)[k] (o4 c.reg c.lets (nums c.reg)[k]) (((nums c.reg).take k).map λd=>(d,o4 c.reg c.lets d))=(((nums c.reg).take (k+1)).map λd=>(d,o4 c.reg c.lets d)):=by
     rw[iq,List.take_succ_eq_append_getElem hlt,List.map_append,List.map_singleton];rw[List.map_map];intro hm;obtain⟨z,hz,e⟩:=List.mem_map.1 hm;simp only[Function.comp] at e;subst e;obtain⟨i,hi,e⟩:=List.mem_take_iff_getElem.1 hz;have:=(List.getElem_inj hnd).1 e;omega
    generalize o4 c.reg c.lets (nums c.reg)[k]=y at *;have hmp':eA (nums c.reg)[k] ⟨y.drawing,y.letter,y.kind,y.items,y.dims⟩ (((nums c.reg).take k).map λd=>(d,o4 c.reg c.lets d))=(((nums c.reg).take (k+1)).map λd=>(d,o4 c.reg c.lets d)):=hmp;simp only[B1] at c5;simp only[List.map_take] at hmp';have hs:=za hx (za hy (za hlt (za hkl hw)));repeat' first|with_reducible refine zz ?_|simp -dsimp[hs]|refine zq c5 ?_|refine q8 (id:=12) (nt:=116) 18 [17] [0,1,2,3,4,5,6,7,8,10,11,13,15,17,22,43,55,56,57,58,62,63,64,65,66,67,68,69,70,71,72,73,74,75,76,77,78,81,82,83,84,97,98,99,100,103,104,105,112] Lf mixed rfl (by kernel_rfl) ?_|with_reducible refine zE Lf ?_|refine i7 ?_ ?_<;>intro h<;>try exact h.elim
    all_goals try clear hs
    exact zn ⟨k+1,by omega⟩ (zw [1,2,3,5,7,55,56,57] 8 (by simp[hmp']))
   have htk:(nums c.reg).take k=nums c.reg:=List.take_of_length_le (by omega);rw[htk];change DT _ _ _ _ ⟨_,_,[_,_,_,.map _ (I8 (aK c.reg c.lets)),_,_,_,_]⟩ _;have hs:=hlt;repeat' first|(with_reducible first|refine zz ?_|refine zE Lf ?_)|simp -dsimp[hs]|refine i7 ?_ ?_<;>intro h<;>try exact h.elim
   all_goals try clear hs
   have hpl:=uF c.reg c.lets c.of;have hcD:Q6 c=(bp c.reg c.lets c.of).foldl (λm x=>M9 x.drawing x.count m) []:=rfl;generalize bp c.reg c.lets c.of=ps at *;refine g9 (ι:={ p:Nat×List (Int×Int) // p.1<=ps.length/\Q6 c=(ps.drop p.1).foldl (λm x=>M9 x.drawing x.count m) p.2 }) (λp=>⟨116,[(1,.one (.ptr 0 0)),(2,.one (.im (.raw (.pointer none)))),(3,iv 0),(7,.one (.ptr 7 0)),(81,.one (.im (.sl (ps.map p7)))),(82,iv (ps.length:Int)),(83,iv (p.1.1:Int))],[.row ((E4 c).map .im),.vec 1 [[.im (rI (c.loops.length:Int))]] 0 false,.map [.int .i64] (N0 p.1.2),.map [.int .i64] (I8 (aK c.reg c.lets)),.vec 0 [] 0 true,.vec 0 [] 0 true,.vec 0 [] 0 true,.row ((E4 c).map .im++[.map 2,.map 3])]⟩) (λp=>ps.length-p.1.1) ⟨(0,[]),by simp[hcD]⟩ (zv [1,2,3,7,81,82,83] (by simp[N0])) ?_;rintro⟨⟨u,D⟩,hu,hD⟩;simp only at hu hD;simp only[iv];by_cases hlu:u<ps.length
   ·have hx:ps[u]?=some ps[u]:=by simp[hlu]
    have hw:=zk u;rw[List.drop_eq_getElem_cons hlu,List.foldl_cons] at hD;have hs:=za hx (za hlu hw);repeat' first|with_reducible refine zz ?_|simp -dsimp[hs]|refine zM 17 116 8 Lf ?_|with_reducible refine zE Lf ?_|refine i7 ?_ ?_<;>intro h<;>try exact h.elim
    all_goals try clear hs
    exact zn ⟨(u+1,M9 ps[u].drawing ps[u].count D),by omega,hD⟩ (zw [1,2,3,7,81,82,83] 8)
   have hDe:D=Q6 c:=by rw[hD,List.drop_eq_nil_of_le (by omega)];rfl
   subst hDe;have hB:∀ n,(J3 (aK c.reg c.lets) n).dims.length<1000000:=λn=>by
    rw[aK,T1];split
    ·rename_i hn;obtain⟨hm,_⟩:=Y6 h0 hlet hn;have:=(hsr.2 _ hm).2.2.2;omega
    ·decide
   have hs:=hlu;repeat' first|(with_reducible first|refine zz ?_|refine zE Lf ?_)|simp -dsimp[hs]|refine i7 ?_ ?_<;>intro h<;>try exact h.elim
   all_goals try clear hs
   refine g9 (ι:={ j:Nat // j<=c.loops.length/\c.loops.all (N6 (Q6 c) (aK c.reg c.lets))=(c.loops.drop j).all (N6 (Q6 c) (aK c.reg c.lets)) }) (λp=>⟨116,[(2,.one (.im (.raw (.pointer none)))),(3,iv 0),(7,.one (.im (K0 c (Q6 c) (aK c.reg c.lets)))),(97,.one (.im (.sl (c.loops.map D4)))),(98,iv (c.loops.length:Int)),(99,iv (p.1:Int))],[]⟩) (λp=>c.loops.length-p.1) ⟨0,by simp⟩ (zw [2,3,7,97,98,99] 0 (by simp[K0])) ?_;rintro⟨j,hj,hall⟩;simp only[iv];by_cases hlj:j<c.loops.length
   ·have hx:c.loops[j]?=some c.loops[j]:=by simp[hlj]
    have hw:=zk j;have hst:=R0 hlj hall;have hln:=hsk c.loops[j] (List.getElem_mem hlj);have k1:=Dj (G:=G) (K0 c (Q6 c) (aK c.reg c.lets)) c.loops[j];have k2:=Di (G:=G) (K0 c (Q6 c) (aK c.reg c.lets)) c.loops[j];have k3:=Dh (G:=G) c (Q6 c) (aK c.reg c.lets) c.loops[j] (by omega) hB;have hbad:∀ i,gK (Q6 c) (aK c.reg c.lets) c.loops[j] i=false->p9 c=60:=λi h=>by
     rw[hE,u3 hst (by rw[yh h];exact Bool.false_ne_true)];rfl
    have hq1:gK (Q6 c) (aK c.reg c.lets) c.loops[j] 0=li c.loops[j]:=rfl;have hq2:gK (Q6 c) (aK c.reg c.lets) c.loops[j] 1=lh c.loops[j]:=rfl;have hq3:gK (Q6 c) (aK c.reg c.lets) c.loops[j] 2=W2 (Q6 c) (aK c.reg c.lets) [] c.loops[j].links:=rfl;rw[<- hq1] at k1;rw[<- hq2] at k2;rw[<- hq3] at k3;clear hq1 hq2 hq3;have hs:=za hx (za hlj hC');repeat' first|(with_reducible first|refine zz ?_|refine zE Lf ?_)|simp -dsimp[hs]|refine i7 ?_ ?_<;>intro h<;>try exact h.elim
    all_goals try clear hs
    refine g9 (ι:={ i:Nat // i<=3/\∀ e<i,gK (Q6 c) (aK c.reg c.lets) c.loops[j] e=true }) (λp=>⟨116,[(2,.one (.im (.raw (.pointer none)))),(3,iv 0),(7,.one (.im (K0 c (Q6 c) (aK c.reg c.lets)))),(15,.one (.ptr 1 0)),(97,.one (.im (.sl (c.loops.map D4)))),(98,iv (c.loops.length:Int)),(99,iv (j:Int)),(103,.agg [.im (.fn (.func 345) []),.im (.fn (.func 346) []),.im (.fn (.func 347) [])]),(104,iv (p.1:Int))],[.vec 0 [] 0 true,.row ((D4 c.loops[j]).map .im)]⟩) (λp=>3-p.1) ⟨0,by simp⟩ (zv [2,3,7,15,97,98,99,103,104]) ?_;rintro⟨i,hi,hcc⟩;simp only[iv];by_cases hi3:i<3
    ·have hwc:=zk i;match i,hi3,hi,hcc,hwc with
     | 0,hi3,hi,hcc,hwc =>
       cases hq:gK (Q6 c) (aK c.reg c.lets) c.loops[j] 0<;>simp only[hq] at k1
       ·have h60:=hbad 0 hq;have hs:=trivial;repeat' first|(with_reducible first|refine zz ?_|refine zr ?_|refine zE Lf ?_)|simp -dsimp[hs]|refine zp k1 ?_|refine i7 ?_ ?_<;>intro h<;>try exact h.elim
        all_goals try clear hs
        all_goals simp[aD,h60]
       ·have hs:=hwc;repeat' first|(with_reducible first|refine zz ?_|refine zE Lf ?_)|simp -dsimp[hs]|refine zp k1 ?_|refine i7 ?_ ?_<;>intro h<;>try exact h.elim
        all_goals try clear hs
        exact At.round ⟨1,by omega,λi hi=>by
         rcases Nat.lt_succ_iff_lt_or_eq.1 hi with h|rfl
         ·exact hcc i h
         ·exact hq⟩ (by simp) (zw Je 2 (by simp;exact m9 (by omega) (by omega)))
     | 1,hi3,hi,hcc,hwc =>
       cases hq:gK (Q6 c) (aK c.reg c.lets) c.loops[j] 1<;>simp only[hq] at k2
       ·have h60:=hbad 1 hq;have hs:=trivial;repeat' first|(with_reducible first|refine zz ?_|refine zr ?_|refine zE Lf ?_)|simp -dsimp[hs]|refine zp k2 ?_|refine i7 ?_ ?_<;>intro h<;>try exact h.elim
        all_goals try clear hs
        all_goals simp[aD,h60]
       ·have hs:=hwc;repeat' first|(with_reducible first|refine zz ?_|refine zE Lf ?_)|simp -dsimp[hs]|refine zp k2 ?_|refine i7 ?_ ?_<;>intro h<;>try exact h.elim
        all_goals try clear hs
        exact At.round ⟨2,by omega,λi hi=>by
         rcases Nat.lt_succ_iff_lt_or_eq.1 hi with h|rfl
         ·exact hcc i h
         ·exact hq⟩ (by simp) (zw Je 2 (by simp;exact m9 (by omega) (by omega)))
     | 2,hi3,hi,hcc,hwc =>
       cases hq:gK (Q6 c) (aK c.reg c.lets) c.loops[j] 2<;>simp only[hq] at k3
       ·have h60:=hbad 2 hq;have hs:=trivial;repeat' first|(with_reducible first|refine zz ?_|refine zr ?_|refine zE Lf ?_)|simp -dsimp[hs]|refine zp k3 ?_|refine i7 ?_ ?_<;>intro h<;>try exact h.elim
        all_goals try clear hs
        all_goals simp[aD,h60]
       ·have hs:=hwc;repeat' first|(with_reducible first|refine zz ?_|refine zE Lf ?_)|simp -dsimp[hs]|refine zp k3 ?_|refine i7 ?_ ?_<;>intro h<;>try exact h.elim
        all_goals try clear hs
        exact At.round ⟨3,by omega,λi hi=>by
         rcases Nat.lt_succ_iff_lt_or_eq.1 hi with h|rfl
         ·exact hcc i h
         ·exact hq⟩ (by simp) (zw Je 2 (by simp;exact m9 (by omega) (by omega)))
    ·obtain rfl:i=3:=by omega
     have hok:=yi hcc;have hs:=hw;repeat' first|(with_reducible first|refine zz ?_|refine zE Lf ?_)|simp -dsimp[hs]|refine i7 ?_ ?_<;>intro h<;>try exact h.elim
     all_goals try clear hs
     exact zn ⟨j+1,by omega,C8 hst hok⟩ (zw [2,3,7,97,98,99] 0)
   ·have hok:c.loops.all (N6 (Q6 c) (aK c.reg c.lets))=true:=by rw[hall,List.drop_eq_nil_of_le (by omega)];rfl
    rw[hok] at hE;have hs:=hlj;repeat' first|(with_reducible first|refine zz ?_|refine zr ?_|refine zE Lf ?_)|simp -dsimp[hs]|refine i7 ?_ ?_<;>intro h<;>try exact h.elim
    all_goals try clear hs
    simp[aD,hE]
 ·have hE:p9 c=j8 c.reg:=by simp[p9,h0]
  have hs:=h0;repeat' first|(with_reducible first|refine zz ?_|refine zr ?_|refine zE Lf ?_)|simp -dsimp[hs]|refine zp c1 ?_|refine i7 ?_ ?_<;>intro h<;>try exact h.elim
  all_goals try clear hs
  simp[aD,hE,h0]
end Go.Proofs
namespace Go.Proofs
open Go Go.Ab
theorem Cg:Rd 82 G7 (λ_=>True):=(Opens.struct Tryz.underlying82 (by kernel_rfl) (wU (λ_=>True) (λl=>∃ n:Int,l=[rI n]) (λl=>∃ n:Int,l=[rI n]) (λl=>∃ b:Bool,l=[rB b])) (λi f hf=>by
 rcases i with _|_|_|i<;>simp at hf<;>subst hf
 ·exact oInt
 ·exact oInt
 ·exact BE)).mono (by
 rintro l ⟨ls,h1,h2,rfl⟩;obtain⟨a,b,c,rfl⟩:=Aq h1;obtain⟨x,rfl⟩:=h2 0 a rfl;obtain⟨y,rfl⟩:=h2 1 b rfl;obtain⟨z,rfl⟩:=h2 2 c rfl;exact⟨⟨x,y,z⟩,trivial,rfl⟩)
theorem Cy:Opens Tryz.prog 32 (λl=>∃ xs:List Link,l=[.sl (xs.map G7)]):=
 (Opens.sliceOf Tryz.underlying32 (sz:=3) (by kernel_rfl) (by decide) (λ_=>rfl) Cg).mono (by rintro l ⟨xs,_,h⟩;exact⟨xs,h⟩)
theorem Er:Opens Tryz.prog 34 (λl=>∃ n m:Int,l=[rI n,rI m]):=(Opens.struct Tryz.underlying34 (by kernel_rfl) (λ_ l=>∃ n:Int,l=[rI n]) (λi f hf=>by
 rcases i with _|_|i<;>simp at hf<;>subst hf<;>exact oInt)).mono (by
 rintro l ⟨ls,h1,h2,rfl⟩;obtain⟨a,b,rfl⟩:=uq h1;obtain⟨x,rfl⟩:=h2 0 a rfl;obtain⟨y,rfl⟩:=h2 1 b rfl;exact⟨x,y,rfl⟩)
theorem wH:Rd 36 D4 (λ_=>True):=(Opens.struct Tryz.underlying36 (by kernel_rfl) (wU (λ_=>True) (λl=>∃ xs:List Link,l=[.sl (xs.map G7)]) (λl=>∃ n m:Int,l=[rI n,rI m]) (λ_=>True)) (λi f hf=>by
 rcases i with _|_|i<;>simp at hf<;>subst hf
 ·exact Cy
 ·exact Er)).mono (by
 rintro l ⟨ls,h1,h2,rfl⟩;obtain⟨a,b,rfl⟩:=uq h1;obtain⟨x,rfl⟩:=h2 0 a rfl;obtain⟨y,z,rfl⟩:=h2 1 b rfl;exact⟨⟨x,y,z⟩,trivial,rfl⟩)
theorem Cw:Opens Tryz.prog 162 (λl=>∃ xs:List ChLoop,l=[.sl (xs.map D4)]):=
 (Opens.sliceOf Tryz.underlying162 (sz:=3) (by kernel_rfl) (by decide) (λ_=>rfl) wH).mono (by rintro l ⟨xs,_,h⟩;exact⟨xs,h⟩)
theorem Eb:Rd 164 E4 (λc=>∀ x∈c.reg,fa x):=(Opens.struct Tryz.underlying164 (by kernel_rfl) (BB (λ_=>True) (λl=>∃ xs:List Issue,(∀ x∈xs,fa x)/\l=[.sl (xs.map e9)]) (λl=>∃ xs:List Int,l=[.sl (xs.map encI)]) (λl=>∃ n:Int,l=[rI n]) (λl=>∃ xs:List ChLoop,l=[.sl (xs.map D4)]) (λ_=>True)) (λi f hf=>by
 rcases i with _|_|_|_|i<;>simp at hf<;>subst hf
 ·exact Eo
 ·exact BD
 ·exact oInt
 ·exact Cw)).mono (by
 rintro l ⟨ls,h1,h2,rfl⟩;obtain⟨a,b,c,d,rfl⟩:=EP h1;obtain⟨x,hx,rfl⟩:=h2 0 a rfl;obtain⟨y,rfl⟩:=h2 1 b rfl;obtain⟨z,rfl⟩:=h2 2 c rfl;obtain⟨u,rfl⟩:=h2 3 d rfl;exact⟨⟨x,y,z,u⟩,hx,rfl⟩)
end Go.Proofs
namespace Go.Ab
open Go
structure Note where
 number:Int
 day:Int
 signed:Int
 drawing:Int
 letter:Int
 frm:Int
 to:Int
 cancels:Int
 useUp:Bool
 ways:Int
 deriving DecidableEq
structure Notes where
 reg:List Issue
 notes:List Note
 deriving DecidableEq
def n8 (x:Note):List IC:=[rI x.number,rI x.day,.raw (.int .u8 x.signed),rI x.drawing,rI x.letter,rI x.frm,rI x.to,rI x.cancels,rB x.useUp,.raw (.int .u8 x.ways)]
def m7 (n:Notes):List IC:=[.sl (n.reg.map e9),.sl (n.notes.map n8)]
def ew (x:Note):DV:=.agg ((n8 x).map .im)
def l6 (n:Notes):DV:=.agg ((m7 n).map .im)
attribute [simp] n8 m7 ew l6
end Go.Ab
namespace Go.Proofs
open Go Go.Ab
variable {G:Hn}
def CG (x:Note):Bool:=(decide (1<=x.number)&&decide (x.number<=9999))&&(decide (0<=x.day)&&decide (x.day<=14610))
theorem EB (n:Notes) (i:Nat) (x:Note) (hx:n.notes[i]?=some x):zP Tryz.prog G 325 [l6 n,iv (i:Int)] (bv (CG x)):=by
 refine zf Tryz.func325 Tryz.ntmps325 ?_;try simp only[l6,iv]
 have hi:i<n.notes.length:=e7 hx;have hxe:n.notes[i]=x:=(List.getElem?_eq_some_iff.1 hx).2;have c1:=gl (G:=G) 1 9999 [x.number] (by simp);have c2:=gl (G:=G) 0 14610 [x.day] (by simp);have hs:=za hxe hi;repeat' first|(with_reducible first|refine zz ?_|refine zr ?_|refine zE [0,1,2,4] ?_)|simp -dsimp[hs]|refine zt c1 ?_ ?_ ?_;(focus simp;done);focus (simp;done)|refine zt c2 ?_ ?_ ?_;(focus simp;done);focus (simp;done)|with_reducible refine j0 ?_ ?_<;>intro h<;>have h0:=h<;>(try simp only[i6] at h)<;>have h2:=h<;>(try simp at h2)<;>replace hs:=za h0 (za h (za h2 hs))
 all_goals try clear hs
 all_goals simp_all [CG]
 all_goals omega
def CF (x:Note):Bool:=decide (x.signed<=2)&&decide (x.ways<=3)
theorem EA (n:Notes) (i:Nat) (x:Note) (hx:n.notes[i]?=some x):zP Tryz.prog G 326 [l6 n,iv (i:Int)] (bv (CF x)):=by
 refine zf Tryz.func326 Tryz.ntmps326 ?_;try simp only[l6,iv]
 have hi:i<n.notes.length:=e7 hx;have hxe:n.notes[i]=x:=(List.getElem?_eq_some_iff.1 hx).2;have hs:=za hxe hi;repeat' first|(with_reducible first|refine zz ?_|refine zr ?_|refine zE [0,1,2,4] ?_)|simp -dsimp[hs]|with_reducible refine j0 ?_ ?_<;>intro h<;>have h0:=h<;>(try simp only[i6] at h)<;>have h2:=h<;>(try simp at h2)<;>replace hs:=za h0 (za h (za h2 hs))
 all_goals try clear hs
 all_goals (clear hx;simp_all [CF])
 all_goals omega
def CE (x:Note):Bool:=(decide (1<=x.frm)&&decide (x.frm<=999))&&(decide (1<=x.to)&&decide (x.to<=999))&&decide (x.frm<=x.to)
theorem Ez (n:Notes) (i:Nat) (x:Note) (hx:n.notes[i]?=some x):zP Tryz.prog G 327 [l6 n,iv (i:Int)] (bv (CE x)):=by
 refine zf Tryz.func327 Tryz.ntmps327 ?_;try simp only[l6,iv]
 have hi:i<n.notes.length:=e7 hx;have hxe:n.notes[i]=x:=(List.getElem?_eq_some_iff.1 hx).2;have c1:=gl (G:=G) 1 999 [x.frm,x.to] (by simp);have hs:=za hxe hi;repeat' first|(with_reducible first|refine zz ?_|refine zr ?_|refine zE [0,1,2,4,5] ?_)|simp -dsimp[hs]|refine zt c1 ?_ ?_ ?_;(focus simp;done);focus (simp;done)|with_reducible refine j0 ?_ ?_<;>intro h<;>have h0:=h<;>(try simp only[i6] at h)<;>have h2:=h<;>(try simp at h2)<;>replace hs:=za h0 (za h (za h2 hs))
 all_goals try clear hs
 all_goals (clear hx c1;simp_all [CE])
 all_goals omega
end Go.Proofs
namespace Go.Proofs
open Go Go.Ab Tryz
variable {G:Hn}
@[simp] abbrev Lb:List Nat:=[0,1,4,5,7,8,9,16]
theorem kM (l:List Note) (p:Note->Bool) (k:Nat) (caps:List DC) (objs:List DObj) (hok:D9 prog k) (hf:∀ x∈l,DCall prog G k (ew x :: caps.map .one) objs (λd o=>d=bv (p x)/\o=objs)) (hl:l.length<1000000):DCall prog G 336 [.one (.im (.sl (l.map n8))),.one (.fn (.func k) caps)] objs (λd o=>d=iv (I5 p l)/\o=objs):=by
 refine i8 func336 rfl ntmps336 (by simp) rfl ?_;have hs:=trivial;repeat' first|(with_reducible first|refine zz ?_|refine zE Lb ?_)|simp -dsimp[hs]
 refine g9 (ι:={ k:Nat // k<=l.length/\∀ j x,j<k->l[j]?=some x->p x=false }) (λi=>⟨19,[(0,.one (.im (.sl (l.map n8)))),(1,.one (.fn (.func k) caps)),(7,iv (l.length:Int)),(8,iv (i.1:Int))],objs⟩) (λi=>l.length-i.1) ⟨0,by simp⟩ (zv [0,1,7,8]) ?_;rintro⟨i,hi,hno⟩;simp only[iv];by_cases hlt:i<l.length
 ·have hx:l[i]?=some l[i]:=by simp[hlt]
  have hw:=zk i;have hc:=hf l[i] (by simp);simp only[ew,n8,List.map_cons,List.map_nil,bv,rI] at hc;have hs:=za hx (za hw hok);repeat' first|(with_reducible first|refine zz ?_|refine And.intro (by omega) ?_|refine zr ?_|refine zE Lb ?_)|simp -dsimp[hs]|refine CallE.here hc ?_|refine i7 ?_ ?_<;>intro h<;>try exact h.elim|with_reducible refine And.intro ?_ ?_
  all_goals try omega
  ·exact(I4 hx (by assumption) hno).symm
  ·exact At.round ⟨i+1,by omega,λj x hj hjx=>by
    by_cases e:j=i
    ·subst e;rw[hx] at hjx;cases hjx;assumption
    ·exact hno j x (by omega) hjx⟩ (by simp;omega) (zv [0,1,7,8])
 ·have hs:=trivial;repeat' first|(with_reducible first|refine zz ?_|refine zr ?_|refine zE Lb ?_)|simp -dsimp[hs]|refine i7 ?_ ?_<;>intro h<;>try exact h.elim|with_reducible refine And.intro ?_ ?_
  all_goals try omega
  exact(Q4 λj x hjx=>hno j x (by have:=e7 hjx;omega) hjx).symm
theorem aE (l:List Note) (p:Note->Bool) (k:Nat) (caps:List DC) (objs:List DObj) (hok:D9 prog k) (hf:∀ x∈l,DCall prog G k (ew x :: caps.map .one) objs (λd o=>d=bv (p x)/\o=objs)) (hl:l.length<1000000):DCall prog G 331 [.one (.im (.sl (l.map n8))),.one (.fn (.func k) caps)] objs (λd o=>d=bv (l.any p)/\o=objs):=by
 refine i8 func331 rfl ntmps331 (by simp) rfl ?_;have hc:=kM l p k caps objs hok hf hl;repeat' first|(with_reducible first|refine zz ?_|refine zx ?_|refine zE [0,1,4] ?_)|simp -dsimp|refine CallE.here hc ?_|with_reducible refine And.intro ?_ ?_
 simp[w9]
def CD (x:Note):Bool:=decide (2<=x.letter) || !x.useUp&&decide (x.ways=0)
theorem Ex (n:Notes) (i:Nat) (x:Note) (hx:n.notes[i]?=some x):zP prog G 329 [l6 n,iv (i:Int)] (bv (CD x)):=by
 refine zf func329 ntmps329 ?_;try simp only[l6,iv]
 have hi:i<n.notes.length:=e7 hx;have hxe:n.notes[i]=x:=(List.getElem?_eq_some_iff.1 hx).2;have hs:=za hxe hi;repeat' first|(with_reducible first|refine zz ?_|refine zr ?_|refine zE [0,1,2,4,5] ?_)|simp -dsimp[hs]|with_reducible refine j0 ?_ ?_<;>intro h<;>have h0:=h<;>(try simp only[i6] at h)<;>have h2:=h<;>(try simp at h2)<;>replace hs:=za h0 (za h (za h2 hs))
 all_goals try clear hs
 all_goals (clear hx;simp_all [CD])
 all_goals omega
theorem CC (n:Notes) (x y:Note):DCall prog G 332 (ew y :: [DC.ptr 1 0].map .one) [.row ((m7 n).map .im),.row ((n8 x).map .im)] (λd o=>d=bv (decide (y.number=x.cancels))/\o=[.row ((m7 n).map .im),.row ((n8 x).map .im)]):=by
 refine DCall.drop ?_;refine i8 func332 rfl ntmps332 (by simp) rfl ?_;simp only[ew,n8,m7,rI,rB];repeat' first|(with_reducible first|refine zz ?_|refine zx ?_|refine zE [0,1,2,3] ?_)|simp -dsimp|with_reducible refine And.intro ?_ ?_
def yZ (l:List Note) (i:Nat) (x:Note):Bool:=decide (x.cancels=0)||(l.take i).any λy=>decide (y.number=x.cancels)
theorem Ew (n:Notes) (i:Nat) (x:Note) (hx:n.notes[i]?=some x) (hl:n.notes.length<1000):zP prog G 330 [l6 n,iv (i:Int)] (bv (yZ n.notes i x)):=by
 refine zf func330 ntmps330 ?_;try simp only[l6,iv]
 have hi:i<n.notes.length:=e7 hx;have hxe:n.notes[i]=x:=(List.getElem?_eq_some_iff.1 hx).2;have hlt:(n.notes.take i).length<1000000:=by simp;omega
 have hil:i<=n.notes.length:=by omega
 have c1:=aE (G:=G) (n.notes.take i) (λy=>decide (y.number=x.cancels)) 332 [.ptr 1 0] [.row ((m7 n).map .im),.row ((n8 x).map .im)] (by simp) (λy _=>CC n x y) hlt;simp only[n8,m7,rI,rB,List.map_take,List.map_cons,List.map_nil] at c1;have hs:=za hxe (za hi hil);repeat' first|(with_reducible first|refine zz ?_|refine zr ?_|refine zE [0,1,2,4,5] ?_)|simp -dsimp[hs]|refine zh c1 ?_|with_reducible refine j0 ?_ ?_<;>intro h<;>have h0:=h<;>(try simp only[i6] at h)<;>have h2:=h<;>(try simp at h2)<;>replace hs:=za h0 (za h (za h2 hs))
 all_goals try clear hs
 all_goals (clear hx c1;simp_all [yZ])
theorem CB (n:Notes) (i:Nat) (x y:Note) (hx:n.notes[i]?=some x):DCall prog G 334 (ew y :: [DC.ptr 0 0,DC.ptr 1 0].map .one) [.row ((m7 n).map .im),.row [.im (rI (i:Int))]] (λd o=>d=bv (decide (y.number=x.number))/\o=[.row ((m7 n).map .im),.row [.im (rI (i:Int))]]):=by
 have hi:i<n.notes.length:=e7 hx;have hxe:n.notes[i]=x:=(List.getElem?_eq_some_iff.1 hx).2;refine DCall.drop ?_;refine i8 func334 rfl ntmps334 (by simp) rfl ?_;simp only[ew,n8,m7,rI,rB];have hs:=za hxe hi;repeat' first|(with_reducible first|refine zz ?_|refine zr ?_)|simp -dsimp[hs]|refine zM 1 14 10 [0,1,2,3,4] ?_|with_reducible refine zE [0,1,2,3,4] ?_|with_reducible refine And.intro ?_ ?_
def sP (l:List Note) (i:Nat) (x:Note):Bool:=!(l.take i).any λy=>decide (y.number=x.number)
theorem Ev (n:Notes) (i:Nat) (x:Note) (hx:n.notes[i]?=some x) (hl:n.notes.length<1000):zP prog G 333 [l6 n,iv (i:Int)] (bv (sP n.notes i x)):=by
 refine zf func333 ntmps333 ?_;try simp only[l6,iv]
 have hi:i<n.notes.length:=e7 hx;have hlt:(n.notes.take i).length<1000000:=by simp;omega
 have hil:i<=n.notes.length:=by omega
 have c1:=aE (G:=G) (n.notes.take i) (λy=>decide (y.number=x.number)) 334 [.ptr 0 0,.ptr 1 0] [.row ((m7 n).map .im),.row [.im (rI (i:Int))]] (by simp) (λy _=>CB n i x y hx) hlt;simp only[n8,m7,rI,rB,List.map_take,List.map_cons,List.map_nil] at c1;have hs:=za hi hil;repeat' first|(with_reducible first|refine zz ?_|refine zr ?_|refine zE [0,1,2,3,4] ?_)|simp -dsimp[hs]|refine zh c1 ?_
 all_goals try clear hs
 all_goals (clear hx c1;simp_all [sP])
def Aa:List Int->Int
 | []=>0
 | x :: r=>if x=0 then Aa r else x
@[simp] abbrev LW:List Nat:=[0,2,3,5,6,7,8,9,14]
theorem FH (l:List Int) (hl:l.length<1000000):zP prog G 59 [n9 l] (iv (Aa l)):=by
 refine zf func59 ntmps59 ?_;try simp only[n9]
 have hs:=trivial;repeat' first|(with_reducible first|refine zz ?_|refine zE LW ?_)|simp -dsimp[hs]
 refine g9 (ι:={ p:Nat // p<=l.length/\Aa l=Aa (l.drop p) }) (λp=>⟨18,[(3,iv 0),(6,.one (.im (.sl (l.map encI)))),(7,iv (l.length:Int)),(8,iv (p.1:Int))],[]⟩) (λp=>l.length-p.1) ⟨0,by simp⟩ (zv [3,6,7,8]) ?_;rintro⟨k,hk,hu⟩;simp only[iv];by_cases hlt:k<l.length
 ·have hw:=zk k;rw[List.drop_eq_getElem_cons hlt,Aa] at hu;generalize hx:l[k]=x at *;have hs:=za hx (za hw hlt);repeat' first|(with_reducible first|refine zz ?_|refine zr ?_|refine zE LW ?_)|simp -dsimp[hs]|refine i7 ?_ ?_<;>intro h<;>try exact h.elim
  ·rw[hu,if_neg (by assumption)]
  ·rw[if_pos (by assumption)] at hu;exact zn ⟨k+1,by omega,hu⟩ (zv [3,6,7,8])
 ·rw[List.drop_eq_nil_of_le (by omega)] at hu;have hs:=hlt;repeat' first|(with_reducible first|refine zz ?_|refine zr ?_|refine zE LW ?_)|simp -dsimp[hs]|refine i7 ?_ ?_<;>intro h<;>try exact h.elim
  rw[hu];rfl
def yv (y x:Note):Bool:=decide (y.day<x.day)||decide (y.day=x.day)&&decide (y.number<x.number)
def vP (l:List Note) (i:Nat) (x:Note):Bool:=if i=0 then true else match l[i-1]? with|some y=>yv y x|none=>false
theorem Cs (y x:Note):decide (Aa [eo y.day x.day,eo y.number x.number]<0)=yv y x:=by
 unfold yv eo Aa Aa Aa;rw[Bool.eq_iff_iff];simp only[decide_eq_true_eq,Bool.or_eq_true,Bool.and_eq_true];repeat' split
 all_goals omega
theorem Eu (n:Notes) (i:Nat) (x:Note) (hx:n.notes[i]?=some x) (hl:n.notes.length<1000):zP prog G 335 [l6 n,iv (i:Int)] (bv (vP n.notes i x)):=by
 refine zf func335 ntmps335 ?_;try simp only[l6,iv]
 have hi:i<n.notes.length:=e7 hx;have hxe:n.notes[i]=x:=(List.getElem?_eq_some_iff.1 hx).2;by_cases h00:i=0
 ·subst h00;have hs:=za hxe hi;repeat' first|(with_reducible first|refine zz ?_|refine zr ?_)|simp -dsimp[hs]|refine zM 1 40 36 [0,1,2,4] ?_|with_reducible refine zE [0,1,2,4] ?_
  all_goals simp[vP]
 ·have hi1:i-1<n.notes.length:=by omega
  have hw:IntKind.i64.wrap ((i:Int)-1)=((i-1:Nat):Int):=by rw[m9 (by omega) (by omega)];omega
  have hne:((i:Int)=0)=False:=by simp[h00]
  generalize hy:n.notes[i-1]=y;have c1:=iJ (G:=G) y.day x.day;have c2:=iJ (G:=G) y.number x.number;have c3:=FH (G:=G) [eo y.day x.day,eo y.number x.number] (by simp);have hs:=za hxe (za hi (za hi1 (za hw (za hne (za hy h00)))));repeat' first|(with_reducible first|refine zz ?_|refine zr ?_)|simp -dsimp[hs]|refine zq c1 ?_|refine zq c2 ?_|refine zq c3 ?_|refine zM 1 40 36 [0,1,2,4] ?_|with_reducible refine zE [0,1,2,4] ?_
  rw[Cs,vP,if_neg h00,List.getElem?_eq_getElem hi1,hy]
def BF (l:List Issue) (x:Note):Bool:=if x.drawing=0/\x.letter=0 then decide (x.cancels≠0) else decide (zd l x.drawing x.letter=0)
theorem Ey (n:Notes) (i:Nat) (x:Note) (hx:n.notes[i]?=some x) (hG:s9 G) (hs:T6 n.reg):zP prog G 328 [l6 n,iv (i:Int)] (bv (BF n.reg x)):=by
 refine zf func328 ntmps328 ?_;try simp only[l6,iv]
 have hi:i<n.notes.length:=e7 hx;have hxe:n.notes[i]=x:=(List.getElem?_eq_some_iff.1 hx).2;have c1:=Bg (G:=G) n.reg x.drawing x.letter hG hs;simp only[B1] at c1;have hs:=za hxe hi;repeat' first|(with_reducible first|refine zz ?_|refine zr ?_|refine zE [0,1,2,4,5,7,19] ?_)|simp -dsimp[hs]|refine zp c1 ?_|refine i7 ?_ ?_<;>intro h<;>try exact h.elim
 all_goals try clear hs
 ·have h1:x.drawing=0/\x.letter=0:=⟨h.1.symm,h.2.symm⟩
  rw[BF,if_pos h1];simp
 ·rw[BF,if_neg (by omega)]
theorem pg (l:List Int) (n:Int) (hl:l.length<1000000):zP prog G 150 [n9 l,iv n] (iv (I5 (λx=>decide (n=x)) l)):=by
 refine zf func150 ntmps150 ?_;try simp only[n9,iv]
 have hs:=trivial;repeat' first|(with_reducible first|refine zz ?_|refine zE Lb ?_)|simp -dsimp[hs]
 refine g9 (ι:={ k:Nat // k<=l.length/\∀ j x,j<k->l[j]?=some x->decide (n=x)=false }) (λi=>⟨19,[(0,n9 l),(1,iv n),(7,iv (l.length:Int)),(8,iv (i.1:Int))],[]⟩) (λi=>l.length-i.1) ⟨0,by simp⟩ (zv [0,1,7,8]) ?_;rintro⟨i,hi,hno⟩;simp only[iv,n9];by_cases hlt:i<l.length
 ·have hx0:l[i]?=some l[i]:=by simp[hlt]
  have hw:=zk i;generalize hx:l[i]=x at *;have hs:=za hx (za hw hlt);repeat' first|(with_reducible first|refine zz ?_|refine zr ?_|refine zE Lb ?_)|simp -dsimp[hs]|refine i7 ?_ ?_<;>intro h<;>try exact h.elim
  ·exact(I4 hx0 (by simp;assumption) hno).symm
  ·exact At.round ⟨i+1,by omega,λj y hj hjx=>by
    by_cases e:j=i
    ·subst e;rw[hx0] at hjx;cases hjx;simp;assumption
    ·exact hno j y (by omega) hjx⟩ (by simp;omega) (zv [0,1,7,8])
 ·have hs:=hlt;repeat' first|(with_reducible first|refine zz ?_|refine zr ?_|refine zE Lb ?_)|simp -dsimp[hs]|refine i7 ?_ ?_<;>intro h<;>try exact h.elim
  exact(Q4 λj x hjx=>hno j x (by have:=e7 hjx;omega) hjx).symm
theorem bW (l:List Int) (n:Int) (hl:l.length<1000000):zP prog G 146 [n9 l,iv n] (bv (decide (n∈l))):=by
 refine zf func146 ntmps146 ?_;try simp only[n9,iv]
 have hc:=pg (G:=G) l n hl;repeat' first|(with_reducible first|refine zz ?_|refine zx ?_|refine zE [0,1,4] ?_)|simp -dsimp|refine zp hc ?_
 have h1:=w9 (λx=>decide (n=x)) l;rw[<- decide_eq_true_iff (p:=0<=_),h1];simp
theorem aZ (n lo hi:Int):zP prog G 219 [iv n,iv lo,iv hi] (bv (decide (lo<=n)&&decide (n<=hi))):=by
 refine zf func219 ntmps219 ?_;try simp only[iv,iv,iv]
 have hs:=trivial;repeat' first|(with_reducible first|refine zz ?_|refine zr ?_|refine zE [0,1,2,6] ?_)|simp -dsimp[hs]|with_reducible refine j0 ?_ ?_<;>intro h<;>have h0:=h<;>(try simp only[i6] at h)<;>have h2:=h<;>(try simp at h2)<;>replace hs:=za h0 (za h (za h2 hs))
 all_goals try clear hs
 all_goals simp_all
theorem ri (l:List Int) (n:Int) (hl:l.length<1000000):zP prog G 258 [n9 l,iv n] (bv (decide (n∈l))):=by
 refine zf func258 ntmps258 ?_;try simp only[n9,iv]
 have hs:=trivial;repeat' first|(with_reducible first|refine zz ?_|refine zE [0,1,4,5,9,17] ?_)|simp -dsimp[hs]
 refine g9 (ι:={ k:Nat // k<=l.length/\decide (n∈l)=decide (n∈l.drop k) }) (λi=>⟨18,[(0,n9 l),(1,iv n),(5,iv (i.1:Int))],[]⟩) (λi=>l.length-i.1) ⟨0,by simp⟩ (zv [0,1,5]) ?_;rintro⟨i,hi,hno⟩;simp only[iv,n9];by_cases hlt:i<l.length
 ·have hw:=zk i;rw[List.drop_eq_getElem_cons hlt] at hno;generalize hx:l[i]=x at *;have hs:=za hx (za hw hlt);repeat' first|(with_reducible first|refine zz ?_|refine zr ?_|refine zE [0,1,4,5,9,17] ?_)|simp -dsimp[hs]|refine i7 ?_ ?_<;>intro h<;>try exact h.elim
  all_goals try clear hs
  ·exact of_decide_eq_true (by rw[hno];simp[*])
  ·exact zn ⟨i+1,by omega,by rw[hno,decide_eq_decide,List.mem_cons];exact or_iff_right (λe=>absurd e.symm (by assumption))⟩ (zv [0,1,5])
 ·rw[List.drop_eq_nil_of_le (by omega)] at hno;have hs:=hlt;repeat' first|(with_reducible first|refine zz ?_|refine zr ?_|refine zE [0,1,4,5,9,17] ?_)|simp -dsimp[hs]|refine i7 ?_ ?_<;>intro h<;>try exact h.elim
  exact λhm=>by simp[hm] at hno
end Go.Proofs
namespace Go.Proofs
open Go Go.Ab
def ue (n:Notes) (i:Nat) (x:Note):Bool:=CG x&&CF x&&CE x&&BF n.reg x&&CD x&&yZ n.notes i x&&sP n.notes i x&&vP n.notes i x
def oT (n:Notes) (i:Nat) (x:Note):Nat->Bool
 | 0=>CG x
 | 1=>CF x
 | 2=>CE x
 | 3=>BF n.reg x
 | 4=>CD x
 | 5=>yZ n.notes i x
 | 6=>sP n.notes i x
 | _=>vP n.notes i x
theorem Ag {n:Notes} {i:Nat} {x:Note} {k:Nat} (h:oT n i x k=false):ue n i x=false:=by
 unfold ue;match k with
 | 0|1|2|3|4|5|6=>simp only[oT] at h;simp[h]
 | k+7=>simp only[oT] at h;simp[h]
theorem Ah {n:Notes} {i:Nat} {x:Note} (h:∀ k<8,oT n i x k=true):ue n i x=true:=by
 have h0:=h 0 (by omega);have h1:=h 1 (by omega);have h2:=h 2 (by omega);have h3:=h 3 (by omega);have h4:=h 4 (by omega);have h5:=h 5 (by omega);have h6:=h 6 (by omega);have h7:=h 7 (by omega);simp only[oT] at h0 h1 h2 h3 h4 h5 h6 h7;simp[ue,h0,h1,h2,h3,h4,h5,h6,h7]
def Cc (x:Note):Bool:=(decide (1<=x.number)&&decide (x.number<=9999))&&(decide (0<=x.day)&&decide (x.day<=14610))&&decide (x.signed<=2)&&(decide (1<=x.frm)&&decide (x.frm<=x.to))&&decide (x.to<=999)&&decide (x.ways<=3)
def Cb (l:List Issue) (x:Note):Bool:=if x.drawing=0/\x.letter=0 then decide (x.cancels≠0) else (o2 l x.drawing x.letter).isSome
def Ca (x:Note):Bool:=!(decide (x.letter<2)&&(x.useUp||decide (0<x.ways)))
def lB (n:Notes) (i:Nat) (x:Note):Bool:=Cc x&&Cb n.reg x&&Ca x&&sP n.notes i x&&yZ n.notes i x&&vP n.notes i x
theorem wE {n:Notes} {i:Nat} {x:Note} (h0:j8 n.reg=0) (hw:0<=x.ways):lB n i x=ue n i x:=by
 have hB:Cb n.reg x=BF n.reg x:=by
  unfold Cb BF zd;rw[if_neg (show ¬ j8 n.reg≠0 by simp[h0])];split
  ·rfl
  ·cases (o2 n.reg x.drawing x.letter).isSome<;>rfl
 have hC:Ca x=CD x:=by
  unfold Ca CD;rw[Bool.eq_iff_iff];cases x.useUp<;>simp<;>omega
 have hA:Cc x=(CG x&&CF x&&CE x):=by
  unfold Cc CG CF CE;rw[Bool.eq_iff_iff];simp only[Bool.and_eq_true,decide_eq_true_eq];omega
 unfold lB ue;rw[hA,hB,hC];generalize yZ n.notes i x=a;generalize sP n.notes i x=b;cases a<;>cases b<;>simp
def j7 (l:List Note):List Int:=(l.filter λx=>decide (x.signed=1)).map (·.number)
theorem bN (l:List Note) (k:Nat) (h:k<l.length):j7 (l.take (k+1))=j7 (l.take k)++(if l[k].signed=1 then [l[k].number] else []):=by
 unfold j7;rw[List.take_succ_eq_append_getElem h,List.filter_append,List.map_append]
 congr 1
 by_cases e:l[k].signed=1<;>simp[e]
theorem Y7 (l:List Note):(j7 l).length<=l.length:=by
 unfold j7;rw[List.length_map];exact List.length_filter_le _ _
def gP (n:Notes):Prop:=∀ (i:Nat) (x:Note),n.notes[i]?=some x->ue n i x=true
def cW (n:Notes):Bool:=decide (n.notes.length<=12)&&(List.range n.notes.length).all (λi=>match n.notes[i]? with|some x=>ue n i x|none=>true)&&decide ((j7 n.notes).length<=5)
def r7 (n:Notes):Int:=if j8 n.reg≠0 then j8 n.reg else if cW n then 0 else 30
theorem notesB_iff {n:Notes}:cW n=true↔n.notes.length<=12/\gP n/\(j7 n.notes).length<=5:=by
 simp only[cW,Bool.and_eq_true,decide_eq_true_eq,List.all_eq_true,List.mem_range,and_assoc];refine and_congr_right λ_=>and_congr_left λ_=>⟨λh i x hx=>?_,λh i hi=>?_⟩
 ·have:=h i (List.getElem?_eq_some_iff.1 hx).1;rw[hx] at this;exact this
 ·rw[List.getElem?_eq_getElem hi];exact h i _ (List.getElem?_eq_getElem hi)
theorem ku {n:Notes} (h:gP n):(n.notes.map (·.number)).Nodup:=by
 rw[List.nodup_iff_pairwise_ne,List.pairwise_iff_getElem];intro i j hi hj hij;simp only[List.length_map] at hi hj;simp only[List.getElem_map];have h1:=h j _ (List.getElem?_eq_getElem hj);simp only[ue,Bool.and_eq_true,sP,Bool.not_eq_true',List.any_eq_false,decide_eq_true_eq] at h1;refine h1.1.2 _ (List.mem_iff_getElem.2 ⟨i,by simp;omega,?_⟩);simp
theorem cV {n:Notes} (h:gP n):(j7 n.notes).Nodup:=by
 have:=ku h;unfold j7;exact this.sublist ((List.filter_sublist).map _)
def qk (o s:List Int):Prop:=∀ (i:Nat) (v:Int),s[i]?=some v->v∈o/\∀ j u,i=j+1->s[j]?=some u->u<v
def fE (o s:List Int) (v:Int):Nat->Bool
 | 0=>decide (v∈o)
 | j+1=>decide (v∈o)&&(match s[j]? with|some u=>decide (u<v)|none=>true)
def F4 (o s:List Int):Bool:=(List.range s.length).all λi=>match s[i]? with|some v=>fE o s v i|none=>true
theorem truthB_iff {o s:List Int}:F4 o s=true↔qk o s:=by
 simp only[F4,List.all_eq_true,List.mem_range];constructor
 ·intro h i v hv;have h1:=h i (List.getElem?_eq_some_iff.1 hv).1;rw[hv] at h1;simp only at h1;cases i with
  | zero =>
    simp only[fE,decide_eq_true_eq] at h1;exact⟨h1,λj u e=>by omega⟩
  | succ i =>
    simp only[fE,decide_eq_true_eq,Bool.and_eq_true] at h1;refine⟨h1.1,λj u e hu=>?_⟩;obtain rfl:j=i:=by omega
    rw[hu] at h1;simpa using h1.2
 ·intro h i hi;rw[List.getElem?_eq_getElem hi];simp only;obtain⟨h1,h2⟩:=h i _ (List.getElem?_eq_getElem hi);cases i with
  | zero=>simpa only[fE,decide_eq_true_eq] using h1
  | succ i =>
    have hj:i<s.length:=by omega
    simp only[fE,List.getElem?_eq_getElem hj,Bool.and_eq_true,decide_eq_true_eq];exact⟨h1,h2 i _ rfl (List.getElem?_eq_getElem hj)⟩
theorem dE {o s:List Int} {i:Nat} {v:Int} (h:s[i]?=some v) (hb:v∉o\/∃ j u,i=j+1/\s[j]?=some u/\v<=u):F4 o s=false:=by
 rw[<- Bool.not_eq_true,truthB_iff];intro ht;obtain⟨h1,h2⟩:=ht i v h;rcases hb with hb|⟨j,u,e,hu,hle⟩
 ·exact hb h1
 ·have:=h2 j u e hu;omega
theorem eK {o s:List Int} (h:qk o s):F4 o s=true:=truthB_iff.2 h
def bC (o s:List Int) (k:Nat):Prop:=∀ (i:Nat) (v:Int),i<k->s[i]?=some v->v∈o/\∀ j u,i=j+1->s[j]?=some u->u<v
theorem X4 {o s:List Int} {k:Nat} {v:Int} (h:bC o s k) (hv:s[k]?=some v) (ho:v∈o) (hl:∀ j u,k=j+1->s[j]?=some u->u<v):bC o s (k+1):=by
 intro i w hi hw;by_cases e:i=k
 ·subst e;rw[hv] at hw;cases hw;exact⟨ho,hl⟩
 ·exact h i w (by omega) hw
theorem iU {o s:List Int} (h:bC o s s.length):qk o s:=λi v hv=>h i v (List.getElem?_eq_some_iff.1 hv).1 hv
theorem jU {o s:List Int} {k:Nat} (h:bC o s k):∀ (j i:Nat) (u v:Int),i<j->j<k->s[i]?=some u->s[j]?=some v->u<v
 | 0,_,_,_,h1,_,_,_=>by omega
 | j+1,i,u,v,h1,h2,h3,h4=>by
   have hj:j<s.length:=by have:=(List.getElem?_eq_some_iff.1 h4).1;omega
   have hw:s[j]?=some s[j]:=List.getElem?_eq_getElem hj;have h5:=(h (j+1) v h2 h4).2 j s[j] rfl hw;by_cases e:i=j
   ·subst e;rw[hw] at h3;cases h3;exact h5
   ·have:=jU h j i u s[j] (by omega) (by omega) h3 hw;omega
theorem ol {o s:List Int} {k:Nat} {v:Int} (h:bC o s (k+1)) (hk:k<s.length) (hv:s[k]<v):v∉s.take (k+1):=by
 intro hm;obtain⟨i,hi,e⟩:=List.mem_take_iff_getElem.1 hm;by_cases he:i=k
 ·subst he;omega
 ·have:=jU h k i s[i] s[k] (by omega) (by omega) (List.getElem?_eq_getElem _) (List.getElem?_eq_getElem _);omega
open Go Go.Ab Tryz
variable {G:Hn}
def nW (n:Notes):Prop:=gQ n.reg/\n.notes.length<=16
def bF (n:Notes):Bool:=open Classical in decide (gQ n.reg)&&decide (n.notes.length<=16)
theorem xJ (n:Notes):zP prog G 110 [l6 n] (bv (!bF n)):=by
 refine zf func110 ntmps110 ?_;try simp only[l6]
 have c1:=AI (G:=G) n.reg;have hE:bF n=(open Classical in decide (gQ n.reg)&&decide (n.notes.length<=16)):=rfl;by_cases hS:gQ n.reg
 ·have c1':∀ objs,DCall prog G 167 [A6 n.reg] objs (λd objs'=>d=bv false/\objs'=objs):=λobjs=>(c1 objs).mono λd o ⟨h1,h2⟩=>⟨by rw[h1];simp[hS],h2⟩
  rw[decide_eq_true hS,Bool.true_and] at hE;repeat' first|(with_reducible first|refine zz ?_|refine zx ?_|refine zE [0,1,2] ?_)|simp -dsimp|refine zp c1' ?_
  rw[hE,<- decide_not,decide_eq_decide];omega
 ·have c1':∀ objs,DCall prog G 167 [A6 n.reg] objs (λd objs'=>d=bv true/\objs'=objs):=λobjs=>(c1 objs).mono λd o ⟨h1,h2⟩=>⟨by rw[h1];simp[hS],h2⟩
  rw[decide_eq_false hS,Bool.false_and] at hE;repeat' first|(with_reducible first|refine zz ?_|refine zx ?_|refine zE [0,1,2] ?_)|simp -dsimp|refine zp c1' ?_
  rw[hE];try rfl
@[simp] abbrev KD:List Nat:=[0,1,2,3,4,5,20,25,38]
theorem zI (n:Notes) (hs:nW n):zP prog G 117 [l6 n,l6 n] (bv true):=by
 refine zf func117 ntmps117 ?_;try simp only[l6,l6]
 have c1:=BY (G:=G) n.reg n.reg hs.1;simp only[decide_true] at c1;have hl:=hs.2;have hs:=trivial;repeat' first|(with_reducible first|refine zz ?_|refine zE KD ?_)|simp -dsimp[hs]|refine zp c1 ?_|refine i7 ?_ ?_<;>intro h<;>try exact h.elim
 all_goals try clear hs
 refine g9 (ι:={ k:Nat // k<=n.notes.length }) (λp=>⟨39,[(2,.one (.ptr 0 0)),(3,.one (.ptr 1 0)),(4,bv false),(5,iv (p.1:Int))],[.row ((m7 n).map .im),.row ((m7 n).map .im)]⟩) (λp=>n.notes.length-p.1) ⟨0,by simp⟩ (zv [2,3,4,5]) ?_;rintro⟨k,hk⟩;simp only[iv,bv];by_cases hlt:k<n.notes.length
 ·have hw:=zk k;generalize hx:n.notes[k]=x;have hs:=za hx (za hlt hw);repeat' first|with_reducible refine zz ?_|simp -dsimp[hs]|refine zM 6 39 11 KD ?_|with_reducible refine zE KD ?_|refine i7 ?_ ?_<;>intro h<;>try exact h.elim
  all_goals try clear hs
  exact zn ⟨k+1,by omega⟩ (zv [2,3,4,5])
 ·have hs:=hlt;repeat' first|(with_reducible first|refine zz ?_|refine zr ?_|refine zE KD ?_)|simp -dsimp[hs]|refine i7 ?_ ?_<;>intro h<;>try exact h.elim
  all_goals try clear hs
theorem zo (n:Notes) (hs:nW n):zP prog G 111 [l6 n] (l6 n):=by
 refine zf func111 ntmps111 ?_;try simp only[l6]
 have c1:=BQ (G:=G) n.reg hs.1;have hl:=hs.2;have hs:=trivial;repeat' first|(with_reducible first|refine zz ?_|refine And.intro (by omega) ?_|refine zr ?_)|simp -dsimp[hs]|refine zq c1 ?_|refine zM 1 11 8 [0,1,2] ?_|with_reducible refine zE [0,1,2] ?_
 all_goals try clear hs
end Go.Proofs
namespace Go.Ab
open Go
def ej (b:Bool):List IC:=[rB b]
def vS (l:List Bool):DV:=.one (.im (.sl (l.map ej)))
attribute [simp] ej vS
def lD (l:List Note) (b:List Bool) (d:Int):Nat->Int
 | 0=>-1
 | k+1=>if b[k]?=some true/\(l[k]?.map (·.drawing))=some d then (k:Int) else lD l b d k
theorem rM (l:List Note) (b:List Bool) (d:Int):∀ k,-1<=lD l b d k/\lD l b d k<k
 | 0=>by simp[lD]
 | k+1=>by
   have:=rM l b d k;unfold lD;split<;>omega
def az (l:List Note) (b:List Bool) (d:Int):Int:=if lD l b d b.length<0 then 1 else match l[(lD l b d b.length).toNat]? with|some x=>x.letter|none=>0
end Go.Ab
namespace Go.Proofs
open Go Go.Ab
variable {G:Hn}
@[simp] abbrev KE:List Nat:=[0,1,2,3,6,7,8,12,28]
theorem Fo (n:Notes) (b:List Bool) (d:Int) (hb:b.length=n.notes.length) (hl:n.notes.length<1000):zP Tryz.prog G 259 [l6 n,vS b,iv d] (iv (lD n.notes b d b.length)):=by
 refine zf Tryz.func259 Tryz.ntmps259 ?_;try simp only[l6,iv]
 simp only[vS];have hs:=trivial;repeat' first|(with_reducible first|refine zz ?_|refine zE KE ?_)|simp -dsimp[hs]
 refine g9 (ι:={ k:Nat // k<=b.length }) (λp=>⟨31,[(1,vS b),(2,iv d),(3,.one (.ptr 0 0)),(6,iv 0),(7,iv (lD n.notes b d p.1)),(8,iv (p.1:Int))],[.row ((m7 n).map .im)]⟩) (λp=>b.length-p.1) ⟨0,by simp⟩ (zv [1,2,3,6,7,8] (by simp[lD])) ?_;rintro⟨k,hk⟩;simp only[iv,vS];by_cases hlt:k<b.length
 ·have hlt2:k<n.notes.length:=by omega
  have hw:=zk k;have hst:lD n.notes b d (k+1)=if b[k]=true/\n.notes[k].drawing=d then (k:Int) else lD n.notes b d k:=by
   rw[lD,List.getElem?_eq_getElem hlt,List.getElem?_eq_getElem hlt2];simp
  generalize hx:n.notes[k]=x at *;generalize hy:b[k]=y at *;cases y
  ·simp at hst;have hs:=za hx (za hy (za hlt (za hlt2 hw)));repeat' first|(with_reducible first|refine zz ?_|refine zE KE ?_)|simp -dsimp[hs]|refine i7 ?_ ?_<;>intro h<;>try exact h.elim
   exact zn ⟨k+1,by omega⟩ (zv [1,2,3,6,7,8] (by simp[hst]))
  ·simp at hst;have hs:=za hx (za hy (za hlt (za hlt2 hw)));repeat' first|(with_reducible first|refine zz ?_|refine zE KE ?_)|simp -dsimp[hs]|refine i7 ?_ ?_<;>intro h<;>try exact h.elim
   all_goals try clear hs
   ·exact zn ⟨k+1,by omega⟩ (zv [1,2,3,6,7,8] (by simp_all))
   ·exact zn ⟨k+1,by omega⟩ (zv [1,2,3,6,7,8] (by simp_all))
 ·have e:k=b.length:=by omega
  have hs:=hlt;repeat' first|(with_reducible first|refine zz ?_|refine zr ?_|refine zE KE ?_)|simp -dsimp[hs]|refine i7 ?_ ?_<;>intro h<;>try exact h.elim
  try simp[e]
end Go.Proofs
namespace Go.Proofs
open Go Go.Ab Tryz
variable {G:Hn}
theorem up (n:Notes) (b:List Bool) (d:Int) (hb:b.length=n.notes.length) (hl:n.notes.length<1000):zP prog G 221 [l6 n,vS b,iv d] (iv (az n.notes b d)):=by
 refine zf func221 ntmps221 ?_;try simp only[l6,iv]
 simp only[vS];have c1:=Fo (G:=G) n b d hb hl;have hlt:=rM n.notes b d b.length;simp only[vS] at c1;unfold az;generalize lD n.notes b d b.length=m at *;by_cases h00:m<0
 ·have h01:¬ 0<=m:=by omega
  have hs:=za h00 h01;repeat' first|(with_reducible first|refine zz ?_|refine zr ?_|refine zE [0,1,2,3,6,7,13] ?_)|simp -dsimp[hs]|refine zp c1 ?_|refine i7 ?_ ?_<;>intro h<;>try exact h.elim
  all_goals try omega
 ·obtain⟨j,rfl⟩:=Int.eq_ofNat_of_zero_le (show 0<=m by omega);have hj:j<n.notes.length:=by omega
  have hs:=za h00 hj;repeat' first|(with_reducible first|refine zz ?_|refine zr ?_|refine zE [0,1,2,3,6,7,13] ?_)|simp -dsimp[hs]|refine zp c1 ?_|refine i7 ?_ ?_<;>intro h<;>try exact h.elim
end Go.Proofs
namespace Go.Ab
open Go
def pm (signed without:List Int) (m:Int) (x:Note):Bool:=(decide (x.signed=2)||decide (x.number∈signed)) && !decide (x.number∈without)&&(decide (x.frm<=m)&&decide (m<=x.to))
def ei (n:Int):List Note->List Bool->Bool
 | y :: l,b :: o=>!(b&&decide (y.cancels=n))&&ei n l o
 | _,_=>true
def E3 (signed without:List Int) (m:Int):List Note->List Bool
 | []=>[]
 | x :: r=>(pm signed without m x&&ei x.number r (E3 signed without m r)) :: E3 signed without m r
theorem V7 (signed without:List Int) (m:Int):∀ l,(E3 signed without m l).length=l.length
 | []=>rfl
 | x :: r=>by simp[E3,V7 signed without m r]
@[simp] theorem ES (L:List Bool) (k:Nat) (v:Bool):(l8 (L.map ej)).set k [DC.im (.raw (.bool v))]=l8 ((L.set k v).map ej):=by
 simp only[l8,List.map_set,ej,rB,List.map_cons,List.map_nil]
@[simp] theorem EX (L:List Bool) (k:Nat) (h:k<(l8 (L.map ej)).length):(l8 (L.map ej))[k]=[DC.im (.raw (.bool (L[k]'(by simpa[o3] using h))))]:=by
 simp[l8]
theorem mF (signed without:List Int) (m:Int):∀ (l:List Note) (k:Nat),(E3 signed without m l).drop k=E3 signed without m (l.drop k)
 | _,0=>rfl
 | [],_+1=>rfl
 | x :: r,k+1=>by simp[E3,mF signed without m r k]
end Go.Ab
namespace Go.Proofs
open Go Go.Ab
variable {G:Hn}
@[simp] abbrev LY:List Nat:=[0,1,2,3,4,8,9,10,11,12,13,23,61]
theorem xP (n:Notes) (signed without:List Int) (m:Int) (hl:n.notes.length<1000) (hsi:signed.length<1000) (hwo:without.length<1000):zP Tryz.prog G 220 [l6 n,n9 signed,n9 without,iv m] (vS (E3 signed without m n.notes)):=by
 refine zf Tryz.func220 Tryz.ntmps220 ?_;try simp only[l6,n9,n9,iv]
 have hw0:IntKind.i64.wrap ((n.notes.length:Int)-1)=(n.notes.length:Int)-1:=m9 (by omega) (by omega);have hs:=hw0;repeat' first|(with_reducible first|refine zz ?_|refine And.intro (by omega) ?_|refine zE LY ?_)|simp -dsimp[hs]
 all_goals try clear hs
 refine g9 (ι:={ i:Nat // i<=n.notes.length }) (λp=>⟨88,[(1,n9 signed),(2,n9 without),(3,iv m),(4,.one (.ptr 0 0)),(8,.one (.vec 1 0 0 0)),(9,.one (.vec 2 0 0 n.notes.length)),(10,iv ((p.1:Int)-1))],[.row ((m7 n).map .im),.vec 1 [] 0 true,.vec 1 (l8 ((List.replicate p.1 false++E3 signed without m (n.notes.drop p.1)).map ej)) 0 false]⟩) (λp=>p.1) ⟨n.notes.length,Nat.le_refl _⟩ (zv [1,2,3,4,8,9,10] (by simp[E3])) ?_;rintro⟨i,hi⟩;simp only[iv,n9];cases i with
 | zero =>
   have hlen:=V7 signed without m n.notes;have htk:(l8 ((E3 signed without m n.notes).map ej)).take n.notes.length=l8 ((E3 signed without m n.notes).map ej):=List.take_of_length_le (by simp[o3,hlen]);have hs:=za hlen htk;repeat' first|(with_reducible first|refine zz ?_|refine zr ?_|refine zE LY ?_)|simp -dsimp[hs]|refine i7 ?_ ?_<;>intro h<;>try exact h.elim
   all_goals try clear hs
 | succ j =>
   have hj:j<n.notes.length:=hi;have hwj:IntKind.i64.wrap ((j:Int)-1)=(j:Int)-1:=m9 (by omega) (by omega);generalize hx:n.notes[j]=x;have c1:=ri (G:=G) signed x.number (by omega);have c2:=ri (G:=G) without x.number (by omega);have c3:=aZ (G:=G) m x.frm x.to;have hwk:=zk j;obtain⟨O,hO⟩:∃ O,O=List.replicate (j+1) false++E3 signed without m (n.notes.drop (j+1)):=⟨_,rfl⟩
   have hOl:O.length=n.notes.length:=by rw[hO];simp[V7];omega
   have hOi:l8 (List.replicate (j+1) [IC.raw (.bool false)])++l8 ((E3 signed without m (n.notes.drop (j+1))).map ej)=l8 (O.map ej):=by rw[hO];simp
   have hOk:∀ (k:Nat) (h1:j+1<=k) (h2:k<n.notes.length),E3 signed without m (n.notes.drop k)=O[k] :: E3 signed without m (n.notes.drop (k+1)):=by
    have hOd:∀ q,j+1<=q->O.drop q=E3 signed without m (n.notes.drop q):=λq hq=>by
     obtain⟨r,rfl⟩:=Nat.exists_eq_add_of_le hq;rw[hO,<- List.drop_drop,List.drop_left' (by simp),mF,List.drop_drop]
    intro k h1 h2;rw[<- hOd k h1,<- hOd (k+1) (by omega)];exact List.drop_eq_getElem_cons (by omega)
   have hs:=za hx (za hj (za hwj hwk));repeat' first|(with_reducible first|refine zz ?_|refine zE LY ?_)|simp -dsimp[hs]|refine zp c1 ?_|refine zp c2 ?_|refine zp c3 ?_|refine i7 ?_ ?_<;>intro h<;>try exact h.elim|with_reducible refine j0 ?_ ?_<;>intro h<;>have h0:=h<;>(try simp only[i6] at h)<;>have h2:=h<;>(try simp at h2)<;>replace hs:=za h0 (za h (za h2 hs))
   all_goals try clear hs
   all_goals simp only[hOi]
   all_goals refine g9 (ι:={ p:Nat×Bool // j+1<=p.1/\p.1<=n.notes.length/\(pm signed without m x&&ei x.number (n.notes.drop (j+1)) (E3 signed without m (n.notes.drop (j+1))))=(p.2&&ei x.number (n.notes.drop p.1) (E3 signed without m (n.notes.drop p.1))) }) (λp=>⟨88,[(1,n9 signed),(2,n9 without),(3,iv m),(4,.one (.ptr 0 0)),(8,.one (.vec 1 0 0 0)),(9,.one (.vec 2 0 0 n.notes.length)),(10,iv (j:Int)),(11,.one (.ptr 3 0)),(12,bv p.1.2),(13,iv (p.1.1:Int))],[.row ((m7 n).map .im),.vec 1 [] 0 true,.vec 1 (l8 (O.map ej)) 0 false,.row ((n8 x).map .im)]⟩) (λp=>n.notes.length-p.1.1) ⟨(j+1,pm signed without m x),by simp;omega⟩ (zv [1,2,3,4,8,9,10,11,12,13] (by clear hO hOi hOk hOl hx hwk hwj hw0 c1 c2 c3;simp[pm, *])) ?_
   all_goals
    rintro⟨⟨k,v⟩,hk1,hk2,hv⟩;simp only at hk1 hk2 hv;simp only[iv,n9,bv];by_cases hlk:k<n.notes.length
    ·have hwk2:=zk k;have hko:k<O.length:=by omega
     rw[hOk k hk1 hlk,List.drop_eq_getElem_cons hlk,ei] at hv;clear hOk hOi hO;generalize hy:n.notes[k]=y at *;generalize hz:O[k]=z at *;cases v<;>cases z
     all_goals
      have hs:=za hy (za hz (za hlk (za hko (za hwk2 hOl))));repeat' first|with_reducible refine zz ?_|simp -dsimp[hs]|refine zM 10 88 20 LY ?_|with_reducible refine zE LY ?_|refine i7 ?_ ?_<;>intro h<;>try exact h.elim
      all_goals try clear hs
     all_goals exact zn ⟨(k+1,_),by simp only;omega,by simp only;omega,hv.trans (Bool.and_assoc ..).symm⟩ (zv [1,2,3,4,8,9,10,11,12,13] (by simp;try (cases decide (y.cancels=x.number)<;>rfl)))
    ·have e:k=n.notes.length:=by omega
     have hend:(List.replicate j false++E3 signed without m (n.notes.drop j))=O.set j v:=by
      have hnil:ei x.number (n.notes.drop k) (E3 signed without m (n.notes.drop k))=true:=by
       rw[List.drop_eq_nil_of_le (by omega)];rfl
      rw[hnil,Bool.and_true] at hv;rw[List.drop_eq_getElem_cons hj,hx,E3,hv,hO,List.replicate_succ',List.append_assoc];simp
     have hend2:l8 ((O.map ej).set j [IC.raw (.bool v)])=l8 (List.replicate j [IC.raw (.bool false)])++l8 ((E3 signed without m (n.notes.drop j)).map ej):=by
      rw[show [IC.raw (.bool v)]=ej v from rfl,<- List.map_set,<- hend,List.map_append,L3];simp
     have hjO:j<O.length:=by omega
     clear hOk hOi hO;have hs:=za hlk (za hj (za hOl hjO));repeat' first|(with_reducible first|refine zz ?_|refine zE LY ?_)|simp -dsimp[hs]|refine i7 ?_ ?_<;>intro h<;>try exact h.elim
     all_goals try clear hs
     all_goals exact At.round ⟨j,by omega⟩ (by simp) (zw [1,2,3,4,8,9,10] 3 (by simp[hend2,hwj]))
end Go.Proofs
namespace Go.Proofs
open Go Go.Ab
def E1 (l:List Note) (i:Nat):Int:=((l[i]?).map (·.number)).getD 0
def jo (l:List Note) (i:Nat):Bool:=match l[i]? with|some x=>decide (x.signed=1)|none=>false
structure OpenTo (l:List Note) (k:Nat) (S:List Nat):Prop where
 perm:S.Perm ((List.range k).filter (jo l))
 srt:S.Pairwise λa b=>E1 l a<=E1 l b
theorem OpenTo.nil (l:List Note):OpenTo l 0 []:=⟨by simp,by simp⟩
theorem OpenTo.lt {l:List Note} {k:Nat} {S:List Nat} (h:OpenTo l k S):∀ i∈S,i<k/\jo l i=true:=λi hi=>by
 have:=h.perm.mem_iff.1 hi;simpa using this
theorem OpenTo.len {l:List Note} {k:Nat} {S:List Nat} (h:OpenTo l k S):S.length<=k:=by
 rw[h.perm.length_eq];have:=List.length_filter_le (jo l) (List.range k);simpa using this
theorem OpenTo.skip {l:List Note} {k:Nat} {S:List Nat} (h:OpenTo l k S) (hk:jo l k=false):OpenTo l (k+1) S:=
 ⟨by rw[List.range_succ,List.filter_append];simpa[hk] using h.perm,h.srt⟩
theorem OpenTo.put {l:List Note} {k:Nat} {S:List Nat} (h:OpenTo l k S) (hk:jo l k=true) (q:Nat)
 (h1:∀ i∈S.take q,E1 l i<=E1 l k) (h2:∀ i∈S.drop q,E1 l k<=E1 l i):OpenTo l (k+1) (S.take q++k :: S.drop q):=by
 constructor
 ·rw[List.range_succ,List.filter_append];simp only[List.filter_cons,hk,if_true,List.filter_nil];refine List.perm_middle.trans ?_;rw[List.take_append_drop];exact(List.perm_append_singleton k _).symm.trans (List.Perm.append_right _ h.perm)
 ·have h3:=h.srt;rw[<- List.take_append_drop q S,List.pairwise_append] at h3;obtain⟨p1,p2,p3⟩:=h3;rw[List.pairwise_append,List.pairwise_cons];refine⟨p1,⟨h2,p2⟩,λa ha b hb=>?_⟩;rcases List.mem_cons.1 hb with rfl|hb
  ·exact h1 a ha
  ·exact p3 a ha b hb
theorem OpenTo.first {l:List Note} {k:Nat} {S:List Nat} (h:OpenTo l k S) {q:Nat} (hq:q<S.length) {v:Int} (hv:E1 l S[q]<=v):∀ i∈S.take (q+1),E1 l i<=v:=λi hi=>by
 obtain⟨j,hj,e⟩:=List.mem_take_iff_getElem.1 hi;have h3:=List.pairwise_iff_getElem.1 h.srt;by_cases he:j=q
 ·subst he;rw[<- e];exact hv
 ·have:=h3 j q (by omega) hq (by omega);rw[e] at this;omega
theorem gt (l:List Note):∀ k,k<=l.length->((List.range k).filter (jo l)).map (E1 l)=j7 (l.take k)
 | 0,_=>by simp[j7]
 | k+1,h=>by
   have hk:k<l.length:=by omega
   rw[List.range_succ,List.filter_append,List.map_append,gt l k (by omega),bN l k hk]
   congr 1
   have e:l[k]?=some l[k]:=by simp[hk]
   by_cases h1:l[k].signed=1
   ·simp[jo,e,h1,E1]
   ·simp[jo,e,h1]
theorem OpenTo.nums {l:List Note} {S:List Nat} (h:OpenTo l l.length S):S.map (E1 l)=l4 (j7 l):=by
 have h1:(S.map (E1 l)).Perm (l4 (j7 l)):=by
  refine(h.perm.map _).trans ?_;rw[gt l _ (Nat.le_refl _),List.take_length];exact(List.mergeSort_perm _ _).symm
 refine h1.eq_of_pairwise (le:=(·<=·)) (λa b _ _ h2 h3=>by omega) (by rw[List.pairwise_map];exact h.srt) ?_;have:=List.pairwise_mergeSort (le:=λx y:Int=>decide (x<=y)) (λa b c h1 h2=>by simp at *;omega) (λa b=>by simp;omega) (j7 l);exact this.imp λh=>by simpa using h
theorem isort_mem {l:List Int} {n:Int}:n∈l4 l↔n∈l:=(List.mergeSort_perm l _).mem_iff
theorem pc {l:List Int} (h:l.Nodup):(l4 l).Nodup:=(List.mergeSort_perm l _).nodup_iff.2 h
theorem nA (l:List Int):(l4 l).Pairwise (·<=·):=by
 have:=List.pairwise_mergeSort (le:=λx y:Int=>decide (x<=y)) (λa b c h1 h2=>by simp at *;omega) (λa b=>by simp;omega) l;exact this.imp λh=>by simpa using h
theorem fg (signed without:List Int) (m:Int):∀ (l:List Note) (k:Nat),(E3 signed without m l).drop k=E3 signed without m (l.drop k)
 | _,0=>rfl
 | [],_+1=>rfl
 | x :: r,k+1=>by simp[E3,fg signed without m r k]
theorem AQ {s w:List Int} {m:Int} {l:List Note} {k:Nat} (hk:k<l.length) (hk':k<(E3 s w m l).length):(E3 s w m l)[k]=(pm s w m l[k]&&ei l[k].number (l.drop (k+1)) ((E3 s w m l).drop (k+1))):=by
 have h1:=fg s w m l k;rw[List.drop_eq_getElem_cons hk,List.drop_eq_getElem_cons hk',E3] at h1;rw[fg];exact(List.cons.inj h1).1
theorem uC {n:Int} {l:List Note} {F:List Bool} {k:Nat} (hk:k<l.length) (hf:k<F.length):ei n (l.drop k) (F.drop k)=(!(F[k]&&decide (l[k].cancels=n))&&ei n (l.drop (k+1)) (F.drop (k+1))):=by
 rw[List.drop_eq_getElem_cons hk,List.drop_eq_getElem_cons hf,ei]
theorem xN {n:Int} {l:List Note} {F:List Bool} {k:Nat} (hk:l.length<=k):ei n (l.drop k) (F.drop k)=true:=by
 rw[List.drop_eq_nil_of_le hk];rfl
def kw:Note:=⟨0,0,0,0,1,0,0,0,false,0⟩
def Dm (l:List Note) (b:List Bool) (d:Int):Nat->Note
 | 0=>kw
 | k+1=>match l[k]? with
   | some x=>if b[k]?=some true/\x.drawing=d then x else Dm l b d k
   | none=>kw
theorem BL (l:List Note) (b:List Bool) (d:Int):∀ k,k<=l.length->Dm l b d k=if lD l b d k<0 then kw else match l[(lD l b d k).toNat]? with|some x=>x|none=>kw
 | 0,_=>by simp[Dm,lD]
 | k+1,h=>by
   have hk:k<l.length:=by omega
   have e:l[k]?=some l[k]:=by simp[hk]
   simp only[Dm,lD,e,Option.map_some,Option.some.injEq];split
   ·rw[if_neg (by omega)];simp[e]
   ·exact BL l b d k (by omega)
end Go.Proofs
