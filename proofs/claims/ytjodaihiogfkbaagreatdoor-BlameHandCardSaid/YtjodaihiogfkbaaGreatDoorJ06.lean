/- Part 24 of the proofs. -/
import Derived.Shelf.Sort.Plain
import Derived.Shelf.Slices.In.SortNone
import Derived.Ground.NamesProg
import Derived.Shelf.Lays
import Derived.Shelf.SlGeneric
import Derived.Shelf.SlSortCmp.NoneTotal
import Derived.Ground.SlsfProg
import Derived.Test.YtjodaihiogfkbaaGreatDoorV14
import Derived.Test.YtjodaihiogfkbaaGreatDoorV15
import Derived.Test.YtjodaihiogfkbaaGreatDoorV18
import Derived.Test.YtjodaihiogfkbaaGreatDoorJ02
import Derived.Test.YtjodaihiogfkbaaGreatDoorJ03
import Derived.Test.YtjodaihiogfkbaaGreatDoorJ04
import Derived.Test.YtjodaihiogfkbaaGreatDoorJ05
set_option linter.all false
set_option linter.deprecated false
set_option maxHeartbeats 100000000
namespace Go.Ab
open Go
abbrev Gp:=Nat×Bool
def sd (b:Nat→Nat×Nat) (m:Nat→Gp×Gp) (i k:Nat) (x:Issue):List DC:=if k<i then [.im (rI x.drawing),.im (rI x.letter),.im (.raw (.int .u8 x.kind)),.vec (b k).1 (m k).1.1 0 x.items.length,.vec (b k).2 (m k).2.1 0 x.dims.length] else (g9 x).map .im
def bc (b:Nat→Nat×Nat) (m:Nat→Gp×Gp) (i:Nat) (l:List Issue):List (List DC):=l.mapIdx (sd b m i)
def jp (l:List Issue) (m:Nat→Gp×Gp) (k:Nat):Q4:=match l[k]? with
 | some x=>(.vec 2 [] 0 true,.vec 2 (l8 (x.items.map A4)) (m k).1.1 (m k).1.2,.vec 3 [] 0 true,.vec 3 (l8 (x.dims.map B0)) (m k).2.1 (m k).2.2)
 | none=>(.gone,.gone,.gone,.gone)
def sh (b:Nat→Nat) (m:Nat→Gp) (i k:Nat) (x:Holder):List DC:=if k<i then [.im (rI x.id),.im (rI x.frm),.im (rI x.to),.vec (b k) (m k).1 0 x.draws.length] else (o2 x).map .im
def bh (b:Nat→Nat) (m:Nat→Gp) (i:Nat) (l:List Holder):List (List DC):=l.mapIdx (sh b m i)
def kT (l:List Holder) (m:Nat→Gp) (k:Nat):Q2:=match l[k]? with
 | some x=>(.vec 1 [] 0 true,.vec 1 (l8 (x.draws.map Ab.encI)) (m k).1 (m k).2)
 | none=>(.gone,.gone)
@[simp] theorem Hg (b:Nat→Nat×Nat) (m:Nat→Gp×Gp) (i:Nat) (l:List Issue):(bc b m i l).length=l.length:=by simp[bc]
@[simp] theorem Hq (b:Nat→Nat) (m:Nat→Gp) (i:Nat) (l:List Holder):(bh b m i l).length=l.length:=by simp[bh]
theorem vG (b:Nat→Nat×Nat) (m:Nat→Gp×Gp) (l:List Issue):bc b m 0 l=l8 (l.map g9):=by
 unfold bc l8
 apply List.ext_getElem?
 intro k
 simp[List.getElem?_mapIdx,sd]
 rfl
theorem vQ (b:Nat→Nat) (m:Nat→Gp) (l:List Holder):bh b m 0 l=l8 (l.map o2):=by
 unfold bh l8
 apply List.ext_getElem?
 intro k
 simp[List.getElem?_mapIdx,sh]
 rfl
theorem Cn {b:Nat→Nat×Nat} {m:Nat→Gp×Gp} {i:Nat} {l:List Issue} {x:Issue} (h:l[i]?=some x):(bc b m i l)[i]?=some ((g9 x).map .im):=by
 simp[bc,List.getElem?_mapIdx,h,sd]
theorem Cv {b:Nat→Nat} {m:Nat→Gp} {i:Nat} {l:List Holder} {x:Holder} (h:l[i]?=some x):(bh b m i l)[i]?=some ((o2 x).map .im):=by
 simp[bh,List.getElem?_mapIdx,h,sh]
def fr {α:Type} (m:Nat→α) (i:Nat) (g:α) (k:Nat):α:=if k=i then g else m k
theorem yJ {b:Nat→Nat×Nat} {m:Nat→Gp×Gp} {i:Nat} {l:List Issue} {x:Issue} (h:l[i]?=some x) (g:Gp×Gp):(bc b m i l).set i [.im (rI x.drawing),.im (rI x.letter),.im (.raw (.int .u8 x.kind)),.vec (b i).1 g.1.1 0 x.items.length,.vec (b i).2 g.2.1 0 x.dims.length]=bc b (fr m i g) (i+1) l:=by
 apply List.ext_getElem?
 intro k
 rw[List.getElem?_set]
 by_cases e:i=k
 ·subst e
  have hlt:=e7 h
  rw[if_pos rfl,if_pos (by simpa using hlt)]
  simp only[bc,List.getElem?_mapIdx,h,Option.map_some,sd,fr,if_true,Nat.lt_succ_self]
 ·rw[if_neg e]
  simp only[bc,List.getElem?_mapIdx]
  have h1:¬ k=i:=fun h=>e h.symm
  cases hk:l[k]? with
  | none=>rfl
  | some y =>
    simp only[Option.map_some,sd,fr,if_neg h1]
    by_cases h2:k<i
    ·rw[if_pos h2,if_pos (by omega)]
    ·rw[if_neg h2,if_neg (by omega)]
theorem yV {b:Nat→Nat} {m:Nat→Gp} {i:Nat} {l:List Holder} {x:Holder} (h:l[i]?=some x) (g:Gp):(bh b m i l).set i [.im (rI x.id),.im (rI x.frm),.im (rI x.to),.vec (b i) g.1 0 x.draws.length]=bh b (fr m i g) (i+1) l:=by
 apply List.ext_getElem?
 intro k
 rw[List.getElem?_set]
 by_cases e:i=k
 ·subst e
  have hlt:=e7 h
  rw[if_pos rfl,if_pos (by simpa using hlt)]
  simp only[bh,List.getElem?_mapIdx,h,Option.map_some,sh,fr,if_true,Nat.lt_succ_self]
 ·rw[if_neg e]
  simp only[bh,List.getElem?_mapIdx]
  have h1:¬ k=i:=fun h=>e h.symm
  cases hk:l[k]? with
  | none=>rfl
  | some y =>
    simp only[Option.map_some,sh,fr,if_neg h1]
    by_cases h2:k<i
    ·rw[if_pos h2,if_pos (by omega)]
    ·rw[if_neg h2,if_neg (by omega)]
theorem vF {l:List Issue} {m:Nat→Gp×Gp} {i:Nat} {x:Issue} (h:l[i]?=some x) (g:Gp×Gp):E7 (jp l (fr m i g)) (i+1)=E7 (jp l m) i++[.vec 2 [] 0 true,.vec 2 (l8 (x.items.map A4)) g.1.1 g.1.2,.vec 3 [] 0 true,.vec 3 (l8 (x.dims.map B0)) g.2.1 g.2.2]:=by
 rw[E7,cZ (H:=jp l m) fun k hk=>by unfold jp fr;rw[if_neg (by omega)]]
 simp[jp,h,fr]
theorem vP {l:List Holder} {m:Nat→Gp} {i:Nat} {x:Holder} (h:l[i]?=some x) (g:Gp):I2 (kT l (fr m i g)) (i+1)=I2 (kT l m) i++[.vec 1 [] 0 true,.vec 1 (l8 (x.draws.map Ab.encI)) g.1 g.2]:=by
 rw[I2,da (H:=kT l m) fun k hk=>by unfold kT fr;rw[if_neg (by omega)]]
 simp[kT,h,fr]
abbrev Bb:=(Gp×Gp)×(Nat→Gp×Gp)×(Gp×Gp)×(Nat→Gp)×(Gp×Gp)
def sN (s k:Nat):Nat×Nat:=(4*k+(13+s),4*k+(15+s))
def sO (N s k:Nat):Nat:=4*N+2*k+(17+s)
def oy (s:Nat) (m:Bb) (c:Case):List DC:=[.vec (9+s) m.1.1.1 0 c.p.n.reg.length,.vec (11+s) m.1.2.1 0 c.p.n.notes.length,.vec (4*c.p.n.reg.length+(13+s)) m.2.2.1.1.1 0 c.p.holders.length,.vec (4*c.p.n.reg.length+(15+s)) m.2.2.1.2.1 0 c.p.prints.length,.im (rI c.machine),.im (rI c.of),.vec (4*c.p.n.reg.length+2*c.p.holders.length+(17+s)) m.2.2.2.2.1.1 0 c.loop.links.length,.im (rI c.loop.lo),.im (rI c.loop.hi),.vec (4*c.p.n.reg.length+2*c.p.holders.length+(19+s)) m.2.2.2.2.2.1 0 c.pieces.length]
def qh (s:Nat) (m:Bb) (c:Case):List DObj:=.row (oy s m c) :: .vec 0 [] 0 true :: .vec 0 [] 0 true :: .vec 0 [] 0 true :: .vec 0 [] 0 true :: .vec 0 [] 0 true :: .vec 0 [] 0 true :: .row (oy s m c) :: .vec 5 [] 0 true :: .vec 5 (bc (sN s) m.2.1 c.p.n.reg.length c.p.n.reg) m.1.1.1 m.1.1.2 :: .vec 10 [] 0 true :: .vec 10 (l8 (c.p.n.notes.map j9)) m.1.2.1 m.1.2.2 :: (E7 (jp c.p.n.reg m.2.1) c.p.n.reg.length ++ .vec 4 [] 0 true :: .vec 4 (bh (sO c.p.n.reg.length s) m.2.2.2.1 c.p.holders.length c.p.holders) m.2.2.1.1.1 m.2.2.1.1.2 :: .vec 7 [] 0 true :: .vec 7 (l8 (c.p.prints.map w5)) m.2.2.1.2.1 m.2.2.1.2.2 :: (I2 (kT c.p.holders m.2.2.2.1) c.p.holders.length++[.vec 3 [] 0 true,.vec 3 (l8 (c.loop.links.map F8)) m.2.2.2.2.1.1 m.2.2.2.2.1.2,.vec 4 [] 0 true,.vec 4 (l8 (c.pieces.map A2)) m.2.2.2.2.2.1 m.2.2.2.2.2.2]))
theorem nA (e:Nat→Nat) (l:List (List IC)):(l8 l).map (rnL e)=l8 l:=by
 unfold l8
 rw[List.map_map]
 exact List.map_congr_left fun x _=>eL e x
theorem By (a s:Nat) (m:Nat→Gp×Gp) (i:Nat) (l:List Issue):(bc (sN a) m i l).map (rnL fun o=>s+o)=bc (sN (a+s)) m i l:=by
 apply List.ext_getElem?
 intro k
 simp only[bc,List.getElem?_map,List.getElem?_mapIdx]
 cases l[k]? with
 | none=>rfl
 | some x =>
   simp only[Option.map_some,sd]
   by_cases h:k<i
   ·rw[if_pos h,if_pos h]
    simp only[rnL,gR,sN]
    rw[show s+(4*k+(13+a))=4*k+(13+(a+s)) by omega,show s+(4*k+(15+a))=4*k+(15+(a+s)) by omega]
   ·rw[if_neg h,if_neg h,eL]
theorem Bz (N a s:Nat) (m:Nat→Gp) (i:Nat) (l:List Holder):(bh (sO N a) m i l).map (rnL fun o=>s+o)=bh (sO N (a+s)) m i l:=by
 apply List.ext_getElem?
 intro k
 simp only[bh,List.getElem?_map,List.getElem?_mapIdx]
 cases l[k]? with
 | none=>rfl
 | some x =>
   simp only[Option.map_some,sh]
   by_cases h:k<i
   ·rw[if_pos h,if_pos h]
    simp only[rnL,gR,sO]
    rw[show s+(4*N+2*k+(17+a))=4*N+2*k+(17+(a+s)) by omega]
   ·rw[if_neg h,if_neg h,eL]
theorem xL (a s:Nat) (m:Bb) (c:Case):rnL (fun o=>s+o) (oy a m c)=oy (a+s) m c:=by
 simp only[oy,rnL,gR]
 simp only[List.cons.injEq,DC.vec.injEq,and_true,true_and]
 omega
theorem Ea (a s:Nat) (m:Bb) (c:Case):(qh a m c).map (cm fun o=>s+o)=qh (a+s) m c:=by
 have h4:(E7 (jp c.p.n.reg m.2.1) c.p.n.reg.length).map (cm fun o=>s+o)=E7 (jp c.p.n.reg m.2.1) c.p.n.reg.length:=by
  rw[mJ]
  refine cZ fun k hk=>?_
  unfold jp
  rw[List.getElem?_eq_getElem hk]
  simp only[cm,nA,List.map_nil]
 have h2:(I2 (kT c.p.holders m.2.2.2.1) c.p.holders.length).map (cm fun o=>s+o)=I2 (kT c.p.holders m.2.2.2.1) c.p.holders.length:=by
  rw[mL]
  refine da fun k hk=>?_
  unfold kT
  rw[List.getElem?_eq_getElem hk]
  simp only[cm,nA,List.map_nil]
 simp only[qh,List.map_cons,List.map_append,List.map_nil,cm,xL,By,Bz,nA,h4,h2]
theorem pZ (n:Nat):s9 [] n=fun o=>n+o:=by
 funext o;simp[s9]
theorem rQ (objs o:List DObj):n5 [] objs o=objs++o.map (cm fun k=>objs.length+k):=by
 unfold n5
 rw[pZ]
 simp[fJ]
end Go.Ab
namespace Go.Proofs
open Go Go.Ab
variable {G:JO}
attribute [simp] p5 bw L0 dZ r9 v8 nilV H8 ZK
theorem wB (c:Case) (hk:KC c):DCall Tryz.prog G 98 [n3 c] [] (fun d o=>∃ m:Bb,True∧d=.agg (oy 0 m c)∧o=qh 0 m c):=by
 generalize hQ:(fun (d:DV) (o:List DObj)=>∃ m:Bb,True∧d=.agg (oy 0 m c)∧o=qh 0 m c)=Q
 refine h9 Tryz.func98 rfl Tryz.ntmps98 (by simp) rfl ?_
 have c1:=HA (G:=G) c.p.n.reg (by have:=hk.p.n.1.1;omega)
 have c2:=Fp (G:=G) c.p.n.notes (by have:=hk.p.n.2.1;omega)
 unfold E3 at c1 c2
 simp only[List.length_map] at c1 c2
 simp only[n3]
 have hs:=trivial
 repeat' first|with_reducible refine zz ?_|simp -dsimp[hs]|refine CallE.embed_ex [] (c1) ?_ ?_ ?_ ?_ ?_ ?_;(focus simp[s9];done);(focus simp;done);(focus simp;done);(focus simp;done);(focus refine n9 ?_;simp[s9,p8];done);intro mmA hmmA;try simp -dsimp[n5,s9,hs]|refine CallE.embed_ex [] (c2) ?_ ?_ ?_ ?_ ?_ ?_;(focus simp[s9];done);(focus simp;done);(focus simp;done);(focus simp;done);(focus refine n9 ?_;simp[s9,p8];done);intro mmB hmmB;try simp -dsimp[n5,s9,hs]|refine W3 (id:=2) (nt:=117) [none,none,none,none,none,none,none,none,none,none,none,none,none,none,none,some [0],some [15],some [16],some [17],none,some [1],some [20],some [21],none] [0,1,2,3,4,5,6,7,9,10,11,12,13,15,16,17,18,20,21,22,8,14,19,23] 20 [([0,1,8,9,10,11,12,13,14,15,16,17,18,19],[0,1,2,3,4,5,6,15,36,37,38,85,86,87]),([0,1,13,14,15,16,17,18,19],[0,1,2,3,4,5,6,16,21,36,37,38,85,86,87]),([1,17,18,19],[0,1,2,3,4,5,6,16,22,26,36,37,38,85,86,87])] [0,1,2,3,4,5,6,36,37,38,85,86,87] mixed rfl (by kernel_rfl) (by kernel_rfl) (by kernel_rfl) ?_|with_reducible refine zE [0,1,2,3,4,5,6,36,37,38,85,86,87] ?_
 all_goals try clear hs
 refine i6 (ι:={ q:Nat×(Nat→Gp×Gp) // q.1≤c.p.n.reg.length }) (fun q=>⟨117,[(1,.one (.ptr 0 0)),(2,.one (.ptr 7 0)),(3,.one (.ptr 0 0)),(36,iv (c.p.n.reg.length:Int)),(37,iv (q.1.1:Int))],.row [.vec 9 mmA.1 0 c.p.n.reg.length,.vec 11 mmB.1 0 c.p.n.notes.length,.im (.sl (c.p.holders.map o2)),.im (.sl (c.p.prints.map w5)),.im (rI c.machine),.im (rI c.of),.im (.sl (c.loop.links.map F8)),.im (rI c.loop.lo),.im (rI c.loop.hi),.im (.sl (c.pieces.map A2))] :: .vec 0 [] 0 true :: .vec 0 [] 0 true :: .vec 0 [] 0 true :: .vec 0 [] 0 true :: .vec 0 [] 0 true :: .vec 0 [] 0 true :: .row [.vec 1 0 0 0,.vec 2 0 0 0,.vec 3 0 0 0,.vec 4 0 0 0,.im (rI 0),.im (rI 0),.vec 5 0 0 0,.im (rI 0),.im (rI 0),.vec 6 0 0 0] :: .vec 5 [] 0 true :: .vec 5 (bc (fun k=>(4*k+13,4*k+15)) q.1.2 q.1.1 c.p.n.reg) mmA.1 mmA.2 :: .vec 10 [] 0 true :: .vec 10 (l8 (c.p.n.notes.map j9)) mmB.1 mmB.2 :: E7 (jp c.p.n.reg q.1.2) q.1.1⟩) (fun q=>c.p.n.reg.length-q.1.1) ⟨(0,fun _=>((0,false),(0,false))),by simp⟩ (zv [1,2,3,36,37] (by simp[vG,E7])) ?_
 rintro⟨⟨i,m⟩,hi⟩
 simp only at hi
 simp only[iv,rI]
 by_cases hlt:i<c.p.n.reg.length
 ·have hw:IntKind.i64.wrap ((i:Int)+1)=((i+1:Nat):Int):=o3 (by omega) (by have:=hk.p.n.1.1;omega)
  have hx0:c.p.n.reg[i]?=some c.p.n.reg[i]:=by simp[hlt]
  have hxm:=hk.p.n.1.2 _ (List.mem_of_getElem? hx0)
  generalize c.p.n.reg[i]=x at *
  have c3:=Hz (G:=G) x.items (by omega)
  have c4:=HC (G:=G) x.dims (by omega)
  unfold E3 at c3 c4
  simp only[List.length_map] at c3 c4
  have hat:∀ h,(bc (fun k=>(4*k+13,4*k+15)) m i c.p.n.reg)[i]'h=(g9 x).map .im:=fun h=>by
   have:=Cn (b:=fun k=>(4*k+13,4*k+15)) (m:=m) hx0
   rw[List.getElem?_eq_getElem h] at this;exact Option.some.inj this
  simp only[g9,rI,List.map_cons,List.map_nil] at hat
  have hset:=fun g=>yJ (b:=fun k=>(4*k+13,4*k+15)) (m:=m) hx0 g
  have hsuc:=fun g=>vF (m:=m) hx0 g
  have hs:=za hlt (za hw hat)
  repeat' first|with_reducible refine zz ?_|simp -dsimp[hs]|refine CallE.embed_ex [] (c3) ?_ ?_ ?_ ?_ ?_ ?_;(focus simp[s9];done);(focus simp;done);(focus simp;done);(focus simp;done);(focus refine n9 ?_;simp[s9,p8];done);intro mmC hmmC;try simp -dsimp[n5,s9,hs]|refine CallE.embed_ex [] (c4) ?_ ?_ ?_ ?_ ?_ ?_;(focus simp[s9];done);(focus simp;done);(focus simp;done);(focus simp;done);(focus refine n9 ?_;simp[s9,p8];done);intro mmD hmmD;try simp -dsimp[n5,s9,hs]|refine W3 (id:=7) (nt:=117) [none,none,none,none,none,none,none,none,none,none,none,none,some [0],some [12],none,some [1],some [15],none] [0,1,2,3,4,5,7,8,9,10,12,13,15,16,6,11,14,17] 14 [([0,1,6,7,8,9,10,11,12,13],[0,1,2,3,4,5,6,36,37,38,53,85,86,87]),([0,1,10,11,12,13],[0,1,2,3,4,5,6,36,37,38,54,58,85,86,87]),([1,12,13],[0,1,2,3,4,5,6,36,37,38,54,59,61,85,86,87])] [0,1,2,3,4,5,6,36,37,38,85,86,87] mixed rfl (by kernel_rfl) (by kernel_rfl) (by kernel_rfl) ?_|with_reducible refine zE [0,1,2,3,4,5,6,36,37,38,85,86,87] ?_|refine i9 ?_ ?_<;>intro h<;>try simp only[i7] at h
  all_goals try clear hs
  refine At.round ⟨(i+1,fr m i (mmC,mmD)),by simp only;omega⟩ (by simp only;omega) (Weak.of_keep [1,2,3,36,37] ?_)
  rw[← hset (mmC,mmD),hsuc (mmC,mmD)]
  simp
 ·obtain rfl:i=c.p.n.reg.length:=by omega
  have c5:=Fr (G:=G) c.p.holders (by have:=hk.p.p.h;omega)
  have c6:=CQ (G:=G) c.p.prints (by have:=hk.p.p.q;omega)
  unfold E3 at c5 c6
  simp only[List.length_map] at c5 c6
  have hs:=hlt
  repeat' first|with_reducible refine zz ?_|simp -dsimp[hs]|refine CallE.embed_ex [] (c5) ?_ ?_ ?_ ?_ ?_ ?_;(focus simp[s9];done);(focus simp;done);(focus simp;done);(focus simp;done);(focus refine n9 ?_;simp[s9,p8];done);intro mmE hmmE;try simp -dsimp[n5,s9,hs]|refine CallE.embed_ex [] (c6) ?_ ?_ ?_ ?_ ?_ ?_;(focus simp[s9];done);(focus simp;done);(focus simp;done);(focus simp;done);(focus refine n9 ?_;simp[s9,p8];done);intro mmF hmmF;try simp -dsimp[n5,s9,hs]|refine W3 (id:=9) (nt:=117) [none,none,none,none,none,none,none,none,none,none,none,none,some [0],some [12],none,some [1],some [15],none] [0,1,2,3,4,5,7,8,9,10,12,13,15,16,6,11,14,17] 14 [([0,1,6,7,8,9,10,11,12,13],[0,1,2,3,4,5,6,36,37,38,70,85,86,87]),([0,1,10,11,12,13],[0,1,2,3,4,5,6,36,37,38,71,75,85,86,87]),([1,12,13],[0,1,2,3,4,5,6,36,37,38,71,76,78,85,86,87])] [0,1,2,3,4,5,6,36,37,38,85,86,87] mixed rfl (by kernel_rfl) (by kernel_rfl) (by kernel_rfl) ?_|with_reducible refine zE [0,1,2,3,4,5,6,36,37,38,85,86,87] ?_|refine i9 ?_ ?_<;>intro h<;>try simp only[i7] at h
  all_goals try clear hs
  clear hlt hi
  generalize hN:c.p.n.reg.length=N at *
  refine i6 (ι:={ q:Nat×(Nat→Gp) // q.1≤c.p.holders.length }) (fun q=>⟨117,[(1,.one (.ptr 0 0)),(2,.one (.ptr 7 0)),(3,.one (.ptr 0 0)),(85,iv (c.p.holders.length:Int)),(86,iv (q.1.1:Int))],.row [.vec 9 mmA.1 0 N,.vec 11 mmB.1 0 c.p.n.notes.length,.vec (4*N+13) mmE.1 0 c.p.holders.length,.vec (4*N+15) mmF.1 0 c.p.prints.length,.im (rI c.machine),.im (rI c.of),.im (.sl (c.loop.links.map F8)),.im (rI c.loop.lo),.im (rI c.loop.hi),.im (.sl (c.pieces.map A2))] :: .vec 0 [] 0 true :: .vec 0 [] 0 true :: .vec 0 [] 0 true :: .vec 0 [] 0 true :: .vec 0 [] 0 true :: .vec 0 [] 0 true :: .row [.vec 1 0 0 0,.vec 2 0 0 0,.vec 3 0 0 0,.vec 4 0 0 0,.im (rI 0),.im (rI 0),.vec 5 0 0 0,.im (rI 0),.im (rI 0),.vec 6 0 0 0] :: .vec 5 [] 0 true :: .vec 5 (bc (fun k=>(4*k+13,4*k+15)) m N c.p.n.reg) mmA.1 mmA.2 :: .vec 10 [] 0 true :: .vec 10 (l8 (c.p.n.notes.map j9)) mmB.1 mmB.2 :: (E7 (jp c.p.n.reg m) N ++ .vec 4 [] 0 true :: .vec 4 (bh (fun k=>4*N+2*k+17) q.1.2 q.1.1 c.p.holders) mmE.1 mmE.2 :: .vec 7 [] 0 true :: .vec 7 (l8 (c.p.prints.map w5)) mmF.1 mmF.2 :: I2 (kT c.p.holders q.1.2) q.1.1)⟩) (fun q=>c.p.holders.length-q.1.1) ⟨(0,fun _=>(0,false)),by simp⟩ (zv [1,2,3,85,86] (by simp[vQ,I2])) ?_
  rintro⟨⟨i,m2⟩,hi⟩
  simp only at hi
  simp only[iv,rI]
  by_cases hlt:i<c.p.holders.length
  ·have hw:IntKind.i64.wrap ((i:Int)+1)=((i+1:Nat):Int):=o3 (by omega) (by have:=hk.p.p.h;omega)
   have hx0:c.p.holders[i]?=some c.p.holders[i]:=by simp[hlt]
   have hxm:=hk.p.p.d _ (List.mem_of_getElem? hx0)
   generalize c.p.holders[i]=x at *
   have c3:=HB (G:=G) x.draws (by omega)
   unfold E3 at c3
   simp only[List.length_map] at c3
   have hat:∀ h,(bh (fun k=>4*N+2*k+17) m2 i c.p.holders)[i]'h=(o2 x).map .im:=fun h=>by
    have:=Cv (b:=fun k=>4*N+2*k+17) (m:=m2) hx0
    rw[List.getElem?_eq_getElem h] at this;exact Option.some.inj this
   simp only[o2,rI,List.map_cons,List.map_nil] at hat
   have hset:=fun g=>yV (b:=fun k=>4*N+2*k+17) (m:=m2) hx0 g
   have hsuc:=fun g=>vP (m:=m2) hx0 g
   have hs:=za hlt (za hw hat)
   repeat' first|with_reducible refine zz ?_|simp -dsimp[hs]|refine CallE.embed_ex [] (c3) ?_ ?_ ?_ ?_ ?_ ?_;(focus simp[s9];done);(focus simp;done);(focus simp;done);(focus simp;done);(focus refine n9 ?_;simp[s9,p8];done);intro mmC hmmC;try simp -dsimp[n5,s9,hs]|refine W3 (id:=13) (nt:=117) [none,none,none,none,none,none,none,none,none,none,none,none,none,none,some [3,4],some [14],none] [0,1,2,3,4,5,6,7,8,9,10,11,12,14,15,13,16] 15 [([0,1,2,3,4,13,14],[0,1,2,3,4,5,6,36,37,38,85,86,87,101])] [0,1,2,3,4,5,6,36,37,38,85,86,87] mixed rfl (by kernel_rfl) (by kernel_rfl) (by kernel_rfl) ?_|with_reducible refine zE [0,1,2,3,4,5,6,36,37,38,85,86,87] ?_|refine i9 ?_ ?_<;>intro h<;>try simp only[i7] at h
   all_goals try clear hs
   refine At.round ⟨(i+1,fr m2 i mmC),by simp only;omega⟩ (by simp only;omega) (Weak.of_keep [1,2,3,85,86] ?_)
   rw[← hset mmC,hsuc mmC]
   simp
   refine congrArg (fun a=>(bh (fun k=>4*N+2*k+17) m2 i c.p.holders).set i [_,_,_,DC.vec a _ _ _]) ?_
   omega
  ·obtain rfl:i=c.p.holders.length:=by omega
   have c7:=Fq (G:=G) c.loop.links (by have:=hk.l;omega)
   have c8:=CR (G:=G) c.pieces (by have:=hk.q;omega)
   unfold E3 at c7 c8
   simp only[List.length_map] at c7 c8
   have hs:=hlt
   repeat' first|(with_reducible first|refine zz ?_|refine zr ?_)|simp -dsimp[hs]|refine CallE.embed_ex [] (c7) ?_ ?_ ?_ ?_ ?_ ?_;(focus simp[s9];done);(focus simp;done);(focus simp;done);(focus simp;done);(focus refine n9 ?_;simp[s9,p8];done);intro mmG hmmG;try simp -dsimp[n5,s9,hs]|refine CallE.embed_ex [] (c8) ?_ ?_ ?_ ?_ ?_ ?_;(focus simp[s9];done);(focus simp;done);(focus simp;done);(focus simp;done);(focus refine n9 ?_;simp[s9,p8];done);intro mmH hmmH;try simp -dsimp[n5,s9,hs]|refine W3 (id:=15) (nt:=117) [none,none,none,none,none,none,none,some [],some [7],none,some [],none] [0,1,2,4,5,7,8,10,3,6,9,11] 8 [([3,4,5,6,7],[0,1,2,3,4,5,6,36,37,38,85,86,87,108]),([5,6,7],[0,1,2,3,4,5,6,36,37,38,85,86,87,109,111]),([7],[0,1,2,3,4,5,6,36,37,38,85,86,87,109,112,114])] [0,1,2,3,4,5,6,36,37,38,85,86,87] mixed rfl (by kernel_rfl) (by kernel_rfl) (by kernel_rfl) ?_|with_reducible refine zE [0,1,2,3,4,5,6,36,37,38,85,86,87] ?_|refine i9 ?_ ?_<;>intro h<;>try simp only[i7] at h
   all_goals try clear hs
   subst hQ
   refine⟨((mmA,mmB),m,(mmE,mmF),m2,(mmG,mmH)),trivial,?_,?_⟩
   ·simp only[oy,hN,DV.agg.injEq,List.cons.injEq,DC.vec.injEq,and_true,true_and,Nat.add_zero]
    exact⟨rfl,rfl,by omega,rfl,rfl,by omega⟩
   ·simp only[qh,oy,hN,List.cons.injEq,DObj.row.injEq,DC.vec.injEq,and_true,true_and,Nat.add_zero]
    exact⟨⟨rfl,rfl,by omega,rfl,rfl,by omega⟩,⟨rfl,rfl,by omega,rfl,rfl,by omega⟩,rfl,rfl⟩
end Go.Proofs
namespace Go.Proofs
open Go Go.Ab Tryz
variable {G:JO}
def IR (x:Piece) (lo hi:Int):Piece:=⟨x.holder,x.day,lo,hi⟩
def rK (c:Case) (k:Nat) (x:Piece) (lo hi:Int):Case:={ c with pieces:=c.pieces.set k (IR x lo hi) }
noncomputable def nH (c:Case) (n lo hi:Int):Int:=if T3 c n≠0 then T3 c n else match c.pieces[n.toNat]? with
 | some x=>if O1 lo hi x.lo x.hi=true then 0 else 2
 | none=>2
theorem BY {c:Case} {n lo hi:Int} (h:nH c n lo hi=0):s8 c=0∧∃ (k:Nat) (x:Piece),n=(k:Int)∧c.pieces[k]?=some x∧O1 lo hi x.lo x.hi=true:=by
 unfold nH at h
 by_cases h0:T3 c n=0
 ·rw[if_neg (by simp[h0])] at h
  obtain⟨he,hn0,hn1⟩:=pD h0
  obtain⟨k,rfl⟩:=Int.eq_ofNat_of_zero_le hn0
  rw[Int.toNat_natCast] at h
  cases hx:c.pieces[k]? with
  | none=>rw[hx] at h;simp at h
  | some x =>
    rw[hx] at h
    simp only at h
    by_cases hi':O1 lo hi x.lo x.hi=true
    ·exact⟨he,k,x,rfl,hx,hi'⟩
    ·rw[if_neg hi'] at h;exact absurd h (by decide)
 ·rw[if_pos (by exact h0)] at h;exact absurd h h0
def xl (s:Nat) (m:Bb) (c:Case) (lo hi:Int):List DObj:=.row (oy (9+s) m c) :: .row [.im (rI lo),.im (rI hi)] :: .vec 0 [] 0 true :: .vec 0 [] 0 true :: .vec 0 [] 0 true :: .vec 0 [] 0 true :: .vec 0 [] 0 true :: .vec 0 [] 0 true :: .row (oy (9+s) m c) :: qh (9+s) m c
theorem EF {l:List Piece} {k:Nat} {x:Piece} (lo hi:Int) (h:l[k]?=some x):(l8 (l.map A2)).set k [.im (.raw (.int .i64 x.holder)),.im (.raw (.int .i64 x.day)),.im (.raw (.int .i64 lo)),.im (.raw (.int .i64 hi))]=l8 ((l.set k (IR x lo hi)).map A2):=by
 rw[List.map_set]
 unfold l8
 rw[List.map_set]
 rfl
theorem Au (c:Case) (k:Nat) (x:Piece) (lo hi:Int) (hx0:c.pieces[k]?=some x) (h0:s8 c=0) (hin:O1 lo hi x.lo x.hi=true) (hG:o5 G) (hN:D7 G) (hS:u9 G) (hR:v7 G) (hk:KC c):DCall prog G 41 [n3 c,iv (k:Int),C3 lo hi] [] (fun d o=>∃ m:Bb,True∧d=.tup [.agg (oy 9 m (rK c k x lo hi)),iv 0]∧o=xl 0 m (rK c k x lo hi) lo hi):=by
 generalize hQ:(fun (d:DV) (o:List DObj)=>∃ m:Bb,True∧d=.tup [.agg (oy 9 m (rK c k x lo hi)),iv 0]∧o=xl 0 m (rK c k x lo hi) lo hi)=Q
 refine h9 func41 rfl ntmps41 (by simp) rfl ?_
 have hlt:k<c.pieces.length:=e7 hx0
 have hx:c.pieces[k]=x:=(List.getElem?_eq_some_iff.1 hx0).2
 have hq16:=hk.q
 have c1:=gF (G:=G) c hG hN hS hR hk
 rw[h0] at c1
 have c2:=M8 (G:=G) 0 ((c.pieces.length:Int)-1) [(k:Int)] (by simp)
 rw[show ([(k:Int)].all fun y=>decide (0≤y)&&decide (y≤(c.pieces.length:Int)-1))=true by simp;omega] at c2
 have c3:=be (G:=G) lo hi x.lo x.hi
 rw[hin] at c3
 have hw:IntKind.i64.wrap ((c.pieces.length:Int)-1)=(c.pieces.length:Int)-1:=o3 (by omega) (by omega)
 have c4:=wB (G:=G) c hk
 simp only[n3,j4,C3] at c1 c3 c4 ⊢
 have hs:=za hx (za hlt hw)
 repeat' first|(with_reducible first|refine zz ?_|refine zr ?_)|simp -dsimp[hs]|refine zp c1 ?_|refine zq c2 ?_|refine zq c3 ?_|refine CallE.embed_ex [] c4 ?_ ?_ ?_ ?_ ?_ ?_;(focus simp[s9];done);(focus simp;done);(focus simp;done);(focus simp;done);(focus refine n9 ?_;simp[s9,p8];done);intro mmA hmmA;(try simp only[rQ,pZ,jl,xL,Ea,Nat.zero_add]);try simp -dsimp[oy,qh]|refine zM 4 52 27 [0,1,2,3,5,6,7,8,12,41] ?_|with_reducible refine zE [0,1,2,3,5,6,7,8,12,41] ?_|refine i9 ?_ ?_<;>intro h<;>try simp only[i7] at h
 subst hQ
 have hst:=EF lo hi hx0
 refine⟨mmA,trivial,?_,?_⟩
 ·simp[oy,rK]
 ·simp[xl,qh,oy,rK,hst]
def jO:Case:=⟨⟨⟨[],[]⟩,[],[]⟩,0,0,⟨[],0,0⟩,[]⟩
noncomputable def DE (c:Case) (n lo hi:Int):Case:=if nH c n lo hi=0 then (match c.pieces[n.toNat]? with|some x=>rK c n.toNat x lo hi|none=>jO) else jO
theorem BX {c:Case} {k:Nat} {x:Piece} {lo hi:Int} (h:nH c (k:Int) lo hi=0) (hx:c.pieces[k]?=some x):DE c (k:Int) lo hi=rK c k x lo hi:=by
 unfold DE;rw[if_pos h,Int.toNat_natCast,hx]
theorem EG {c:Case} {n lo hi:Int} (h:¬ nH c n lo hi=0):DE c n lo hi=jO:=by
 unfold DE;rw[if_neg h]
theorem EH {c:Case} {k:Nat} {x:Piece} (lo hi:Int) (h0:s8 c=0) (hx:c.pieces[k]?=some x):nH c (k:Int) lo hi=if O1 lo hi x.lo x.hi=true then 0 else 2:=by
 have hlt:=e7 hx
 have h1:T3 c (k:Int)=0:=by unfold T3;rw[if_neg (by simp[h0]),if_pos (by omega)]
 unfold nH
 rw[if_neg (by simp[h1]),Int.toNat_natCast,hx]
theorem BZ {c:Case} {n:Int} (lo hi:Int) (h0:s8 c=0) (hn:¬ (0≤n∧n<c.pieces.length)):nH c n lo hi=2:=by
 have h1:T3 c n=2:=by unfold T3;rw[if_neg (by simp[h0]),if_neg hn]
 unfold nH
 rw[if_pos (by rw[h1];decide),h1]
theorem Ca {c:Case} (n lo hi:Int) (h0:¬ s8 c=0):nH c n lo hi=s8 c:=by
 have h1:T3 c n=s8 c:=by unfold T3;rw[if_pos h0]
 unfold nH
 rw[if_pos (by rw[h1];exact h0),h1]
theorem Av (c:Case) (n lo hi:Int) (h:¬ nH c n lo hi=0) (hG:o5 G) (hN:D7 G) (hS:u9 G) (hR:v7 G) (hk:KC c):zP prog G 41 [n3 c,iv n,C3 lo hi] (.tup [n3 jO,iv (nH c n lo hi)]):=by
 refine zf func41 ntmps41 ?_
 try simp only[iv,C3]
 have c1:=gF (G:=G) c hG hN hS hR hk
 have hq16:=hk.q
 simp only[n3,j4,C3] at c1 ⊢
 by_cases h0:s8 c=0
 ·rw[h0] at c1
  have hw:IntKind.i64.wrap ((c.pieces.length:Int)-1)=(c.pieces.length:Int)-1:=o3 (by omega) (by omega)
  have c2:=M8 (G:=G) 0 ((c.pieces.length:Int)-1) [n] (by simp)
  by_cases hn:0≤n∧n<c.pieces.length
  ·obtain⟨k,rfl⟩:=Int.eq_ofNat_of_zero_le hn.1
   have hlt:k<c.pieces.length:=by omega
   have hx0:c.pieces[k]?=some c.pieces[k]:=by simp[hlt]
   have hE:=EH lo hi h0 hx0
   generalize hx:c.pieces[k]=x at *
   have c3:=be (G:=G) lo hi x.lo x.hi
   rw[show ([(k:Int)].all fun y=>decide (0≤y)&&decide (y≤(c.pieces.length:Int)-1))=true by simp;omega] at c2
   have hin:O1 lo hi x.lo x.hi=false:=by
    cases hb:O1 lo hi x.lo x.hi
    ·rfl
    ·rw[hb,if_pos rfl] at hE;exact absurd hE h
   rw[hin,if_neg (by decide)] at hE
   rw[hin] at c3
   rw[hE]
   simp only[C3] at c3
   have hs:=za hx (za hlt hw)
   repeat' first|(with_reducible first|refine zz ?_|refine zr ?_)|simp -dsimp[hs]|refine zp c1 ?_|refine zq c2 ?_|refine zq c3 ?_|refine zM 4 52 27 [0,1,2,3,5,6,7,8,12,41] ?_|with_reducible refine zE [0,1,2,3,5,6,7,8,12,41] ?_|refine i9 ?_ ?_<;>intro h<;>try simp only[i7] at h
   all_goals simp[jO]
  ·have hE:=BZ lo hi h0 hn
   rw[show ([n].all fun y=>decide (0≤y)&&decide (y≤(c.pieces.length:Int)-1))=false by simp;omega] at c2
   rw[hE]
   have hs:=hw
   repeat' first|(with_reducible first|refine zz ?_|refine zr ?_)|simp -dsimp[hs]|refine zp c1 ?_|refine zq c2 ?_|refine zM 4 52 27 [0,1,2,3,5,6,7,8,12,41] ?_|with_reducible refine zE [0,1,2,3,5,6,7,8,12,41] ?_|refine i9 ?_ ?_<;>intro h<;>try simp only[i7] at h
   all_goals simp[jO]
 ·have hE:=Ca n lo hi h0
  rw[hE]
  have hs:=h0
  repeat' first|(with_reducible first|refine zz ?_|refine zr ?_|refine zE [0,1,2,3,5,6,7,8,12,41] ?_)|simp -dsimp[hs]|refine zp c1 ?_|refine i9 ?_ ?_<;>intro h<;>try simp only[i7] at h
  all_goals simp[jO]
end Go.Proofs
namespace Go.Ab
open Go
theorem zB {i n:Nat} (h:i<n) (F:Nat→Q4) (R:List DObj):(E7 F n++R)[4*i+1]?=some (F i).2.1:=by
 rw[List.getElem?_append_left (by simp;omega),ir F (by omega) h];rfl
theorem zA {i n:Nat} (h:i<n) (F:Nat→Q4) (R:List DObj):(E7 F n++R)[4*i+3]?=some (F i).2.2.2:=by
 rw[List.getElem?_append_left (by simp;omega),ir F (by omega) h];rfl
theorem zC {i n:Nat} (h:i<n) (F:Nat→Q2) (R:List DObj):(I2 F n++R)[2*i+1]?=some (F i).2:=by
 rw[List.getElem?_append_left (by simp;omega),mM F (by omega) h];rfl
theorem nK {α β:Type} {f:α→Option β}:∀ {l:List α} {r:List β},l.length=r.length→(∀ (i:Nat) (x:α),l[i]?=some x→f x=r[i]?)→D4 f l=some r
 | [],[],_,_=>rfl
 | [],_ :: _,h,_=>by simp at h
 | _ :: _,[],h,_=>by simp at h
 | x :: l,y :: r,h,h2=>by
   have h0:=h2 0 x rfl
   have h1:=nK (f:=f) (l:=l) (r:=r) (by simpa using h) (fun i z hz=>by simpa using h2 (i+1) z (by simpa using hz))
   simp only[List.getElem?_cons_zero] at h0
   simp only[D4,h0,h1]
theorem gc {k o g len sz:Nat} {nl:Bool} {objs:List DObj} {es:List (List DC)} {L:List (List IC)} (ho:objs[o]?=some (.vec sz es g nl)) (hl:es.length=len) (h:D4 (D4 (frz k 0 objs)) es=some L):frz (k+1) 0 objs (.vec o g 0 len)=some (.sl L):=by
 subst hl
 simp only[frz,ho,Nat.zero_le,if_true,Nat.zero_add,Nat.le_refl,and_self,List.drop_zero,List.take_length,h,Option.map_some]
theorem dL {o g len sz:Nat} {nl:Bool} {objs:List DObj} {es:List (List DC)} {L:List (List IC)} (ho:objs[o]?=some (.vec sz es g nl)) (hl:es.length=len) (h:D4 (D4 (frz 19 0 objs)) es=some L):fz 0 objs (.vec o g 0 len)=.im (.sl L):=by
 simp only[fz,DC.lt,gc ho hl h]
 simp
theorem Fb {s:Nat} {m:Bb} {c:Case} {objs:List DObj} (h1:objs[9+s]?=some (.vec 5 (bc (sN s) m.2.1 c.p.n.reg.length c.p.n.reg) m.1.1.1 m.1.1.2)) (h2:objs[11+s]?=some (.vec 10 (l8 (c.p.n.notes.map j9)) m.1.2.1 m.1.2.2))
 (h3:objs[4*c.p.n.reg.length+(13+s)]?=some (.vec 4 (bh (sO c.p.n.reg.length s) m.2.2.2.1 c.p.holders.length c.p.holders) m.2.2.1.1.1 m.2.2.1.1.2)) (h4:objs[4*c.p.n.reg.length+(15+s)]?=some (.vec 7 (l8 (c.p.prints.map w5)) m.2.2.1.2.1 m.2.2.1.2.2))
 (h5:objs[4*c.p.n.reg.length+2*c.p.holders.length+(17+s)]?=some (.vec 3 (l8 (c.loop.links.map F8)) m.2.2.2.2.1.1 m.2.2.2.2.1.2)) (h6:objs[4*c.p.n.reg.length+2*c.p.holders.length+(19+s)]?=some (.vec 4 (l8 (c.pieces.map A2)) m.2.2.2.2.2.1 m.2.2.2.2.2.2))
 (hA:∀ (k:Nat) (x:Issue),c.p.n.reg[k]?=some x→objs[4*k+(13+s)]?=some (.vec 2 (l8 (x.items.map A4)) (m.2.1 k).1.1 (m.2.1 k).1.2)∧objs[4*k+(15+s)]?=some (.vec 3 (l8 (x.dims.map B0)) (m.2.1 k).2.1 (m.2.1 k).2.2))
 (hB:∀ (k:Nat) (x:Holder),c.p.holders[k]?=some x→objs[4*c.p.n.reg.length+2*k+(17+s)]?=some (.vec 1 (l8 (x.draws.map Ab.encI)) (m.2.2.2.1 k).1 (m.2.2.2.1 k).2)):(oy s m c).map (fz 0 objs)=(j4 c).map .im:=by
 have e1:D4 (D4 (frz 19 0 objs)) (bc (sN s) m.2.1 c.p.n.reg.length c.p.n.reg)=some (c.p.n.reg.map g9):=by
  refine nK (by simp) fun i r hr=>?_
  simp only[bc,List.getElem?_mapIdx,Option.map_eq_some_iff] at hr
  obtain⟨x,hx,rfl⟩:=hr
  rw[List.getElem?_map,hx]
  obtain⟨a1,a2⟩:=hA i x hx
  have b1:=gc (k:=18) (len:=x.items.length) a1 (by simp[l8]) (Q6 _ _ _ _)
  have b2:=gc (k:=18) (len:=x.dims.length) a2 (by simp[l8]) (Q6 _ _ _ _)
  have hlt:=e7 hx
  have f1:∀ c:IC,frz 19 0 objs (.im c)=some c:=fun _=>rfl
  simp only[sd,if_pos hlt,D4,f1,sN,b1,b2,Option.map_some,g9]
 have e2:D4 (D4 (frz 19 0 objs)) (bh (sO c.p.n.reg.length s) m.2.2.2.1 c.p.holders.length c.p.holders)=some (c.p.holders.map o2):=by
  refine nK (by simp) fun i r hr=>?_
  simp only[bh,List.getElem?_mapIdx,Option.map_eq_some_iff] at hr
  obtain⟨x,hx,rfl⟩:=hr
  rw[List.getElem?_map,hx]
  have b1:=gc (k:=18) (len:=x.draws.length) (hB i x hx) (by simp[l8]) (Q6 _ _ _ _)
  have hlt:=e7 hx
  have f1:∀ c:IC,frz 19 0 objs (.im c)=some c:=fun _=>rfl
  simp only[sh,if_pos hlt,D4,f1,sO,b1,Option.map_some,o2]
 simp only[oy,List.map_cons,List.map_nil,j4]
 rw[dL h1 (by simp) e1,dL h2 (by simp[l8]) (Q6 _ _ _ _),dL h3 (by simp) e2,dL h4 (by simp[l8]) (Q6 _ _ _ _),dL h5 (by simp[l8]) (Q6 _ _ _ _),dL h6 (by simp[l8]) (Q6 _ _ _ _)]
 rfl
end Go.Ab
namespace Go.Proofs
open Go Go.Ab Tryz
variable {G:JO}
attribute [simp] p5 bw L0 dZ r9 v8 nilV H8 ZK
theorem jF (c:Case) (s:Susp) (w:Int) (h1:0≤s.kind∧s.kind≤255) (hG:o5 G) (hN:D7 G) (hS:u9 G) (hR:v7 G) (hC:L4 G) (hK:bO G) (hk:KC c):zP prog G 45 [n3 c,E6 s,uC w] (bv (decide (eR c s=0)&&decide (fW c s=w))):=by
 refine zf func45 ntmps45 ?_
 try simp only[uC]
 have c1:=Ax (G:=G) c s h1 hG hN hS hR hC hK hk
 generalize fW c s=A at *
 generalize eR c s=B at *
 simp only[n3,j4,E6,j8,rI,List.map_cons,List.map_nil] at c1 ⊢
 have hs:=trivial
 repeat' first|(with_reducible first|refine zz ?_|refine zr ?_|refine zE [0,1,2,3,4,6,7,8] ?_)|simp -dsimp[hs]|refine zp c1 ?_|with_reducible refine j0 ?_ ?_<;>intro h<;>have h0:=h<;>(try simp only[i7] at h)<;>have h2:=h<;>(try simp at h2)<;>replace hs:=za h0 (za h (za h2 hs))
 all_goals simp
theorem CC (m:Bb) (c:Case) (lo hi:Int):(oy 9 m c).map (fz 0 (xl 0 m c lo hi))=(j4 c).map .im:=by
 refine Fb (s:=9) (m:=m) (c:=c) ?_ ?_ ?_ ?_ ?_ ?_ ?_ ?_
 ·simp[xl,qh]
 ·simp[xl,qh]
 ·simp[xl,qh]
 ·simp[xl,qh]
 ·simp[xl,qh]
 ·simp[xl,qh]
 ·intro k x hx
  have hlt:=e7 hx
  have a1:=zB hlt
  have a3:=zA hlt
  simp[xl,qh,a1,a3,jp,hx]
 ·intro k x hx
  have hlt:=e7 hx
  have a1:=zC hlt
  simp[xl,qh,a1,kT,hx]
theorem Aw (c:Case) (n lo hi:Int) (hG:o5 G) (hN:D7 G) (hS:u9 G) (hR:v7 G) (hk:KC c) (objs:List DObj):DCall prog G 41 [n3 c,iv n,C3 lo hi] objs (fun d objs'=>d=.tup [n3 (DE c n lo hi),iv (nH c n lo hi)]∧objs'=objs):=by
 by_cases h:nH c n lo hi=0
 ·obtain⟨he,k,x,rfl,hx0,hin⟩:=BY h
  rw[BX h hx0,h]
  refine DCall.frame ?_ (by simp) (by simp) objs
  refine(Au (G:=G) c k x lo hi hx0 he hin hG hN hS hR hk).mono ?_
  rintro d o ⟨m,_,rfl,rfl⟩
  have:=CC m (rK c k x lo hi) lo hi
  simp only[eY,fzVL,this]
  rfl
 ·rw[EG h]
  exact Av (G:=G) c n lo hi h hG hN hS hR hk objs
theorem ww:gI boltP:=by
 refine⟨?_,?_⟩
 ·exact⟨by decide,by decide⟩
 ·intro x hx
  simp only[boltP,List.mem_cons,List.not_mem_nil,or_false] at hx
  rcases hx with rfl|rfl|rfl|rfl<;>exact⟨by decide,by decide⟩
theorem sW:bF boltC=true:=by decide +kernel
theorem sX:u3 boltP.n=0:=by decide +kernel
theorem wv:nums boltP.n.reg=[1,2,3]:=by decide +kernel
theorem qv:PrintsOk boltP:=by
 refine⟨by decide,by decide,fun i x hx=>?_,fun i x hx=>?_⟩
 ·rw[wv]
  have h:=List.getElem?_eq_some_iff.1 hx
  obtain⟨h1,h2⟩:=h
  have h1':i<2:=h1
  rcases i with _|_|i
  ·cases hx
   refine⟨by unfold HW;simp,fun k d hd=>?_⟩
   rcases k with _|_|k
   ·cases hd;exact⟨by decide,by simp⟩
   ·cases hd;exact⟨by decide,fun _ e he=>by cases he;decide⟩
   ·exact absurd hd (by simp)
  ·cases hx
   refine⟨?_,fun k d hd=>?_⟩
   ·refine⟨by decide,fun _ y hy=>?_,by decide,by decide,by decide,by decide⟩
    cases hy;decide
   ·rcases k with _|k
    ·cases hd;exact⟨by decide,by simp⟩
    ·exact absurd hd (by simp)
  ·omega
 ·obtain⟨h1,h2⟩:=List.getElem?_eq_some_iff.1 hx
  have h1':i<4:=h1
  rcases i with _|_|_|_|i
  ·cases hx;exact⟨by simp,fun c hc=>by rcases c with _|_|_|_|_|c<;>first|decide +kernel|omega⟩
  ·cases hx;exact⟨fun _ y hy=>by cases hy;decide,fun c hc=>by rcases c with _|_|_|_|_|c<;>first|decide +kernel|omega⟩
  ·cases hx;exact⟨fun _ y hy=>by cases hy;decide,fun c hc=>by rcases c with _|_|_|_|_|c<;>first|decide +kernel|omega⟩
  ·cases hx;exact⟨fun _ y hy=>by cases hy;decide,fun c hc=>by rcases c with _|_|_|_|_|c<;>first|decide +kernel|omega⟩
  ·omega
theorem gD:r8 boltP=0:=by
 unfold r8
 rw[if_neg (by rw[sX];decide),if_pos (cQ qv)]
theorem T8:s8 boltC=0:=by
 unfold s8
 rw[if_neg (by rw[show boltC.p=boltP from rfl,gD];decide),if_pos (by decide +kernel)]
theorem bolt_k:tj boltC∧KC boltC:=AY ww sW
theorem qu:bD boltC=(15,17):=by
 unfold bD;rw[if_pos T8];decide +kernel
theorem nf:db boltC=0:=by
 unfold db;rw[if_pos T8,qu];decide +kernel
theorem L5:J6 boltC=0:=by
 unfold J6;rw[if_neg (by rw[T8];decide),if_neg (by rw[nf];decide)]
theorem lh (d i w:Int) (hd:wp d 1=true) (h:(boltP.holders.any fun y=>decide (y.id=i))=true∧w∈nums boltP.n.reg):R6 boltP d 1 i w=0:=by
 unfold R6 J5
 rw[if_neg,if_pos h]
 rw[if_neg (by rw[gD];decide),if_pos hd];decide
theorem tZ {l r:List Int} (hp:l.Perm r) (hs:r.Pairwise (·≤·)):l4 l=r:=
 List.Perm.eq_of_pairwise (fun a b _ _ h1 h2=>by omega) (nT l) hs (((List.mergeSort_perm l _)).trans hp)
theorem lg:F5 boltC 0=[1,2]:=by
 show N8 boltP 20 2 2=_
 unfold N8
 rw[if_pos (lh 20 2 2 (by decide) (by decide +kernel))]
 unfold aA
 have e:l4 (Y6 20 2 2 boltP.prints++[aR 20 2 2 boltP.prints])=[1,2]:=tZ (by decide +kernel) (by decide +kernel)
 rw[e];decide +kernel
theorem lf:F5 boltC 1=[1]:=by
 show N8 boltP 20 1 3=_
 unfold N8
 rw[if_pos (lh 20 1 3 (by decide) (by decide +kernel))]
 unfold aA
 have e:l4 (Y6 20 1 3 boltP.prints++[aR 20 1 3 boltP.prints])=[1]:=tZ (by decide +kernel) (by decide +kernel)
 rw[e];decide +kernel
theorem nc:l4 (l5 boltP.n.notes)=[]:=by decide +kernel
theorem CX:BR boltC []=false:=by decide +kernel
theorem CZ:iZ boltC [] 0=[(true,false),(false,true)]:=by
 show (F5 boltC 0).foldl (G4 boltC ⟨2,0,false⟩ ⟨2,20,106,107⟩ (kw boltC [] 2)) []=_
 rw[lg];decide +kernel
theorem CY:iZ boltC [] 1=[(false,false)]:=by
 show (F5 boltC 1).foldl (G4 boltC ⟨3,0,true⟩ ⟨1,20,90,91⟩ (kw boltC [] 3)) []=_
 rw[lf];decide +kernel
def gE:Desk:=⟨boltC,false,[[(true,false),(false,true)],[(false,false)]]⟩
theorem ng:H3 boltC []=gE:=by
 unfold H3 gE
 rw[CX,show (List.range boltC.pieces.length).map (iZ boltC [])=[iZ boltC [] 0,iZ boltC [] 1] from rfl,CZ,CY]
theorem ae:n7 boltC=[gE]:=by
 unfold n7
 rw[show boltC.p=boltP from rfl,nc,show jx ([]:List Int)=[[]] by decide +kernel]
 simp[ng]
theorem bolt_sus:nr boltC 2=[]∧nr boltC 1=[⟨2,0⟩,⟨3,0⟩]:=by
 unfold nr Gf DF
 rw[if_pos L5,if_pos L5,ae]
 decide +kernel
theorem Aj:tg boltC=[⟨2,0⟩,⟨3,0⟩]:=by
 unfold tg AF
 rw[if_pos L5,ae]
 decide +kernel
theorem Ah:sw boltC=[⟨2,0⟩]:=by
 unfold sw
 rw[if_pos L5,ae]
 decide +kernel
theorem Ai:qj boltC=(1,1):=by
 unfold qj
 rw[if_pos L5,ae]
 decide +kernel
theorem dx (k:Nat) (h:k<2):T3 boltC k=0∧fU boltC k=F5 boltC k:=by
 have e:T3 boltC k=0:=by
  unfold T3
  rw[if_neg (by rw[T8];decide),if_pos ⟨by omega,by show (k:Int)<((2:Nat):Int);omega⟩]
 exact⟨e,by unfold fU;rw[if_pos e];rfl⟩
theorem bolt_clr:lY boltC 1=0∧oA boltC 1=(90,91):=by
 have e0:=(dx 1 (by decide)).1
 have e:iE boltC 1=(90,91):=by
  show (fU boltC ((1:Nat):Int)).foldl (J4 boltC ⟨3,0,true⟩) (90,91)=_
  rw[(dx 1 (by decide)).2,lf];decide +kernel
 have e1:lY boltC 1=0:=by
  unfold lY
  rw[if_neg (by rw[show (1:Int)=((1:Nat):Int) from rfl,e0];decide),e];decide
 exact⟨e1,by unfold oA;rw[if_pos e1,e]⟩
theorem T7 (s:Susp) (h:oK 2 s=true):eR boltC s=0∧fW boltC s=G3 [gE] s:=by
 have e:eR boltC s=0:=by
  unfold eR
  rw[if_neg (by rw[L5];decide),if_pos (show oK boltC.pieces.length s=true from h)]
 exact⟨e,by unfold fW;rw[if_pos e,ae]⟩
theorem qw (s:Susp) (h:oK 2 s=true):kC boltC [] s=0∧ie boltC [] s=G3 [gE] s:=by
 have e:kC boltC [] s=0:=by
  unfold kC
  rw[if_neg (by rw[L5];decide),if_neg (by rw[show boltC.p=boltP from rfl,nc];decide),if_pos (show oK boltC.pieces.length s=true from h)]
 exact⟨e,by unfold ie;rw[if_pos e,ng]⟩
def DM:Case:={ boltC with pieces:=[⟨2,20,107,107⟩,⟨1,20,90,91⟩] }
theorem bolt_ms:nH boltC 0 107 107=0∧DE boltC 0 107 107=DM:=by
 have e0:=(dx 0 (by decide)).1
 have e1:nH boltC 0 107 107=0:=by
  unfold nH
  rw[if_neg (by rw[show (0:Int)=((0:Nat):Int) from rfl,e0];decide)];rfl
 exact⟨e1,by unfold DE;rw[if_pos e1];rfl⟩
set_option maxRecDepth 10000 in
theorem Dd (hG:o5 G) (hN:D7 G) (hS:u9 G) (hU:U7 G) (hR:v7 G) (hC:L4 G) (hK:bO G) (hF:jr G):zP prog G 32 [] (bv true):=by
 refine zf func32 ntmps32 ?_
 try simp only[iv]
 have hk:=bolt_k.2
 have c0:=Fz (G:=G)
 have c1:=As (G:=G) boltC hG hN hS hR hk
 have c2:=uq (G:=G) boltC hG hN hS hR hk
 have c3:=fj (G:=G) boltC 0 hG hN hS hR hk
 have c4:=qy (G:=G) boltC hG hN hS hU hR hC hK hk
 have c5:=AA (G:=G) boltC hG hN hS hU hR hC hF hk
 have c6:=wA (G:=G) boltC hG hN hS hU hR hC hF hk
 have c7:=Ay (G:=G) boltC hG hN hS hU hR hC hF hk
 have c8:=Az (G:=G) boltC 1 hG hN hS hR hk
 have c9:=Aw (G:=G) boltC 0 107 107 hG hN hS hR hk
 have c10:=FC (G:=G) boltC [] ⟨2,0⟩ (by decide) (by decide) hG hN hS hR hC hK hk
 rw[qu,T8] at c1
 rw[nf,T8] at c2
 rw[show (0:Int)=((0:Nat):Int) from rfl,(dx 0 (by decide)).1,(dx 0 (by decide)).2,lg] at c3
 rw[bolt_sus.1,bolt_sus.2,L5] at c4
 rw[Aj,L5] at c5
 rw[Ah,L5] at c6
 rw[Ai,L5] at c7
 rw[bolt_clr.1,bolt_clr.2] at c8
 rw[bolt_ms.1,bolt_ms.2] at c9
 rw[(qw ⟨2,0⟩ (by decide)).1,(qw ⟨2,0⟩ (by decide)).2,show G3 [gE] ⟨2,0⟩=1 by decide] at c10
 have d1:=jF (G:=G) boltC ⟨1,0⟩ 0 (by decide) hG hN hS hR hC hK hk
 have d2:=jF (G:=G) boltC ⟨3,0⟩ 1 (by decide) hG hN hS hR hC hK hk
 have d3:=jF (G:=G) boltC ⟨2,1⟩ 0 (by decide) hG hN hS hR hC hK hk
 rw[(T7 ⟨1,0⟩ (by decide)).1,(T7 ⟨1,0⟩ (by decide)).2,show G3 [gE] ⟨1,0⟩=0 by decide] at d1
 rw[(T7 ⟨3,0⟩ (by decide)).1,(T7 ⟨3,0⟩ (by decide)).2,show G3 [gE] ⟨3,0⟩=1 by decide] at d2
 rw[(T7 ⟨2,1⟩ (by decide)).1,(T7 ⟨2,1⟩ (by decide)).2,show G3 [gE] ⟨2,1⟩=0 by decide] at d3
 simp only[decide_true,Bool.and_self] at d1 d2 d3
 have s0:=DQ (G:=G)
 have s1:=xt (G:=G) 0
 have s2:=xt (G:=G) 1
 have s3:=xu (G:=G) 0
 have p1:=eI (G:=G) 15 17
 have p2:=eI (G:=G) 90 91
 have p3:=eI (G:=G) 107 107
 have p4:=eI (G:=G) 1 1
 have q1:=rj (G:=G) [1,2] [1,2] (by simp)
 simp only[decide_true] at q1
 have q2:=mq (G:=G) [⟨2,0⟩,⟨3,0⟩] (by simp)
 have q3:=mq (G:=G) [⟨2,0⟩] (by simp)
 simp only[n3,E6,j8,C5,C3,uC,s6,Ab.encI,rI,List.map_cons,List.map_nil,Int.natCast_zero] at *
 obtain⟨m1,m2,m3,m4,m5,m6,m7,m8,m9,hM⟩:∃ m1 m2 m3 m4 m5 m6 m7 m8 m9,(j4 DM).map DC.im=[.im m1,.im m2,.im m3,.im m4,.im m5,.im m6,.im m7,.im m8,.im m9,.im (.sl ([⟨2,20,107,107⟩,⟨1,20,90,91⟩].map A2))]:=⟨_,_,_,_,_,_,_,_,_,rfl⟩
 rw[hM] at c9
 obtain⟨X,hX⟩:∃ X,j4 boltC=X:=⟨_,rfl⟩
 have hXf:∃ a b c d e f g h i j,X=[a,b,c,d,e,f,g,h,i,j]:=⟨_,_,_,_,_,_,_,_,_,_,hX.symm⟩
 obtain⟨x1,x2,x3,x4,x5,x6,x7,x8,x9,x10,rfl⟩:=hXf
 rw[hX] at c0 c1 c2 c3 c4 c5 c6 c7 c8 c9 c10 d1 d2 d3
 simp only[A2,rI,List.map_cons,List.map_nil] at *
 repeat' first|(with_reducible first|refine zz ?_|refine zx ?_)|simp -dsimp|refine zp c0 ?_|refine zp c1 ?_|refine zp c2 ?_|refine zp c3 ?_|refine zp c4 ?_|refine zp c5 ?_|refine zp c6 ?_|refine zp c7 ?_|refine zp c8 ?_|refine zp c9 ?_|refine zp c10 ?_|refine zp s1 ?_|refine zp s3 ?_|refine zp p3 ?_|refine zq q1 ?_|refine zq d1 ?_|refine zq d2 ?_|refine zq d3 ?_|refine zq p1 ?_|refine zq p2 ?_|refine zq p3 ?_|refine zq p4 ?_|refine zq s0 ?_|refine zq s2 ?_|refine zq s3 ?_|refine zq c0 ?_|refine QCall.thaw (q2) ?_ ?_ ?_;(focus simp;done);(focus simp;done)|refine QCall.thaw (q3) ?_ ?_ ?_;(focus simp;done);(focus simp;done)|refine zM 12 198 70 [0,1,2,3,4,5,6,7,8,9,10,11,12,13,14,15,16,17,18,19,20,21,22,148] ?_|refine zM 14 198 50 [0,1,2,3,4,5,6,7,8,9,10,11,12,13,14,15,16,17,18,19,20,21,22,148] ?_|with_reducible refine zE [0,1,2,3,4,5,6,7,8,9,10,11,12,13,14,15,16,17,18,19,20,21,22,148] ?_|refine i9 ?_ ?_<;>intro h<;>try simp only[i7] at h
end Go.Proofs
namespace Go.Proofs
open Go Go.Ab
def Id (b:Bool) (f:Nat→J0) (n:Nat):List Susp:=fS b (fun i=>(f i).1) (fun i=>(f i).2) n
def JA (d:Desk) (f:Nat→J0):Prop:=∀ i,i<d.faults.length→f i∈d.faults.getD i []
structure DkG (n:Nat) (D:List Desk):Prop where
 ne:D≠[]
 len:∀ d∈D,d.faults.length=n
 f:∀ d∈D,∀ x∈d.faults,x≠[]
 cause:∀ d∈D,∀ g,JA d g→Id d.notes g n≠[]
variable {n:Nat} {D:List Desk}
end Go.Proofs
namespace Go.Proofs
open Go Go.Ab
variable {n:Nat} {D D':List Desk}
end Go.Proofs
namespace Go.Proofs
open Go Go.Ab
theorem addF_mem {L:List J0} {so:Bool} {f g:J0}:g∈ai L so f↔g∈L∨(so=true∧g=f):=by
 unfold ai
 split
 ·rename_i h;rw[List.mem_append,List.mem_singleton];simp[h.1]
 ·rename_i h
  constructor
  ·exact .inl
  ·rintro (h1|⟨h1,rfl⟩)
   ·exact h1
   ·exact Classical.byContradiction fun h2=>h ⟨h1,h2⟩
theorem sj {c:Case} {y:Link} {x:Piece} {o:Int} {L:List J0} {l:Int} {g:J0}:g∈G4 c y x o L l↔g∈L∨(lL c y x l=true∧g=(!decide (l=o),false))∨(lK c y x l=true∧g=(!decide (l=o),true)):=by
 unfold G4
 rw[addF_mem,addF_mem,or_assoc]
theorem kV {c:Case} {y:Link} {x:Piece} {o:Int} {g:J0}:∀ {l:List Int} {L:List J0},g∈l.foldl (G4 c y x o) L↔g∈L∨∃ a∈l,(lL c y x a=true∧g=(!decide (a=o),false))∨(lK c y x a=true∧g=(!decide (a=o),true))
 | [],L=>by simp
 | a :: l,L=>by
   rw[List.foldl_cons,kV,sj,or_assoc]
   simp only[List.mem_cons,exists_eq_or_imp]
theorem oa {c:Case} {t:List Int} {k:Nat} {x:Piece} {y:Link} (hx:c.pieces[k]?=some x) (hy:c.loop.links[k]?=some y) {g:J0}:g∈iZ c t k↔∃ a∈F5 c k,(lL c y x a=true∧g=(!decide (a=kw c t y.drawing),false))∨(lK c y x a=true∧g=(!decide (a=kw c t y.drawing),true)):=by
 unfold iZ
 rw[hx,hy]
 simp only
 rw[kV]
 simp
theorem Fo {c:Case} {t:List Int} {k:Nat} (hk:k<c.pieces.length):(H3 c t).faults.getD k []=iZ c t k:=by
 simp[H3,List.getD,hk]
variable {G:JO}
attribute [simp] p5 bw L0 dZ r9 v8 nilV H8 ZK
theorem AG {n:Nat} {s:Susp} (h:s∈bZ n):oK n s=true:=by
 unfold oK
 rcases listS_mem.1 h with⟨_,rfl⟩|⟨i,hi,_,rfl⟩|⟨i,hi,_,rfl⟩
 ·simp
 ·rw[if_neg (by simp[rv])]
  show (((decide _&&decide _)&&(decide (0≤(i:Int))&&decide ((i:Int)≤(n:Int)-1)))=true)
  simp[rv]
  omega
 ·rw[if_neg (by simp[eX])]
  show (((decide _&&decide _)&&(decide (0≤(i:Int))&&decide ((i:Int)≤(n:Int)-1)))=true)
  simp[eX]
  omega
structure CauseOk (n:Nat) (lo hi:Int) (l a su op:List Susp):Prop where
 b1:1≤lo
 b2:lo≤hi
 b3:hi≤1+2*n
 b4:(l.length:Int)=lo
 b5:a≠[]↔lo=1
 b6:∀ s r,a=s :: r→∃ r',l=s :: r'
 b7:(su.length:Int)≤lo
 b8:hi≤(su.length:Int)+op.length
 lm:∀ s∈l,oK n s=true∧(s∈su∨s∈op)
 am:∀ s∈a,oK n s=true∧(s∈su∨s∈op)
 ls:l.Pairwise bX
 aS':a.Pairwise bX
 sm:∀ s∈su,s∈l∧(a=[]∨a=[s])
structure Hid (P:Prop):Prop where
 out:P
open Go Go.Ab Tryz
attribute [simp] p5 bw L0 dZ r9 v8 nilV H8 ZK
theorem Cf (c:Case) (k:Nat) (y:Link) (lt:Int) (hy0:c.loop.links[k]?=some y) (hd:0≤y.dim) (h0:j7 c.p.n.reg=0) (hG:o5 G) (hk:KC c):zP prog G 56 [n3 c,iv (k:Int),iv lt] (.tup [T6 ((oU c y lt).getD Bk),bv (oU c y lt).isSome]):=by
 refine zf func56 ntmps56 ?_
 try simp only[iv,iv]
 have hlt:k<c.loop.links.length:=e7 hy0
 have hy:c.loop.links[k]=y:=(List.getElem?_eq_some_iff.1 hy0).2
 have c1:=AB (G:=G) c.p.n.reg y.drawing lt hG hk.p.n.1
 obtain⟨j,hj⟩:=Int.eq_ofNat_of_zero_le hd
 simp only[G7,C3] at c1
 unfold oU
 unfold atR AC at c1
 rw[if_pos h0,if_neg (by simp[h0])] at c1
 have hdn:y.dim.toNat=j:=by rw[hj];simp
 cases hfi:n8 c.p.n.reg y.drawing lt with
 | none =>
   rw[hfi] at c1
   simp only[Option.isSome_none,Option.getD_none,Bool.false_eq_true,if_false,J7] at c1
   have hs:=za hy hlt
   repeat' first|(with_reducible first|refine zz ?_|refine zr ?_|refine zE [0,1,2,3,6,7,8,9,10,38] ?_)|simp -dsimp[hs]|refine zp c1 ?_|refine i9 ?_ ?_<;>intro h<;>try simp only[i7] at h
   all_goals exact⟨rfl,rfl,rfl⟩
 | some x =>
   rw[hfi] at c1
   simp only[Option.isSome_some,Option.getD_some,if_true] at c1
   simp only[Option.bind_some,hdn]
   by_cases hx:j<x.dims.length
   ·have hx1:x.dims[j]?=some x.dims[j]:=by simp[hx]
    have hxi:¬ ((x.dims.length:Int)≤(j:Int)):=by omega
    rw[hx1]
    generalize hz:x.dims[j]=z at *
    simp only[Option.isSome_some,Option.getD_some]
    have hs:=za hy (za hlt (za hj (za hx (za hxi (za hz hx1)))))
    repeat' first|(with_reducible first|refine zz ?_|refine zr ?_|refine zE [0,1,2,3,6,7,8,9,10,38] ?_)|simp -dsimp[hs]|refine zp c1 ?_|refine i9 ?_ ?_<;>intro h<;>try simp only[i7] at h
   ·have hxi:(x.dims.length:Int)≤(j:Int):=by omega
    rw[List.getElem?_eq_none (by omega)]
    simp only[Option.isSome_none,Option.getD_none]
    have hs:=za hy (za hlt (za hj hxi))
    repeat' first|(with_reducible first|refine zz ?_|refine zr ?_|refine zE [0,1,2,3,6,7,8,9,10,38] ?_)|simp -dsimp[hs]|refine zp c1 ?_|refine i9 ?_ ?_<;>intro h<;>try simp only[i7] at h
    all_goals exact⟨rfl,rfl,rfl⟩
theorem qV (c:Case):0<(jx (l4 (l5 c.p.n.notes))).length:=by rw[iN];exact Nat.pos_of_ne_zero (by simp)
attribute [simp] p5 bw L0 dZ r9 v8 nilV H8 ZK
attribute [simp] p5 bw L0 dZ r9 v8 nilV H8 ZK
structure TrueOk (c:Case) (t:List Int) (l su op:List Susp) (lo hi:Int):Prop where
 b1:l≠[]
 b2:lo≤(l.length:Int)
 b3:(l.length:Int)≤hi
 b4:∀ s∈l,(s∈su∨s∈op)∧kC c t s=0∧¬ ie c t s=0
 b5:∀ s∈su,kC c t s=0∧ie c t s=2∧s∈l∧s∉op
end Go.Proofs
namespace Go.Proofs
open Go Go.Ab
variable {c:Case} {k:Nat} {x:Piece} {a b:Int}
structure MsOk (c:Case) (k:Nat) (x:Piece) (a b:Int):Prop where
 p1:c.pieces[k]?=some x
 p2:x.lo≤a∧a≤b∧b≤x.hi
 p3:J6 c=0
end Go.Proofs
namespace Go.Proofs
open Go Go.Ab
variable {G:JO}
attribute [simp] p5 bw L0 dZ r9 v8 nilV H8 ZK
theorem Cy {n k:Nat} (h:k<n):eX k∈bZ n:=listS_mem.2 (.inr (.inr ⟨k,h,rfl,rfl⟩))
theorem yG {c:Case} (h0:J6 c=0) {s:Susp} (hs:s∈bZ c.pieces.length):eR c s=0∧fW c s=G3 (n7 c) s:=by
 have e:eR c s=0:=by
  unfold eR
  rw[if_neg (by simp[h0]),if_pos (AG hs)]
 exact⟨e,by unfold fW;rw[if_pos e]⟩
structure MsF (c:Case) (k:Nat) (x:Piece) (a b:Int):Prop where
 q1:nH c (k:Int) a b=0
 q2:DE c (k:Int) a b=rK c k x a b
 q3:gS (rK c k x a b)=true
 q4:gI (rK c k x a b).p
 q5:KC (rK c k x a b)
 q6:eR (rK c k x a b) (eX k)=0
 q7:fW (rK c k x a b) (eX k)=0↔(iE c (k:Int)).1≤a∧b≤(iE c (k:Int)).2
theorem tW {c:Case} (he:s8 c=0) {k:Nat} (hk:k<c.pieces.length):T3 c (k:Int)=0∧fU c (k:Int)=F5 c k:=by
 have e:T3 c (k:Int)=0:=by
  unfold T3
  rw[if_neg (by simp[he]),if_pos ⟨by omega,by omega⟩]
 exact⟨e,by unfold fU;rw[if_pos e,Int.toNat_natCast]⟩
open Go Go.Ab Tryz
attribute [simp] p5 bw L0 dZ r9 v8 nilV H8 ZK
theorem uN (a b:Dim) (ha:C9 a=true) (hb:C9 b=true):zP prog G 115 [T6 a,T6 b] (iv 0):=by
 refine zf func115 ntmps115 ?_
 try simp only[T6,T6]
 have c1:=V4 (G:=G) a
 have c2:=V4 (G:=G) b
 rw[ha] at c1
 rw[hb] at c2
 simp only[T6,B0,rI,List.map_cons,List.map_nil,if_true] at c1 c2
 repeat' first|(with_reducible first|refine zz ?_|refine zx ?_|refine zE [0,1,2,3,4,12] ?_)|simp -dsimp|refine zp c1 ?_|refine zp c2 ?_|refine i9 ?_ ?_<;>intro h<;>try simp only[i7] at h
def nU (a b:Dim):Bool:=decide (b.lower≤a.lower)&&decide (a.upper≤b.upper)
theorem pf (a b:Dim) (ha:C9 a=true) (hb:C9 b=true):zP prog G 57 [T6 a,T6 b] (.tup [bv (nU a b),iv 0]):=by
 refine zf func57 ntmps57 ?_
 try simp only[T6,T6]
 have c1:=uN (G:=G) a b ha hb
 rw[I6] at ha hb
 have c2:=ua (G:=G) b.lower b.upper [a.lower,a.upper] (by simp)
 have hE:([a.lower,a.upper].all fun x=>decide (b.lower≤x)&&decide (x≤b.upper))=nU a b:=by
  unfold nU
  rw[Bool.eq_iff_iff]
  simp
  omega
 rw[hE] at c2
 have hq:a=b→nU a b=true:=by rintro rfl;simp[nU]
 obtain⟨a1,a2,a3⟩:=a
 obtain⟨b1,b2,b3⟩:=b
 simp only[s6,T6,B0,List.map_cons,List.map_nil,Ab.encI,rI] at c1 c2 hq ⊢
 generalize nU ⟨a1,a2,a3⟩ ⟨b1,b2,b3⟩=B at *
 have hs:True:=trivial
 by_cases g1:a1=b1
 ·by_cases g2:a2=b2
  ·by_cases g3:a3=b3
   ·subst g1 g2 g3
    rw[hq rfl]
    have hs:=trivial
    repeat' first|(with_reducible first|refine zz ?_|refine zr ?_|refine zE [0,1,2,3,4,5,6,11] ?_)|simp -dsimp[hs]|refine zp c1 ?_|refine i9 ?_ ?_<;>intro h<;>try simp only[i7] at h
   ·have k1:=eq_true g1
    have k2:=eq_true g2
    have hs:=za k1 (za k2 g3)
    repeat' first|(with_reducible first|refine zz ?_|refine zr ?_|refine zE [0,1,2,3,4,5,6,11] ?_)|simp -dsimp[hs]|refine zp c1 ?_|refine zt c2 ?_ ?_ ?_;(focus simp;done);focus (simp;done)|refine i9 ?_ ?_<;>intro h<;>try simp only[i7] at h
  ·have k1:=eq_true g1
   have hs:=za k1 g2
   repeat' first|(with_reducible first|refine zz ?_|refine zr ?_|refine zE [0,1,2,3,4,5,6,11] ?_)|simp -dsimp[hs]|refine zp c1 ?_|refine zt c2 ?_ ?_ ?_;(focus simp;done);focus (simp;done)|refine i9 ?_ ?_<;>intro h<;>try simp only[i7] at h
 ·have hs:=g1
  repeat' first|(with_reducible first|refine zz ?_|refine zr ?_|refine zE [0,1,2,3,4,5,6,11] ?_)|simp -dsimp[hs]|refine zp c1 ?_|refine zt c2 ?_ ?_ ?_;(focus simp;done);focus (simp;done)|refine i9 ?_ ?_<;>intro h<;>try simp only[i7] at h
def px (a b:Dim):Nat→Int×Int
 | 0=>(0,1000000000)
 | 1=>(a.lower,a.upper)
 | _=>(max a.lower b.lower,min a.upper b.upper)
def nI (a b:Dim):Int:=if min a.upper b.upper<max a.lower b.lower then 6 else 0
def Cd (a b:Dim):Int×Int:=if nI a b=0 then (max a.lower b.lower,min a.upper b.upper) else (0,0)
theorem Bw (a b:Dim) (ha:C9 a=true) (hb:C9 b=true):zP prog G 58 [.one (.im (.sl ([a,b].map B0)))] (.tup [C3 (Cd a b).1 (Cd a b).2,iv (nI a b)]):=by
 refine zf func58 ntmps58 ?_
 try simp only[iv]
 have c1:=V4 (G:=G) a
 have c2:=V4 (G:=G) b
 rw[ha] at c1
 rw[hb] at c2
 rw[I6] at ha hb
 simp only[T6,B0,rI,List.map_cons,List.map_nil,if_true] at c1 c2 ⊢
 have hs:=trivial
 repeat' first|(with_reducible first|refine zz ?_|refine zE [0,2,3,4,6,7,10,13,14,15,16,22,46] ?_)|simp -dsimp[hs]|refine i9 ?_ ?_<;>intro h<;>try simp only[i7] at h
 refine i6 (ι:={ k:Nat // k≤2 }) (fun k=>⟨49,[(2,.one (.ptr 0 0)),(3,iv 0),(0,.one (.im (.sl ([a,b].map B0)))),(4,.one (.ptr 1 0)),(13,.one (.im (.sl ([a,b].map B0)))),(14,iv 2),(15,iv (k.1:Int))],[.row [.im (rI 0),.im (rI 0)],.row [.im (rI (px a b k.1).1),.im (rI (px a b k.1).2)]]⟩) (fun k=>2-k.1) ⟨0,by omega⟩ (zv [2,3,0,4,13,14,15] (by simp[px])) ?_
 rintro⟨k,hk⟩
 simp only[iv,rI]
 rcases k with _|_|_|k
 ·simp only[px]
  have e1:max 0 a.lower=a.lower:=by omega
  have e2:min 1000000000 a.upper=a.upper:=by omega
  have hw1:IntKind.i64.wrap 1=1:=by decide
  have hs:=za e1 e2
  repeat' first|(with_reducible first|refine zz ?_|refine zE [0,2,3,4,6,7,10,13,14,15,16,22,46] ?_)|simp -dsimp[hs]|refine zp c1 ?_|refine i9 ?_ ?_<;>intro h<;>try simp only[i7] at h
  all_goals exact zn ⟨1,by omega⟩ (zw [2,3,0,4,13,14,15] 2 (by simp[px,e1,e2,hw1]))
 ·simp only[px]
  have hw1:IntKind.i64.wrap 2=2:=by decide
  have hs:=trivial
  repeat' first|(with_reducible first|refine zz ?_|refine zE [0,2,3,4,6,7,10,13,14,15,16,22,46] ?_)|simp -dsimp[hs]|refine zp c2 ?_|refine i9 ?_ ?_<;>intro h<;>try simp only[i7] at h
  all_goals exact zn ⟨2,by omega⟩ (zw [2,3,0,4,13,14,15] 2 (by simp[px,hw1]))
 ·simp only[px]
  unfold Cd nI
  have hs:True:=trivial
  by_cases h:min a.upper b.upper<max a.lower b.lower
  ·rw[if_pos h]
   have hs:=h
   repeat' first|(with_reducible first|refine zz ?_|refine zr ?_|refine zE [0,2,3,4,6,7,10,13,14,15,16,22,46] ?_)|simp -dsimp[hs]|refine i9 ?_ ?_<;>intro h<;>try simp only[i7] at h
   all_goals contradiction
  ·rw[if_neg h]
   have hs:=h
   repeat' first|(with_reducible first|refine zz ?_|refine zr ?_|refine zE [0,2,3,4,6,7,10,13,14,15,16,22,46] ?_)|simp -dsimp[hs]|refine i9 ?_ ?_<;>intro h<;>try simp only[i7] at h
   all_goals contradiction
 ·omega
attribute [simp] p5 bw L0 dZ r9 v8 nilV H8 ZK
theorem pO {c:Case} {k:Nat} {x:Piece} {y:Link} (hx:c.pieces[k]?=some x) (hy:c.loop.links[k]?=some y) (b:Bool):((n7 c).any fun d=>ig d (eX k) b)=true↔∃ l∈F5 c k,(b=true∧lK c y x l=true)∨(b=false∧lL c y x l=true):=by
 have hk:=e7 hx
 obtain⟨t0,ht0⟩:=List.exists_mem_of_ne_nil _ (List.length_pos_iff.1 (qV c))
 have key:∀ t,ig (H3 c t) (eX k) b=true↔∃ l∈F5 c k,(b=true∧lK c y x l=true)∨(b=false∧lL c y x l=true):=fun t=>by
  unfold ig
  rw[if_neg (by simp[eX]),if_neg (by simp[eX]),show (eX k).index.toNat=k from rfl,Fo hk,List.any_eq_true]
  constructor
  ·rintro⟨f,hf,hb⟩
   rw[oa hx hy] at hf
   obtain⟨l,hl,⟨h1,rfl⟩|⟨h1,rfl⟩⟩:=hf
   ·exact⟨l,hl,.inr ⟨by simpa using hb,h1⟩⟩
   ·exact⟨l,hl,.inl ⟨by simpa using hb,h1⟩⟩
  ·rintro⟨l,hl,⟨rfl,h1⟩|⟨rfl,h1⟩⟩
   ·exact⟨_,(oa hx hy).2 ⟨l,hl,.inr ⟨h1,rfl⟩⟩,rfl⟩
   ·exact⟨_,(oa hx hy).2 ⟨l,hl,.inl ⟨h1,rfl⟩⟩,rfl⟩
 rw[List.any_eq_true]
 constructor
 ·rintro⟨d,hd,h⟩
  obtain⟨t,ht,rfl⟩:=List.mem_map.1 hd
  exact(key t).1 h
 ·intro h
  exact⟨_,List.mem_map_of_mem ht0,(key t0).2 h⟩
theorem pN {c:Case} {k:Nat} {x:Piece} {y:Link} {l:Int} (hx:c.pieces[k]?=some x) (hy:c.loop.links[k]?=some y) (hm:F5 c k=[l]):G3 (n7 c) (eX k)=if lK c y x l=false then 0 else if lL c y x l=false then 2 else 1:=by
 have h1:=pO hx hy true
 have h2:=pO hx hy false
 rw[hm] at h1 h2
 simp only[List.mem_singleton,exists_eq_left,true_and,false_and,or_false,false_or,Bool.true_eq_false,Bool.false_eq_true] at h1 h2
 unfold G3
 have e1:((n7 c).any fun d=>ig d (eX k) true)=lK c y x l:=Bool.eq_iff_iff.2 h1
 have e2:((n7 c).any fun d=>ig d (eX k) false)=lL c y x l:=Bool.eq_iff_iff.2 h2
 rw[e1,e2]
def pP (a d:Dim):Int:=if nI a d=6 then 2 else if nU a d=true then 0 else 1
theorem yZ {c:Case} {k:Nat} {x:Piece} {y:Link} {l:Int} {d:Dim} (hx:c.pieces[k]?=some x) (hy:c.loop.links[k]?=some y) (hm:F5 c k=[l]) (hz:oU c y l=some d) (hp:x.lo≤x.hi) (hd:d.lower≤d.upper):G3 (n7 c) (eX k)=pP ⟨x.lo,x.lo,x.hi⟩ d:=by
 rw[pN hx hy hm]
 have f1:lL c y x l=(decide (x.lo≤d.upper)&&decide (d.lower≤x.hi)):=by unfold lL;rw[hz]
 have f2:lK c y x l=!O1 x.lo x.hi d.lower d.upper:=by unfold lK;rw[hz]
 have key:pP ⟨x.lo,x.lo,x.hi⟩ d=if min x.hi d.upper<max x.lo d.lower then 2 else if d.lower≤x.lo∧x.hi≤d.upper then 0 else 1:=by
  unfold pP nI nU
  by_cases g1:min x.hi d.upper<max x.lo d.lower
  ·simp[g1]
  ·by_cases g2:d.lower≤x.lo∧x.hi≤d.upper<;>simp[g1,g2]
 rw[key]
 by_cases g1:min x.hi d.upper<max x.lo d.lower
 ·have e1:lL c y x l=false:=by rw[f1];simp;omega
  have e2:lK c y x l=true:=by rw[f2];simp[O1];omega
  rw[e1,e2,if_pos g1];simp
 ·have e1:lL c y x l=true:=by rw[f1];simp;omega
  by_cases g2:d.lower≤x.lo∧x.hi≤d.upper
  ·have e2:lK c y x l=false:=by rw[f2];simp[O1];omega
   rw[e2,if_neg g1,if_pos g2];simp
  ·have e2:lK c y x l=true:=by rw[f2];simp[O1];omega
   rw[e1,e2,if_neg g1,if_neg g2];simp
theorem Gd {c:Case} (h0:j7 c.p.n.reg=0) {y:Link} {l:Int} {d:Dim} (hz:oU c y l=some d):C9 d=true:=by
 unfold oU at hz
 cases hf:n8 c.p.n.reg y.drawing l with
 | none=>rw[hf] at hz;simp at hz
 | some z =>
   rw[hf] at hz
   simp only[Option.bind_some] at hz
   have hok:=(K0 (H5 (G0 h0))).2.2.2.1 _ (List.mem_of_find?_eq_some hf)
   simp only[n4,Bool.and_eq_true] at hok
   exact List.all_eq_true.1 hok.2 _ (List.mem_of_getElem? hz)
set_option maxRecDepth 10000 in
theorem qx (c:Case) (w:Nat) (hG:o5 G) (hN:D7 G) (hS:u9 G) (hU:U7 G) (hR:v7 G) (hC:L4 G) (hK:bO G) (hF:jr G) (hp:gI c.p) (hw8:w≤255):zP prog G 13 [n3 c,uC (w:Int)] (bv true):=by
 refine zf func13 ntmps13 ?_
 try simp only[uC]
 have a1:=Dd (G:=G) hG hN hS hU hR hC hK hF
 have c1:=BB (G:=G) c hp
 cases hq:gS c
 ·rw[hq] at c1
  simp only[n3,j4,rI,List.map_cons,List.map_nil] at c1 ⊢
  have hs:=trivial
  repeat' first|(with_reducible first|refine zz ?_|refine zr ?_|refine zE [0,1,2,4,5,6,7,8,9,10,11,12,13,14,16,17,25,40,43,55,90,91] ?_)|simp -dsimp[hs]|refine zp a1 ?_|refine zp c1 ?_|refine i9 ?_ ?_<;>intro h<;>try simp only[i7] at h
  all_goals try clear hs
 ·obtain⟨hsk,hk,h0⟩:=ru hp hq
  rw[hq] at c1
  obtain⟨he,_⟩:=R5 h0
  obtain⟨hp0,hcb⟩:=F1 he
  obtain⟨hn0,hpb,hr0⟩:=F3 hp0
  have hok:=N0 hcb
  have hlen:=hok.e
  have hl8:=hok.l
  have hq16:=hk.q
  have hlt:w % c.pieces.length<c.pieces.length:=Nat.mod_lt _ (by omega)
  have hm:((w:Int).tmod (c.pieces.length:Int))=((w % c.pieces.length:Nat):Int):=by
   rw[Int.tmod_eq_emod_of_nonneg (by omega)];omega
  have h0i:¬ (c.pieces.length:Int)=0:=by omega
  have hPn:¬ c.pieces=[]:=fun e=>by rw[e] at h0i;exact h0i rfl
  generalize hj:w % c.pieces.length=k at *
  have hlt2:k<c.loop.links.length:=by omega
  have hx0:c.pieces[k]?=some c.pieces[k]:=List.getElem?_eq_getElem hlt
  have hy0:c.loop.links[k]?=some c.loop.links[k]:=List.getElem?_eq_getElem hlt2
  have w0:IntKind.i64.wrap (w:Int)=(w:Int):=o3 (by omega) (by omega)
  have w1:IntKind.i64.wrap (k:Int)=(k:Int):=o3 (by omega) (by omega)
  have hpc:=nn hok hlt
  unfold U8 at hpc
  have hyd:=iG hcb hy0
  have c2:=fj (G:=G) c (k:Int) hG hN hS hR hk
  rw[(tW he hlt).1,(tW he hlt).2] at c2
  have hml:=ii c k
  have hpl:=hk.p.p.q
  have c3:=fun l=>Cf (G:=G) c k _ l hy0 hyd.1 hr0 hG hk
  obtain⟨k1,k2⟩:=yG h0 (Cy hlt)
  have c6:=fun v=>jF (G:=G) c (eX k) v (by simp[eX]) hG hN hS hR hC hK hk
  rw[k1,k2] at c6
  have s1:=xu (G:=G) (k:Int)
  have hone:=fun l (h:F5 c k=[l])=>pN hx0 hy0 h
  have hlaw:=fun l d (h:F5 c k=[l]) hz (hd:d.lower≤d.upper)=>yZ (d:=d) hx0 hy0 h hz hpc.2.1 hd
  have hsz:=fun l d=>Gd (c:=c) hr0 (y:=c.loop.links[k]) (l:=l) (d:=d)
  clear k1 k2
  generalize G3 (n7 c) (eX k)=K at *
  generalize F5 c k=L at *
  generalize hx:c.pieces[k]=x at *
  generalize hy:c.loop.links[k]=y at *
  simp only[n3,j4,E6,j8,eX,rI,List.map_cons,List.map_nil] at c1 c2 c3 c6 s1 ⊢
  by_cases hL:L.length=1
  ·obtain⟨l,rfl⟩:=List.length_eq_one_iff.1 hL
   have c4:=c3 l
   clear c3 hL
   cases hz:oU c y l with
   | none =>
     have hK0:K=0:=by rw[hone l rfl];unfold lK;rw[hz];rfl
     have c7:=c6 0
     rw[hK0] at c7
     rw[hz] at c4
     simp only[Option.isSome_none,Option.getD_none,decide_true,Bool.and_self,List.map_cons,List.map_nil,Ab.encI,s6] at c2 c4 c7
     clear c6 hone hlaw
     have hs:=za hx (za hy (za hlt (za hlt2 (za hm (za h0i (za hPn (za w0 w1)))))))
     repeat' first|(with_reducible first|refine zz ?_|refine zr ?_)|simp -dsimp[hs]|refine zp a1 ?_|refine zp c1 ?_|refine zp c2 ?_|refine zq c4 ?_|refine zq c7 ?_|refine zq s1 ?_|refine zM 12 112 8 [0,1,2,4,5,6,7,8,9,10,11,12,13,14,16,17,25,40,43,55,90,91] ?_|refine C1 (id:=10) (nt:=112) 10 [8] [0,1,2,4,5,6,7,8,9,10,11,12,13,14,16,17,25,40,43,45,46,47,48,49,50,51,52,55,90,91] [0,1,2,4,5,6,7,8,9,10,11,12,13,14,16,17,25,40,43,55,90,91] mixed rfl (by kernel_rfl) ?_|with_reducible refine zE [0,1,2,4,5,6,7,8,9,10,11,12,13,14,16,17,25,40,43,55,90,91] ?_|refine i9 ?_ ?_<;>intro h<;>try simp only[i7] at h
     all_goals try clear hs
   | some d =>
     have hdk:=hsz l d hz
     have hdo:=hdk
     rw[I6] at hdo
     have hmk:C9 ⟨x.lo,x.lo,x.hi⟩=true:=by rw[I6];simp only;omega
     have hKw:=hlaw l d rfl hz (by omega)
     have c7:=c6 (pP ⟨x.lo,x.lo,x.hi⟩ d)
     rw[hKw] at c7
     rw[hz] at c4
     have c8:=pf (G:=G) ⟨x.lo,x.lo,x.hi⟩ d hmk hdk
     have c9:=Bw (G:=G) ⟨x.lo,x.lo,x.hi⟩ d hmk hdk
     simp only[Option.isSome_some,Option.getD_some,decide_true,Bool.and_self,List.map_cons,List.map_nil,Ab.encI,s6] at c2 c4 c7
     have hE:nI ⟨x.lo,x.lo,x.hi⟩ d=6∨nI ⟨x.lo,x.lo,x.hi⟩ d=0:=by unfold nI;split<;>simp
     clear c6 hone hlaw hKw
     unfold pP at c7
     generalize Cd ⟨x.lo,x.lo,x.hi⟩ d=M at *
     generalize nI ⟨x.lo,x.lo,x.hi⟩ d=E at *
     generalize nU ⟨x.lo,x.lo,x.hi⟩ d=B at *
     simp only[T6,B0,C3,rI,List.map_cons,List.map_nil] at c4 c8 c9
     have hs:True:=trivial
     rcases hE with rfl|rfl
     ·simp only[if_true] at c7
      have hs:=za hx (za hy (za hlt (za hlt2 (za hm (za h0i (za hPn (za w0 w1)))))))
      repeat' first|(with_reducible first|refine zz ?_|refine zr ?_)|simp -dsimp[hs]|refine zp a1 ?_|refine zp c1 ?_|refine zp c2 ?_|refine zq c4 ?_|refine zq c7 ?_|refine zq s1 ?_|refine zp c8 ?_|refine zt c9 ?_ ?_ ?_;(focus simp;done);focus (simp;done)|refine zM 22 112 21 [0,1,2,4,5,6,7,8,9,10,11,12,13,14,16,17,25,40,43,55,90,91] ?_|refine C1 (id:=10) (nt:=112) 10 [8] [0,1,2,4,5,6,7,8,9,10,11,12,13,14,16,17,25,40,43,45,46,47,48,49,50,51,52,55,90,91] [0,1,2,4,5,6,7,8,9,10,11,12,13,14,16,17,25,40,43,55,90,91] mixed rfl (by kernel_rfl) ?_|with_reducible refine zE [0,1,2,4,5,6,7,8,9,10,11,12,13,14,16,17,25,40,43,55,90,91] ?_|refine i9 ?_ ?_<;>intro h<;>try simp only[i7] at h
      all_goals try clear hs
     ·rw[if_neg (by decide)] at c7
      cases B
      all_goals
       simp only[Bool.false_eq_true,if_false,if_true] at c7
       have hs:=za hx (za hy (za hlt (za hlt2 (za hm (za h0i (za hPn (za w0 w1)))))))
       repeat' first|(with_reducible first|refine zz ?_|refine zr ?_)|simp -dsimp[hs]|refine zp a1 ?_|refine zp c1 ?_|refine zp c2 ?_|refine zq c4 ?_|refine zq c7 ?_|refine zq s1 ?_|refine zp c8 ?_|refine zt c9 ?_ ?_ ?_;(focus simp;done);focus (simp;done)|refine zM 22 112 21 [0,1,2,4,5,6,7,8,9,10,11,12,13,14,16,17,25,40,43,55,90,91] ?_|refine C1 (id:=10) (nt:=112) 10 [8] [0,1,2,4,5,6,7,8,9,10,11,12,13,14,16,17,25,40,43,45,46,47,48,49,50,51,52,55,90,91] [0,1,2,4,5,6,7,8,9,10,11,12,13,14,16,17,25,40,43,55,90,91] mixed rfl (by kernel_rfl) ?_|with_reducible refine zE [0,1,2,4,5,6,7,8,9,10,11,12,13,14,16,17,25,40,43,55,90,91] ?_|refine i9 ?_ ?_<;>intro h<;>try simp only[i7] at h
       all_goals try clear hs
  ·have hLi:¬ (L.length:Int)=1:=by omega
   have hs:=za hx (za hy (za hlt (za hlt2 (za hm (za h0i (za hPn (za w0 (za w1 hLi))))))))
   repeat' first|(with_reducible first|refine zz ?_|refine zr ?_|refine zE [0,1,2,4,5,6,7,8,9,10,11,12,13,14,16,17,25,40,43,55,90,91] ?_)|simp -dsimp[hs]|refine zp a1 ?_|refine zp c1 ?_|refine zp c2 ?_|refine i9 ?_ ?_<;>intro h<;>try simp only[i7] at h
   all_goals try clear hs
end Go.Proofs
namespace Go.Ab
open Go Go.Sort
theorem RelM.grownS {G:JO} {M:MS} {w':World} {os:Array Obj} (h:RelM G M) (hw:w'.heap=M.w.heap++os) (hio:SameIo M.w w'):RelM G { M with w:=w' }∧Ext M.objs.length M { M with w:=w' }:=by
 have hold:∀ {b:Nat},b<M.w.heap.size→w'.heap[b]?=M.w.heap[b]?:=fun {b} hb=>by rw[hw];simp[Array.getElem?_append,hb]
 have hsz:M.w.heap.size≤w'.heap.size:=by rw[hw];simp
 have he:Ext M.objs.length M { M with w:=w' }:=
  ⟨Nat.le_refl _,fun b hb=>⟨⟨Nat.lt_of_lt_of_le hb.1 hsz,hb.2⟩,hold hb.1⟩,cz M,hsz,fun p _ c' hc=>⟨⟨c',hc⟩,rfl⟩,
   fun p _ sz es g nl hv=>⟨sz,es,g,nl,hv,Nat.le_refl _,fun _=>⟨rfl,rfl,fun hn=>⟨rfl,by simp only[H4];rw[hold (h.lt p _ hv (by simp[DObj.blk,hn]))]⟩⟩⟩,fun p _ ks es hm=>⟨⟨ks,es,hm⟩,rfl⟩,
   fun p _ r hm=>⟨⟨r,hm⟩,rfl⟩,fun p _ d hm hi=>⟨⟨d,hm,hi⟩,rfl⟩,fun p _ r hm=>⟨⟨r,hm⟩,rfl⟩,hio⟩
 exact⟨⟨fun o d ho=>(h.objs o d ho).ext he (fun _=>rfl) (fun hb=>hold (h.lt o d ho hb)),fun o d ho hb=>Nat.lt_of_lt_of_le (h.lt o d ho hb) hsz,h.inj,fun g l hg=>(h.glob g l hg).mono he.ok,fun b hF=>Nat.lt_of_lt_of_le (h.fl b hF) hsz,h.own⟩,he⟩
theorem nE {l:List Int} {c:Array Value} {i:Nat} (hi:i<l.length) (hc:i<c.size):(putCells (Value.int .i64) 0 l.toArray c)[i]?=some (.int .i64 l[i]):=by
 simp only[putCells,Array.getElem?_mapIdx,Array.getElem?_eq_getElem hc,Option.map_some]
 rw[if_pos ⟨Nat.zero_le _,by simpa using hi⟩]
 simp[hi]
theorem DCall.sort {P:Program} {G:JO} {f:FuncId}
 (hS:∀ (blk cap:Nat) (zs:List Int) (w:World),Holds (Value.int .i64) w blk 0 zs.toArray→blk<w.heap.size→zs.length<4611686018427387904 →
  Calls P f #[.slice (some ⟨blk,0,none⟩) zs.length cap] w fun e w'=>e=.returned (.tuple #[])∧∃ n os,w'=grow (putRow (Value.int .i64) (Sort.ahead w n) blk 0 (zs.mergeSort fun x y=>decide (x≤y)).toArray) os)
 (h0:∀ (a:Option Addr) (cap:Nat) (w:World),Calls P f #[.slice a 0 cap] w fun e w'=>e=.returned (.tuple #[])∧w'=w)
 (l:List Int) (g sz:Nat) (nl:Bool) (hz:sz=1∨nl=true∧l=[]) (hl:l.length<1000000) :
 DCall P G f [.one (.vec 0 g 0 l.length)] [.vec sz (l8 (l.map Ab.encI)) g nl] (fun d o=>d=.tup []∧o=[.vec sz (l8 ((l4 l).map Ab.encI)) g nl]):=by
 intro M vs hM ho hsz hr
 obtain⟨v,rfl⟩:∃ v,vs=#[v]:=by
  obtain⟨vl⟩:=vs
  match vl,hsz with
  | [v],_=>exact⟨v,rfl⟩
 have hv:=hr 0 _ v rfl rfl
 have h1:M.objs[0]?=some (.vec sz (l8 (l.map Ab.encI)) g nl):=by rw[ho];rfl
 have hO:=hM.objs 0 _ h1
 cases hv with
 | one _ _ hv =>
 cases hv with
 | vec _ _ _ _ _ _ _ hv =>
 obtain⟨_,hv⟩:=hv _ _ _ _ h1
 obtain⟨hvt,hvf⟩:=hv rfl
 have hnil:∀ (a:Option Addr) (cap:Nat),l=[]→Calls P f #[.slice a 0 cap] M.w fun e w'=>∃ v d M',e=.returned v∧M'.w=w'∧RelM G M'∧RepV M' d v∧Ext 1 M M'∧d=.tup []∧M'.objs=[.vec sz (l8 ((l4 l).map Ab.encI)) g nl]:=fun a cap hle=>by
  refine(h0 a cap M.w).mono fun e w' ⟨he,hw⟩=>?_
  subst hw
  refine⟨_,.tup [],M,he,rfl,hM,.tup _ _ rfl (fun j d v h=>by simp at h),(Ext.refl M).weaken (by simp[ho]),rfl,?_⟩
  rw[ho,hle,show l4 []=[] from List.mergeSort_nil]
 cases nl with
 | true =>
   obtain⟨_,e,hv⟩:=hvt rfl
   have e:l=[]:=List.eq_nil_of_length_eq_zero e
   have:=hnil none 0 e
   rw[hv];simpa using this
 | false =>
   obtain rfl:sz=1:=hz.resolve_right fun h=>Bool.noConfusion h.1
   obtain⟨x,cap,hv,hc,hx,hb⟩:=hvf rfl
   by_cases e:l=[]
   ·have:=hnil (some ⟨M.β 0,x,none⟩) cap e
    rw[hv];subst e;simpa using this
   have hlp:0<l.length:=List.length_pos_iff.2 e
   have hx0:x=0:=by rcases hx with hx|hx<;>omega
   subst hx0
   obtain⟨_,hO⟩:=hO
   obtain⟨_,c,T,hh,hcs,hes,hrep⟩:=hO rfl
   have hcl:l.length≤c.size:=by simpa[p6] using hcs
   have hcell:∀ j (hj:j<l.length),c[j]?=some (.int .i64 l[j]):=fun j hj=>by
    have hjc:j<c.size:=by omega
    have:=hrep j [DC.im (.raw (.int .i64 l[j]))] 0 (.im (.raw (.int .i64 l[j]))) c[j] (by simp[l8,hj]) rfl (by simp[hjc])
    have hcj:c[j]?=some c[j]:=by simp[hjc]
    generalize c[j]=y at this hcj
    cases this with
    | im _ _ hi =>
      cases hi
      exact hcj
   have hH:Holds (Value.int .i64) M.w (M.β 0) 0 l.toArray:=fun j hj=>by
    have hj:j<l.length:=by simpa using hj
    refine⟨?_,?_⟩
    ·simp only[World.cell?,hh]
     simp[hcell j hj,hj]
    ·simp[World.frozen?,hh]
   have hlt:M.β 0<M.w.heap.size:=hM.lt 0 _ h1 rfl
   rw[hv]
   refine(hS (M.β 0) cap l M.w hH hlt (by omega)).mono fun e' w' ⟨he,n,os,hw⟩=>?_
   have hmod:M.w.heap.modify (M.β 0) (onCells (putCells (Value.int .i64) 0 (l4 l).toArray))=M.w.heap.setIfInBounds (M.β 0) (.cells (putCells (Value.int .i64) 0 (l4 l).toArray c) T (0,0)):=by
    apply Array.ext_getElem?
    intro k
    simp only[Array.getElem?_modify,Array.getElem?_setIfInBounds]
    by_cases hk:M.β 0=k
    ·subst hk;rw[if_pos rfl,if_pos rfl,if_pos hlt,hh];rfl
    ·simp[hk]
   have ha:(DObj.vec 1 (l8 (l.map Ab.encI)) g false).alike (.vec 1 (l8 ((l4 l).map Ab.encI)) g false):=⟨rfl,.inl ⟨rfl,rfl⟩⟩
   have hs:K5 (.cells (putCells (Value.int .i64) 0 (l4 l).toArray c) T (0,0))=K5 (.cells c T (0,0)):=by simp[K5,putCells]
   have hE:=Ext.turn (d':=.vec 1 (l8 ((l4 l).map Ab.encI)) g false) h1 rfl ha hh hs
   have hR:=RelM.turn (d':=.vec 1 (l8 ((l4 l).map Ab.encI)) g false) hM h1 rfl ha hh hs (by
    refine⟨fun h=>Bool.noConfusion h,fun _=>⟨by omega,putCells (Value.int .i64) 0 (l4 l).toArray c,T,by simp[MS.turn,Array.getElem?_setIfInBounds_self_of_lt hlt],by simpa[p6,L7,putCells] using hcl,fun i x hx=>?_,fun i x j d v hx hj hv=>?_⟩⟩
    ·simp only[l8,List.getElem?_map,Option.map_map] at hx
     obtain⟨y,_,rfl⟩:=Option.map_eq_some_iff.1 hx
     rfl
    ·simp only[l8,List.getElem?_map,Option.map_map] at hx
     obtain⟨y,hy,rfl⟩:=Option.map_eq_some_iff.1 hx
     have hil:i<(l4 l).length:=e7 hy
     match j,hj with
     | 0,hj =>
       cases hj
       have hic:i<c.size:=by rw[L7] at hil;omega
       rw[Nat.mul_one,Nat.add_zero,nE hil hic] at hv
       have e:(l4 l)[i]'hil=y:=(List.getElem?_eq_some_iff.1 hy).2
       cases hv
       rw[e]
       exact .im _ _ (.raw _ rfl))
   have hg:=RelM.grownS (w':=w') (os:=os) hR (by rw[hw];simp only[grow,putRow,mapBlock,Sort.ahead,MS.turn];rw[show (l.mergeSort fun x y=>decide (x≤y))=l4 l from rfl,hmod]) (by rw[hw];exact⟨rfl,rfl,rfl,Nat.le_add_right _ _⟩)
   refine⟨_,.tup [],_,he,?_,hg.1,.tup _ _ rfl (fun j d v h=>by simp at h),?_,rfl,?_⟩
   ·rfl
   ·have hl1:M.objs.length=1:=by rw[ho];rfl
    have h2:=hg.2
    rw[show (M.turn 0 (.cells (putCells (Value.int .i64) 0 (l4 l).toArray c) T (0,0)) (.vec 1 (l8 ((l4 l).map Ab.encI)) g false)).objs.length=1 by simp[MS.turn,ho]] at h2
    rw[hl1] at hE
    exact hE.trans h2
   ·simp[MS.turn,ho]
end Go.Ab
namespace Go.Proofs
open Go.Shelf
def Tryz.laysSort_ren:Go.Shelf.Ren:=⟨fun|189=>173|125=>201|257=>221|128=>249|129=>250|294=>270|295=>271|296=>272|297=>273|298=>274|299=>275|216=>196|300=>276|301=>277|328=>302|329=>286|330=>287|331=>303|332=>304|215=>239|343=>314|n=>n,fun|28=>40|3=>3|46=>287|0=>0|51=>157|53=>335|4=>4|183=>328|182=>327|131=>154|5=>5|9=>9|218=>363|222=>367|228=>390|229=>391|n=>n,fun|n=>n⟩
theorem Tryz.laysSort:Go.Proofs.Lays.n189 Tryz.prog Tryz.laysSort_ren:={
 mixed:=by kernel_rfl
 f125:=Tryz.func201.trans (congrArg some (by kernel_rfl))
 f128:=Tryz.func249.trans (congrArg some (by kernel_rfl))
 f129:=Tryz.func250.trans (congrArg some (by kernel_rfl))
 f189:=Tryz.func173.trans (congrArg some (by kernel_rfl))
 f215:=Tryz.func239.trans (congrArg some (by kernel_rfl))
 f216:=Tryz.func196.trans (congrArg some (by kernel_rfl))
 f257:=Tryz.func221.trans (congrArg some (by kernel_rfl))
 f294:=Tryz.func270.trans (congrArg some (by kernel_rfl))
 f295:=Tryz.func271.trans (congrArg some (by kernel_rfl))
 f296:=Tryz.func272.trans (congrArg some (by kernel_rfl))
 f297:=Tryz.func273.trans (congrArg some (by kernel_rfl))
 f298:=Tryz.func274.trans (congrArg some (by kernel_rfl))
 f299:=Tryz.func275.trans (congrArg some (by kernel_rfl))
 f300:=Tryz.func276.trans (congrArg some (by kernel_rfl))
 f301:=Tryz.func277.trans (congrArg some (by kernel_rfl))
 f328:=Tryz.func302.trans (congrArg some (by kernel_rfl))
 f329:=Tryz.func286.trans (congrArg some (by kernel_rfl))
 f330:=Tryz.func287.trans (congrArg some (by kernel_rfl))
 f331:=Tryz.func303.trans (congrArg some (by kernel_rfl))
 f332:=Tryz.func304.trans (congrArg some (by kernel_rfl))
 f343:=Tryz.func314.trans (congrArg some (by kernel_rfl))
 t0:=Tryz.underlying0
 a0:=Tryz.isAgg0
 z0:=Tryz.sizeOf0
 v0:=Tryz.zeroValue0
 t3:=Tryz.underlying3
 a3:=Tryz.isAgg3
 z3:=Tryz.sizeOf3
 v3:=Tryz.zeroValue3
 t4:=Tryz.underlying4
 a4:=Tryz.isAgg4
 z4:=Tryz.sizeOf4
 v4:=Tryz.zeroValue4
 t5:=Tryz.underlying5
 a5:=Tryz.isAgg5
 z5:=Tryz.sizeOf5
 v5:=Tryz.zeroValue5
 t9:=Tryz.underlying9
 a9:=Tryz.isAgg9
 z9:=Tryz.sizeOf9
 v9:=Tryz.zeroValue9
 t28:=Tryz.underlying40
 a28:=Tryz.isAgg40
 z28:=Tryz.sizeOf40
 v28:=Tryz.zeroValue40
 t46:=Tryz.underlying287
 a46:=Tryz.isAgg287
 z46:=Tryz.sizeOf287
 v46:=Tryz.zeroValue287
 t51:=Tryz.underlying157
 a51:=Tryz.isAgg157
 z51:=Tryz.sizeOf157
 v51:=Tryz.zeroValue157
 t53:=Tryz.underlying335
 a53:=Tryz.isAgg335
 z53:=Tryz.sizeOf335
 v53:=Tryz.zeroValue335
 t131:=Tryz.underlying154
 a131:=Tryz.isAgg154
 z131:=Tryz.sizeOf154
 v131:=Tryz.zeroValue154
 t182:=Tryz.underlying327
 a182:=Tryz.isAgg327
 z182:=Tryz.sizeOf327
 v182:=Tryz.zeroValue327
 t183:=Tryz.underlying328
 a183:=Tryz.isAgg328
 z183:=Tryz.sizeOf328
 v183:=Tryz.zeroValue328
 t218:=Tryz.underlying363
 a218:=Tryz.isAgg363
 z218:=Tryz.sizeOf363
 v218:=Tryz.zeroValue363
 t222:=Tryz.underlying367
 a222:=Tryz.isAgg367
 z222:=Tryz.sizeOf367
 v222:=Tryz.zeroValue367
 t228:=Tryz.underlying390
 a228:=Tryz.isAgg390
 z228:=Tryz.sizeOf390
 v228:=Tryz.zeroValue390
 t229:=Tryz.underlying391
 a229:=Tryz.isAgg391
 z229:=Tryz.sizeOf391
 v229:=Tryz.zeroValue391 }
end Go.Proofs
namespace Go.Proofs
open Go Go.Ab
theorem DX (G:JO):u9 G:=fun l g sz nl hz hl =>
 DCall.sort (P:=Tryz.prog) (G:=G) (f:=173) (fun blk cap zs w hH hb hs=>Any.slices_Sort_int Tryz.laysSort blk 0 cap zs w hH hb hs) (fun a cap w=>Any.slices_Sort_int_none Tryz.laysSort a cap w) l g sz nl hz hl
end Go.Proofs
namespace Go.Proofs
open Go.Shelf
def Tryz.laysSus_ren:Go.Shelf.Ren:=⟨fun|6=>138|15=>201|14=>200|28=>249|29=>250|20=>241|21=>242|22=>243|23=>244|24=>245|25=>246|26=>247|27=>248|46=>285|47=>286|48=>287|49=>288|50=>289|57=>305|n=>n,fun|22=>52|24=>42|25=>140|3=>3|39=>287|0=>0|53=>157|55=>335|4=>4|46=>328|45=>327|50=>154|5=>5|9=>9|66=>363|70=>367|76=>390|77=>391|n=>n,fun|n=>n⟩
theorem Tryz.laysSus:Go.Proofs.SlLaysF0.n6 Tryz.prog Tryz.laysSus_ren:={
 mixed:=by kernel_rfl
 f6:=⟨Tryz.f138.name,by decide,Tryz.func138.trans (congrArg some (by kernel_rfl))⟩
 f14:=⟨Tryz.f200.name,by decide,Tryz.func200.trans (congrArg some (by kernel_rfl))⟩
 f15:=Tryz.func201.trans (congrArg some (by kernel_rfl))
 f20:=⟨Tryz.f241.name,by decide,Tryz.func241.trans (congrArg some (by kernel_rfl))⟩
 f21:=⟨Tryz.f242.name,by decide,Tryz.func242.trans (congrArg some (by kernel_rfl))⟩
 f22:=⟨Tryz.f243.name,by decide,Tryz.func243.trans (congrArg some (by kernel_rfl))⟩
 f23:=⟨Tryz.f244.name,by decide,Tryz.func244.trans (congrArg some (by kernel_rfl))⟩
 f24:=⟨Tryz.f245.name,by decide,Tryz.func245.trans (congrArg some (by kernel_rfl))⟩
 f25:=⟨Tryz.f246.name,by decide,Tryz.func246.trans (congrArg some (by kernel_rfl))⟩
 f26:=⟨Tryz.f247.name,by decide,Tryz.func247.trans (congrArg some (by kernel_rfl))⟩
 f27:=⟨Tryz.f248.name,by decide,Tryz.func248.trans (congrArg some (by kernel_rfl))⟩
 f28:=Tryz.func249.trans (congrArg some (by kernel_rfl))
 f29:=Tryz.func250.trans (congrArg some (by kernel_rfl))
 f46:=⟨Tryz.f285.name,by decide,Tryz.func285.trans (congrArg some (by kernel_rfl))⟩
 f47:=Tryz.func286.trans (congrArg some (by kernel_rfl))
 f48:=Tryz.func287.trans (congrArg some (by kernel_rfl))
 f49:=⟨Tryz.f288.name,by decide,Tryz.func288.trans (congrArg some (by kernel_rfl))⟩
 f50:=⟨Tryz.f289.name,by decide,Tryz.func289.trans (congrArg some (by kernel_rfl))⟩
 f57:=⟨Tryz.f305.name,by decide,Tryz.func305.trans (congrArg some (by kernel_rfl))⟩
 t0:=Tryz.underlying0
 a0:=Tryz.isAgg0
 z0:=Tryz.sizeOf0
 v0:=Tryz.zeroValue0
 t3:=Tryz.underlying3
 a3:=Tryz.isAgg3
 z3:=Tryz.sizeOf3
 v3:=Tryz.zeroValue3
 t4:=Tryz.underlying4
 a4:=Tryz.isAgg4
 z4:=Tryz.sizeOf4
 v4:=Tryz.zeroValue4
 t5:=Tryz.underlying5
 a5:=Tryz.isAgg5
 z5:=Tryz.sizeOf5
 v5:=Tryz.zeroValue5
 t9:=Tryz.underlying9
 a9:=Tryz.isAgg9
 z9:=Tryz.sizeOf9
 v9:=Tryz.zeroValue9
 t22:=Tryz.underlying52
 a22:=Tryz.isAgg52
 z22:=Tryz.sizeOf52
 v22:=Tryz.zeroValue52
 t25:=Tryz.underlying140
 a25:=Tryz.isAgg140
 z25:=Tryz.sizeOf140
 v25:=Tryz.zeroValue140
 t39:=Tryz.underlying287
 a39:=Tryz.isAgg287
 z39:=Tryz.sizeOf287
 v39:=Tryz.zeroValue287
 t45:=Tryz.underlying327
 a45:=Tryz.isAgg327
 z45:=Tryz.sizeOf327
 v45:=Tryz.zeroValue327
 t46:=Tryz.underlying328
 a46:=Tryz.isAgg328
 z46:=Tryz.sizeOf328
 v46:=Tryz.zeroValue328
 t50:=Tryz.underlying154
 a50:=Tryz.isAgg154
 z50:=Tryz.sizeOf154
 v50:=Tryz.zeroValue154
 t53:=Tryz.underlying157
 a53:=Tryz.isAgg157
 z53:=Tryz.sizeOf157
 v53:=Tryz.zeroValue157
 t55:=Tryz.underlying335
 a55:=Tryz.isAgg335
 z55:=Tryz.sizeOf335
 v55:=Tryz.zeroValue335
 t66:=Tryz.underlying363
 a66:=Tryz.isAgg363
 z66:=Tryz.sizeOf363
 v66:=Tryz.zeroValue363
 t70:=Tryz.underlying367
 a70:=Tryz.isAgg367
 z70:=Tryz.sizeOf367
 v70:=Tryz.zeroValue367
 t76:=Tryz.underlying390
 a76:=Tryz.isAgg390
 z76:=Tryz.sizeOf390
 v76:=Tryz.zeroValue390
 t77:=Tryz.underlying391
 a77:=Tryz.isAgg391
 z77:=Tryz.sizeOf391
 v77:=Tryz.zeroValue391 }
end Go.Proofs
namespace Go.Proofs
open Go Go.Ab Go.Sort
theorem Ib:SWO (fun x y:wK=>decide (jm x.1 y.1<0)) where
 irrefl x:=by
  rw[decide_eq_false_iff_not,fL];unfold bX;omega
 trans x y z h1 h2:=by
  rw[decide_eq_true_iff,fL] at *
  exact ta h1 h2
 ntrans x y z h1 h2:=by
  rw[decide_eq_false_iff_not,fL] at *
  unfold bX at *
  omega
theorem Bu (G:JO):U7 G:=fun l gn sz nl hz hl =>
 DCall.sortF (P:=Tryz.prog) (G:=G) (f:=138) (g:=86) uh 2 (by decide) (fun _=>rfl) (fun a b=>jm a.1 b.1) Ib (fun x y=>by have h:=tS (G:=fun _=>none) x.1 y.1 x.2 y.2;exact h)
  (fun α _ en hk h1 c hO blk cap d w hcmp hH hb hs=>AnyQ.slices_SortFunc Tryz.laysSus 2 Tryz.isAgg42 Tryz.sizeOf42 en hk h1 c hO 86 #[] blk 0 cap d w (by simp) hcmp hH hb hs)
  (fun a cap w=>AnyF.slices_SortFunc_none Tryz.laysSus a cap _ w) (.im (.fn (.func 86) []))
  (fun M v hv=>by
   cases hv with
   | im _ _ h=>cases h with
     | fn _ _ vs h1 _ =>
       have:vs=#[]:=Array.eq_empty_of_size_eq_zero (by simpa using h1.symm)
       rw[this]) l gn sz nl hz hl
end Go.Proofs
