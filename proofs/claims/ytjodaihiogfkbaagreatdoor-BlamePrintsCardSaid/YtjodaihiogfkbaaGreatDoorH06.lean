/- Part 24 of the proofs. -/
import Derived.Shelf.Sort.Plain
import Derived.Shelf.Slices.In.SortNone
import Derived.Ground.NamesProg
import Derived.Shelf.Lays
import Derived.Shelf.SlGeneric
import Derived.Shelf.SlSortCmp.NoneTotal
import Derived.Ground.SlsfProg
import Derived.Test.YtjodaihiogfkbaaGreatDoorT14
import Derived.Test.YtjodaihiogfkbaaGreatDoorT15
import Derived.Test.YtjodaihiogfkbaaGreatDoorT16
import Derived.Test.YtjodaihiogfkbaaGreatDoorT18
import Derived.Test.YtjodaihiogfkbaaGreatDoorH02
import Derived.Test.YtjodaihiogfkbaaGreatDoorH03
import Derived.Test.YtjodaihiogfkbaaGreatDoorH04
import Derived.Test.YtjodaihiogfkbaaGreatDoorH05
set_option linter.all false
set_option linter.deprecated false
set_option maxHeartbeats 100000000
namespace Go.Ab
open Go
abbrev Gp:=Nat×Bool
def sB (b:Nat→Nat×Nat) (m:Nat→Gp×Gp) (i k:Nat) (x:Issue):List DC:=if k<i then [.im (rI x.drawing),.im (rI x.letter),.im (.raw (.int .u8 x.kind)),.vec (b k).1 (m k).1.1 0 x.items.length,.vec (b k).2 (m k).2.1 0 x.dims.length] else (e9 x).map .im
def bj (b:Nat→Nat×Nat) (m:Nat→Gp×Gp) (i:Nat) (l:List Issue):List (List DC):=l.mapIdx (sB b m i)
def jG (l:List Issue) (m:Nat→Gp×Gp) (k:Nat):Q4:=match l[k]? with
 | some x=>(.vec 2 [] 0 true,.vec 2 (l7 (x.items.map A4)) (m k).1.1 (m k).1.2,.vec 3 [] 0 true,.vec 3 (l7 (x.dims.map D7)) (m k).2.1 (m k).2.2)
 | none=>(.gone,.gone,.gone,.gone)
def sF (b:Nat→Nat) (m:Nat→Gp) (i k:Nat) (x:Holder):List DC:=if k<i then [.im (rI x.id),.im (rI x.frm),.im (rI x.to),.vec (b k) (m k).1 0 x.draws.length] else (o6 x).map .im
def bn (b:Nat→Nat) (m:Nat→Gp) (i:Nat) (l:List Holder):List (List DC):=l.mapIdx (sF b m i)
def ln (l:List Holder) (m:Nat→Gp) (k:Nat):Q2:=match l[k]? with
 | some x=>(.vec 1 [] 0 true,.vec 1 (l7 (x.draws.map Ab.encI)) (m k).1 (m k).2)
 | none=>(.gone,.gone)
@[simp] theorem Ht (b:Nat→Nat×Nat) (m:Nat→Gp×Gp) (i:Nat) (l:List Issue):(bj b m i l).length=l.length:=by simp[bj]
@[simp] theorem HD (b:Nat→Nat) (m:Nat→Gp) (i:Nat) (l:List Holder):(bn b m i l).length=l.length:=by simp[bn]
theorem vX (b:Nat→Nat×Nat) (m:Nat→Gp×Gp) (l:List Issue):bj b m 0 l=l7 (l.map e9):=by
 unfold bj l7
 apply List.ext_getElem?
 intro k
 simp[List.getElem?_mapIdx,sB]
 rfl
theorem wi (b:Nat→Nat) (m:Nat→Gp) (l:List Holder):bn b m 0 l=l7 (l.map o6):=by
 unfold bn l7
 apply List.ext_getElem?
 intro k
 simp[List.getElem?_mapIdx,sF]
 rfl
theorem Cw {b:Nat→Nat×Nat} {m:Nat→Gp×Gp} {i:Nat} {l:List Issue} {x:Issue} (h:l[i]?=some x):(bj b m i l)[i]?=some ((e9 x).map .im):=by
 simp[bj,List.getElem?_mapIdx,h,sB]
theorem CG {b:Nat→Nat} {m:Nat→Gp} {i:Nat} {l:List Holder} {x:Holder} (h:l[i]?=some x):(bn b m i l)[i]?=some ((o6 x).map .im):=by
 simp[bn,List.getElem?_mapIdx,h,sF]
def fI {α:Type} (m:Nat→α) (i:Nat) (g:α) (k:Nat):α:=if k=i then g else m k
theorem yY {b:Nat→Nat×Nat} {m:Nat→Gp×Gp} {i:Nat} {l:List Issue} {x:Issue} (h:l[i]?=some x) (g:Gp×Gp):(bj b m i l).set i [.im (rI x.drawing),.im (rI x.letter),.im (.raw (.int .u8 x.kind)),.vec (b i).1 g.1.1 0 x.items.length,.vec (b i).2 g.2.1 0 x.dims.length]=bj b (fI m i g) (i+1) l:=by
 apply List.ext_getElem?
 intro k
 rw[List.getElem?_set]
 by_cases e:i=k
 ·subst e
  have hlt:=e7 h
  rw[if_pos rfl,if_pos (by simpa using hlt)]
  simp only[bj,List.getElem?_mapIdx,h,Option.map_some,sB,fI,if_true,Nat.lt_succ_self]
 ·rw[if_neg e]
  simp only[bj,List.getElem?_mapIdx]
  have h1:¬ k=i:=fun h=>e h.symm
  cases hk:l[k]? with
  | none=>rfl
  | some y =>
    simp only[Option.map_some,sB,fI,if_neg h1]
    by_cases h2:k<i
    ·rw[if_pos h2,if_pos (by omega)]
    ·rw[if_neg h2,if_neg (by omega)]
theorem zB {b:Nat→Nat} {m:Nat→Gp} {i:Nat} {l:List Holder} {x:Holder} (h:l[i]?=some x) (g:Gp):(bn b m i l).set i [.im (rI x.id),.im (rI x.frm),.im (rI x.to),.vec (b i) g.1 0 x.draws.length]=bn b (fI m i g) (i+1) l:=by
 apply List.ext_getElem?
 intro k
 rw[List.getElem?_set]
 by_cases e:i=k
 ·subst e
  have hlt:=e7 h
  rw[if_pos rfl,if_pos (by simpa using hlt)]
  simp only[bn,List.getElem?_mapIdx,h,Option.map_some,sF,fI,if_true,Nat.lt_succ_self]
 ·rw[if_neg e]
  simp only[bn,List.getElem?_mapIdx]
  have h1:¬ k=i:=fun h=>e h.symm
  cases hk:l[k]? with
  | none=>rfl
  | some y =>
    simp only[Option.map_some,sF,fI,if_neg h1]
    by_cases h2:k<i
    ·rw[if_pos h2,if_pos (by omega)]
    ·rw[if_neg h2,if_neg (by omega)]
theorem vW {l:List Issue} {m:Nat→Gp×Gp} {i:Nat} {x:Issue} (h:l[i]?=some x) (g:Gp×Gp):F0 (jG l (fI m i g)) (i+1)=F0 (jG l m) i++[.vec 2 [] 0 true,.vec 2 (l7 (x.items.map A4)) g.1.1 g.1.2,.vec 3 [] 0 true,.vec 3 (l7 (x.dims.map D7)) g.2.1 g.2.2]:=by
 rw[F0,dl (H:=jG l m) fun k hk=>by unfold jG fI;rw[if_neg (by omega)]]
 simp[jG,h,fI]
theorem wh {l:List Holder} {m:Nat→Gp} {i:Nat} {x:Holder} (h:l[i]?=some x) (g:Gp):I5 (ln l (fI m i g)) (i+1)=I5 (ln l m) i++[.vec 1 [] 0 true,.vec 1 (l7 (x.draws.map Ab.encI)) g.1 g.2]:=by
 rw[I5,dm (H:=ln l m) fun k hk=>by unfold ln fI;rw[if_neg (by omega)]]
 simp[ln,h,fI]
abbrev Bn:=(Gp×Gp)×(Nat→Gp×Gp)×(Gp×Gp)×(Nat→Gp)×(Gp×Gp)
def tc (s k:Nat):Nat×Nat:=(4*k+(13+s),4*k+(15+s))
def td (N s k:Nat):Nat:=4*N+2*k+(17+s)
def oN (s:Nat) (m:Bn) (c:Case):List DC:=[.vec (9+s) m.1.1.1 0 c.p.n.reg.length,.vec (11+s) m.1.2.1 0 c.p.n.notes.length,.vec (4*c.p.n.reg.length+(13+s)) m.2.2.1.1.1 0 c.p.holders.length,.vec (4*c.p.n.reg.length+(15+s)) m.2.2.1.2.1 0 c.p.prints.length,.im (rI c.machine),.im (rI c.of),.vec (4*c.p.n.reg.length+2*c.p.holders.length+(17+s)) m.2.2.2.2.1.1 0 c.loop.links.length,.im (rI c.loop.lo),.im (rI c.loop.hi),.vec (4*c.p.n.reg.length+2*c.p.holders.length+(19+s)) m.2.2.2.2.2.1 0 c.pieces.length]
def qw (s:Nat) (m:Bn) (c:Case):List DObj:=.row (oN s m c) :: .vec 0 [] 0 true :: .vec 0 [] 0 true :: .vec 0 [] 0 true :: .vec 0 [] 0 true :: .vec 0 [] 0 true :: .vec 0 [] 0 true :: .row (oN s m c) :: .vec 5 [] 0 true :: .vec 5 (bj (tc s) m.2.1 c.p.n.reg.length c.p.n.reg) m.1.1.1 m.1.1.2 :: .vec 10 [] 0 true :: .vec 10 (l7 (c.p.n.notes.map l5)) m.1.2.1 m.1.2.2 :: (F0 (jG c.p.n.reg m.2.1) c.p.n.reg.length ++ .vec 4 [] 0 true :: .vec 4 (bn (td c.p.n.reg.length s) m.2.2.2.1 c.p.holders.length c.p.holders) m.2.2.1.1.1 m.2.2.1.1.2 :: .vec 7 [] 0 true :: .vec 7 (l7 (c.p.prints.map w8)) m.2.2.1.2.1 m.2.2.1.2.2 :: (I5 (ln c.p.holders m.2.2.2.1) c.p.holders.length++[.vec 3 [] 0 true,.vec 3 (l7 (c.loop.links.map F8)) m.2.2.2.2.1.1 m.2.2.2.2.1.2,.vec 4 [] 0 true,.vec 4 (l7 (c.pieces.map A2)) m.2.2.2.2.2.1 m.2.2.2.2.2.2]))
theorem nP (e:Nat→Nat) (l:List (List IC)):(l7 l).map (rnL e)=l7 l:=by
 unfold l7
 rw[List.map_map]
 exact List.map_congr_left fun x _=>eZ e x
theorem BI (a s:Nat) (m:Nat→Gp×Gp) (i:Nat) (l:List Issue):(bj (tc a) m i l).map (rnL fun o=>s+o)=bj (tc (a+s)) m i l:=by
 apply List.ext_getElem?
 intro k
 simp only[bj,List.getElem?_map,List.getElem?_mapIdx]
 cases l[k]? with
 | none=>rfl
 | some x =>
   simp only[Option.map_some,sB]
   by_cases h:k<i
   ·rw[if_pos h,if_pos h]
    simp only[rnL,iu,tc]
    rw[show s+(4*k+(13+a))=4*k+(13+(a+s)) by omega,show s+(4*k+(15+a))=4*k+(15+(a+s)) by omega]
   ·rw[if_neg h,if_neg h,eZ]
theorem BJ (N a s:Nat) (m:Nat→Gp) (i:Nat) (l:List Holder):(bn (td N a) m i l).map (rnL fun o=>s+o)=bn (td N (a+s)) m i l:=by
 apply List.ext_getElem?
 intro k
 simp only[bn,List.getElem?_map,List.getElem?_mapIdx]
 cases l[k]? with
 | none=>rfl
 | some x =>
   simp only[Option.map_some,sF]
   by_cases h:k<i
   ·rw[if_pos h,if_pos h]
    simp only[rnL,iu,td]
    rw[show s+(4*N+2*k+(17+a))=4*N+2*k+(17+(a+s)) by omega]
   ·rw[if_neg h,if_neg h,eZ]
theorem yc (a s:Nat) (m:Bn) (c:Case):rnL (fun o=>s+o) (oN a m c)=oN (a+s) m c:=by
 simp only[oN,rnL,iu]
 simp only[List.cons.injEq,DC.vec.injEq,and_true,true_and]
 omega
theorem Es (a s:Nat) (m:Bn) (c:Case):(qw a m c).map (cw fun o=>s+o)=qw (a+s) m c:=by
 have h4:(F0 (jG c.p.n.reg m.2.1) c.p.n.reg.length).map (cw fun o=>s+o)=F0 (jG c.p.n.reg m.2.1) c.p.n.reg.length:=by
  rw[mZ]
  refine dl fun k hk=>?_
  unfold jG
  rw[List.getElem?_eq_getElem hk]
  simp only[cw,nP,List.map_nil]
 have h2:(I5 (ln c.p.holders m.2.2.2.1) c.p.holders.length).map (cw fun o=>s+o)=I5 (ln c.p.holders m.2.2.2.1) c.p.holders.length:=by
  rw[nf]
  refine dm fun k hk=>?_
  unfold ln
  rw[List.getElem?_eq_getElem hk]
  simp only[cw,nP,List.map_nil]
 simp only[qw,List.map_cons,List.map_append,List.map_nil,cw,yc,BI,BJ,nP,h4,h2]
theorem qm (n:Nat):p8 [] n=fun o=>n+o:=by
 funext o;simp[p8]
theorem sh (objs o:List DObj):l9 [] objs o=objs++o.map (cw fun k=>objs.length+k):=by
 unfold l9
 rw[qm]
 simp[fY]
end Go.Ab
namespace Go.Proofs
open Go Go.Ab
variable {G:Kc}
attribute [simp] q8 bF L4 eq r5 w7 nilV H8 ZK
theorem wR (c:Case) (hk:KC c):DCall Tryz.prog G 98 [n5 c] [] (fun d o=>∃ m:Bn,True∧d=.agg (oN 0 m c)∧o=qw 0 m c):=by
 generalize hQ:(fun (d:DV) (o:List DObj)=>∃ m:Bn,True∧d=.agg (oN 0 m c)∧o=qw 0 m c)=Q
 refine g9 Tryz.func98 rfl Tryz.ntmps98 (by simp) rfl ?_
 have c1:=HN (G:=G) c.p.n.reg (by have:=hk.p.n.1.1;omega)
 have c2:=FF (G:=G) c.p.n.notes (by have:=hk.p.n.2.1;omega)
 unfold E6 at c1 c2
 simp only[List.length_map] at c1 c2
 simp only[n5]
 have hs:=trivial
 repeat' first|with_reducible refine zz ?_|simp -dsimp[hs]|refine CallE.embed_ex [] (c1) ?_ ?_ ?_ ?_ ?_ ?_;(focus simp[p8];done);(focus simp;done);(focus simp;done);(focus simp;done);(focus refine n3 ?_;simp[p8,n8];done);intro mmA hmmA;try simp -dsimp[l9,p8,hs]|refine CallE.embed_ex [] (c2) ?_ ?_ ?_ ?_ ?_ ?_;(focus simp[p8];done);(focus simp;done);(focus simp;done);(focus simp;done);(focus refine n3 ?_;simp[p8,n8];done);intro mmB hmmB;try simp -dsimp[l9,p8,hs]|refine W7 (id:=2) (nt:=117) [none,none,none,none,none,none,none,none,none,none,none,none,none,none,none,some [0],some [15],some [16],some [17],none,some [1],some [20],some [21],none] [0,1,2,3,4,5,6,7,9,10,11,12,13,15,16,17,18,20,21,22,8,14,19,23] 20 [([0,1,8,9,10,11,12,13,14,15,16,17,18,19],[0,1,2,3,4,5,6,15,36,37,38,85,86,87]),([0,1,13,14,15,16,17,18,19],[0,1,2,3,4,5,6,16,21,36,37,38,85,86,87]),([1,17,18,19],[0,1,2,3,4,5,6,16,22,26,36,37,38,85,86,87])] [0,1,2,3,4,5,6,36,37,38,85,86,87] mixed rfl (by kernel_rfl) (by kernel_rfl) (by kernel_rfl) ?_|with_reducible refine zE [0,1,2,3,4,5,6,36,37,38,85,86,87] ?_
 all_goals try clear hs
 refine i6 (ι:={ q:Nat×(Nat→Gp×Gp) // q.1≤c.p.n.reg.length }) (fun q=>⟨117,[(1,.one (.ptr 0 0)),(2,.one (.ptr 7 0)),(3,.one (.ptr 0 0)),(36,iv (c.p.n.reg.length:Int)),(37,iv (q.1.1:Int))],.row [.vec 9 mmA.1 0 c.p.n.reg.length,.vec 11 mmB.1 0 c.p.n.notes.length,.im (.sl (c.p.holders.map o6)),.im (.sl (c.p.prints.map w8)),.im (rI c.machine),.im (rI c.of),.im (.sl (c.loop.links.map F8)),.im (rI c.loop.lo),.im (rI c.loop.hi),.im (.sl (c.pieces.map A2))] :: .vec 0 [] 0 true :: .vec 0 [] 0 true :: .vec 0 [] 0 true :: .vec 0 [] 0 true :: .vec 0 [] 0 true :: .vec 0 [] 0 true :: .row [.vec 1 0 0 0,.vec 2 0 0 0,.vec 3 0 0 0,.vec 4 0 0 0,.im (rI 0),.im (rI 0),.vec 5 0 0 0,.im (rI 0),.im (rI 0),.vec 6 0 0 0] :: .vec 5 [] 0 true :: .vec 5 (bj (fun k=>(4*k+13,4*k+15)) q.1.2 q.1.1 c.p.n.reg) mmA.1 mmA.2 :: .vec 10 [] 0 true :: .vec 10 (l7 (c.p.n.notes.map l5)) mmB.1 mmB.2 :: F0 (jG c.p.n.reg q.1.2) q.1.1⟩) (fun q=>c.p.n.reg.length-q.1.1) ⟨(0,fun _=>((0,false),(0,false))),by simp⟩ (zv [1,2,3,36,37] (by simp[vX,F0])) ?_
 rintro⟨⟨i,m⟩,hi⟩
 simp only at hi
 simp only[iv,rI]
 by_cases hlt:i<c.p.n.reg.length
 ·have hw:IntKind.i64.wrap ((i:Int)+1)=((i+1:Nat):Int):=o4 (by omega) (by have:=hk.p.n.1.1;omega)
  have hx0:c.p.n.reg[i]?=some c.p.n.reg[i]:=by simp[hlt]
  have hxm:=hk.p.n.1.2 _ (List.mem_of_getElem? hx0)
  generalize c.p.n.reg[i]=x at *
  have c3:=HM (G:=G) x.items (by omega)
  have c4:=HP (G:=G) x.dims (by omega)
  unfold E6 at c3 c4
  simp only[List.length_map] at c3 c4
  have hat:∀ h,(bj (fun k=>(4*k+13,4*k+15)) m i c.p.n.reg)[i]'h=(e9 x).map .im:=fun h=>by
   have:=Cw (b:=fun k=>(4*k+13,4*k+15)) (m:=m) hx0
   rw[List.getElem?_eq_getElem h] at this;exact Option.some.inj this
  simp only[e9,rI,List.map_cons,List.map_nil] at hat
  have hset:=fun g=>yY (b:=fun k=>(4*k+13,4*k+15)) (m:=m) hx0 g
  have hsuc:=fun g=>vW (m:=m) hx0 g
  have hs:=za hlt (za hw hat)
  repeat' first|with_reducible refine zz ?_|simp -dsimp[hs]|refine CallE.embed_ex [] (c3) ?_ ?_ ?_ ?_ ?_ ?_;(focus simp[p8];done);(focus simp;done);(focus simp;done);(focus simp;done);(focus refine n3 ?_;simp[p8,n8];done);intro mmC hmmC;try simp -dsimp[l9,p8,hs]|refine CallE.embed_ex [] (c4) ?_ ?_ ?_ ?_ ?_ ?_;(focus simp[p8];done);(focus simp;done);(focus simp;done);(focus simp;done);(focus refine n3 ?_;simp[p8,n8];done);intro mmD hmmD;try simp -dsimp[l9,p8,hs]|refine W7 (id:=7) (nt:=117) [none,none,none,none,none,none,none,none,none,none,none,none,some [0],some [12],none,some [1],some [15],none] [0,1,2,3,4,5,7,8,9,10,12,13,15,16,6,11,14,17] 14 [([0,1,6,7,8,9,10,11,12,13],[0,1,2,3,4,5,6,36,37,38,53,85,86,87]),([0,1,10,11,12,13],[0,1,2,3,4,5,6,36,37,38,54,58,85,86,87]),([1,12,13],[0,1,2,3,4,5,6,36,37,38,54,59,61,85,86,87])] [0,1,2,3,4,5,6,36,37,38,85,86,87] mixed rfl (by kernel_rfl) (by kernel_rfl) (by kernel_rfl) ?_|with_reducible refine zE [0,1,2,3,4,5,6,36,37,38,85,86,87] ?_|refine i9 ?_ ?_<;>intro h<;>try simp only[i7] at h
  all_goals try clear hs
  refine At.round ⟨(i+1,fI m i (mmC,mmD)),by simp only;omega⟩ (by simp only;omega) (Weak.of_keep [1,2,3,36,37] ?_)
  rw[← hset (mmC,mmD),hsuc (mmC,mmD)]
  simp
 ·obtain rfl:i=c.p.n.reg.length:=by omega
  have c5:=FH (G:=G) c.p.holders (by have:=hk.p.p.h;omega)
  have c6:=Dc (G:=G) c.p.prints (by have:=hk.p.p.q;omega)
  unfold E6 at c5 c6
  simp only[List.length_map] at c5 c6
  have hs:=hlt
  repeat' first|with_reducible refine zz ?_|simp -dsimp[hs]|refine CallE.embed_ex [] (c5) ?_ ?_ ?_ ?_ ?_ ?_;(focus simp[p8];done);(focus simp;done);(focus simp;done);(focus simp;done);(focus refine n3 ?_;simp[p8,n8];done);intro mmE hmmE;try simp -dsimp[l9,p8,hs]|refine CallE.embed_ex [] (c6) ?_ ?_ ?_ ?_ ?_ ?_;(focus simp[p8];done);(focus simp;done);(focus simp;done);(focus simp;done);(focus refine n3 ?_;simp[p8,n8];done);intro mmF hmmF;try simp -dsimp[l9,p8,hs]|refine W7 (id:=9) (nt:=117) [none,none,none,none,none,none,none,none,none,none,none,none,some [0],some [12],none,some [1],some [15],none] [0,1,2,3,4,5,7,8,9,10,12,13,15,16,6,11,14,17] 14 [([0,1,6,7,8,9,10,11,12,13],[0,1,2,3,4,5,6,36,37,38,70,85,86,87]),([0,1,10,11,12,13],[0,1,2,3,4,5,6,36,37,38,71,75,85,86,87]),([1,12,13],[0,1,2,3,4,5,6,36,37,38,71,76,78,85,86,87])] [0,1,2,3,4,5,6,36,37,38,85,86,87] mixed rfl (by kernel_rfl) (by kernel_rfl) (by kernel_rfl) ?_|with_reducible refine zE [0,1,2,3,4,5,6,36,37,38,85,86,87] ?_|refine i9 ?_ ?_<;>intro h<;>try simp only[i7] at h
  all_goals try clear hs
  clear hlt hi
  generalize hN:c.p.n.reg.length=N at *
  refine i6 (ι:={ q:Nat×(Nat→Gp) // q.1≤c.p.holders.length }) (fun q=>⟨117,[(1,.one (.ptr 0 0)),(2,.one (.ptr 7 0)),(3,.one (.ptr 0 0)),(85,iv (c.p.holders.length:Int)),(86,iv (q.1.1:Int))],.row [.vec 9 mmA.1 0 N,.vec 11 mmB.1 0 c.p.n.notes.length,.vec (4*N+13) mmE.1 0 c.p.holders.length,.vec (4*N+15) mmF.1 0 c.p.prints.length,.im (rI c.machine),.im (rI c.of),.im (.sl (c.loop.links.map F8)),.im (rI c.loop.lo),.im (rI c.loop.hi),.im (.sl (c.pieces.map A2))] :: .vec 0 [] 0 true :: .vec 0 [] 0 true :: .vec 0 [] 0 true :: .vec 0 [] 0 true :: .vec 0 [] 0 true :: .vec 0 [] 0 true :: .row [.vec 1 0 0 0,.vec 2 0 0 0,.vec 3 0 0 0,.vec 4 0 0 0,.im (rI 0),.im (rI 0),.vec 5 0 0 0,.im (rI 0),.im (rI 0),.vec 6 0 0 0] :: .vec 5 [] 0 true :: .vec 5 (bj (fun k=>(4*k+13,4*k+15)) m N c.p.n.reg) mmA.1 mmA.2 :: .vec 10 [] 0 true :: .vec 10 (l7 (c.p.n.notes.map l5)) mmB.1 mmB.2 :: (F0 (jG c.p.n.reg m) N ++ .vec 4 [] 0 true :: .vec 4 (bn (fun k=>4*N+2*k+17) q.1.2 q.1.1 c.p.holders) mmE.1 mmE.2 :: .vec 7 [] 0 true :: .vec 7 (l7 (c.p.prints.map w8)) mmF.1 mmF.2 :: I5 (ln c.p.holders q.1.2) q.1.1)⟩) (fun q=>c.p.holders.length-q.1.1) ⟨(0,fun _=>(0,false)),by simp⟩ (zv [1,2,3,85,86] (by simp[wi,I5])) ?_
  rintro⟨⟨i,m2⟩,hi⟩
  simp only at hi
  simp only[iv,rI]
  by_cases hlt:i<c.p.holders.length
  ·have hw:IntKind.i64.wrap ((i:Int)+1)=((i+1:Nat):Int):=o4 (by omega) (by have:=hk.p.p.h;omega)
   have hx0:c.p.holders[i]?=some c.p.holders[i]:=by simp[hlt]
   have hxm:=hk.p.p.d _ (List.mem_of_getElem? hx0)
   generalize c.p.holders[i]=x at *
   have c3:=HO (G:=G) x.draws (by omega)
   unfold E6 at c3
   simp only[List.length_map] at c3
   have hat:∀ h,(bn (fun k=>4*N+2*k+17) m2 i c.p.holders)[i]'h=(o6 x).map .im:=fun h=>by
    have:=CG (b:=fun k=>4*N+2*k+17) (m:=m2) hx0
    rw[List.getElem?_eq_getElem h] at this;exact Option.some.inj this
   simp only[o6,rI,List.map_cons,List.map_nil] at hat
   have hset:=fun g=>zB (b:=fun k=>4*N+2*k+17) (m:=m2) hx0 g
   have hsuc:=fun g=>wh (m:=m2) hx0 g
   have hs:=za hlt (za hw hat)
   repeat' first|with_reducible refine zz ?_|simp -dsimp[hs]|refine CallE.embed_ex [] (c3) ?_ ?_ ?_ ?_ ?_ ?_;(focus simp[p8];done);(focus simp;done);(focus simp;done);(focus simp;done);(focus refine n3 ?_;simp[p8,n8];done);intro mmC hmmC;try simp -dsimp[l9,p8,hs]|refine W7 (id:=13) (nt:=117) [none,none,none,none,none,none,none,none,none,none,none,none,none,none,some [3,4],some [14],none] [0,1,2,3,4,5,6,7,8,9,10,11,12,14,15,13,16] 15 [([0,1,2,3,4,13,14],[0,1,2,3,4,5,6,36,37,38,85,86,87,101])] [0,1,2,3,4,5,6,36,37,38,85,86,87] mixed rfl (by kernel_rfl) (by kernel_rfl) (by kernel_rfl) ?_|with_reducible refine zE [0,1,2,3,4,5,6,36,37,38,85,86,87] ?_|refine i9 ?_ ?_<;>intro h<;>try simp only[i7] at h
   all_goals try clear hs
   refine At.round ⟨(i+1,fI m2 i mmC),by simp only;omega⟩ (by simp only;omega) (Weak.of_keep [1,2,3,85,86] ?_)
   rw[← hset mmC,hsuc mmC]
   simp
   refine congrArg (fun a=>(bn (fun k=>4*N+2*k+17) m2 i c.p.holders).set i [_,_,_,DC.vec a _ _ _]) ?_
   omega
  ·obtain rfl:i=c.p.holders.length:=by omega
   have c7:=FG (G:=G) c.loop.links (by have:=hk.l;omega)
   have c8:=Dd (G:=G) c.pieces (by have:=hk.q;omega)
   unfold E6 at c7 c8
   simp only[List.length_map] at c7 c8
   have hs:=hlt
   repeat' first|(with_reducible first|refine zz ?_|refine zr ?_)|simp -dsimp[hs]|refine CallE.embed_ex [] (c7) ?_ ?_ ?_ ?_ ?_ ?_;(focus simp[p8];done);(focus simp;done);(focus simp;done);(focus simp;done);(focus refine n3 ?_;simp[p8,n8];done);intro mmG hmmG;try simp -dsimp[l9,p8,hs]|refine CallE.embed_ex [] (c8) ?_ ?_ ?_ ?_ ?_ ?_;(focus simp[p8];done);(focus simp;done);(focus simp;done);(focus simp;done);(focus refine n3 ?_;simp[p8,n8];done);intro mmH hmmH;try simp -dsimp[l9,p8,hs]|refine W7 (id:=15) (nt:=117) [none,none,none,none,none,none,none,some [],some [7],none,some [],none] [0,1,2,4,5,7,8,10,3,6,9,11] 8 [([3,4,5,6,7],[0,1,2,3,4,5,6,36,37,38,85,86,87,108]),([5,6,7],[0,1,2,3,4,5,6,36,37,38,85,86,87,109,111]),([7],[0,1,2,3,4,5,6,36,37,38,85,86,87,109,112,114])] [0,1,2,3,4,5,6,36,37,38,85,86,87] mixed rfl (by kernel_rfl) (by kernel_rfl) (by kernel_rfl) ?_|with_reducible refine zE [0,1,2,3,4,5,6,36,37,38,85,86,87] ?_|refine i9 ?_ ?_<;>intro h<;>try simp only[i7] at h
   all_goals try clear hs
   subst hQ
   refine⟨((mmA,mmB),m,(mmE,mmF),m2,(mmG,mmH)),trivial,?_,?_⟩
   ·simp only[oN,hN,DV.agg.injEq,List.cons.injEq,DC.vec.injEq,and_true,true_and,Nat.add_zero]
    exact⟨rfl,rfl,by omega,rfl,rfl,by omega⟩
   ·simp only[qw,oN,hN,List.cons.injEq,DObj.row.injEq,DC.vec.injEq,and_true,true_and,Nat.add_zero]
    exact⟨⟨rfl,rfl,by omega,rfl,rfl,by omega⟩,⟨rfl,rfl,by omega,rfl,rfl,by omega⟩,rfl,rfl⟩
end Go.Proofs
namespace Go.Proofs
open Go Go.Ab Tryz
variable {G:Kc}
def Jf (x:Piece) (lo hi:Int):Piece:=⟨x.holder,x.day,lo,hi⟩
def rZ (c:Case) (k:Nat) (x:Piece) (lo hi:Int):Case:={ c with pieces:=c.pieces.set k (Jf x lo hi) }
noncomputable def nW (c:Case) (n lo hi:Int):Int:=if T6 c n≠0 then T6 c n else match c.pieces[n.toNat]? with
 | some x=>if S8 lo hi x.lo x.hi=true then 0 else 2
 | none=>2
theorem Cj {c:Case} {n lo hi:Int} (h:nW c n lo hi=0):r9 c=0∧∃ (k:Nat) (x:Piece),n=(k:Int)∧c.pieces[k]?=some x∧S8 lo hi x.lo x.hi=true:=by
 unfold nW at h
 by_cases h0:T6 c n=0
 ·rw[if_neg (by simp[h0])] at h
  obtain⟨he,hn0,hn1⟩:=pR h0
  obtain⟨k,rfl⟩:=Int.eq_ofNat_of_zero_le hn0
  rw[Int.toNat_natCast] at h
  cases hx:c.pieces[k]? with
  | none=>rw[hx] at h;simp at h
  | some x =>
    rw[hx] at h
    simp only at h
    by_cases hi':S8 lo hi x.lo x.hi=true
    ·exact⟨he,k,x,rfl,hx,hi'⟩
    ·rw[if_neg hi'] at h;exact absurd h (by decide)
 ·rw[if_pos (by exact h0)] at h;exact absurd h h0
def xE (s:Nat) (m:Bn) (c:Case) (lo hi:Int):List DObj:=.row (oN (9+s) m c) :: .row [.im (rI lo),.im (rI hi)] :: .vec 0 [] 0 true :: .vec 0 [] 0 true :: .vec 0 [] 0 true :: .vec 0 [] 0 true :: .vec 0 [] 0 true :: .vec 0 [] 0 true :: .row (oN (9+s) m c) :: qw (9+s) m c
theorem EW {l:List Piece} {k:Nat} {x:Piece} (lo hi:Int) (h:l[k]?=some x):(l7 (l.map A2)).set k [.im (.raw (.int .i64 x.holder)),.im (.raw (.int .i64 x.day)),.im (.raw (.int .i64 lo)),.im (.raw (.int .i64 hi))]=l7 ((l.set k (Jf x lo hi)).map A2):=by
 rw[List.map_set]
 unfold l7
 rw[List.map_set]
 rfl
theorem AI (c:Case) (k:Nat) (x:Piece) (lo hi:Int) (hx0:c.pieces[k]?=some x) (h0:r9 c=0) (hin:S8 lo hi x.lo x.hi=true) (hG:o3 G) (hN:C7 G) (hS:u3 G) (hR:v6 G) (hk:KC c):DCall prog G 41 [n5 c,iv (k:Int),D3 lo hi] [] (fun d o=>∃ m:Bn,True∧d=.tup [.agg (oN 9 m (rZ c k x lo hi)),iv 0]∧o=xE 0 m (rZ c k x lo hi) lo hi):=by
 generalize hQ:(fun (d:DV) (o:List DObj)=>∃ m:Bn,True∧d=.tup [.agg (oN 9 m (rZ c k x lo hi)),iv 0]∧o=xE 0 m (rZ c k x lo hi) lo hi)=Q
 refine g9 func41 rfl ntmps41 (by simp) rfl ?_
 have hlt:k<c.pieces.length:=e7 hx0
 have hx:c.pieces[k]=x:=(List.getElem?_eq_some_iff.1 hx0).2
 have hq16:=hk.q
 have c1:=gY (G:=G) c hG hN hS hR hk
 rw[h0] at c1
 have c2:=N7 (G:=G) 0 ((c.pieces.length:Int)-1) [(k:Int)] (by simp)
 rw[show ([(k:Int)].all fun y=>decide (0≤y)&&decide (y≤(c.pieces.length:Int)-1))=true by simp;omega] at c2
 have c3:=bk (G:=G) lo hi x.lo x.hi
 rw[hin] at c3
 have hw:IntKind.i64.wrap ((c.pieces.length:Int)-1)=(c.pieces.length:Int)-1:=o4 (by omega) (by omega)
 have c4:=wR (G:=G) c hk
 simp only[n5,j4,D3] at c1 c3 c4 ⊢
 have hs:=za hx (za hlt hw)
 repeat' first|(with_reducible first|refine zz ?_|refine zr ?_)|simp -dsimp[hs]|refine zp c1 ?_|refine zq c2 ?_|refine zq c3 ?_|refine CallE.embed_ex [] c4 ?_ ?_ ?_ ?_ ?_ ?_;(focus simp[p8];done);(focus simp;done);(focus simp;done);(focus simp;done);(focus refine n3 ?_;simp[p8,n8];done);intro mmA hmmA;(try simp only[sh,qm,jB,yc,Es,Nat.zero_add]);try simp -dsimp[oN,qw]|refine zM 4 52 27 [0,1,2,3,5,6,7,8,12,41] ?_|with_reducible refine zE [0,1,2,3,5,6,7,8,12,41] ?_|refine i9 ?_ ?_<;>intro h<;>try simp only[i7] at h
 subst hQ
 have hst:=EW lo hi hx0
 refine⟨mmA,trivial,?_,?_⟩
 ·simp[oN,rZ]
 ·simp[xE,qw,oN,rZ,hst]
def kf:Case:=⟨⟨⟨[],[]⟩,[],[]⟩,0,0,⟨[],0,0⟩,[]⟩
noncomputable def DU (c:Case) (n lo hi:Int):Case:=if nW c n lo hi=0 then (match c.pieces[n.toNat]? with|some x=>rZ c n.toNat x lo hi|none=>kf) else kf
theorem Ci {c:Case} {k:Nat} {x:Piece} {lo hi:Int} (h:nW c (k:Int) lo hi=0) (hx:c.pieces[k]?=some x):DU c (k:Int) lo hi=rZ c k x lo hi:=by
 unfold DU;rw[if_pos h,Int.toNat_natCast,hx]
theorem EX {c:Case} {n lo hi:Int} (h:¬ nW c n lo hi=0):DU c n lo hi=kf:=by
 unfold DU;rw[if_neg h]
theorem EY {c:Case} {k:Nat} {x:Piece} (lo hi:Int) (h0:r9 c=0) (hx:c.pieces[k]?=some x):nW c (k:Int) lo hi=if S8 lo hi x.lo x.hi=true then 0 else 2:=by
 have hlt:=e7 hx
 have h1:T6 c (k:Int)=0:=by unfold T6;rw[if_neg (by simp[h0]),if_pos (by omega)]
 unfold nW
 rw[if_neg (by simp[h1]),Int.toNat_natCast,hx]
theorem Ck {c:Case} {n:Int} (lo hi:Int) (h0:r9 c=0) (hn:¬ (0≤n∧n<c.pieces.length)):nW c n lo hi=2:=by
 have h1:T6 c n=2:=by unfold T6;rw[if_neg (by simp[h0]),if_neg hn]
 unfold nW
 rw[if_pos (by rw[h1];decide),h1]
theorem Cl {c:Case} (n lo hi:Int) (h0:¬ r9 c=0):nW c n lo hi=r9 c:=by
 have h1:T6 c n=r9 c:=by unfold T6;rw[if_pos h0]
 unfold nW
 rw[if_pos (by rw[h1];exact h0),h1]
theorem AJ (c:Case) (n lo hi:Int) (h:¬ nW c n lo hi=0) (hG:o3 G) (hN:C7 G) (hS:u3 G) (hR:v6 G) (hk:KC c):zP prog G 41 [n5 c,iv n,D3 lo hi] (.tup [n5 kf,iv (nW c n lo hi)]):=by
 refine zf func41 ntmps41 ?_
 try simp only[iv,D3]
 have c1:=gY (G:=G) c hG hN hS hR hk
 have hq16:=hk.q
 simp only[n5,j4,D3] at c1 ⊢
 by_cases h0:r9 c=0
 ·rw[h0] at c1
  have hw:IntKind.i64.wrap ((c.pieces.length:Int)-1)=(c.pieces.length:Int)-1:=o4 (by omega) (by omega)
  have c2:=N7 (G:=G) 0 ((c.pieces.length:Int)-1) [n] (by simp)
  by_cases hn:0≤n∧n<c.pieces.length
  ·obtain⟨k,rfl⟩:=Int.eq_ofNat_of_zero_le hn.1
   have hlt:k<c.pieces.length:=by omega
   have hx0:c.pieces[k]?=some c.pieces[k]:=by simp[hlt]
   have hE:=EY lo hi h0 hx0
   generalize hx:c.pieces[k]=x at *
   have c3:=bk (G:=G) lo hi x.lo x.hi
   rw[show ([(k:Int)].all fun y=>decide (0≤y)&&decide (y≤(c.pieces.length:Int)-1))=true by simp;omega] at c2
   have hin:S8 lo hi x.lo x.hi=false:=by
    cases hb:S8 lo hi x.lo x.hi
    ·rfl
    ·rw[hb,if_pos rfl] at hE;exact absurd hE h
   rw[hin,if_neg (by decide)] at hE
   rw[hin] at c3
   rw[hE]
   simp only[D3] at c3
   have hs:=za hx (za hlt hw)
   repeat' first|(with_reducible first|refine zz ?_|refine zr ?_)|simp -dsimp[hs]|refine zp c1 ?_|refine zq c2 ?_|refine zq c3 ?_|refine zM 4 52 27 [0,1,2,3,5,6,7,8,12,41] ?_|with_reducible refine zE [0,1,2,3,5,6,7,8,12,41] ?_|refine i9 ?_ ?_<;>intro h<;>try simp only[i7] at h
   all_goals simp[kf]
  ·have hE:=Ck lo hi h0 hn
   rw[show ([n].all fun y=>decide (0≤y)&&decide (y≤(c.pieces.length:Int)-1))=false by simp;omega] at c2
   rw[hE]
   have hs:=hw
   repeat' first|(with_reducible first|refine zz ?_|refine zr ?_)|simp -dsimp[hs]|refine zp c1 ?_|refine zq c2 ?_|refine zM 4 52 27 [0,1,2,3,5,6,7,8,12,41] ?_|with_reducible refine zE [0,1,2,3,5,6,7,8,12,41] ?_|refine i9 ?_ ?_<;>intro h<;>try simp only[i7] at h
   all_goals simp[kf]
 ·have hE:=Cl n lo hi h0
  rw[hE]
  have hs:=h0
  repeat' first|(with_reducible first|refine zz ?_|refine zr ?_|refine zE [0,1,2,3,5,6,7,8,12,41] ?_)|simp -dsimp[hs]|refine zp c1 ?_|refine i9 ?_ ?_<;>intro h<;>try simp only[i7] at h
  all_goals simp[kf]
end Go.Proofs
namespace Go.Ab
open Go
theorem zR {i n:Nat} (h:i<n) (F:Nat→Q4) (R:List DObj):(F0 F n++R)[4*i+1]?=some (F i).2.1:=by
 rw[List.getElem?_append_left (by simp;omega),iN F (by omega) h];rfl
theorem zQ {i n:Nat} (h:i<n) (F:Nat→Q4) (R:List DObj):(F0 F n++R)[4*i+3]?=some (F i).2.2.2:=by
 rw[List.getElem?_append_left (by simp;omega),iN F (by omega) h];rfl
theorem zS {i n:Nat} (h:i<n) (F:Nat→Q2) (R:List DObj):(I5 F n++R)[2*i+1]?=some (F i).2:=by
 rw[List.getElem?_append_left (by simp;omega),ng F (by omega) h];rfl
theorem nY {α β:Type} {f:α→Option β}:∀ {l:List α} {r:List β},l.length=r.length→(∀ (i:Nat) (x:α),l[i]?=some x→f x=r[i]?)→D6 f l=some r
 | [],[],_,_=>rfl
 | [],_ :: _,h,_=>by simp at h
 | _ :: _,[],h,_=>by simp at h
 | x :: l,y :: r,h,h2=>by
   have h0:=h2 0 x rfl
   have h1:=nY (f:=f) (l:=l) (r:=r) (by simpa using h) (fun i z hz=>by simpa using h2 (i+1) z (by simpa using hz))
   simp only[List.getElem?_cons_zero] at h0
   simp only[D6,h0,h1]
theorem gy {k o g len sz:Nat} {nl:Bool} {objs:List DObj} {es:List (List DC)} {L:List (List IC)} (ho:objs[o]?=some (.vec sz es g nl)) (hl:es.length=len) (h:D6 (D6 (frz k 0 objs)) es=some L):frz (k+1) 0 objs (.vec o g 0 len)=some (.sl L):=by
 subst hl
 simp only[frz,ho,Nat.zero_le,if_true,Nat.zero_add,Nat.le_refl,and_self,List.drop_zero,List.take_length,h,Option.map_some]
theorem dW {o g len sz:Nat} {nl:Bool} {objs:List DObj} {es:List (List DC)} {L:List (List IC)} (ho:objs[o]?=some (.vec sz es g nl)) (hl:es.length=len) (h:D6 (D6 (frz 19 0 objs)) es=some L):fz 0 objs (.vec o g 0 len)=.im (.sl L):=by
 simp only[fz,DC.lt,gy ho hl h]
 simp
theorem Ft {s:Nat} {m:Bn} {c:Case} {objs:List DObj} (h1:objs[9+s]?=some (.vec 5 (bj (tc s) m.2.1 c.p.n.reg.length c.p.n.reg) m.1.1.1 m.1.1.2)) (h2:objs[11+s]?=some (.vec 10 (l7 (c.p.n.notes.map l5)) m.1.2.1 m.1.2.2))
 (h3:objs[4*c.p.n.reg.length+(13+s)]?=some (.vec 4 (bn (td c.p.n.reg.length s) m.2.2.2.1 c.p.holders.length c.p.holders) m.2.2.1.1.1 m.2.2.1.1.2)) (h4:objs[4*c.p.n.reg.length+(15+s)]?=some (.vec 7 (l7 (c.p.prints.map w8)) m.2.2.1.2.1 m.2.2.1.2.2))
 (h5:objs[4*c.p.n.reg.length+2*c.p.holders.length+(17+s)]?=some (.vec 3 (l7 (c.loop.links.map F8)) m.2.2.2.2.1.1 m.2.2.2.2.1.2)) (h6:objs[4*c.p.n.reg.length+2*c.p.holders.length+(19+s)]?=some (.vec 4 (l7 (c.pieces.map A2)) m.2.2.2.2.2.1 m.2.2.2.2.2.2))
 (hA:∀ (k:Nat) (x:Issue),c.p.n.reg[k]?=some x→objs[4*k+(13+s)]?=some (.vec 2 (l7 (x.items.map A4)) (m.2.1 k).1.1 (m.2.1 k).1.2)∧objs[4*k+(15+s)]?=some (.vec 3 (l7 (x.dims.map D7)) (m.2.1 k).2.1 (m.2.1 k).2.2))
 (hB:∀ (k:Nat) (x:Holder),c.p.holders[k]?=some x→objs[4*c.p.n.reg.length+2*k+(17+s)]?=some (.vec 1 (l7 (x.draws.map Ab.encI)) (m.2.2.2.1 k).1 (m.2.2.2.1 k).2)):(oN s m c).map (fz 0 objs)=(j4 c).map .im:=by
 have e1:D6 (D6 (frz 19 0 objs)) (bj (tc s) m.2.1 c.p.n.reg.length c.p.n.reg)=some (c.p.n.reg.map e9):=by
  refine nY (by simp) fun i r hr=>?_
  simp only[bj,List.getElem?_mapIdx,Option.map_eq_some_iff] at hr
  obtain⟨x,hx,rfl⟩:=hr
  rw[List.getElem?_map,hx]
  obtain⟨a1,a2⟩:=hA i x hx
  have b1:=gy (k:=18) (len:=x.items.length) a1 (by simp[l7]) (R2 _ _ _ _)
  have b2:=gy (k:=18) (len:=x.dims.length) a2 (by simp[l7]) (R2 _ _ _ _)
  have hlt:=e7 hx
  have f1:∀ c:IC,frz 19 0 objs (.im c)=some c:=fun _=>rfl
  simp only[sB,if_pos hlt,D6,f1,tc,b1,b2,Option.map_some,e9]
 have e2:D6 (D6 (frz 19 0 objs)) (bn (td c.p.n.reg.length s) m.2.2.2.1 c.p.holders.length c.p.holders)=some (c.p.holders.map o6):=by
  refine nY (by simp) fun i r hr=>?_
  simp only[bn,List.getElem?_mapIdx,Option.map_eq_some_iff] at hr
  obtain⟨x,hx,rfl⟩:=hr
  rw[List.getElem?_map,hx]
  have b1:=gy (k:=18) (len:=x.draws.length) (hB i x hx) (by simp[l7]) (R2 _ _ _ _)
  have hlt:=e7 hx
  have f1:∀ c:IC,frz 19 0 objs (.im c)=some c:=fun _=>rfl
  simp only[sF,if_pos hlt,D6,f1,td,b1,Option.map_some,o6]
 simp only[oN,List.map_cons,List.map_nil,j4]
 rw[dW h1 (by simp) e1,dW h2 (by simp[l7]) (R2 _ _ _ _),dW h3 (by simp) e2,dW h4 (by simp[l7]) (R2 _ _ _ _),dW h5 (by simp[l7]) (R2 _ _ _ _),dW h6 (by simp[l7]) (R2 _ _ _ _)]
 rfl
end Go.Ab
namespace Go.Proofs
open Go Go.Ab Tryz
variable {G:Kc}
attribute [simp] q8 bF L4 eq r5 w7 nilV H8 ZK
theorem jU (c:Case) (s:Susp) (w:Int) (h1:0≤s.kind∧s.kind≤255) (hG:o3 G) (hN:C7 G) (hS:u3 G) (hR:v6 G) (hC:L6 G) (hK:bV G) (hk:KC c):zP prog G 45 [n5 c,E9 s,tZ w] (bv (decide (fg c s=0)&&decide (gu c s=w))):=by
 refine zf func45 ntmps45 ?_
 try simp only[tZ]
 have c1:=AL (G:=G) c s h1 hG hN hS hR hC hK hk
 generalize gu c s=A at *
 generalize fg c s=B at *
 simp only[n5,j4,E9,j9,rI,List.map_cons,List.map_nil] at c1 ⊢
 have hs:=trivial
 repeat' first|(with_reducible first|refine zz ?_|refine zr ?_|refine zE [0,1,2,3,4,6,7,8] ?_)|simp -dsimp[hs]|refine zp c1 ?_|with_reducible refine j0 ?_ ?_<;>intro h<;>have h0:=h<;>(try simp only[i7] at h)<;>have h2:=h<;>(try simp at h2)<;>replace hs:=za h0 (za h (za h2 hs))
 all_goals simp
theorem CM (m:Bn) (c:Case) (lo hi:Int):(oN 9 m c).map (fz 0 (xE 0 m c lo hi))=(j4 c).map .im:=by
 refine Ft (s:=9) (m:=m) (c:=c) ?_ ?_ ?_ ?_ ?_ ?_ ?_ ?_
 ·simp[xE,qw]
 ·simp[xE,qw]
 ·simp[xE,qw]
 ·simp[xE,qw]
 ·simp[xE,qw]
 ·simp[xE,qw]
 ·intro k x hx
  have hlt:=e7 hx
  have a1:=zR hlt
  have a3:=zQ hlt
  simp[xE,qw,a1,a3,jG,hx]
 ·intro k x hx
  have hlt:=e7 hx
  have a1:=zS hlt
  simp[xE,qw,a1,ln,hx]
theorem AK (c:Case) (n lo hi:Int) (hG:o3 G) (hN:C7 G) (hS:u3 G) (hR:v6 G) (hk:KC c) (objs:List DObj):DCall prog G 41 [n5 c,iv n,D3 lo hi] objs (fun d objs'=>d=.tup [n5 (DU c n lo hi),iv (nW c n lo hi)]∧objs'=objs):=by
 by_cases h:nW c n lo hi=0
 ·obtain⟨he,k,x,rfl,hx0,hin⟩:=Cj h
  rw[Ci h hx0,h]
  refine DCall.frame ?_ (by simp) (by simp) objs
  refine(AI (G:=G) c k x lo hi hx0 he hin hG hN hS hR hk).mono ?_
  rintro d o ⟨m,_,rfl,rfl⟩
  have:=CM m (rZ c k x lo hi) lo hi
  simp only[eO,fzVL,this]
  rfl
 ·rw[EX h]
  exact AJ (G:=G) c n lo hi h hG hN hS hR hk objs
theorem wM:ic boltP:=by
 refine⟨?_,?_⟩
 ·exact⟨by decide,by decide⟩
 ·intro x hx
  simp only[boltP,List.mem_cons,List.not_mem_nil,or_false] at hx
  rcases hx with rfl|rfl|rfl|rfl<;>exact⟨by decide,by decide⟩
theorem tp:bM boltC=true:=by decide +kernel
theorem tq:s6 boltP.n=0:=by decide +kernel
theorem wL:nums boltP.n.reg=[1,2,3]:=by decide +kernel
theorem qJ:PrintsOk boltP:=by
 refine⟨by decide,by decide,fun i x hx=>?_,fun i x hx=>?_⟩
 ·rw[wL]
  have h:=List.getElem?_eq_some_iff.1 hx
  obtain⟨h1,h2⟩:=h
  have h1':i<2:=h1
  rcases i with _|_|i
  ·cases hx
   refine⟨by unfold Il;simp,fun k d hd=>?_⟩
   rcases k with _|_|k
   ·cases hd;exact⟨by decide,by simp⟩
   ·cases hd;exact⟨by decide,fun _ e he=>by cases he;decide⟩
   ·exact absurd hd (by simp)
  ·cases hx
   refine⟨?_,fun k d hd=>?_⟩
   ·refine⟨by decide,fun _ y hy=>?_,by decide,by decide,by decide,by decide⟩
    cases hy;decide
   ·rcases k with _|k
    ·cases hd;exact⟨by decide,by simp⟩
    ·exact absurd hd (by simp)
  ·omega
 ·obtain⟨h1,h2⟩:=List.getElem?_eq_some_iff.1 hx
  have h1':i<4:=h1
  rcases i with _|_|_|_|i
  ·cases hx;exact⟨by simp,fun c hc=>by rcases c with _|_|_|_|_|c<;>first|decide +kernel|omega⟩
  ·cases hx;exact⟨fun _ y hy=>by cases hy;decide,fun c hc=>by rcases c with _|_|_|_|_|c<;>first|decide +kernel|omega⟩
  ·cases hx;exact⟨fun _ y hy=>by cases hy;decide,fun c hc=>by rcases c with _|_|_|_|_|c<;>first|decide +kernel|omega⟩
  ·cases hx;exact⟨fun _ y hy=>by cases hy;decide,fun c hc=>by rcases c with _|_|_|_|_|c<;>first|decide +kernel|omega⟩
  ·omega
theorem gV:s9 boltP=0:=by
 unfold s9
 rw[if_neg (by rw[tq];decide),if_pos (cZ qJ)]
theorem U3:r9 boltC=0:=by
 unfold r9
 rw[if_neg (by rw[show boltC.p=boltP from rfl,gV];decide),if_pos (by decide +kernel)]
theorem bolt_k:tD boltC∧KC boltC:=Bk wM tp
theorem qI:bK boltC=(15,17):=by
 unfold bK;rw[if_pos U3];decide +kernel
theorem ny:dn boltC=0:=by
 unfold dn;rw[if_pos U3,qI];decide +kernel
theorem L8:J9 boltC=0:=by
 unfold J9;rw[if_neg (by rw[U3];decide),if_neg (by rw[ny];decide)]
theorem lG (d i w:Int) (hd:qv d 1=true) (h:(boltP.holders.any fun y=>decide (y.id=i))=true∧w∈nums boltP.n.reg):I3 boltP d 1 i w=0:=by
 unfold I3 G5
 rw[if_neg,if_pos h]
 rw[if_neg (by rw[gV];decide),if_pos hd];decide
theorem uq {l r:List Int} (hp:l.Perm r) (hs:r.Pairwise (·≤·)):j6 l=r:=
 List.Perm.eq_of_pairwise (fun a b _ _ h1 h2=>by omega) (bW l) hs (((List.mergeSort_perm l _)).trans hp)
theorem lF:E0 boltC 0=[1,2]:=by
 show N1 boltP 20 2 2=_
 unfold N1
 rw[if_pos (lG 20 2 2 (by decide) (by decide +kernel))]
 unfold N0
 have e:j6 (Z1 20 2 2 boltP.prints++[aV 20 2 2 boltP.prints])=[1,2]:=uq (by decide +kernel) (by decide +kernel)
 rw[e];decide +kernel
theorem lE:E0 boltC 1=[1]:=by
 show N1 boltP 20 1 3=_
 unfold N1
 rw[if_pos (lG 20 1 3 (by decide) (by decide +kernel))]
 unfold N0
 have e:j6 (Z1 20 1 3 boltP.prints++[aV 20 1 3 boltP.prints])=[1]:=uq (by decide +kernel) (by decide +kernel)
 rw[e];decide +kernel
theorem nx:j6 (j8 boltP.n.notes)=[]:=by decide +kernel
theorem Dj:Cc boltC []=false:=by decide +kernel
theorem Dl:jp boltC [] 0=[(true,false),(false,true)]:=by
 show (E0 boltC 0).foldl (G3 boltC ⟨2,0,false⟩ ⟨2,20,106,107⟩ (jC boltC [] 2)) []=_
 rw[lF];decide +kernel
theorem Dk:jp boltC [] 1=[(false,false)]:=by
 show (E0 boltC 1).foldl (G3 boltC ⟨3,0,true⟩ ⟨1,20,90,91⟩ (jC boltC [] 3)) []=_
 rw[lE];decide +kernel
def gW:Desk:=⟨boltC,false,[[(true,false),(false,true)],[(false,false)]]⟩
theorem nz:H4 boltC []=gW:=by
 unfold H4 gW
 rw[Dj,show (List.range boltC.pieces.length).map (jp boltC [])=[jp boltC [] 0,jp boltC [] 1] from rfl,Dl,Dk]
theorem ak:n9 boltC=[gW]:=by
 unfold n9
 rw[show boltC.p=boltP from rfl,nx,show N9 ([]:List Int)=[[]] by decide +kernel]
 simp[nz]
theorem bolt_sus:nI boltC 2=[]∧nI boltC 1=[⟨2,0⟩,⟨3,0⟩]:=by
 unfold nI Gu DW
 rw[if_pos L8,if_pos L8,ak]
 decide +kernel
theorem Ay:tA boltC=[⟨2,0⟩,⟨3,0⟩]:=by
 unfold tA AQ
 rw[if_pos L8,ak]
 decide +kernel
theorem Aw:sO boltC=[⟨2,0⟩]:=by
 unfold sO
 rw[if_pos L8,ak]
 decide +kernel
theorem Ax:qy boltC=(1,1):=by
 unfold qy
 rw[if_pos L8,ak]
 decide +kernel
theorem dH (k:Nat) (h:k<2):T6 boltC k=0∧gr boltC k=E0 boltC k:=by
 have e:T6 boltC k=0:=by
  unfold T6
  rw[if_neg (by rw[U3];decide),if_pos ⟨by omega,by show (k:Int)<((2:Nat):Int);omega⟩]
 exact⟨e,by unfold gr;rw[if_pos e];rfl⟩
theorem bolt_clr:mo boltC 1=0∧oP boltC 1=(90,91):=by
 have e0:=(dH 1 (by decide)).1
 have e:iY boltC 1=(90,91):=by
  show (gr boltC ((1:Nat):Int)).foldl (J8 boltC ⟨3,0,true⟩) (90,91)=_
  rw[(dH 1 (by decide)).2,lE];decide +kernel
 have e1:mo boltC 1=0:=by
  unfold mo
  rw[if_neg (by rw[show (1:Int)=((1:Nat):Int) from rfl,e0];decide),e];decide
 exact⟨e1,by unfold oP;rw[if_pos e1,e]⟩
theorem U2 (s:Susp) (h:oZ 2 s=true):fg boltC s=0∧gu boltC s=G2 [gW] s:=by
 have e:fg boltC s=0:=by
  unfold fg
  rw[if_neg (by rw[L8];decide),if_pos (show oZ boltC.pieces.length s=true from h)]
 exact⟨e,by unfold gu;rw[if_pos e,ak]⟩
theorem qK (s:Susp) (h:oZ 2 s=true):kV boltC [] s=0∧iH boltC [] s=G2 [gW] s:=by
 have e:kV boltC [] s=0:=by
  unfold kV
  rw[if_neg (by rw[L8];decide),if_neg (by rw[show boltC.p=boltP from rfl,nx];decide),if_pos (show oZ boltC.pieces.length s=true from h)]
 exact⟨e,by unfold iH;rw[if_pos e,nz]⟩
def Ed:Case:={ boltC with pieces:=[⟨2,20,107,107⟩,⟨1,20,90,91⟩] }
theorem bolt_ms:nW boltC 0 107 107=0∧DU boltC 0 107 107=Ed:=by
 have e0:=(dH 0 (by decide)).1
 have e1:nW boltC 0 107 107=0:=by
  unfold nW
  rw[if_neg (by rw[show (0:Int)=((0:Nat):Int) from rfl,e0];decide)];rfl
 exact⟨e1,by unfold DU;rw[if_pos e1];rfl⟩
set_option maxRecDepth 10000 in
theorem Dq (hG:o3 G) (hN:C7 G) (hS:u3 G) (hU:V2 G) (hR:v6 G) (hC:L6 G) (hK:bV G) (hF:jI G):zP prog G 32 [] (bv true):=by
 refine zf func32 ntmps32 ?_
 try simp only[iv]
 have hk:=bolt_k.2
 have c0:=FO (G:=G)
 have c1:=AH (G:=G) boltC hG hN hS hR hk
 have c2:=uI (G:=G) boltC hG hN hS hR hk
 have c3:=fB (G:=G) boltC 0 hG hN hS hR hk
 have c4:=qL (G:=G) boltC hG hN hS hU hR hC hK hk
 have c5:=AO (G:=G) boltC hG hN hS hU hR hC hF hk
 have c6:=wQ (G:=G) boltC hG hN hS hU hR hC hF hk
 have c7:=AM (G:=G) boltC hG hN hS hU hR hC hF hk
 have c8:=AN (G:=G) boltC 1 hG hN hS hR hk
 have c9:=AK (G:=G) boltC 0 107 107 hG hN hS hR hk
 have c10:=FQ (G:=G) boltC [] ⟨2,0⟩ (by decide) (by decide) hG hN hS hR hC hK hk
 rw[qI,U3] at c1
 rw[ny,U3] at c2
 rw[show (0:Int)=((0:Nat):Int) from rfl,(dH 0 (by decide)).1,(dH 0 (by decide)).2,lF] at c3
 rw[bolt_sus.1,bolt_sus.2,L8] at c4
 rw[Ay,L8] at c5
 rw[Aw,L8] at c6
 rw[Ax,L8] at c7
 rw[bolt_clr.1,bolt_clr.2] at c8
 rw[bolt_ms.1,bolt_ms.2] at c9
 rw[(qK ⟨2,0⟩ (by decide)).1,(qK ⟨2,0⟩ (by decide)).2,show G2 [gW] ⟨2,0⟩=1 by decide] at c10
 have d1:=jU (G:=G) boltC ⟨1,0⟩ 0 (by decide) hG hN hS hR hC hK hk
 have d2:=jU (G:=G) boltC ⟨3,0⟩ 1 (by decide) hG hN hS hR hC hK hk
 have d3:=jU (G:=G) boltC ⟨2,1⟩ 0 (by decide) hG hN hS hR hC hK hk
 rw[(U2 ⟨1,0⟩ (by decide)).1,(U2 ⟨1,0⟩ (by decide)).2,show G2 [gW] ⟨1,0⟩=0 by decide] at d1
 rw[(U2 ⟨3,0⟩ (by decide)).1,(U2 ⟨3,0⟩ (by decide)).2,show G2 [gW] ⟨3,0⟩=1 by decide] at d2
 rw[(U2 ⟨2,1⟩ (by decide)).1,(U2 ⟨2,1⟩ (by decide)).2,show G2 [gW] ⟨2,1⟩=0 by decide] at d3
 simp only[decide_true,Bool.and_self] at d1 d2 d3
 have s0:=Ei (G:=G)
 have s1:=rz (G:=G) 0
 have s2:=rz (G:=G) 1
 have s3:=Ej (G:=G) 0
 have p1:=eW (G:=G) 15 17
 have p2:=eW (G:=G) 90 91
 have p3:=eW (G:=G) 107 107
 have p4:=eW (G:=G) 1 1
 have q1:=kE (G:=G) [1,2] [1,2] (by simp)
 simp only[decide_true] at q1
 have q2:=mI (G:=G) [⟨2,0⟩,⟨3,0⟩] (by simp)
 have q3:=mI (G:=G) [⟨2,0⟩] (by simp)
 simp only[n5,E9,j9,C5,D3,tZ,r7,Ab.encI,rI,List.map_cons,List.map_nil,Int.natCast_zero] at *
 obtain⟨m1,m2,m3,m4,m5,m6,m7,m8,m9,hM⟩:∃ m1 m2 m3 m4 m5 m6 m7 m8 m9,(j4 Ed).map DC.im=[.im m1,.im m2,.im m3,.im m4,.im m5,.im m6,.im m7,.im m8,.im m9,.im (.sl ([⟨2,20,107,107⟩,⟨1,20,90,91⟩].map A2))]:=⟨_,_,_,_,_,_,_,_,_,rfl⟩
 rw[hM] at c9
 obtain⟨X,hX⟩:∃ X,j4 boltC=X:=⟨_,rfl⟩
 have hXf:∃ a b c d e f g h i j,X=[a,b,c,d,e,f,g,h,i,j]:=⟨_,_,_,_,_,_,_,_,_,_,hX.symm⟩
 obtain⟨x1,x2,x3,x4,x5,x6,x7,x8,x9,x10,rfl⟩:=hXf
 rw[hX] at c0 c1 c2 c3 c4 c5 c6 c7 c8 c9 c10 d1 d2 d3
 simp only[A2,rI,List.map_cons,List.map_nil] at *
 repeat' first|(with_reducible first|refine zz ?_|refine zx ?_)|simp -dsimp|refine zp c0 ?_|refine zp c1 ?_|refine zp c2 ?_|refine zp c3 ?_|refine zp c4 ?_|refine zp c5 ?_|refine zp c6 ?_|refine zp c7 ?_|refine zp c8 ?_|refine zp c9 ?_|refine zp c10 ?_|refine zp s1 ?_|refine zp s3 ?_|refine zp p3 ?_|refine zq q1 ?_|refine zq d1 ?_|refine zq d2 ?_|refine zq d3 ?_|refine zq p1 ?_|refine zq p2 ?_|refine zq p3 ?_|refine zq p4 ?_|refine zq s0 ?_|refine zq s2 ?_|refine zq s3 ?_|refine zq c0 ?_|refine QCall.thaw (q2) ?_ ?_ ?_;(focus simp;done);(focus simp;done)|refine QCall.thaw (q3) ?_ ?_ ?_;(focus simp;done);(focus simp;done)|refine zM 12 198 70 [0,1,2,3,4,5,6,7,8,9,10,11,12,13,14,15,16,17,18,19,20,21,22,148] ?_|refine zM 14 198 50 [0,1,2,3,4,5,6,7,8,9,10,11,12,13,14,15,16,17,18,19,20,21,22,148] ?_|with_reducible refine zE [0,1,2,3,4,5,6,7,8,9,10,11,12,13,14,15,16,17,18,19,20,21,22,148] ?_|refine i9 ?_ ?_<;>intro h<;>try simp only[i7] at h
end Go.Proofs
namespace Go.Proofs
open Go Go.Ab
def Is (b:Bool) (f:Nat→J4) (n:Nat):List Susp:=gl b (fun i=>(f i).1) (fun i=>(f i).2) n
def JO (d:Desk) (f:Nat→J4):Prop:=∀ i,i<d.faults.length→f i∈d.faults.getD i []
structure DkG (n:Nat) (D:List Desk):Prop where
 ne:D≠[]
 len:∀ d∈D,d.faults.length=n
 f:∀ d∈D,∀ x∈d.faults,x≠[]
 cause:∀ d∈D,∀ g,JO d g→Is d.notes g n≠[]
variable {n:Nat} {D:List Desk}
end Go.Proofs
namespace Go.Proofs
open Go Go.Ab
variable {n:Nat} {D D':List Desk}
end Go.Proofs
namespace Go.Proofs
open Go Go.Ab
theorem addF_mem {L:List J4} {so:Bool} {f g:J4}:g∈ap L so f↔g∈L∨(so=true∧g=f):=by
 unfold ap
 split
 ·rename_i h;rw[List.mem_append,List.mem_singleton];simp[h.1]
 ·rename_i h
  constructor
  ·exact .inl
  ·rintro (h1|⟨h1,rfl⟩)
   ·exact h1
   ·exact Classical.byContradiction fun h2=>h ⟨h1,h2⟩
theorem sH {c:Case} {y:Link} {x:Piece} {o:Int} {L:List J4} {l:Int} {g:J4}:g∈G3 c y x o L l↔g∈L∨(rj c y x l=true∧g=(!decide (l=o),false))∨(uu c y x l=true∧g=(!decide (l=o),true)):=by
 unfold G3
 rw[addF_mem,addF_mem,or_assoc]
theorem lq {c:Case} {y:Link} {x:Piece} {o:Int} {g:J4}:∀ {l:List Int} {L:List J4},g∈l.foldl (G3 c y x o) L↔g∈L∨∃ a∈l,(rj c y x a=true∧g=(!decide (a=o),false))∨(uu c y x a=true∧g=(!decide (a=o),true))
 | [],L=>by simp
 | a :: l,L=>by
   rw[List.foldl_cons,lq,sH,or_assoc]
   simp only[List.mem_cons,exists_eq_or_imp]
theorem ox {c:Case} {t:List Int} {k:Nat} {x:Piece} {y:Link} (hx:c.pieces[k]?=some x) (hy:c.loop.links[k]?=some y) {g:J4}:g∈jp c t k↔∃ a∈E0 c k,(rj c y x a=true∧g=(!decide (a=jC c t y.drawing),false))∨(uu c y x a=true∧g=(!decide (a=jC c t y.drawing),true)):=by
 unfold jp
 rw[hx,hy]
 simp only
 rw[lq]
 simp
theorem FE {c:Case} {t:List Int} {k:Nat} (hk:k<c.pieces.length):(H4 c t).faults.getD k []=jp c t k:=by
 simp[H4,List.getD,hk]
variable {G:Kc}
attribute [simp] q8 bF L4 eq r5 w7 nilV H8 ZK
theorem AR {n:Nat} {s:Susp} (h:s∈co n):oZ n s=true:=by
 unfold oZ
 rcases listS_mem.1 h with⟨_,rfl⟩|⟨i,hi,_,rfl⟩|⟨i,hi,_,rfl⟩
 ·simp
 ·rw[if_neg (by simp[gc])]
  show (((decide _&&decide _)&&(decide (0≤(i:Int))&&decide ((i:Int)≤(n:Int)-1)))=true)
  simp[gc]
  omega
 ·rw[if_neg (by simp[qc])]
  show (((decide _&&decide _)&&(decide (0≤(i:Int))&&decide ((i:Int)≤(n:Int)-1)))=true)
  simp[qc]
  omega
structure CauseOk (n:Nat) (lo hi:Int) (l a su op:List Susp):Prop where
 b1:1≤lo
 b2:lo≤hi
 b3:hi≤1+2*n
 b4:(l.length:Int)=lo
 b5:a≠[]↔lo=1
 b6:∀ s r,a=s :: r→∃ r',l=s :: r'
 b7:(su.length:Int)≤lo
 b8:hi≤(su.length:Int)+op.length
 lm:∀ s∈l,oZ n s=true∧(s∈su∨s∈op)
 am:∀ s∈a,oZ n s=true∧(s∈su∨s∈op)
 ls:l.Pairwise cj
 aS':a.Pairwise cj
 sm:∀ s∈su,s∈l∧(a=[]∨a=[s])
structure Hid (P:Prop):Prop where
 out:P
attribute [simp] q8 bF L4 eq r5 w7 nilV H8 ZK
theorem wK {c:Case} (h:r9 c=0):1≤c.machine∧c.machine≤999:=by
 have hcb:=(B8 h).2
 rw[J0,Bool.and_eq_true] at hcb
 have:=hcb.1
 simp only[dG,Bool.and_eq_true,decide_eq_true_eq] at this
 exact this.2.1
theorem rp (c:Case):0<(N9 (j6 (j8 c.p.n.notes))).length:=by rw[cL];exact Nat.pos_of_ne_zero (by simp)
attribute [simp] q8 bF L4 eq r5 w7 nilV H8 ZK
theorem AU {c:Case} (he:r9 c=0) {k:Nat} (h1:k<c.pieces.length) (h2:k<c.loop.links.length):I3 c.p c.pieces[k].day 1 c.pieces[k].holder c.loop.links[k].drawing=0:=by
 obtain⟨hp0,hcb⟩:=B8 he
 obtain⟨hn0,hpb,hr0⟩:=C6 hp0
 have hdm:=bx hr0 hcb h1 h2
 have hq:=hcb
 rw[J0,Bool.and_eq_true,List.all_eq_true] at hq
 have h3:k<(c.loop.links.zip c.pieces).length:=by rw[List.length_zip];omega
 have h4:=hq.2 _ (List.getElem_mem h3)
 rw[List.getElem_zip] at h4
 simp only at h4
 rw[dU hr0] at h4
 obtain⟨_,_,_,hh,hd,_⟩:=h4
 unfold I3 G5 qv
 rw[if_neg,if_pos ⟨hh,hdm⟩]
 rw[if_neg (by simp[hp0]),if_pos]
 ·decide
 ·simp only[List.all_cons,List.all_nil,Bool.and_true,Bool.and_eq_true,decide_eq_true_eq] at hd ⊢
  omega
attribute [simp] q8 bF L4 eq r5 w7 nilV H8 ZK
structure TrueOk (c:Case) (t:List Int) (l su op:List Susp) (lo hi:Int):Prop where
 b1:l≠[]
 b2:lo≤(l.length:Int)
 b3:(l.length:Int)≤hi
 b4:∀ s∈l,(s∈su∨s∈op)∧kV c t s=0∧¬ iH c t s=0
 b5:∀ s∈su,kV c t s=0∧iH c t s=2∧s∈l∧s∉op
end Go.Proofs
namespace Go.Proofs
open Go Go.Ab
variable {c:Case} {k:Nat} {x:Piece} {a b:Int}
structure MsOk (c:Case) (k:Nat) (x:Piece) (a b:Int):Prop where
 p1:c.pieces[k]?=some x
 p2:x.lo≤a∧a≤b∧b≤x.hi
 p3:J9 c=0
end Go.Proofs
namespace Go.Proofs
open Go Go.Ab
variable {G:Kc}
attribute [simp] q8 bF L4 eq r5 w7 nilV H8 ZK
theorem BT {n k:Nat} (h:k<n):gc k∈co n:=listS_mem.2 (.inr (.inl ⟨k,h,rfl,rfl⟩))
theorem yV {c:Case} (h0:J9 c=0) {s:Susp} (hs:s∈co c.pieces.length):fg c s=0∧gu c s=G2 (n9 c) s:=by
 have e:fg c s=0:=by
  unfold fg
  rw[if_neg (by simp[h0]),if_pos (AR hs)]
 exact⟨e,by unfold gu;rw[if_pos e]⟩
structure MsF (c:Case) (k:Nat) (x:Piece) (a b:Int):Prop where
 q1:nW c (k:Int) a b=0
 q2:DU c (k:Int) a b=rZ c k x a b
 q3:iw (rZ c k x a b)=true
 q4:ic (rZ c k x a b).p
 q5:KC (rZ c k x a b)
 q6:fg (rZ c k x a b) (qc k)=0
 q7:gu (rZ c k x a b) (qc k)=0↔(iY c (k:Int)).1≤a∧b≤(iY c (k:Int)).2
theorem um {c:Case} (he:r9 c=0) {k:Nat} (hk:k<c.pieces.length):T6 c (k:Int)=0∧gr c (k:Int)=E0 c k:=by
 have e:T6 c (k:Int)=0:=by
  unfold T6
  rw[if_neg (by simp[he]),if_pos ⟨by omega,by omega⟩]
 exact⟨e,by unfold gr;rw[if_pos e,Int.toNat_natCast]⟩
end Go.Proofs
namespace Go.Proofs
open Go Go.Ab
open Go Go.Ab Tryz
variable {G:Kc}
theorem CV (a b:List Int) (ha:a.length<1000000) (hb:b.length<1000000):zP prog G 121 [r7 a,r7 b] (bv (decide (a=b))):=by
 refine zf func121 ntmps121 ?_
 try simp only[r7,r7]
 by_cases hl:a.length=b.length
 ·have hli:(a.length:Int)=b.length:=by omega
  have hs:=za hl hli
  repeat' first|(with_reducible first|refine zz ?_|refine zE [0,1,4,5,10,12,13,14,24] ?_)|simp -dsimp[hs]|refine i9 ?_ ?_<;>intro h<;>try simp only[i7] at h
  refine i6 (ι:={ k:Nat // k≤b.length∧a.take k=b.take k }) (fun p=>⟨26,[(0,r7 a),(1,r7 b),(12,iv (b.length:Int)),(13,iv (p.1:Int))],[]⟩) (fun p=>b.length-p.1) ⟨0,by simp⟩ (zv [0,1,12,13] (by simp[hl])) ?_
  rintro⟨k,hk,he⟩
  simp only[iv,r7]
  by_cases hlt:k<b.length
  ·have hw:=zk k
   have hka:k<a.length:=by omega
   have hta:a.take (k+1)=a.take k++[a[k]]:=List.take_succ_eq_append_getElem hka
   have htb:b.take (k+1)=b.take k++[b[k]]:=List.take_succ_eq_append_getElem hlt
   generalize hx:a[k]=x at *
   generalize hy:b[k]=y at *
   by_cases hxy:x=y
   ·have hs:=za hx (za hy (za hlt (za hka (za hw hxy))))
    repeat' first|with_reducible refine zz ?_|simp -dsimp[hs]|refine zM 6 26 9 [0,1,4,5,10,12,13,14,24] ?_|with_reducible refine zE [0,1,4,5,10,12,13,14,24] ?_|refine i9 ?_ ?_<;>intro h<;>try simp only[i7] at h
    all_goals exact zn ⟨k+1,by omega,by rw[hta,htb,he,hxy]⟩ (zv [0,1,12,13] (by simp[hl]))
   ·have hne:¬ a=b:=fun e=>hxy (by subst e;rw[← hx,← hy])
    have hs:=za hx (za hy (za hlt (za hka hxy)))
    repeat' first|(with_reducible first|refine zz ?_|refine zr ?_)|simp -dsimp[hs]|refine zM 6 26 9 [0,1,4,5,10,12,13,14,24] ?_|with_reducible refine zE [0,1,4,5,10,12,13,14,24] ?_|refine i9 ?_ ?_<;>intro h<;>try simp only[i7] at h
    all_goals simp[hne]
  ·obtain rfl:k=b.length:=by omega
   rw[List.take_length,← hl,List.take_length] at he
   have hs:=hlt
   repeat' first|(with_reducible first|refine zz ?_|refine zr ?_|refine zE [0,1,4,5,10,12,13,14,24] ?_)|simp -dsimp[hs]|refine i9 ?_ ?_<;>intro h<;>try simp only[i7] at h
   all_goals simp[he]
 ·have hli:¬ (a.length:Int)=b.length:=by omega
  have hne:¬ a=b:=fun e=>hl (by rw[e])
  have hs:=za hl hli
  repeat' first|(with_reducible first|refine zz ?_|refine zr ?_|refine zE [0,1,4,5,10,12,13,14,24] ?_)|simp -dsimp[hs]|refine i9 ?_ ?_<;>intro h<;>try simp only[i7] at h
  all_goals simp[hne]
attribute [simp] q8 bF L4 eq r5 w7 nilV H8 ZK
def Ib (a b:List Int):Int:=if a.length=1∧a=b then 0 else if (a.any fun n=>decide (n∈b))=false then 2 else 1
def da (n:Notes) (d m:Int):List Int:=o2 (j6 ((N9 (j6 (j8 n.notes))).map fun t=>bi n t d m))
theorem xI (b:List Int) (v:Int) (hl:b.length<1000000):DCall prog G 123 (iv v :: [DC.ptr 0 0].map .one) [.row [.im (.sl (b.map Ab.encI))]] (fun d o=>d=bv (decide (v∈b))∧o=[.row [.im (.sl (b.map Ab.encI))]]):=by
 refine DCall.drop ?_
 have c1:=U1 (G:=G) b v hl
 refine g9 func123 rfl ntmps123 (by simp) rfl ?_
 repeat' first|(with_reducible first|refine zz ?_|refine zx ?_|refine zE [0,1,3] ?_)|simp -dsimp|refine zp c1 ?_|with_reducible refine And.intro ?_ ?_
theorem vw {n:Notes} (h0:s6 n=0) (d m:Int):(da n d m).length<1000:=by
 unfold da
 have h1:=O9 (j6 ((N9 (j6 (j8 n.notes))).map fun t=>bi n t d m))
 rw[H3,List.length_map,cL] at h1
 have hO5:(j6 (j8 n.notes)).length≤5:=by rw[om];exact(bc h0).2.2.2
 have hPe:(2:Nat) ^ (j6 (j8 n.notes)).length≤2 ^ 5:=Nat.pow_le_pow_right (by omega) hO5
 omega
theorem ym (p:Prints) (d i w m:Int) (hab:I3 p d m i w=0) (hdr:U0 p.n [] m w=0) (hn0:s6 p.n=0) (hG:o3 G) (hN:C7 G) (hS:u3 G) (hR:v6 G) (hk:KP p):zP prog G 59 [C1 p,iv d,iv i,iv w,iv m] (.tup [tZ (Ib (N0 d i w p.prints) (da p.n w m)),iv 0]):=by
 refine zf func59 ntmps59 ?_
 try simp only[iv,iv,iv,iv]
 have c1:=px p d m i w hG hN hS hR hk
 have c2:=tX p d i w hS (by have:=hk.p.q;omega)
 have c3:=pJ (G:=G) p.n w m hG hN hS hk.n
 have hwl:=eT d i w p.prints
 have hpq:=hk.p.q
 have hbl:=vw hn0 w m
 rw[hdr,if_pos rfl,show o2 (j6 ((N9 (j6 (j8 p.n.notes))).map fun t=>bi p.n t w m))=da p.n w m from rfl] at c3
 simp only[cp,hab,if_true] at c1
 simp only[l6] at c1 c2
 generalize N0 d i w p.prints=a at *
 generalize da p.n w m=b at *
 have c4:=CV (G:=G) a b (by omega) (by omega)
 have c5:=B4 (G:=G) a (fun v=>decide (v∈b)) 123 [.ptr 0 0] [.row [.im (.sl (b.map Ab.encI))]] (by simp) (fun v _=>xI b v (by omega)) (by omega)
 have c1':=c1 [.row ((o5 p).map .im)]
 simp only[C1,o5,p7,u5,r7,iv,List.map_cons,List.map_nil,Ab.encI,rI] at c1' c3 ⊢
 unfold Ib
 have hs:True:=trivial
 by_cases h1:a.length=1
 ·have h1':(a.length:Int)=1:=by omega
  by_cases h2:a=b
  ·rw[if_pos ⟨h1,h2⟩]
   rw[decide_eq_true h2] at c4
   clear h2
   have hs:=h1'
   repeat' first|(with_reducible first|refine zz ?_|refine zr ?_|refine zE [0,1,2,3,4,5,10,11,12,13,14,15,28,43,52] ?_)|simp -dsimp[hs]|refine CallE.freeze 1 c1' ?_ ?_ ?_ ?_ ?_ ?_;(focus simp;done);(focus simp;done);(focus simp;done);(focus rfl);(focus simp;done);try simp -dsimp[r5]|refine zp c2 ?_|refine zp c3 ?_|refine zp c4 ?_|refine i9 ?_ ?_<;>intro h<;>try simp only[i7] at h
   all_goals try clear hs
  ·rw[if_neg (fun h=>h2 h.2)]
   rw[decide_eq_false h2] at c4
   cases hb:(a.any fun n=>decide (n∈b))
   ·rw[hb] at c5
    rw[if_pos rfl]
    have hs:=h1'
    repeat' first|(with_reducible first|refine zz ?_|refine zr ?_|refine zE [0,1,2,3,4,5,10,11,12,13,14,15,28,43,52] ?_)|simp -dsimp[hs]|refine CallE.freeze 1 c1' ?_ ?_ ?_ ?_ ?_ ?_;(focus simp;done);(focus simp;done);(focus simp;done);(focus rfl);(focus simp;done);try simp -dsimp[r5]|refine zp c2 ?_|refine zp c3 ?_|refine zp c4 ?_|refine CallE.embed [3] (c5) ?_ ?_ ?_ ?_ ?_ ?_;(focus simp[p8];done);(focus simp;done);(focus simp;done);(focus simp;done);(focus refine n3 ?_;simp[p8,n8];done);try simp -dsimp[l9,p8,hs]|refine i9 ?_ ?_<;>intro h<;>try simp only[i7] at h
    all_goals try clear hs
   ·rw[hb] at c5
    rw[if_neg (by decide)]
    have hs:=h1'
    repeat' first|(with_reducible first|refine zz ?_|refine zr ?_|refine zE [0,1,2,3,4,5,10,11,12,13,14,15,28,43,52] ?_)|simp -dsimp[hs]|refine CallE.freeze 1 c1' ?_ ?_ ?_ ?_ ?_ ?_;(focus simp;done);(focus simp;done);(focus simp;done);(focus rfl);(focus simp;done);try simp -dsimp[r5]|refine zp c2 ?_|refine zp c3 ?_|refine zp c4 ?_|refine CallE.embed [3] (c5) ?_ ?_ ?_ ?_ ?_ ?_;(focus simp[p8];done);(focus simp;done);(focus simp;done);(focus simp;done);(focus refine n3 ?_;simp[p8,n8];done);try simp -dsimp[l9,p8,hs]|refine i9 ?_ ?_<;>intro h<;>try simp only[i7] at h
    all_goals try clear hs
 ·have h1':¬ (a.length:Int)=1:=by omega
  rw[if_neg (fun h=>h1 h.1)]
  cases hb:(a.any fun n=>decide (n∈b))
  ·rw[hb] at c5
   rw[if_pos rfl]
   have hs:=h1'
   repeat' first|(with_reducible first|refine zz ?_|refine zr ?_|refine zE [0,1,2,3,4,5,10,11,12,13,14,15,28,43,52] ?_)|simp -dsimp[hs]|refine CallE.freeze 1 c1' ?_ ?_ ?_ ?_ ?_ ?_;(focus simp;done);(focus simp;done);(focus simp;done);(focus rfl);(focus simp;done);try simp -dsimp[r5]|refine zp c2 ?_|refine zp c3 ?_|refine CallE.embed [3] (c5) ?_ ?_ ?_ ?_ ?_ ?_;(focus simp[p8];done);(focus simp;done);(focus simp;done);(focus simp;done);(focus refine n3 ?_;simp[p8,n8];done);try simp -dsimp[l9,p8,hs]|refine i9 ?_ ?_<;>intro h<;>try simp only[i7] at h
   all_goals try clear hs
  ·rw[hb] at c5
   rw[if_neg (by decide)]
   have hs:=h1'
   repeat' first|(with_reducible first|refine zz ?_|refine zr ?_|refine zE [0,1,2,3,4,5,10,11,12,13,14,15,28,43,52] ?_)|simp -dsimp[hs]|refine CallE.freeze 1 c1' ?_ ?_ ?_ ?_ ?_ ?_;(focus simp;done);(focus simp;done);(focus simp;done);(focus rfl);(focus simp;done);try simp -dsimp[r5]|refine zp c2 ?_|refine zp c3 ?_|refine CallE.embed [3] (c5) ?_ ?_ ?_ ?_ ?_ ?_;(focus simp[p8];done);(focus simp;done);(focus simp;done);(focus simp;done);(focus refine n3 ?_;simp[p8,n8];done);try simp -dsimp[l9,p8,hs]|refine i9 ?_ ?_<;>intro h<;>try simp only[i7] at h
   all_goals try clear hs
attribute [simp] q8 bF L4 eq r5 w7 nilV H8 ZK
theorem CP {c:Case} {y:Link} {x:Piece} {l:Int} (h:x.lo≤x.hi):rj c y x l=true∨uu c y x l=true:=by
 unfold rj uu
 cases xM c y l with
 | none=>exact .inl rfl
 | some d =>
   simp only[S8,Bool.and_eq_true,decide_eq_true_eq,Bool.not_eq_true',decide_eq_false_iff_not]
   omega
theorem eA {l:List Int} {v:Int} (hs:l.Pairwise (· < ·)) (hne:l≠[]) (h:∀ x∈l,x=v):l=[v]:=by
 cases l with
 | nil=>exact absurd rfl hne
 | cons a r =>
   have ha:=h a List.mem_cons_self
   subst ha
   cases r with
   | nil=>rfl
   | cons b r =>
     rw[List.pairwise_cons] at hs
     have h1:=hs.1 b List.mem_cons_self
     have h2:=h b (List.mem_cons_of_mem _ List.mem_cons_self)
     omega
theorem vv {n:Notes} {d m v:Int}:v∈da n d m↔∃ t∈N9 (j6 (j8 n.notes)),bi n t d m=v:=by
 unfold da
 rw[ai,isort_mem,List.mem_map]
theorem mL {c:Case} (he:r9 c=0) {k:Nat} {x:Piece} {y:Link} (hx:c.pieces[k]?=some x) (hy:c.loop.links[k]?=some y) (b:Bool):((n9 c).any fun d=>iI d (gc k) b)=true↔∃ t∈N9 (j6 (j8 c.p.n.notes)),∃ l∈E0 c k,(l=bi c.p.n t y.drawing c.machine)=(b=false):=by
 have hok:=L7 (B8 he).2
 have hk:=e7 hx
 have hpc:=nF hok hk
 rw[(List.getElem?_eq_some_iff.1 hx).2] at hpc
 unfold V3 at hpc
 rw[List.any_eq_true]
 have key:∀ t,iI (H4 c t) (gc k) b=true↔∃ l∈E0 c k,(l=bi c.p.n t y.drawing c.machine)=(b=false):=fun t=>by
  unfold iI
  rw[if_neg (by simp[gc]),if_pos (show (gc k).kind=2 from rfl),show (gc k).index.toNat=k from rfl,FE hk,List.any_eq_true]
  have ho:jC c t y.drawing=bi c.p.n t y.drawing c.machine:=rfl
  constructor
  ·rintro⟨f,hf,hb⟩
   rw[ox hx hy] at hf
   obtain⟨l,hl,⟨_,rfl⟩|⟨_,rfl⟩⟩:=hf
   all_goals
    refine⟨l,hl,?_⟩
    rw[ho] at hb
    by_cases e:l=bi c.p.n t y.drawing c.machine
    ·cases b<;>simp[e] at hb ⊢
    ·cases b<;>simp[e] at hb ⊢
  ·rintro⟨l,hl,hb⟩
   rcases CP (c:=c) (y:=y) (l:=l) hpc.2.1 with h|h
   ·refine⟨_,(ox hx hy).2 ⟨l,hl,.inl ⟨h,rfl⟩⟩,?_⟩
    rw[ho]
    by_cases e:l=bi c.p.n t y.drawing c.machine
    ·cases b<;>simp[e] at hb ⊢
    ·cases b<;>simp[e] at hb ⊢
   ·refine⟨_,(ox hx hy).2 ⟨l,hl,.inr ⟨h,rfl⟩⟩,?_⟩
    rw[ho]
    by_cases e:l=bi c.p.n t y.drawing c.machine
    ·cases b<;>simp[e] at hb ⊢
    ·cases b<;>simp[e] at hb ⊢
 constructor
 ·rintro⟨d,hd,h⟩
  obtain⟨t,ht,rfl⟩:=List.mem_map.1 hd
  exact⟨t,ht,(key t).1 h⟩
 ·rintro⟨t,ht,h⟩
  exact⟨_,List.mem_map_of_mem ht,(key t).2 h⟩
theorem ma (d i w:Int) (l:List Print):(N0 d i w l).Pairwise (· < ·):=by
 unfold N0
 exact(iS _ (bW _)).sublist (List.drop_sublist _ _)
theorem pT {c:Case} (he:r9 c=0) {k:Nat} {x:Piece} {y:Link} (hx:c.pieces[k]?=some x) (hy:c.loop.links[k]?=some y) (hw:E0 c k=N0 x.day x.holder y.drawing c.p.prints):G2 (n9 c) (gc k)=Ib (E0 c k) (da c.p.n y.drawing c.machine):=by
 have hT:=rp c
 have hane:=pO he (e7 hx)
 have hast:(E0 c k).Pairwise (· < ·):=by rw[hw];exact ma _ _ _ _
 have hbst:(da c.p.n y.drawing c.machine).Pairwise (· < ·):=by unfold da;exact iS _ (bW _)
 have hbm:=fun v=>vv (n:=c.p.n) (d:=y.drawing) (m:=c.machine) (v:=v)
 have h1:=mL he hx hy true
 have h2:=mL he hx hy false
 obtain⟨t0,ht0⟩:=List.exists_mem_of_ne_nil _ (List.length_pos_iff.1 hT)
 obtain⟨l0,hl0⟩:=List.exists_mem_of_ne_nil _ hane
 generalize E0 c k=a at *
 generalize da c.p.n y.drawing c.machine=b at *
 have e1:((n9 c).any fun d=>iI d (gc k) true)=false↔(a.length=1∧a=b):=by
  rw[← Bool.not_eq_true,h1]
  constructor
  ·intro hn
   have hall:∀ t∈N9 (j6 (j8 c.p.n.notes)),∀ l∈a,l=bi c.p.n t y.drawing c.machine:=fun t ht l hl=>Classical.byContradiction fun hc=>hn ⟨t,ht,l,hl,by simp[hc]⟩
   have ha:a=[bi c.p.n t0 y.drawing c.machine]:=eA hast hane fun l hl=>hall t0 ht0 l hl
   have hb:b=[bi c.p.n t0 y.drawing c.machine]:=by
    refine eA hbst (List.ne_nil_of_mem ((hbm _).2 ⟨t0,ht0,rfl⟩)) fun v hv=>?_
    obtain⟨t,ht,rfl⟩:=(hbm v).1 hv
    rw[← hall t ht l0 hl0,hall t0 ht0 l0 hl0]
   exact⟨by rw[ha];rfl,by rw[ha,hb]⟩
  ·rintro⟨ha,rfl⟩ ⟨t,ht,l,hl,hb⟩
   obtain⟨v,rfl⟩:=List.length_eq_one_iff.1 ha
   have hm:=(hbm _).2 ⟨t,ht,rfl⟩
   rw[List.mem_singleton] at hm hl
   subst hl
   simp[hm] at hb
 have e2:((n9 c).any fun d=>iI d (gc k) false)=false↔(a.any fun n=>decide (n∈b))=false:=by
  rw[← Bool.not_eq_true,h2,List.any_eq_false]
  constructor
  ·intro hn l hl hb
   rw[decide_eq_true_eq,hbm] at hb
   obtain⟨t,ht,e⟩:=hb
   exact hn ⟨t,ht,l,hl,by simp[e]⟩
  ·rintro h ⟨t,ht,l,hl,hb⟩
   have e:l=bi c.p.n t y.drawing c.machine:=by simpa using hb
   exact h l hl (by rw[decide_eq_true_eq,hbm];exact⟨t,ht,e.symm⟩)
 unfold G2 Ib
 by_cases g1:a.length=1∧a=b
 ·rw[if_pos (e1.2 g1),if_pos g1]
 ·rw[if_neg (fun h=>g1 (e1.1 h)),if_neg g1]
  by_cases g2:(a.any fun n=>decide (n∈b))=false
  ·rw[if_pos (e2.2 g2),if_pos g2]
  ·rw[if_neg (fun h=>g2 (e2.1 h)),if_neg g2]
theorem Dt {c:Case} (he:r9 c=0) {k:Nat} (h1:k<c.pieces.length) (h2:k<c.loop.links.length) {m:Int} (hm:1≤m∧m≤999):I3 c.p c.pieces[k].day m c.pieces[k].holder c.loop.links[k].drawing=0:=by
 obtain⟨hp0,hcb⟩:=B8 he
 obtain⟨hn0,hpb,hr0⟩:=C6 hp0
 have hdm:=bx hr0 hcb h1 h2
 have hq:=hcb
 rw[J0,Bool.and_eq_true,List.all_eq_true] at hq
 have h3:k<(c.loop.links.zip c.pieces).length:=by rw[List.length_zip];omega
 have h4:=hq.2 _ (List.getElem_mem h3)
 rw[List.getElem_zip] at h4
 simp only at h4
 rw[dU hr0] at h4
 obtain⟨_,_,_,hh,hd,_⟩:=h4
 unfold I3 G5 qv
 rw[if_neg,if_pos ⟨hh,hdm⟩]
 rw[if_neg (by simp[hp0]),if_pos]
 ·decide
 ·simp only[List.all_cons,List.all_nil,Bool.and_true,Bool.and_eq_true,decide_eq_true_eq] at hd ⊢
  omega
set_option maxRecDepth 10000 in
theorem ms (c:Case) (w:Nat) (hG:o3 G) (hN:C7 G) (hS:u3 G) (hU:V2 G) (hR:v6 G) (hC:L6 G) (hK:bV G) (hF:jI G) (hp:ic c.p) (hw8:w≤255):zP prog G 14 [n5 c,tZ (w:Int)] (bv true):=by
 refine zf func14 ntmps14 ?_
 try simp only[tZ]
 have a1:=Dq (G:=G) hG hN hS hU hR hC hK hF
 have c1:=BL (G:=G) c hp
 cases hq:iw c
 ·rw[hq] at c1
  simp only[n5,j4,rI,List.map_cons,List.map_nil] at c1 ⊢
  have hs:=trivial
  repeat' first|(with_reducible first|refine zz ?_|refine zr ?_|refine zE [0,1,2,4,5,6,7,8,9,10,11,12,13,14,22] ?_)|simp -dsimp[hs]|refine zp a1 ?_|refine zp c1 ?_|refine i9 ?_ ?_<;>intro h<;>try simp only[i7] at h
  all_goals try clear hs
 ·obtain⟨hsk,hk,h0⟩:=rN hp hq
  rw[hq] at c1
  obtain⟨he,_⟩:=S4 h0
  obtain⟨hp0,hcb⟩:=B8 he
  obtain⟨hn0,hpb,hr0⟩:=C6 hp0
  have hok:=L7 hcb
  have hlen:=hok.e
  have hl8:=hok.l
  have hq16:=hk.q
  have hlt:w % c.pieces.length<c.pieces.length:=Nat.mod_lt _ (by omega)
  have hm:((w:Int).tmod (c.pieces.length:Int))=((w % c.pieces.length:Nat):Int):=by
   rw[Int.tmod_eq_emod_of_nonneg (by omega)];omega
  have h0i:¬ (c.pieces.length:Int)=0:=by omega
  have hPn:¬ c.pieces=[]:=fun e=>by rw[e] at h0i;exact h0i rfl
  generalize hj:w % c.pieces.length=k at *
  have hlt2:k<c.loop.links.length:=by omega
  have hx0:c.pieces[k]?=some c.pieces[k]:=List.getElem?_eq_getElem hlt
  have hy0:c.loop.links[k]?=some c.loop.links[k]:=List.getElem?_eq_getElem hlt2
  have w0:IntKind.i64.wrap (w:Int)=(w:Int):=o4 (by omega) (by omega)
  have w1:IntKind.i64.wrap (k:Int)=(k:Int):=o4 (by omega) (by omega)
  have hab1:=AU he hlt hlt2
  have hmc:=wK he
  have hdm:=bx hr0 hcb hlt hlt2
  have hab:=Dt he hlt hlt2 hmc
  have hdr:U0 c.p.n [] c.machine c.loop.links[k].drawing=0:=by
   unfold U0 C0
   have ht:G7 (j6 (j8 c.p.n.notes)) []=true:=rfl
   have e:(if s6 c.p.n≠0 then s6 c.p.n else if G7 (j6 (j8 c.p.n.notes)) []=false then 31 else if 1≤c.machine∧c.machine≤999 then 0 else 2)=0:=by
    rw[if_neg (by simp[hn0]),if_neg (by rw[ht];decide),if_pos hmc]
   rw[e,if_neg (by decide),if_pos hdm]
  have c2:=ym (G:=G) c.p c.pieces[k].day c.pieces[k].holder c.loop.links[k].drawing c.machine hab hdr hn0 hG hN hS hR hk.p
  have c3:=pw (G:=G) c.p c.pieces[k].day c.pieces[k].holder c.loop.links[k].drawing hG hN hS hR hk.p
  rw[hab1,← gk hlt hlt2] at c3
  have hwm:E0 c k=N0 c.pieces[k].day c.pieces[k].holder c.loop.links[k].drawing c.p.prints:=by
   rw[gk hlt hlt2];unfold N1;rw[if_pos hab1]
  have c4:=fB (G:=G) c (k:Int) hG hN hS hR hk
  rw[(um he hlt).1,(um he hlt).2] at c4
  have hml:=iJ c k
  have hpl:=hk.p.p.q
  have c5:=kE (G:=G) (E0 c k) (E0 c k) (by omega)
  simp only[decide_true] at c5
  have hkn:=pT he hx0 hy0 hwm
  rw[← hwm,← hkn] at c2
  have c6:=jU (G:=G) c (gc k) (G2 (n9 c) (gc k)) (by simp[gc]) hG hN hS hR hC hK hk
  obtain⟨k1,k2⟩:=yV h0 (BT hlt)
  rw[k1,k2] at c6
  simp only[decide_true,Bool.and_self] at c6
  have s1:=rz (G:=G) (k:Int)
  clear hkn k1 k2 hwm hab1 hab hdr
  generalize G2 (n9 c) (gc k)=K at *
  generalize E0 c k=L at *
  generalize hx:c.pieces[k]=x at *
  generalize hy:c.loop.links[k]=y at *
  simp only[n5,j4,C1,o5,E9,j9,gc,rI,List.map_cons,List.map_nil] at c1 c2 c3 c4 c6 s1 ⊢
  have hs:=za hx (za hy (za hlt (za hlt2 (za hm (za h0i (za hPn (za w0 w1)))))))
  repeat' first|(with_reducible first|refine zz ?_|refine zr ?_)|simp -dsimp[hs]|refine zp a1 ?_|refine zp c1 ?_|refine zp c2 ?_|refine zp c3 ?_|refine zp c4 ?_|refine zq c5 ?_|refine zq c6 ?_|refine zq s1 ?_|refine zM 9 97 26 [0,1,2,4,5,6,7,8,9,10,11,12,13,14,22] ?_|refine E5 (id:=5) (nt:=97) 13 [5,6,7,8,9,10,11] [0,1,2,4,5,6,7,8,9,10,11,12,13,14,22,30,31,32,33,34] [0,1,2,4,5,6,7,8,9,10,11,12,13,14,22] mixed rfl (by kernel_rfl) ?_|with_reducible refine zE [0,1,2,4,5,6,7,8,9,10,11,12,13,14,22] ?_|refine i9 ?_ ?_<;>intro h<;>try simp only[i7] at h
  all_goals try clear hs
end Go.Proofs
namespace Go.Ab
open Go Go.Sort
theorem RelM.grownS {G:Kc} {M:MS} {w':World} {os:Array Obj} (h:RelM G M) (hw:w'.heap=M.w.heap++os) (hio:SameIo M.w w'):RelM G { M with w:=w' }∧Ext M.objs.length M { M with w:=w' }:=by
 have hold:∀ {b:Nat},b<M.w.heap.size→w'.heap[b]?=M.w.heap[b]?:=fun {b} hb=>by rw[hw];simp[Array.getElem?_append,hb]
 have hsz:M.w.heap.size≤w'.heap.size:=by rw[hw];simp
 have he:Ext M.objs.length M { M with w:=w' }:=
  ⟨Nat.le_refl _,fun b hb=>⟨⟨Nat.lt_of_lt_of_le hb.1 hsz,hb.2⟩,hold hb.1⟩,cH M,hsz,fun p _ c' hc=>⟨⟨c',hc⟩,rfl⟩,
   fun p _ sz es g nl hv=>⟨sz,es,g,nl,hv,Nat.le_refl _,fun _=>⟨rfl,rfl,fun hn=>⟨rfl,by simp only[H5];rw[hold (h.lt p _ hv (by simp[DObj.blk,hn]))]⟩⟩⟩,fun p _ ks es hm=>⟨⟨ks,es,hm⟩,rfl⟩,
   fun p _ r hm=>⟨⟨r,hm⟩,rfl⟩,fun p _ d hm hi=>⟨⟨d,hm,hi⟩,rfl⟩,fun p _ r hm=>⟨⟨r,hm⟩,rfl⟩,hio⟩
 exact⟨⟨fun o d ho=>(h.objs o d ho).ext he (fun _=>rfl) (fun hb=>hold (h.lt o d ho hb)),fun o d ho hb=>Nat.lt_of_lt_of_le (h.lt o d ho hb) hsz,h.inj,fun g l hg=>(h.glob g l hg).mono he.ok,fun b hF=>Nat.lt_of_lt_of_le (h.fl b hF) hsz,h.own⟩,he⟩
theorem nT {l:List Int} {c:Array Value} {i:Nat} (hi:i<l.length) (hc:i<c.size):(putCells (Value.int .i64) 0 l.toArray c)[i]?=some (.int .i64 l[i]):=by
 simp only[putCells,Array.getElem?_mapIdx,Array.getElem?_eq_getElem hc,Option.map_some]
 rw[if_pos ⟨Nat.zero_le _,by simpa using hi⟩]
 simp[hi]
theorem DCall.sort {P:Program} {G:Kc} {f:FuncId}
 (hS:∀ (blk cap:Nat) (zs:List Int) (w:World),Holds (Value.int .i64) w blk 0 zs.toArray→blk<w.heap.size→zs.length<4611686018427387904 →
  Calls P f #[.slice (some ⟨blk,0,none⟩) zs.length cap] w fun e w'=>e=.returned (.tuple #[])∧∃ n os,w'=grow (putRow (Value.int .i64) (Sort.ahead w n) blk 0 (zs.mergeSort fun x y=>decide (x≤y)).toArray) os)
 (h0:∀ (a:Option Addr) (cap:Nat) (w:World),Calls P f #[.slice a 0 cap] w fun e w'=>e=.returned (.tuple #[])∧w'=w)
 (l:List Int) (g sz:Nat) (nl:Bool) (hz:sz=1∨nl=true∧l=[]) (hl:l.length<1000000) :
 DCall P G f [.one (.vec 0 g 0 l.length)] [.vec sz (l7 (l.map Ab.encI)) g nl] (fun d o=>d=.tup []∧o=[.vec sz (l7 ((j6 l).map Ab.encI)) g nl]):=by
 intro M vs hM ho hsz hr
 obtain⟨v,rfl⟩:∃ v,vs=#[v]:=by
  obtain⟨vl⟩:=vs
  match vl,hsz with
  | [v],_=>exact⟨v,rfl⟩
 have hv:=hr 0 _ v rfl rfl
 have h1:M.objs[0]?=some (.vec sz (l7 (l.map Ab.encI)) g nl):=by rw[ho];rfl
 have hO:=hM.objs 0 _ h1
 cases hv with
 | one _ _ hv =>
 cases hv with
 | vec _ _ _ _ _ _ _ hv =>
 obtain⟨_,hv⟩:=hv _ _ _ _ h1
 obtain⟨hvt,hvf⟩:=hv rfl
 have hnil:∀ (a:Option Addr) (cap:Nat),l=[]→Calls P f #[.slice a 0 cap] M.w fun e w'=>∃ v d M',e=.returned v∧M'.w=w'∧RelM G M'∧RepV M' d v∧Ext 1 M M'∧d=.tup []∧M'.objs=[.vec sz (l7 ((j6 l).map Ab.encI)) g nl]:=fun a cap hle=>by
  refine(h0 a cap M.w).mono fun e w' ⟨he,hw⟩=>?_
  subst hw
  refine⟨_,.tup [],M,he,rfl,hM,.tup _ _ rfl (fun j d v h=>by simp at h),(Ext.refl M).weaken (by simp[ho]),rfl,?_⟩
  rw[ho,hle,show j6 []=[] from List.mergeSort_nil]
 cases nl with
 | true =>
   obtain⟨_,e,hv⟩:=hvt rfl
   have e:l=[]:=List.eq_nil_of_length_eq_zero e
   have:=hnil none 0 e
   rw[hv];simpa using this
 | false =>
   obtain rfl:sz=1:=hz.resolve_right fun h=>Bool.noConfusion h.1
   obtain⟨x,cap,hv,hc,hx,hb⟩:=hvf rfl
   by_cases e:l=[]
   ·have:=hnil (some ⟨M.β 0,x,none⟩) cap e
    rw[hv];subst e;simpa using this
   have hlp:0<l.length:=List.length_pos_iff.2 e
   have hx0:x=0:=by rcases hx with hx|hx<;>omega
   subst hx0
   obtain⟨_,hO⟩:=hO
   obtain⟨_,c,T,hh,hcs,hes,hrep⟩:=hO rfl
   have hcl:l.length≤c.size:=by simpa[q9] using hcs
   have hcell:∀ j (hj:j<l.length),c[j]?=some (.int .i64 l[j]):=fun j hj=>by
    have hjc:j<c.size:=by omega
    have:=hrep j [DC.im (.raw (.int .i64 l[j]))] 0 (.im (.raw (.int .i64 l[j]))) c[j] (by simp[l7,hj]) rfl (by simp[hjc])
    have hcj:c[j]?=some c[j]:=by simp[hjc]
    generalize c[j]=y at this hcj
    cases this with
    | im _ _ hi =>
      cases hi
      exact hcj
   have hH:Holds (Value.int .i64) M.w (M.β 0) 0 l.toArray:=fun j hj=>by
    have hj:j<l.length:=by simpa using hj
    refine⟨?_,?_⟩
    ·simp only[World.cell?,hh]
     simp[hcell j hj,hj]
    ·simp[World.frozen?,hh]
   have hlt:M.β 0<M.w.heap.size:=hM.lt 0 _ h1 rfl
   rw[hv]
   refine(hS (M.β 0) cap l M.w hH hlt (by omega)).mono fun e' w' ⟨he,n,os,hw⟩=>?_
   have hmod:M.w.heap.modify (M.β 0) (onCells (putCells (Value.int .i64) 0 (j6 l).toArray))=M.w.heap.setIfInBounds (M.β 0) (.cells (putCells (Value.int .i64) 0 (j6 l).toArray c) T (0,0)):=by
    apply Array.ext_getElem?
    intro k
    simp only[Array.getElem?_modify,Array.getElem?_setIfInBounds]
    by_cases hk:M.β 0=k
    ·subst hk;rw[if_pos rfl,if_pos rfl,if_pos hlt,hh];rfl
    ·simp[hk]
   have ha:(DObj.vec 1 (l7 (l.map Ab.encI)) g false).alike (.vec 1 (l7 ((j6 l).map Ab.encI)) g false):=⟨rfl,.inl ⟨rfl,rfl⟩⟩
   have hs:K6 (.cells (putCells (Value.int .i64) 0 (j6 l).toArray c) T (0,0))=K6 (.cells c T (0,0)):=by simp[K6,putCells]
   have hE:=Ext.turn (d':=.vec 1 (l7 ((j6 l).map Ab.encI)) g false) h1 rfl ha hh hs
   have hR:=RelM.turn (d':=.vec 1 (l7 ((j6 l).map Ab.encI)) g false) hM h1 rfl ha hh hs (by
    refine⟨fun h=>Bool.noConfusion h,fun _=>⟨by omega,putCells (Value.int .i64) 0 (j6 l).toArray c,T,by simp[MS.turn,Array.getElem?_setIfInBounds_self_of_lt hlt],by simpa[q9,H3,putCells] using hcl,fun i x hx=>?_,fun i x j d v hx hj hv=>?_⟩⟩
    ·simp only[l7,List.getElem?_map,Option.map_map] at hx
     obtain⟨y,_,rfl⟩:=Option.map_eq_some_iff.1 hx
     rfl
    ·simp only[l7,List.getElem?_map,Option.map_map] at hx
     obtain⟨y,hy,rfl⟩:=Option.map_eq_some_iff.1 hx
     have hil:i<(j6 l).length:=e7 hy
     match j,hj with
     | 0,hj =>
       cases hj
       have hic:i<c.size:=by rw[H3] at hil;omega
       rw[Nat.mul_one,Nat.add_zero,nT hil hic] at hv
       have e:(j6 l)[i]'hil=y:=(List.getElem?_eq_some_iff.1 hy).2
       cases hv
       rw[e]
       exact .im _ _ (.raw _ rfl))
   have hg:=RelM.grownS (w':=w') (os:=os) hR (by rw[hw];simp only[grow,putRow,mapBlock,Sort.ahead,MS.turn];rw[show (l.mergeSort fun x y=>decide (x≤y))=j6 l from rfl,hmod]) (by rw[hw];exact⟨rfl,rfl,rfl,Nat.le_add_right _ _⟩)
   refine⟨_,.tup [],_,he,?_,hg.1,.tup _ _ rfl (fun j d v h=>by simp at h),?_,rfl,?_⟩
   ·rfl
   ·have hl1:M.objs.length=1:=by rw[ho];rfl
    have h2:=hg.2
    rw[show (M.turn 0 (.cells (putCells (Value.int .i64) 0 (j6 l).toArray c) T (0,0)) (.vec 1 (l7 ((j6 l).map Ab.encI)) g false)).objs.length=1 by simp[MS.turn,ho]] at h2
    rw[hl1] at hE
    exact hE.trans h2
   ·simp[MS.turn,ho]
end Go.Ab
namespace Go.Proofs
open Go.Shelf
def Tryz.laysSort_ren:Go.Shelf.Ren:=⟨fun|189=>173|125=>201|257=>221|128=>249|129=>250|294=>270|295=>271|296=>272|297=>273|298=>274|299=>275|216=>196|300=>276|301=>277|328=>302|329=>286|330=>287|331=>303|332=>304|215=>239|343=>314|n=>n,fun|28=>40|3=>3|46=>287|0=>0|51=>157|53=>335|4=>4|183=>328|182=>327|131=>154|5=>5|9=>9|218=>363|222=>367|228=>390|229=>391|n=>n,fun|n=>n⟩
theorem Tryz.laysSort:Go.Proofs.Lays.n189 Tryz.prog Tryz.laysSort_ren:={
 mixed:=by kernel_rfl
 f125:=Tryz.func201.trans (congrArg some (by kernel_rfl))
 f128:=Tryz.func249.trans (congrArg some (by kernel_rfl))
 f129:=Tryz.func250.trans (congrArg some (by kernel_rfl))
 f189:=Tryz.func173.trans (congrArg some (by kernel_rfl))
 f215:=Tryz.func239.trans (congrArg some (by kernel_rfl))
 f216:=Tryz.func196.trans (congrArg some (by kernel_rfl))
 f257:=Tryz.func221.trans (congrArg some (by kernel_rfl))
 f294:=Tryz.func270.trans (congrArg some (by kernel_rfl))
 f295:=Tryz.func271.trans (congrArg some (by kernel_rfl))
 f296:=Tryz.func272.trans (congrArg some (by kernel_rfl))
 f297:=Tryz.func273.trans (congrArg some (by kernel_rfl))
 f298:=Tryz.func274.trans (congrArg some (by kernel_rfl))
 f299:=Tryz.func275.trans (congrArg some (by kernel_rfl))
 f300:=Tryz.func276.trans (congrArg some (by kernel_rfl))
 f301:=Tryz.func277.trans (congrArg some (by kernel_rfl))
 f328:=Tryz.func302.trans (congrArg some (by kernel_rfl))
 f329:=Tryz.func286.trans (congrArg some (by kernel_rfl))
 f330:=Tryz.func287.trans (congrArg some (by kernel_rfl))
 f331:=Tryz.func303.trans (congrArg some (by kernel_rfl))
 f332:=Tryz.func304.trans (congrArg some (by kernel_rfl))
 f343:=Tryz.func314.trans (congrArg some (by kernel_rfl))
 t0:=Tryz.underlying0
 a0:=Tryz.isAgg0
 z0:=Tryz.sizeOf0
 v0:=Tryz.zeroValue0
 t3:=Tryz.underlying3
 a3:=Tryz.isAgg3
 z3:=Tryz.sizeOf3
 v3:=Tryz.zeroValue3
 t4:=Tryz.underlying4
 a4:=Tryz.isAgg4
 z4:=Tryz.sizeOf4
 v4:=Tryz.zeroValue4
 t5:=Tryz.underlying5
 a5:=Tryz.isAgg5
 z5:=Tryz.sizeOf5
 v5:=Tryz.zeroValue5
 t9:=Tryz.underlying9
 a9:=Tryz.isAgg9
 z9:=Tryz.sizeOf9
 v9:=Tryz.zeroValue9
 t28:=Tryz.underlying40
 a28:=Tryz.isAgg40
 z28:=Tryz.sizeOf40
 v28:=Tryz.zeroValue40
 t46:=Tryz.underlying287
 a46:=Tryz.isAgg287
 z46:=Tryz.sizeOf287
 v46:=Tryz.zeroValue287
 t51:=Tryz.underlying157
 a51:=Tryz.isAgg157
 z51:=Tryz.sizeOf157
 v51:=Tryz.zeroValue157
 t53:=Tryz.underlying335
 a53:=Tryz.isAgg335
 z53:=Tryz.sizeOf335
 v53:=Tryz.zeroValue335
 t131:=Tryz.underlying154
 a131:=Tryz.isAgg154
 z131:=Tryz.sizeOf154
 v131:=Tryz.zeroValue154
 t182:=Tryz.underlying327
 a182:=Tryz.isAgg327
 z182:=Tryz.sizeOf327
 v182:=Tryz.zeroValue327
 t183:=Tryz.underlying328
 a183:=Tryz.isAgg328
 z183:=Tryz.sizeOf328
 v183:=Tryz.zeroValue328
 t218:=Tryz.underlying363
 a218:=Tryz.isAgg363
 z218:=Tryz.sizeOf363
 v218:=Tryz.zeroValue363
 t222:=Tryz.underlying367
 a222:=Tryz.isAgg367
 z222:=Tryz.sizeOf367
 v222:=Tryz.zeroValue367
 t228:=Tryz.underlying390
 a228:=Tryz.isAgg390
 z228:=Tryz.sizeOf390
 v228:=Tryz.zeroValue390
 t229:=Tryz.underlying391
 a229:=Tryz.isAgg391
 z229:=Tryz.sizeOf391
 v229:=Tryz.zeroValue391 }
end Go.Proofs
namespace Go.Proofs
open Go Go.Ab
theorem En (G:Kc):u3 G:=fun l g sz nl hz hl =>
 DCall.sort (P:=Tryz.prog) (G:=G) (f:=173) (fun blk cap zs w hH hb hs=>Any.slices_Sort_int Tryz.laysSort blk 0 cap zs w hH hb hs) (fun a cap w=>Any.slices_Sort_int_none Tryz.laysSort a cap w) l g sz nl hz hl
end Go.Proofs
namespace Go.Proofs
open Go.Shelf
def Tryz.laysSus_ren:Go.Shelf.Ren:=⟨fun|6=>138|15=>201|14=>200|28=>249|29=>250|20=>241|21=>242|22=>243|23=>244|24=>245|25=>246|26=>247|27=>248|46=>285|47=>286|48=>287|49=>288|50=>289|57=>305|n=>n,fun|22=>52|24=>42|25=>140|3=>3|39=>287|0=>0|53=>157|55=>335|4=>4|46=>328|45=>327|50=>154|5=>5|9=>9|66=>363|70=>367|76=>390|77=>391|n=>n,fun|n=>n⟩
theorem Tryz.laysSus:Go.Proofs.SlLaysF0.n6 Tryz.prog Tryz.laysSus_ren:={
 mixed:=by kernel_rfl
 f6:=⟨Tryz.f138.name,by decide,Tryz.func138.trans (congrArg some (by kernel_rfl))⟩
 f14:=⟨Tryz.f200.name,by decide,Tryz.func200.trans (congrArg some (by kernel_rfl))⟩
 f15:=Tryz.func201.trans (congrArg some (by kernel_rfl))
 f20:=⟨Tryz.f241.name,by decide,Tryz.func241.trans (congrArg some (by kernel_rfl))⟩
 f21:=⟨Tryz.f242.name,by decide,Tryz.func242.trans (congrArg some (by kernel_rfl))⟩
 f22:=⟨Tryz.f243.name,by decide,Tryz.func243.trans (congrArg some (by kernel_rfl))⟩
 f23:=⟨Tryz.f244.name,by decide,Tryz.func244.trans (congrArg some (by kernel_rfl))⟩
 f24:=⟨Tryz.f245.name,by decide,Tryz.func245.trans (congrArg some (by kernel_rfl))⟩
 f25:=⟨Tryz.f246.name,by decide,Tryz.func246.trans (congrArg some (by kernel_rfl))⟩
 f26:=⟨Tryz.f247.name,by decide,Tryz.func247.trans (congrArg some (by kernel_rfl))⟩
 f27:=⟨Tryz.f248.name,by decide,Tryz.func248.trans (congrArg some (by kernel_rfl))⟩
 f28:=Tryz.func249.trans (congrArg some (by kernel_rfl))
 f29:=Tryz.func250.trans (congrArg some (by kernel_rfl))
 f46:=⟨Tryz.f285.name,by decide,Tryz.func285.trans (congrArg some (by kernel_rfl))⟩
 f47:=Tryz.func286.trans (congrArg some (by kernel_rfl))
 f48:=Tryz.func287.trans (congrArg some (by kernel_rfl))
 f49:=⟨Tryz.f288.name,by decide,Tryz.func288.trans (congrArg some (by kernel_rfl))⟩
 f50:=⟨Tryz.f289.name,by decide,Tryz.func289.trans (congrArg some (by kernel_rfl))⟩
 f57:=⟨Tryz.f305.name,by decide,Tryz.func305.trans (congrArg some (by kernel_rfl))⟩
 t0:=Tryz.underlying0
 a0:=Tryz.isAgg0
 z0:=Tryz.sizeOf0
 v0:=Tryz.zeroValue0
 t3:=Tryz.underlying3
 a3:=Tryz.isAgg3
 z3:=Tryz.sizeOf3
 v3:=Tryz.zeroValue3
 t4:=Tryz.underlying4
 a4:=Tryz.isAgg4
 z4:=Tryz.sizeOf4
 v4:=Tryz.zeroValue4
 t5:=Tryz.underlying5
 a5:=Tryz.isAgg5
 z5:=Tryz.sizeOf5
 v5:=Tryz.zeroValue5
 t9:=Tryz.underlying9
 a9:=Tryz.isAgg9
 z9:=Tryz.sizeOf9
 v9:=Tryz.zeroValue9
 t22:=Tryz.underlying52
 a22:=Tryz.isAgg52
 z22:=Tryz.sizeOf52
 v22:=Tryz.zeroValue52
 t25:=Tryz.underlying140
 a25:=Tryz.isAgg140
 z25:=Tryz.sizeOf140
 v25:=Tryz.zeroValue140
 t39:=Tryz.underlying287
 a39:=Tryz.isAgg287
 z39:=Tryz.sizeOf287
 v39:=Tryz.zeroValue287
 t45:=Tryz.underlying327
 a45:=Tryz.isAgg327
 z45:=Tryz.sizeOf327
 v45:=Tryz.zeroValue327
 t46:=Tryz.underlying328
 a46:=Tryz.isAgg328
 z46:=Tryz.sizeOf328
 v46:=Tryz.zeroValue328
 t50:=Tryz.underlying154
 a50:=Tryz.isAgg154
 z50:=Tryz.sizeOf154
 v50:=Tryz.zeroValue154
 t53:=Tryz.underlying157
 a53:=Tryz.isAgg157
 z53:=Tryz.sizeOf157
 v53:=Tryz.zeroValue157
 t55:=Tryz.underlying335
 a55:=Tryz.isAgg335
 z55:=Tryz.sizeOf335
 v55:=Tryz.zeroValue335
 t66:=Tryz.underlying363
 a66:=Tryz.isAgg363
 z66:=Tryz.sizeOf363
 v66:=Tryz.zeroValue363
 t70:=Tryz.underlying367
 a70:=Tryz.isAgg367
 z70:=Tryz.sizeOf367
 v70:=Tryz.zeroValue367
 t76:=Tryz.underlying390
 a76:=Tryz.isAgg390
 z76:=Tryz.sizeOf390
 v76:=Tryz.zeroValue390
 t77:=Tryz.underlying391
 a77:=Tryz.isAgg391
 z77:=Tryz.sizeOf391
 v77:=Tryz.zeroValue391 }
end Go.Proofs
namespace Go.Proofs
open Go Go.Ab Go.Sort
theorem Iq:SWO (fun x y:xc=>decide (jD x.1 y.1<0)) where
 irrefl x:=by
  rw[decide_eq_false_iff_not,ge];unfold cj;omega
 trans x y z h1 h2:=by
  rw[decide_eq_true_iff,ge] at *
  exact tu h1 h2
 ntrans x y z h1 h2:=by
  rw[decide_eq_false_iff_not,ge] at *
  unfold cj at *
  omega
theorem BF (G:Kc):V2 G:=fun l gn sz nl hz hl =>
 DCall.sortF (P:=Tryz.prog) (G:=G) (f:=138) (g:=86) uy 2 (by decide) (fun _=>rfl) (fun a b=>jD a.1 b.1) Iq (fun x y=>by have h:=ui (G:=fun _=>none) x.1 y.1 x.2 y.2;exact h)
  (fun α _ en hk h1 c hO blk cap d w hcmp hH hb hs=>AnyQ.slices_SortFunc Tryz.laysSus 2 Tryz.isAgg42 Tryz.sizeOf42 en hk h1 c hO 86 #[] blk 0 cap d w (by simp) hcmp hH hb hs)
  (fun a cap w=>AnyF.slices_SortFunc_none Tryz.laysSus a cap _ w) (.im (.fn (.func 86) []))
  (fun M v hv=>by
   cases hv with
   | im _ _ h=>cases h with
     | fn _ _ vs h1 _ =>
       have:vs=#[]:=Array.eq_empty_of_size_eq_zero (by simpa using h1.symm)
       rw[this]) l gn sz nl hz hl
end Go.Proofs
