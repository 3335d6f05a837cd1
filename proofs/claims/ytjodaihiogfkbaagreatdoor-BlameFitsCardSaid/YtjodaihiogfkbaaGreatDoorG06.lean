/- Part 24 of the proofs. -/
import Derived.Shelf.Sort.Plain
import Derived.Shelf.Slices.In.SortNone
import Derived.Ground.NamesProg
import Derived.Shelf.Lays
import Derived.Shelf.SlGeneric
import Derived.Shelf.SlSortCmp.NoneTotal
import Derived.Ground.SlsfProg
import Derived.Test.YtjodaihiogfkbaaGreatDoorCards
import Derived.SevenTiedAt
import Derived.Test.YtjodaihiogfkbaaGreatDoorS14
import Derived.Test.YtjodaihiogfkbaaGreatDoorS15
import Derived.Test.YtjodaihiogfkbaaGreatDoorG01
import Derived.Test.YtjodaihiogfkbaaGreatDoorG02
import Derived.Test.YtjodaihiogfkbaaGreatDoorG03
import Derived.Test.YtjodaihiogfkbaaGreatDoorG04
import Derived.Test.YtjodaihiogfkbaaGreatDoorG05
set_option linter.all false
set_option linter.deprecated false
set_option maxHeartbeats 100000000
namespace Go.Ab
open Go
abbrev Gp:=Nat×Bool
def sc (b:Nat→Nat×Nat) (m:Nat→Gp×Gp) (i k:Nat) (x:Issue):List DC:=if k<i then [.im (rI x.drawing),.im (rI x.letter),.im (.raw (.int .u8 x.kind)),.vec (b k).1 (m k).1.1 0 x.items.length,.vec (b k).2 (m k).2.1 0 x.dims.length] else (e9 x).map .im
def bj (b:Nat→Nat×Nat) (m:Nat→Gp×Gp) (i:Nat) (l:List Issue):List (List DC):=l.mapIdx (sc b m i)
def jn (l:List Issue) (m:Nat→Gp×Gp) (k:Nat):Q4:=match l[k]? with
 | some x=>(.vec 2 [] 0 true,.vec 2 (l9 (x.items.map u9)) (m k).1.1 (m k).1.2,.vec 3 [] 0 true,.vec 3 (l9 (x.dims.map C1)) (m k).2.1 (m k).2.2)
 | none=>(.gone,.gone,.gone,.gone)
def sg (b:Nat→Nat) (m:Nat→Gp) (i k:Nat) (x:Holder):List DC:=if k<i then [.im (rI x.id),.im (rI x.frm),.im (rI x.to),.vec (b k) (m k).1 0 x.draws.length] else (n3 x).map .im
def bo (b:Nat→Nat) (m:Nat→Gp) (i:Nat) (l:List Holder):List (List DC):=l.mapIdx (sg b m i)
def kY (l:List Holder) (m:Nat→Gp) (k:Nat):Q2:=match l[k]? with
 | some x=>(.vec 1 [] 0 true,.vec 1 (l9 (x.draws.map Ab.encI)) (m k).1 (m k).2)
 | none=>(.gone,.gone)
@[simp] theorem Hd (b:Nat→Nat×Nat) (m:Nat→Gp×Gp) (i:Nat) (l:List Issue):(bj b m i l).length=l.length:=by simp[bj]
@[simp] theorem Hn (b:Nat→Nat) (m:Nat→Gp) (i:Nat) (l:List Holder):(bo b m i l).length=l.length:=by simp[bo]
theorem vA (b:Nat→Nat×Nat) (m:Nat→Gp×Gp) (l:List Issue):bj b m 0 l=l9 (l.map e9):=by
 unfold bj l9
 apply List.ext_getElem?
 intro k
 simp[List.getElem?_mapIdx,sc]
 rfl
theorem vI (b:Nat→Nat) (m:Nat→Gp) (l:List Holder):bo b m 0 l=l9 (l.map n3):=by
 unfold bo l9
 apply List.ext_getElem?
 intro k
 simp[List.getElem?_mapIdx,sg]
 rfl
theorem Cd {b:Nat→Nat×Nat} {m:Nat→Gp×Gp} {i:Nat} {l:List Issue} {x:Issue} (h:l[i]?=some x):(bj b m i l)[i]?=some ((e9 x).map .im):=by
 simp[bj,List.getElem?_mapIdx,h,sc]
theorem Cm {b:Nat→Nat} {m:Nat→Gp} {i:Nat} {l:List Holder} {x:Holder} (h:l[i]?=some x):(bo b m i l)[i]?=some ((n3 x).map .im):=by
 simp[bo,List.getElem?_mapIdx,h,sg]
def fE {α:Type} (m:Nat→α) (i:Nat) (g:α) (k:Nat):α:=if k=i then g else m k
theorem yz {b:Nat→Nat×Nat} {m:Nat→Gp×Gp} {i:Nat} {l:List Issue} {x:Issue} (h:l[i]?=some x) (g:Gp×Gp):(bj b m i l).set i [.im (rI x.drawing),.im (rI x.letter),.im (.raw (.int .u8 x.kind)),.vec (b i).1 g.1.1 0 x.items.length,.vec (b i).2 g.2.1 0 x.dims.length]=bj b (fE m i g) (i+1) l:=by
 apply List.ext_getElem?
 intro k
 rw[List.getElem?_set]
 by_cases e:i=k
 ·subst e
  have hlt:=e7 h
  rw[if_pos rfl,if_pos (by simpa using hlt)]
  simp only[bj,List.getElem?_mapIdx,h,Option.map_some,sc,fE,if_true,Nat.lt_succ_self]
 ·rw[if_neg e]
  simp only[bj,List.getElem?_mapIdx]
  have h1:¬ k=i:=fun h=>e h.symm
  cases hk:l[k]? with
  | none=>rfl
  | some y =>
    simp only[Option.map_some,sc,fE,if_neg h1]
    by_cases h2:k<i
    ·rw[if_pos h2,if_pos (by omega)]
    ·rw[if_neg h2,if_neg (by omega)]
theorem yO {b:Nat→Nat} {m:Nat→Gp} {i:Nat} {l:List Holder} {x:Holder} (h:l[i]?=some x) (g:Gp):(bo b m i l).set i [.im (rI x.id),.im (rI x.frm),.im (rI x.to),.vec (b i) g.1 0 x.draws.length]=bo b (fE m i g) (i+1) l:=by
 apply List.ext_getElem?
 intro k
 rw[List.getElem?_set]
 by_cases e:i=k
 ·subst e
  have hlt:=e7 h
  rw[if_pos rfl,if_pos (by simpa using hlt)]
  simp only[bo,List.getElem?_mapIdx,h,Option.map_some,sg,fE,if_true,Nat.lt_succ_self]
 ·rw[if_neg e]
  simp only[bo,List.getElem?_mapIdx]
  have h1:¬ k=i:=fun h=>e h.symm
  cases hk:l[k]? with
  | none=>rfl
  | some y =>
    simp only[Option.map_some,sg,fE,if_neg h1]
    by_cases h2:k<i
    ·rw[if_pos h2,if_pos (by omega)]
    ·rw[if_neg h2,if_neg (by omega)]
theorem vz {l:List Issue} {m:Nat→Gp×Gp} {i:Nat} {x:Issue} (h:l[i]?=some x) (g:Gp×Gp):E6 (jn l (fE m i g)) (i+1)=E6 (jn l m) i++[.vec 2 [] 0 true,.vec 2 (l9 (x.items.map u9)) g.1.1 g.1.2,.vec 3 [] 0 true,.vec 3 (l9 (x.dims.map C1)) g.2.1 g.2.2]:=by
 rw[E6,dj (H:=jn l m) fun k hk=>by unfold jn fE;rw[if_neg (by omega)]]
 simp[jn,h,fE]
theorem vH {l:List Holder} {m:Nat→Gp} {i:Nat} {x:Holder} (h:l[i]?=some x) (g:Gp):H6 (kY l (fE m i g)) (i+1)=H6 (kY l m) i++[.vec 1 [] 0 true,.vec 1 (l9 (x.draws.map Ab.encI)) g.1 g.2]:=by
 rw[H6,dl (H:=kY l m) fun k hk=>by unfold kY fE;rw[if_neg (by omega)]]
 simp[kY,h,fE]
abbrev AP:=(Gp×Gp)×(Nat→Gp×Gp)×(Gp×Gp)×(Nat→Gp)×(Gp×Gp)
def sL (s k:Nat):Nat×Nat:=(4*k+(13+s),4*k+(15+s))
def sM (N s k:Nat):Nat:=4*N+2*k+(17+s)
def ox (s:Nat) (m:AP) (c:Case):List DC:=[.vec (9+s) m.1.1.1 0 c.p.n.reg.length,.vec (11+s) m.1.2.1 0 c.p.n.notes.length,.vec (4*c.p.n.reg.length+(13+s)) m.2.2.1.1.1 0 c.p.holders.length,.vec (4*c.p.n.reg.length+(15+s)) m.2.2.1.2.1 0 c.p.prints.length,.im (rI c.machine),.im (rI c.of),.vec (4*c.p.n.reg.length+2*c.p.holders.length+(17+s)) m.2.2.2.2.1.1 0 c.loop.links.length,.im (rI c.loop.lo),.im (rI c.loop.hi),.vec (4*c.p.n.reg.length+2*c.p.holders.length+(19+s)) m.2.2.2.2.2.1 0 c.pieces.length]
def qf (s:Nat) (m:AP) (c:Case):List DObj:=.row (ox s m c) :: .vec 0 [] 0 true :: .vec 0 [] 0 true :: .vec 0 [] 0 true :: .vec 0 [] 0 true :: .vec 0 [] 0 true :: .vec 0 [] 0 true :: .row (ox s m c) :: .vec 5 [] 0 true :: .vec 5 (bj (sL s) m.2.1 c.p.n.reg.length c.p.n.reg) m.1.1.1 m.1.1.2 :: .vec 10 [] 0 true :: .vec 10 (l9 (c.p.n.notes.map j9)) m.1.2.1 m.1.2.2 :: (E6 (jn c.p.n.reg m.2.1) c.p.n.reg.length ++ .vec 4 [] 0 true :: .vec 4 (bo (sM c.p.n.reg.length s) m.2.2.2.1 c.p.holders.length c.p.holders) m.2.2.1.1.1 m.2.2.1.1.2 :: .vec 7 [] 0 true :: .vec 7 (l9 (c.p.prints.map u6)) m.2.2.1.2.1 m.2.2.1.2.2 :: (H6 (kY c.p.holders m.2.2.2.1) c.p.holders.length++[.vec 3 [] 0 true,.vec 3 (l9 (c.loop.links.map F5)) m.2.2.2.2.1.1 m.2.2.2.2.1.2,.vec 4 [] 0 true,.vec 4 (l9 (c.pieces.map A1)) m.2.2.2.2.2.1 m.2.2.2.2.2.2]))
theorem nB (e:Nat→Nat) (l:List (List IC)):(l9 l).map (rnL e)=l9 l:=by
 unfold l9
 rw[List.map_map]
 exact List.map_congr_left fun x _=>eW e x
theorem Bo (a s:Nat) (m:Nat→Gp×Gp) (i:Nat) (l:List Issue):(bj (sL a) m i l).map (rnL fun o=>s+o)=bj (sL (a+s)) m i l:=by
 apply List.ext_getElem?
 intro k
 simp only[bj,List.getElem?_map,List.getElem?_mapIdx]
 cases l[k]? with
 | none=>rfl
 | some x =>
   simp only[Option.map_some,sc]
   by_cases h:k<i
   ·rw[if_pos h,if_pos h]
    simp only[rnL,gY,sL]
    rw[show s+(4*k+(13+a))=4*k+(13+(a+s)) by omega,show s+(4*k+(15+a))=4*k+(15+(a+s)) by omega]
   ·rw[if_neg h,if_neg h,eW]
theorem Bp (N a s:Nat) (m:Nat→Gp) (i:Nat) (l:List Holder):(bo (sM N a) m i l).map (rnL fun o=>s+o)=bo (sM N (a+s)) m i l:=by
 apply List.ext_getElem?
 intro k
 simp only[bo,List.getElem?_map,List.getElem?_mapIdx]
 cases l[k]? with
 | none=>rfl
 | some x =>
   simp only[Option.map_some,sg]
   by_cases h:k<i
   ·rw[if_pos h,if_pos h]
    simp only[rnL,gY,sM]
    rw[show s+(4*N+2*k+(17+a))=4*N+2*k+(17+(a+s)) by omega]
   ·rw[if_neg h,if_neg h,eW]
theorem xF (a s:Nat) (m:AP) (c:Case):rnL (fun o=>s+o) (ox a m c)=ox (a+s) m c:=by
 simp only[ox,rnL,gY]
 simp only[List.cons.injEq,DC.vec.injEq,and_true,true_and]
 omega
theorem DW (a s:Nat) (m:AP) (c:Case):(qf a m c).map (cu fun o=>s+o)=qf (a+s) m c:=by
 have h4:(E6 (jn c.p.n.reg m.2.1) c.p.n.reg.length).map (cu fun o=>s+o)=E6 (jn c.p.n.reg m.2.1) c.p.n.reg.length:=by
  rw[mJ]
  refine dj fun k hk=>?_
  unfold jn
  rw[List.getElem?_eq_getElem hk]
  simp only[cu,nB,List.map_nil]
 have h2:(H6 (kY c.p.holders m.2.2.2.1) c.p.holders.length).map (cu fun o=>s+o)=H6 (kY c.p.holders m.2.2.2.1) c.p.holders.length:=by
  rw[mL]
  refine dl fun k hk=>?_
  unfold kY
  rw[List.getElem?_eq_getElem hk]
  simp only[cu,nB,List.map_nil]
 simp only[qf,List.map_cons,List.map_append,List.map_nil,cu,xF,Bo,Bp,nB,h4,h2]
theorem pX (n:Nat):s7 [] n=fun o=>n+o:=by
 funext o;simp[s7]
theorem rP (objs o:List DObj):n9 [] objs o=objs++o.map (cu fun k=>objs.length+k):=by
 unfold n9
 rw[pX]
 simp[fU]
end Go.Ab
namespace Go.Proofs
open Go Go.Ab
variable {G:JI}
attribute [simp] r9 cW Q5 li w5 B0 nilV L7 ZK
theorem wu (c:Case) (hk:KC c):DCall Tryz.prog G 98 [n5 c] [] (fun d o=>∃ m:AP,True∧d=.agg (ox 0 m c)∧o=qf 0 m c):=by
 generalize hQ:(fun (d:DV) (o:List DObj)=>∃ m:AP,True∧d=.agg (ox 0 m c)∧o=qf 0 m c)=Q
 refine g9 Tryz.func98 rfl Tryz.ntmps98 (by simp) rfl ?_
 have c1:=Hx (G:=G) c.p.n.reg (by have:=hk.p.n.1.1;omega)
 have c2:=Fl (G:=G) c.p.n.notes (by have:=hk.p.n.2.1;omega)
 unfold E2 at c1 c2
 simp only[List.length_map] at c1 c2
 simp only[n5]
 have hs:=trivial
 repeat' first|with_reducible refine zz ?_|simp -dsimp[hs]|refine CallE.embed_ex [] (c1) ?_ ?_ ?_ ?_ ?_ ?_;(focus simp[s7];done);(focus simp;done);(focus simp;done);(focus simp;done);(focus refine o2 ?_;simp[s7,p9];done);intro mmA hmmA;try simp -dsimp[n9,s7,hs]|refine CallE.embed_ex [] (c2) ?_ ?_ ?_ ?_ ?_ ?_;(focus simp[s7];done);(focus simp;done);(focus simp;done);(focus simp;done);(focus refine o2 ?_;simp[s7,p9];done);intro mmB hmmB;try simp -dsimp[n9,s7,hs]|refine W5 (id:=2) (nt:=117) [none,none,none,none,none,none,none,none,none,none,none,none,none,none,none,some [0],some [15],some [16],some [17],none,some [1],some [20],some [21],none] [0,1,2,3,4,5,6,7,9,10,11,12,13,15,16,17,18,20,21,22,8,14,19,23] 20 [([0,1,8,9,10,11,12,13,14,15,16,17,18,19],[0,1,2,3,4,5,6,15,36,37,38,85,86,87]),([0,1,13,14,15,16,17,18,19],[0,1,2,3,4,5,6,16,21,36,37,38,85,86,87]),([1,17,18,19],[0,1,2,3,4,5,6,16,22,26,36,37,38,85,86,87])] [0,1,2,3,4,5,6,36,37,38,85,86,87] mixed rfl (by kernel_rfl) (by kernel_rfl) (by kernel_rfl) ?_|with_reducible refine zE [0,1,2,3,4,5,6,36,37,38,85,86,87] ?_
 all_goals try clear hs
 refine i6 (ι:={ q:Nat×(Nat→Gp×Gp) // q.1≤c.p.n.reg.length }) (fun q=>⟨117,[(1,.one (.ptr 0 0)),(2,.one (.ptr 7 0)),(3,.one (.ptr 0 0)),(36,iv (c.p.n.reg.length:Int)),(37,iv (q.1.1:Int))],.row [.vec 9 mmA.1 0 c.p.n.reg.length,.vec 11 mmB.1 0 c.p.n.notes.length,.im (.sl (c.p.holders.map n3)),.im (.sl (c.p.prints.map u6)),.im (rI c.machine),.im (rI c.of),.im (.sl (c.loop.links.map F5)),.im (rI c.loop.lo),.im (rI c.loop.hi),.im (.sl (c.pieces.map A1))] :: .vec 0 [] 0 true :: .vec 0 [] 0 true :: .vec 0 [] 0 true :: .vec 0 [] 0 true :: .vec 0 [] 0 true :: .vec 0 [] 0 true :: .row [.vec 1 0 0 0,.vec 2 0 0 0,.vec 3 0 0 0,.vec 4 0 0 0,.im (rI 0),.im (rI 0),.vec 5 0 0 0,.im (rI 0),.im (rI 0),.vec 6 0 0 0] :: .vec 5 [] 0 true :: .vec 5 (bj (fun k=>(4*k+13,4*k+15)) q.1.2 q.1.1 c.p.n.reg) mmA.1 mmA.2 :: .vec 10 [] 0 true :: .vec 10 (l9 (c.p.n.notes.map j9)) mmB.1 mmB.2 :: E6 (jn c.p.n.reg q.1.2) q.1.1⟩) (fun q=>c.p.n.reg.length-q.1.1) ⟨(0,fun _=>((0,false),(0,false))),by simp⟩ (zv [1,2,3,36,37] (by simp[vA,E6])) ?_
 rintro⟨⟨i,m⟩,hi⟩
 simp only at hi
 simp only[iv,rI]
 by_cases hlt:i<c.p.n.reg.length
 ·have hw:IntKind.i64.wrap ((i:Int)+1)=((i+1:Nat):Int):=o6 (by omega) (by have:=hk.p.n.1.1;omega)
  have hx0:c.p.n.reg[i]?=some c.p.n.reg[i]:=by simp[hlt]
  have hxm:=hk.p.n.1.2 _ (List.mem_of_getElem? hx0)
  generalize c.p.n.reg[i]=x at *
  have c3:=Hw (G:=G) x.items (by omega)
  have c4:=Hz (G:=G) x.dims (by omega)
  unfold E2 at c3 c4
  simp only[List.length_map] at c3 c4
  have hat:∀ h,(bj (fun k=>(4*k+13,4*k+15)) m i c.p.n.reg)[i]'h=(e9 x).map .im:=fun h=>by
   have:=Cd (b:=fun k=>(4*k+13,4*k+15)) (m:=m) hx0
   rw[List.getElem?_eq_getElem h] at this;exact Option.some.inj this
  simp only[e9,rI,List.map_cons,List.map_nil] at hat
  have hset:=fun g=>yz (b:=fun k=>(4*k+13,4*k+15)) (m:=m) hx0 g
  have hsuc:=fun g=>vz (m:=m) hx0 g
  have hs:=za hlt (za hw hat)
  repeat' first|with_reducible refine zz ?_|simp -dsimp[hs]|refine CallE.embed_ex [] (c3) ?_ ?_ ?_ ?_ ?_ ?_;(focus simp[s7];done);(focus simp;done);(focus simp;done);(focus simp;done);(focus refine o2 ?_;simp[s7,p9];done);intro mmC hmmC;try simp -dsimp[n9,s7,hs]|refine CallE.embed_ex [] (c4) ?_ ?_ ?_ ?_ ?_ ?_;(focus simp[s7];done);(focus simp;done);(focus simp;done);(focus simp;done);(focus refine o2 ?_;simp[s7,p9];done);intro mmD hmmD;try simp -dsimp[n9,s7,hs]|refine W5 (id:=7) (nt:=117) [none,none,none,none,none,none,none,none,none,none,none,none,some [0],some [12],none,some [1],some [15],none] [0,1,2,3,4,5,7,8,9,10,12,13,15,16,6,11,14,17] 14 [([0,1,6,7,8,9,10,11,12,13],[0,1,2,3,4,5,6,36,37,38,53,85,86,87]),([0,1,10,11,12,13],[0,1,2,3,4,5,6,36,37,38,54,58,85,86,87]),([1,12,13],[0,1,2,3,4,5,6,36,37,38,54,59,61,85,86,87])] [0,1,2,3,4,5,6,36,37,38,85,86,87] mixed rfl (by kernel_rfl) (by kernel_rfl) (by kernel_rfl) ?_|with_reducible refine zE [0,1,2,3,4,5,6,36,37,38,85,86,87] ?_|refine i9 ?_ ?_<;>intro h<;>try simp only[i7] at h
  all_goals try clear hs
  refine At.round ⟨(i+1,fE m i (mmC,mmD)),by simp only;omega⟩ (by simp only;omega) (Weak.of_keep [1,2,3,36,37] ?_)
  rw[← hset (mmC,mmD),hsuc (mmC,mmD)]
  simp
 ·obtain rfl:i=c.p.n.reg.length:=by omega
  have c5:=Fo (G:=G) c.p.holders (by have:=hk.p.p.h;omega)
  have c6:=CH (G:=G) c.p.prints (by have:=hk.p.p.q;omega)
  unfold E2 at c5 c6
  simp only[List.length_map] at c5 c6
  have hs:=hlt
  repeat' first|with_reducible refine zz ?_|simp -dsimp[hs]|refine CallE.embed_ex [] (c5) ?_ ?_ ?_ ?_ ?_ ?_;(focus simp[s7];done);(focus simp;done);(focus simp;done);(focus simp;done);(focus refine o2 ?_;simp[s7,p9];done);intro mmE hmmE;try simp -dsimp[n9,s7,hs]|refine CallE.embed_ex [] (c6) ?_ ?_ ?_ ?_ ?_ ?_;(focus simp[s7];done);(focus simp;done);(focus simp;done);(focus simp;done);(focus refine o2 ?_;simp[s7,p9];done);intro mmF hmmF;try simp -dsimp[n9,s7,hs]|refine W5 (id:=9) (nt:=117) [none,none,none,none,none,none,none,none,none,none,none,none,some [0],some [12],none,some [1],some [15],none] [0,1,2,3,4,5,7,8,9,10,12,13,15,16,6,11,14,17] 14 [([0,1,6,7,8,9,10,11,12,13],[0,1,2,3,4,5,6,36,37,38,70,85,86,87]),([0,1,10,11,12,13],[0,1,2,3,4,5,6,36,37,38,71,75,85,86,87]),([1,12,13],[0,1,2,3,4,5,6,36,37,38,71,76,78,85,86,87])] [0,1,2,3,4,5,6,36,37,38,85,86,87] mixed rfl (by kernel_rfl) (by kernel_rfl) (by kernel_rfl) ?_|with_reducible refine zE [0,1,2,3,4,5,6,36,37,38,85,86,87] ?_|refine i9 ?_ ?_<;>intro h<;>try simp only[i7] at h
  all_goals try clear hs
  clear hlt hi
  generalize hN:c.p.n.reg.length=N at *
  refine i6 (ι:={ q:Nat×(Nat→Gp) // q.1≤c.p.holders.length }) (fun q=>⟨117,[(1,.one (.ptr 0 0)),(2,.one (.ptr 7 0)),(3,.one (.ptr 0 0)),(85,iv (c.p.holders.length:Int)),(86,iv (q.1.1:Int))],.row [.vec 9 mmA.1 0 N,.vec 11 mmB.1 0 c.p.n.notes.length,.vec (4*N+13) mmE.1 0 c.p.holders.length,.vec (4*N+15) mmF.1 0 c.p.prints.length,.im (rI c.machine),.im (rI c.of),.im (.sl (c.loop.links.map F5)),.im (rI c.loop.lo),.im (rI c.loop.hi),.im (.sl (c.pieces.map A1))] :: .vec 0 [] 0 true :: .vec 0 [] 0 true :: .vec 0 [] 0 true :: .vec 0 [] 0 true :: .vec 0 [] 0 true :: .vec 0 [] 0 true :: .row [.vec 1 0 0 0,.vec 2 0 0 0,.vec 3 0 0 0,.vec 4 0 0 0,.im (rI 0),.im (rI 0),.vec 5 0 0 0,.im (rI 0),.im (rI 0),.vec 6 0 0 0] :: .vec 5 [] 0 true :: .vec 5 (bj (fun k=>(4*k+13,4*k+15)) m N c.p.n.reg) mmA.1 mmA.2 :: .vec 10 [] 0 true :: .vec 10 (l9 (c.p.n.notes.map j9)) mmB.1 mmB.2 :: (E6 (jn c.p.n.reg m) N ++ .vec 4 [] 0 true :: .vec 4 (bo (fun k=>4*N+2*k+17) q.1.2 q.1.1 c.p.holders) mmE.1 mmE.2 :: .vec 7 [] 0 true :: .vec 7 (l9 (c.p.prints.map u6)) mmF.1 mmF.2 :: H6 (kY c.p.holders q.1.2) q.1.1)⟩) (fun q=>c.p.holders.length-q.1.1) ⟨(0,fun _=>(0,false)),by simp⟩ (zv [1,2,3,85,86] (by simp[vI,H6])) ?_
  rintro⟨⟨i,m2⟩,hi⟩
  simp only at hi
  simp only[iv,rI]
  by_cases hlt:i<c.p.holders.length
  ·have hw:IntKind.i64.wrap ((i:Int)+1)=((i+1:Nat):Int):=o6 (by omega) (by have:=hk.p.p.h;omega)
   have hx0:c.p.holders[i]?=some c.p.holders[i]:=by simp[hlt]
   have hxm:=hk.p.p.d _ (List.mem_of_getElem? hx0)
   generalize c.p.holders[i]=x at *
   have c3:=Hy (G:=G) x.draws (by omega)
   unfold E2 at c3
   simp only[List.length_map] at c3
   have hat:∀ h,(bo (fun k=>4*N+2*k+17) m2 i c.p.holders)[i]'h=(n3 x).map .im:=fun h=>by
    have:=Cm (b:=fun k=>4*N+2*k+17) (m:=m2) hx0
    rw[List.getElem?_eq_getElem h] at this;exact Option.some.inj this
   simp only[n3,rI,List.map_cons,List.map_nil] at hat
   have hset:=fun g=>yO (b:=fun k=>4*N+2*k+17) (m:=m2) hx0 g
   have hsuc:=fun g=>vH (m:=m2) hx0 g
   have hs:=za hlt (za hw hat)
   repeat' first|with_reducible refine zz ?_|simp -dsimp[hs]|refine CallE.embed_ex [] (c3) ?_ ?_ ?_ ?_ ?_ ?_;(focus simp[s7];done);(focus simp;done);(focus simp;done);(focus simp;done);(focus refine o2 ?_;simp[s7,p9];done);intro mmC hmmC;try simp -dsimp[n9,s7,hs]|refine W5 (id:=13) (nt:=117) [none,none,none,none,none,none,none,none,none,none,none,none,none,none,some [3,4],some [14],none] [0,1,2,3,4,5,6,7,8,9,10,11,12,14,15,13,16] 15 [([0,1,2,3,4,13,14],[0,1,2,3,4,5,6,36,37,38,85,86,87,101])] [0,1,2,3,4,5,6,36,37,38,85,86,87] mixed rfl (by kernel_rfl) (by kernel_rfl) (by kernel_rfl) ?_|with_reducible refine zE [0,1,2,3,4,5,6,36,37,38,85,86,87] ?_|refine i9 ?_ ?_<;>intro h<;>try simp only[i7] at h
   all_goals try clear hs
   refine At.round ⟨(i+1,fE m2 i mmC),by simp only;omega⟩ (by simp only;omega) (Weak.of_keep [1,2,3,85,86] ?_)
   rw[← hset mmC,hsuc mmC]
   simp
   refine congrArg (fun a=>(bo (fun k=>4*N+2*k+17) m2 i c.p.holders).set i [_,_,_,DC.vec a _ _ _]) ?_
   omega
  ·obtain rfl:i=c.p.holders.length:=by omega
   have c7:=Fm (G:=G) c.loop.links (by have:=hk.l;omega)
   have c8:=CI (G:=G) c.pieces (by have:=hk.q;omega)
   unfold E2 at c7 c8
   simp only[List.length_map] at c7 c8
   have hs:=hlt
   repeat' first|(with_reducible first|refine zz ?_|refine zr ?_)|simp -dsimp[hs]|refine CallE.embed_ex [] (c7) ?_ ?_ ?_ ?_ ?_ ?_;(focus simp[s7];done);(focus simp;done);(focus simp;done);(focus simp;done);(focus refine o2 ?_;simp[s7,p9];done);intro mmG hmmG;try simp -dsimp[n9,s7,hs]|refine CallE.embed_ex [] (c8) ?_ ?_ ?_ ?_ ?_ ?_;(focus simp[s7];done);(focus simp;done);(focus simp;done);(focus simp;done);(focus refine o2 ?_;simp[s7,p9];done);intro mmH hmmH;try simp -dsimp[n9,s7,hs]|refine W5 (id:=15) (nt:=117) [none,none,none,none,none,none,none,some [],some [7],none,some [],none] [0,1,2,4,5,7,8,10,3,6,9,11] 8 [([3,4,5,6,7],[0,1,2,3,4,5,6,36,37,38,85,86,87,108]),([5,6,7],[0,1,2,3,4,5,6,36,37,38,85,86,87,109,111]),([7],[0,1,2,3,4,5,6,36,37,38,85,86,87,109,112,114])] [0,1,2,3,4,5,6,36,37,38,85,86,87] mixed rfl (by kernel_rfl) (by kernel_rfl) (by kernel_rfl) ?_|with_reducible refine zE [0,1,2,3,4,5,6,36,37,38,85,86,87] ?_|refine i9 ?_ ?_<;>intro h<;>try simp only[i7] at h
   all_goals try clear hs
   subst hQ
   refine⟨((mmA,mmB),m,(mmE,mmF),m2,(mmG,mmH)),trivial,?_,?_⟩
   ·simp only[ox,hN,DV.agg.injEq,List.cons.injEq,DC.vec.injEq,and_true,true_and,Nat.add_zero]
    exact⟨rfl,rfl,by omega,rfl,rfl,by omega⟩
   ·simp only[qf,ox,hN,List.cons.injEq,DObj.row.injEq,DC.vec.injEq,and_true,true_and,Nat.add_zero]
    exact⟨⟨rfl,rfl,by omega,rfl,rfl,by omega⟩,⟨rfl,rfl,by omega,rfl,rfl,by omega⟩,rfl,rfl⟩
end Go.Proofs
namespace Go.Proofs
open Go Go.Ab Tryz
variable {G:JI}
def IL (x:Piece) (lo hi:Int):Piece:=⟨x.holder,x.day,lo,hi⟩
def BQ (c:Case) (k:Nat) (x:Piece) (lo hi:Int):Case:={ c with pieces:=c.pieces.set k (IL x lo hi) }
noncomputable def oL (c:Case) (n lo hi:Int):Int:=if Y1 c n≠0 then Y1 c n else match c.pieces[n.toNat]? with
 | some x=>if Q3 lo hi x.lo x.hi=true then 0 else 2
 | none=>2
theorem BN {c:Case} {n lo hi:Int} (h:oL c n lo hi=0):r5 c=0∧∃ (k:Nat) (x:Piece),n=(k:Int)∧c.pieces[k]?=some x∧Q3 lo hi x.lo x.hi=true:=by
 unfold oL at h
 by_cases h0:Y1 c n=0
 ·rw[if_neg (by simp[h0])] at h
  obtain⟨he,hn0,hn1⟩:=pC h0
  obtain⟨k,rfl⟩:=Int.eq_ofNat_of_zero_le hn0
  rw[Int.toNat_natCast] at h
  cases hx:c.pieces[k]? with
  | none=>rw[hx] at h;simp at h
  | some x =>
    rw[hx] at h
    simp only at h
    by_cases hi':Q3 lo hi x.lo x.hi=true
    ·exact⟨he,k,x,rfl,hx,hi'⟩
    ·rw[if_neg hi'] at h;exact absurd h (by decide)
 ·rw[if_pos (by exact h0)] at h;exact absurd h h0
def xe (s:Nat) (m:AP) (c:Case) (lo hi:Int):List DObj:=.row (ox (9+s) m c) :: .row [.im (rI lo),.im (rI hi)] :: .vec 0 [] 0 true :: .vec 0 [] 0 true :: .vec 0 [] 0 true :: .vec 0 [] 0 true :: .vec 0 [] 0 true :: .vec 0 [] 0 true :: .row (ox (9+s) m c) :: qf (9+s) m c
theorem EB {l:List Piece} {k:Nat} {x:Piece} (lo hi:Int) (h:l[k]?=some x):(l9 (l.map A1)).set k [.im (.raw (.int .i64 x.holder)),.im (.raw (.int .i64 x.day)),.im (.raw (.int .i64 lo)),.im (.raw (.int .i64 hi))]=l9 ((l.set k (IL x lo hi)).map A1):=by
 rw[List.map_set]
 unfold l9
 rw[List.map_set]
 rfl
theorem An (c:Case) (k:Nat) (x:Piece) (lo hi:Int) (hx0:c.pieces[k]?=some x) (h0:r5 c=0) (hin:Q3 lo hi x.lo x.hi=true) (hG:p5 G) (hN:D5 G) (hS:v7 G) (hR:w0 G) (hk:KC c):DCall prog G 41 [n5 c,iv (k:Int),C6 lo hi] [] (fun d o=>∃ m:AP,True∧d=.tup [.agg (ox 9 m (BQ c k x lo hi)),iv 0]∧o=xe 0 m (BQ c k x lo hi) lo hi):=by
 generalize hQ:(fun (d:DV) (o:List DObj)=>∃ m:AP,True∧d=.tup [.agg (ox 9 m (BQ c k x lo hi)),iv 0]∧o=xe 0 m (BQ c k x lo hi) lo hi)=Q
 refine g9 func41 rfl ntmps41 (by simp) rfl ?_
 have hlt:k<c.pieces.length:=e7 hx0
 have hx:c.pieces[k]=x:=(List.getElem?_eq_some_iff.1 hx0).2
 have hq16:=hk.q
 have c1:=gO (G:=G) c hG hN hS hR hk
 rw[h0] at c1
 have c2:=N5 (G:=G) 0 ((c.pieces.length:Int)-1) [(k:Int)] (by simp)
 rw[show ([(k:Int)].all fun y=>decide (0≤y)&&decide (y≤(c.pieces.length:Int)-1))=true by simp;omega] at c2
 have c3:=bl (G:=G) lo hi x.lo x.hi
 rw[hin] at c3
 have hw:IntKind.i64.wrap ((c.pieces.length:Int)-1)=(c.pieces.length:Int)-1:=o6 (by omega) (by omega)
 have c4:=wu (G:=G) c hk
 simp only[n5,j4,C6] at c1 c3 c4 ⊢
 have hs:=za hx (za hlt hw)
 repeat' first|(with_reducible first|refine zz ?_|refine zr ?_)|simp -dsimp[hs]|refine zp c1 ?_|refine zq c2 ?_|refine zq c3 ?_|refine CallE.embed_ex [] c4 ?_ ?_ ?_ ?_ ?_ ?_;(focus simp[s7];done);(focus simp;done);(focus simp;done);(focus simp;done);(focus refine o2 ?_;simp[s7,p9];done);intro mmA hmmA;(try simp only[rP,pX,ji,xF,DW,Nat.zero_add]);try simp -dsimp[ox,qf]|refine zM 4 52 27 [0,1,2,3,5,6,7,8,12,41] ?_|with_reducible refine zE [0,1,2,3,5,6,7,8,12,41] ?_|refine i9 ?_ ?_<;>intro h<;>try simp only[i7] at h
 subst hQ
 have hst:=EB lo hi hx0
 refine⟨mmA,trivial,?_,?_⟩
 ·simp[ox,BQ]
 ·simp[xe,qf,ox,BQ,hst]
def jN:Case:=⟨⟨⟨[],[]⟩,[],[]⟩,0,0,⟨[],0,0⟩,[]⟩
noncomputable def ED (c:Case) (n lo hi:Int):Case:=if oL c n lo hi=0 then (match c.pieces[n.toNat]? with|some x=>BQ c n.toNat x lo hi|none=>jN) else jN
theorem BM {c:Case} {k:Nat} {x:Piece} {lo hi:Int} (h:oL c (k:Int) lo hi=0) (hx:c.pieces[k]?=some x):ED c (k:Int) lo hi=BQ c k x lo hi:=by
 unfold ED;rw[if_pos h,Int.toNat_natCast,hx]
theorem EC {c:Case} {n lo hi:Int} (h:¬ oL c n lo hi=0):ED c n lo hi=jN:=by
 unfold ED;rw[if_neg h]
theorem EE {c:Case} {k:Nat} {x:Piece} (lo hi:Int) (h0:r5 c=0) (hx:c.pieces[k]?=some x):oL c (k:Int) lo hi=if Q3 lo hi x.lo x.hi=true then 0 else 2:=by
 have hlt:=e7 hx
 have h1:Y1 c (k:Int)=0:=by unfold Y1;rw[if_neg (by simp[h0]),if_pos (by omega)]
 unfold oL
 rw[if_neg (by simp[h1]),Int.toNat_natCast,hx]
theorem BO {c:Case} {n:Int} (lo hi:Int) (h0:r5 c=0) (hn:¬ (0≤n∧n<c.pieces.length)):oL c n lo hi=2:=by
 have h1:Y1 c n=2:=by unfold Y1;rw[if_neg (by simp[h0]),if_neg hn]
 unfold oL
 rw[if_pos (by rw[h1];decide),h1]
theorem BP {c:Case} (n lo hi:Int) (h0:¬ r5 c=0):oL c n lo hi=r5 c:=by
 have h1:Y1 c n=r5 c:=by unfold Y1;rw[if_pos h0]
 unfold oL
 rw[if_pos (by rw[h1];exact h0),h1]
theorem Ao (c:Case) (n lo hi:Int) (h:¬ oL c n lo hi=0) (hG:p5 G) (hN:D5 G) (hS:v7 G) (hR:w0 G) (hk:KC c):zP prog G 41 [n5 c,iv n,C6 lo hi] (.tup [n5 jN,iv (oL c n lo hi)]):=by
 refine zf func41 ntmps41 ?_
 try simp only[iv,C6]
 have c1:=gO (G:=G) c hG hN hS hR hk
 have hq16:=hk.q
 simp only[n5,j4,C6] at c1 ⊢
 by_cases h0:r5 c=0
 ·rw[h0] at c1
  have hw:IntKind.i64.wrap ((c.pieces.length:Int)-1)=(c.pieces.length:Int)-1:=o6 (by omega) (by omega)
  have c2:=N5 (G:=G) 0 ((c.pieces.length:Int)-1) [n] (by simp)
  by_cases hn:0≤n∧n<c.pieces.length
  ·obtain⟨k,rfl⟩:=Int.eq_ofNat_of_zero_le hn.1
   have hlt:k<c.pieces.length:=by omega
   have hx0:c.pieces[k]?=some c.pieces[k]:=by simp[hlt]
   have hE:=EE lo hi h0 hx0
   generalize hx:c.pieces[k]=x at *
   have c3:=bl (G:=G) lo hi x.lo x.hi
   rw[show ([(k:Int)].all fun y=>decide (0≤y)&&decide (y≤(c.pieces.length:Int)-1))=true by simp;omega] at c2
   have hin:Q3 lo hi x.lo x.hi=false:=by
    cases hb:Q3 lo hi x.lo x.hi
    ·rfl
    ·rw[hb,if_pos rfl] at hE;exact absurd hE h
   rw[hin,if_neg (by decide)] at hE
   rw[hin] at c3
   rw[hE]
   simp only[C6] at c3
   have hs:=za hx (za hlt hw)
   repeat' first|(with_reducible first|refine zz ?_|refine zr ?_)|simp -dsimp[hs]|refine zp c1 ?_|refine zq c2 ?_|refine zq c3 ?_|refine zM 4 52 27 [0,1,2,3,5,6,7,8,12,41] ?_|with_reducible refine zE [0,1,2,3,5,6,7,8,12,41] ?_|refine i9 ?_ ?_<;>intro h<;>try simp only[i7] at h
   all_goals simp[jN]
  ·have hE:=BO lo hi h0 hn
   rw[show ([n].all fun y=>decide (0≤y)&&decide (y≤(c.pieces.length:Int)-1))=false by simp;omega] at c2
   rw[hE]
   have hs:=hw
   repeat' first|(with_reducible first|refine zz ?_|refine zr ?_)|simp -dsimp[hs]|refine zp c1 ?_|refine zq c2 ?_|refine zM 4 52 27 [0,1,2,3,5,6,7,8,12,41] ?_|with_reducible refine zE [0,1,2,3,5,6,7,8,12,41] ?_|refine i9 ?_ ?_<;>intro h<;>try simp only[i7] at h
   all_goals simp[jN]
 ·have hE:=BP n lo hi h0
  rw[hE]
  have hs:=h0
  repeat' first|(with_reducible first|refine zz ?_|refine zr ?_|refine zE [0,1,2,3,5,6,7,8,12,41] ?_)|simp -dsimp[hs]|refine zp c1 ?_|refine i9 ?_ ?_<;>intro h<;>try simp only[i7] at h
  all_goals simp[jN]
end Go.Proofs
namespace Go.Ab
open Go
theorem zj {i n:Nat} (h:i<n) (F:Nat→Q4) (R:List DObj):(E6 F n++R)[4*i+1]?=some (F i).2.1:=by
 rw[List.getElem?_append_left (by simp;omega),iy F (by omega) h];rfl
theorem zi {i n:Nat} (h:i<n) (F:Nat→Q4) (R:List DObj):(E6 F n++R)[4*i+3]?=some (F i).2.2.2:=by
 rw[List.getElem?_append_left (by simp;omega),iy F (by omega) h];rfl
theorem zm {i n:Nat} (h:i<n) (F:Nat→Q2) (R:List DObj):(H6 F n++R)[2*i+1]?=some (F i).2:=by
 rw[List.getElem?_append_left (by simp;omega),mM F (by omega) h];rfl
theorem nK {α β:Type} {f:α→Option β}:∀ {l:List α} {r:List β},l.length=r.length→(∀ (i:Nat) (x:α),l[i]?=some x→f x=r[i]?)→C9 f l=some r
 | [],[],_,_=>rfl
 | [],_ :: _,h,_=>by simp at h
 | _ :: _,[],h,_=>by simp at h
 | x :: l,y :: r,h,h2=>by
   have h0:=h2 0 x rfl
   have h1:=nK (f:=f) (l:=l) (r:=r) (by simpa using h) (fun i z hz=>by simpa using h2 (i+1) z (by simpa using hz))
   simp only[List.getElem?_cons_zero] at h0
   simp only[C9,h0,h1]
theorem gl {k o g len sz:Nat} {nl:Bool} {objs:List DObj} {es:List (List DC)} {L:List (List IC)} (ho:objs[o]?=some (.vec sz es g nl)) (hl:es.length=len) (h:C9 (C9 (frz k 0 objs)) es=some L):frz (k+1) 0 objs (.vec o g 0 len)=some (.sl L):=by
 subst hl
 simp only[frz,ho,Nat.zero_le,if_true,Nat.zero_add,Nat.le_refl,and_self,List.drop_zero,List.take_length,h,Option.map_some]
theorem dW {o g len sz:Nat} {nl:Bool} {objs:List DObj} {es:List (List DC)} {L:List (List IC)} (ho:objs[o]?=some (.vec sz es g nl)) (hl:es.length=len) (h:C9 (C9 (frz 19 0 objs)) es=some L):fz 0 objs (.vec o g 0 len)=.im (.sl L):=by
 simp only[fz,DC.lt,gl ho hl h]
 simp
theorem EZ {s:Nat} {m:AP} {c:Case} {objs:List DObj} (h1:objs[9+s]?=some (.vec 5 (bj (sL s) m.2.1 c.p.n.reg.length c.p.n.reg) m.1.1.1 m.1.1.2)) (h2:objs[11+s]?=some (.vec 10 (l9 (c.p.n.notes.map j9)) m.1.2.1 m.1.2.2))
 (h3:objs[4*c.p.n.reg.length+(13+s)]?=some (.vec 4 (bo (sM c.p.n.reg.length s) m.2.2.2.1 c.p.holders.length c.p.holders) m.2.2.1.1.1 m.2.2.1.1.2)) (h4:objs[4*c.p.n.reg.length+(15+s)]?=some (.vec 7 (l9 (c.p.prints.map u6)) m.2.2.1.2.1 m.2.2.1.2.2))
 (h5:objs[4*c.p.n.reg.length+2*c.p.holders.length+(17+s)]?=some (.vec 3 (l9 (c.loop.links.map F5)) m.2.2.2.2.1.1 m.2.2.2.2.1.2)) (h6:objs[4*c.p.n.reg.length+2*c.p.holders.length+(19+s)]?=some (.vec 4 (l9 (c.pieces.map A1)) m.2.2.2.2.2.1 m.2.2.2.2.2.2))
 (hA:∀ (k:Nat) (x:Issue),c.p.n.reg[k]?=some x→objs[4*k+(13+s)]?=some (.vec 2 (l9 (x.items.map u9)) (m.2.1 k).1.1 (m.2.1 k).1.2)∧objs[4*k+(15+s)]?=some (.vec 3 (l9 (x.dims.map C1)) (m.2.1 k).2.1 (m.2.1 k).2.2))
 (hB:∀ (k:Nat) (x:Holder),c.p.holders[k]?=some x→objs[4*c.p.n.reg.length+2*k+(17+s)]?=some (.vec 1 (l9 (x.draws.map Ab.encI)) (m.2.2.2.1 k).1 (m.2.2.2.1 k).2)):(ox s m c).map (fz 0 objs)=(j4 c).map .im:=by
 have e1:C9 (C9 (frz 19 0 objs)) (bj (sL s) m.2.1 c.p.n.reg.length c.p.n.reg)=some (c.p.n.reg.map e9):=by
  refine nK (by simp) fun i r hr=>?_
  simp only[bj,List.getElem?_mapIdx,Option.map_eq_some_iff] at hr
  obtain⟨x,hx,rfl⟩:=hr
  rw[List.getElem?_map,hx]
  obtain⟨a1,a2⟩:=hA i x hx
  have b1:=gl (k:=18) (len:=x.items.length) a1 (by simp[l9]) (R1 _ _ _ _)
  have b2:=gl (k:=18) (len:=x.dims.length) a2 (by simp[l9]) (R1 _ _ _ _)
  have hlt:=e7 hx
  have f1:∀ c:IC,frz 19 0 objs (.im c)=some c:=fun _=>rfl
  simp only[sc,if_pos hlt,C9,f1,sL,b1,b2,Option.map_some,e9]
 have e2:C9 (C9 (frz 19 0 objs)) (bo (sM c.p.n.reg.length s) m.2.2.2.1 c.p.holders.length c.p.holders)=some (c.p.holders.map n3):=by
  refine nK (by simp) fun i r hr=>?_
  simp only[bo,List.getElem?_mapIdx,Option.map_eq_some_iff] at hr
  obtain⟨x,hx,rfl⟩:=hr
  rw[List.getElem?_map,hx]
  have b1:=gl (k:=18) (len:=x.draws.length) (hB i x hx) (by simp[l9]) (R1 _ _ _ _)
  have hlt:=e7 hx
  have f1:∀ c:IC,frz 19 0 objs (.im c)=some c:=fun _=>rfl
  simp only[sg,if_pos hlt,C9,f1,sM,b1,Option.map_some,n3]
 simp only[ox,List.map_cons,List.map_nil,j4]
 rw[dW h1 (by simp) e1,dW h2 (by simp[l9]) (R1 _ _ _ _),dW h3 (by simp) e2,dW h4 (by simp[l9]) (R1 _ _ _ _),dW h5 (by simp[l9]) (R1 _ _ _ _),dW h6 (by simp[l9]) (R1 _ _ _ _)]
 rfl
end Go.Ab
namespace Go.Proofs
open Go Go.Ab Tryz
variable {G:JI}
attribute [simp] r9 cW Q5 li w5 B0 nilV L7 ZK
theorem nP (c:Case) (s:Susp) (w:Int) (h1:0≤s.kind∧s.kind≤255) (hG:p5 G) (hN:D5 G) (hS:v7 G) (hR:w0 G) (hC:K9 G) (hK:bU G) (hk:KC c):zP prog G 45 [n5 c,F0 s,xh w] (bv (decide (kO c s=0)&&decide (kN c s=w))):=by
 refine zf func45 ntmps45 ?_
 try simp only[xh]
 have c1:=Aq (G:=G) c s h1 hG hN hS hR hC hK hk
 generalize kN c s=A at *
 generalize kO c s=B at *
 simp only[n5,j4,F0,j8,rI,List.map_cons,List.map_nil] at c1 ⊢
 have hs:=trivial
 repeat' first|(with_reducible first|refine zz ?_|refine zr ?_|refine zE [0,1,2,3,4,6,7,8] ?_)|simp -dsimp[hs]|refine zp c1 ?_|with_reducible refine j0 ?_ ?_<;>intro h<;>have h0:=h<;>(try simp only[i7] at h)<;>have h2:=h<;>(try simp at h2)<;>replace hs:=za h0 (za h (za h2 hs))
 all_goals simp
theorem Cr (m:AP) (c:Case) (lo hi:Int):(ox 9 m c).map (fz 0 (xe 0 m c lo hi))=(j4 c).map .im:=by
 refine EZ (s:=9) (m:=m) (c:=c) ?_ ?_ ?_ ?_ ?_ ?_ ?_ ?_
 ·simp[xe,qf]
 ·simp[xe,qf]
 ·simp[xe,qf]
 ·simp[xe,qf]
 ·simp[xe,qf]
 ·simp[xe,qf]
 ·intro k x hx
  have hlt:=e7 hx
  have a1:=zj hlt
  have a3:=zi hlt
  simp[xe,qf,a1,a3,jn,hx]
 ·intro k x hx
  have hlt:=e7 hx
  have a1:=zm hlt
  simp[xe,qf,a1,kY,hx]
theorem Ap (c:Case) (n lo hi:Int) (hG:p5 G) (hN:D5 G) (hS:v7 G) (hR:w0 G) (hk:KC c) (objs:List DObj):DCall prog G 41 [n5 c,iv n,C6 lo hi] objs (fun d objs'=>d=.tup [n5 (ED c n lo hi),iv (oL c n lo hi)]∧objs'=objs):=by
 by_cases h:oL c n lo hi=0
 ·obtain⟨he,k,x,rfl,hx0,hin⟩:=BN h
  rw[BM h hx0,h]
  refine DCall.frame ?_ (by simp) (by simp) objs
  refine(An (G:=G) c k x lo hi hx0 he hin hG hN hS hR hk).mono ?_
  rintro d o ⟨m,_,rfl,rfl⟩
  have:=Cr m (BQ c k x lo hi) lo hi
  simp only[fh,fzVL,this]
  rfl
 ·rw[EC h]
  exact Ao (G:=G) c n lo hi h hG hN hS hR hk objs
theorem wp:nm boltP:=by
 refine⟨?_,?_⟩
 ·exact⟨by decide,by decide⟩
 ·intro x hx
  simp only[boltP,List.mem_cons,List.not_mem_nil,or_false] at hx
  rcases hx with rfl|rfl|rfl|rfl<;>exact⟨by decide,by decide⟩
theorem sU:dM boltC=true:=by decide +kernel
theorem sV:s9 boltP.n=0:=by decide +kernel
theorem wo:nums boltP.n.reg=[1,2,3]:=by decide +kernel
theorem qr:PrintsOk boltP:=by
 refine⟨by decide,by decide,fun i x hx=>?_,fun i x hx=>?_⟩
 ·rw[wo]
  have h:=List.getElem?_eq_some_iff.1 hx
  obtain⟨h1,h2⟩:=h
  have h1':i<2:=h1
  rcases i with _|_|i
  ·cases hx
   refine⟨by unfold HR;simp,fun k d hd=>?_⟩
   rcases k with _|_|k
   ·cases hd;exact⟨by decide,by simp⟩
   ·cases hd;exact⟨by decide,fun _ e he=>by cases he;decide⟩
   ·exact absurd hd (by simp)
  ·cases hx
   refine⟨?_,fun k d hd=>?_⟩
   ·refine⟨by decide,fun _ y hy=>?_,by decide,by decide,by decide,by decide⟩
    cases hy;decide
   ·rcases k with _|k
    ·cases hd;exact⟨by decide,by simp⟩
    ·exact absurd hd (by simp)
  ·omega
 ·obtain⟨h1,h2⟩:=List.getElem?_eq_some_iff.1 hx
  have h1':i<4:=h1
  rcases i with _|_|_|_|i
  ·cases hx;exact⟨by simp,fun c hc=>by rcases c with _|_|_|_|_|c<;>first|decide +kernel|omega⟩
  ·cases hx;exact⟨fun _ y hy=>by cases hy;decide,fun c hc=>by rcases c with _|_|_|_|_|c<;>first|decide +kernel|omega⟩
  ·cases hx;exact⟨fun _ y hy=>by cases hy;decide,fun c hc=>by rcases c with _|_|_|_|_|c<;>first|decide +kernel|omega⟩
  ·cases hx;exact⟨fun _ y hy=>by cases hy;decide,fun c hc=>by rcases c with _|_|_|_|_|c<;>first|decide +kernel|omega⟩
  ·omega
theorem gM:r7 boltP=0:=by
 unfold r7
 rw[if_neg (by rw[sV];decide),if_pos (da qr)]
theorem T8:r5 boltC=0:=by
 unfold r5
 rw[if_neg (by rw[show boltC.p=boltP from rfl,gM];decide),if_pos (by decide +kernel)]
theorem bolt_k:tj boltC∧KC boltC:=DG wp sU
theorem qq:J5 boltC=(15,17):=by
 unfold J5;rw[if_pos T8];decide +kernel
theorem ng:N6 boltC=0:=by
 unfold N6;rw[if_pos T8,qq];decide +kernel
theorem L3:I1 boltC=0:=by
 unfold I1;rw[if_neg (by rw[T8];decide),if_neg (by rw[ng];decide)]
theorem lu (d i w:Int) (hd:wh d 1=true) (h:(boltP.holders.any fun y=>decide (y.id=i))=true∧w∈nums boltP.n.reg):S4 boltP d 1 i w=0:=by
 unfold S4 J2
 rw[if_neg,if_pos h]
 rw[if_neg (by rw[gM];decide),if_pos hd];decide
theorem tY {l r:List Int} (hp:l.Perm r) (hs:r.Pairwise (·≤·)):l6 l=r:=
 List.Perm.eq_of_pairwise (fun a b _ _ h1 h2=>by omega) (nU l) hs (((List.mergeSort_perm l _)).trans hp)
theorem lq:P4 boltC 0=[1,2]:=by
 show O4 boltP 20 2 2=_
 unfold O4
 rw[if_pos (lu 20 2 2 (by decide) (by decide +kernel))]
 unfold aH
 have e:l6 (Z4 20 2 2 boltP.prints++[aX 20 2 2 boltP.prints])=[1,2]:=tY (by decide +kernel) (by decide +kernel)
 rw[e];decide +kernel
theorem ln:P4 boltC 1=[1]:=by
 show O4 boltP 20 1 3=_
 unfold O4
 rw[if_pos (lu 20 1 3 (by decide) (by decide +kernel))]
 unfold aH
 have e:l6 (Z4 20 1 3 boltP.prints++[aX 20 1 3 boltP.prints])=[1]:=tY (by decide +kernel) (by decide +kernel)
 rw[e];decide +kernel
theorem nf:l6 (l7 boltP.n.notes)=[]:=by decide +kernel
theorem CP:BG boltC []=false:=by decide +kernel
theorem CR:kZ boltC [] 0=[(true,false),(false,true)]:=by
 show (P4 boltC 0).foldl (I5 boltC ⟨2,0,false⟩ ⟨2,20,106,107⟩ (nG boltC [] 2)) []=_
 rw[lq];decide +kernel
theorem CQ:kZ boltC [] 1=[(false,false)]:=by
 show (P4 boltC 1).foldl (I5 boltC ⟨3,0,true⟩ ⟨1,20,90,91⟩ (nG boltC [] 3)) []=_
 rw[ln];decide +kernel
def gN:Desk:=⟨boltC,false,[[(true,false),(false,true)],[(false,false)]]⟩
theorem nh:K7 boltC []=gN:=by
 unfold K7 gN
 rw[CP,show (List.range boltC.pieces.length).map (kZ boltC [])=[kZ boltC [] 0,kZ boltC [] 1] from rfl,CR,CQ]
theorem aq:p7 boltC=[gN]:=by
 unfold p7
 rw[show boltC.p=boltP from rfl,nf,show nv ([]:List Int)=[[]] by decide +kernel]
 simp[nh]
theorem bolt_sus:jZ boltC 2=[]∧jZ boltC 1=[⟨2,0⟩,⟨3,0⟩]:=by
 unfold jZ Gc Dv
 rw[if_pos L3,if_pos L3,aq]
 decide +kernel
theorem Ae:qx boltC=[⟨2,0⟩,⟨3,0⟩]:=by
 unfold qx Aw
 rw[if_pos L3,aq]
 decide +kernel
theorem Ac:ss boltC=[⟨2,0⟩]:=by
 unfold ss
 rw[if_pos L3,aq]
 decide +kernel
theorem Ad:oy boltC=(1,1):=by
 unfold oy
 rw[if_pos L3,aq]
 decide +kernel
theorem dF (k:Nat) (h:k<2):Y1 boltC k=0∧jm boltC k=P4 boltC k:=by
 have e:Y1 boltC k=0:=by
  unfold Y1
  rw[if_neg (by rw[T8];decide),if_pos ⟨by omega,by show (k:Int)<((2:Nat):Int);omega⟩]
 exact⟨e,by unfold jm;rw[if_pos e];rfl⟩
theorem bolt_clr:lY boltC 1=0∧oA boltC 1=(90,91):=by
 have e0:=(dF 1 (by decide)).1
 have e:lk boltC 1=(90,91):=by
  show (jm boltC ((1:Nat):Int)).foldl (J1 boltC ⟨3,0,true⟩) (90,91)=_
  rw[(dF 1 (by decide)).2,ln];decide +kernel
 have e1:lY boltC 1=0:=by
  unfold lY
  rw[if_neg (by rw[show (1:Int)=((1:Nat):Int) from rfl,e0];decide),e];decide
 exact⟨e1,by unfold oA;rw[if_pos e1,e]⟩
theorem T7 (s:Susp) (h:qP 2 s=true):kO boltC s=0∧kN boltC s=M8 [gN] s:=by
 have e:kO boltC s=0:=by
  unfold kO
  rw[if_neg (by rw[L3];decide),if_pos (show qP boltC.pieces.length s=true from h)]
 exact⟨e,by unfold kN;rw[if_pos e,aq]⟩
theorem qt (s:Susp) (h:qP 2 s=true):nJ boltC [] s=0∧kD boltC [] s=M8 [gN] s:=by
 have e:nJ boltC [] s=0:=by
  unfold nJ
  rw[if_neg (by rw[L3];decide),if_neg (by rw[show boltC.p=boltP from rfl,nf];decide),if_pos (show qP boltC.pieces.length s=true from h)]
 exact⟨e,by unfold kD;rw[if_pos e,nh]⟩
def DD:Case:={ boltC with pieces:=[⟨2,20,107,107⟩,⟨1,20,90,91⟩] }
theorem bolt_ms:oL boltC 0 107 107=0∧ED boltC 0 107 107=DD:=by
 have e0:=(dF 0 (by decide)).1
 have e1:oL boltC 0 107 107=0:=by
  unfold oL
  rw[if_neg (by rw[show (0:Int)=((0:Nat):Int) from rfl,e0];decide)];rfl
 exact⟨e1,by unfold ED;rw[if_pos e1];rfl⟩
set_option maxRecDepth 10000 in
theorem CW (hG:p5 G) (hN:D5 G) (hS:v7 G) (hU:U7 G) (hR:w0 G) (hC:K9 G) (hK:bU G) (hF:jp G):zP prog G 32 [] (bv true):=by
 refine zf func32 ntmps32 ?_
 try simp only[iv]
 have hk:=bolt_k.2
 have c0:=Fw (G:=G)
 have c1:=ta (G:=G) boltC hG hN hS hR hk
 have c2:=jL (G:=G) boltC hG hN hS hR hk
 have c3:=lA (G:=G) boltC 0 hG hN hS hR hk
 have c4:=jd (G:=G) boltC hG hN hS hU hR hC hK hk
 have c5:=qw (G:=G) boltC hG hN hS hU hR hC hF hk
 have c6:=wt (G:=G) boltC hG hN hS hU hR hC hF hk
 have c7:=qv (G:=G) boltC hG hN hS hU hR hC hF hk
 have c8:=Ar (G:=G) boltC 1 hG hN hS hR hk
 have c9:=Ap (G:=G) boltC 0 107 107 hG hN hS hR hk
 have c10:=Fz (G:=G) boltC [] ⟨2,0⟩ (by decide) (by decide) hG hN hS hR hC hK hk
 rw[qq,T8] at c1
 rw[ng,T8] at c2
 rw[show (0:Int)=((0:Nat):Int) from rfl,(dF 0 (by decide)).1,(dF 0 (by decide)).2,lq] at c3
 rw[bolt_sus.1,bolt_sus.2,L3] at c4
 rw[Ae,L3] at c5
 rw[Ac,L3] at c6
 rw[Ad,L3] at c7
 rw[bolt_clr.1,bolt_clr.2] at c8
 rw[bolt_ms.1,bolt_ms.2] at c9
 rw[(qt ⟨2,0⟩ (by decide)).1,(qt ⟨2,0⟩ (by decide)).2,show M8 [gN] ⟨2,0⟩=1 by decide] at c10
 have d1:=nP (G:=G) boltC ⟨1,0⟩ 0 (by decide) hG hN hS hR hC hK hk
 have d2:=nP (G:=G) boltC ⟨3,0⟩ 1 (by decide) hG hN hS hR hC hK hk
 have d3:=nP (G:=G) boltC ⟨2,1⟩ 0 (by decide) hG hN hS hR hC hK hk
 rw[(T7 ⟨1,0⟩ (by decide)).1,(T7 ⟨1,0⟩ (by decide)).2,show M8 [gN] ⟨1,0⟩=0 by decide] at d1
 rw[(T7 ⟨3,0⟩ (by decide)).1,(T7 ⟨3,0⟩ (by decide)).2,show M8 [gN] ⟨3,0⟩=1 by decide] at d2
 rw[(T7 ⟨2,1⟩ (by decide)).1,(T7 ⟨2,1⟩ (by decide)).2,show M8 [gN] ⟨2,1⟩=0 by decide] at d3
 simp only[decide_true,Bool.and_self] at d1 d2 d3
 have s0:=DL (G:=G)
 have s1:=xm (G:=G) 0
 have s2:=xm (G:=G) 1
 have s3:=DM (G:=G) 0
 have p1:=cO (G:=G) 15 17
 have p2:=cO (G:=G) 90 91
 have p3:=cO (G:=G) 107 107
 have p4:=cO (G:=G) 1 1
 have q1:=rl (G:=G) [1,2] [1,2] (by simp)
 simp only[decide_true] at q1
 have q2:=mo (G:=G) [⟨2,0⟩,⟨3,0⟩] (by simp)
 have q3:=mo (G:=G) [⟨2,0⟩] (by simp)
 simp only[n5,F0,j8,C0,C6,xh,s8,Ab.encI,rI,List.map_cons,List.map_nil,Int.natCast_zero] at *
 obtain⟨m1,m2,m3,m4,m5,m6,m7,m8,m9,hM⟩:∃ m1 m2 m3 m4 m5 m6 m7 m8 m9,(j4 DD).map DC.im=[.im m1,.im m2,.im m3,.im m4,.im m5,.im m6,.im m7,.im m8,.im m9,.im (.sl ([⟨2,20,107,107⟩,⟨1,20,90,91⟩].map A1))]:=⟨_,_,_,_,_,_,_,_,_,rfl⟩
 rw[hM] at c9
 obtain⟨X,hX⟩:∃ X,j4 boltC=X:=⟨_,rfl⟩
 have hXf:∃ a b c d e f g h i j,X=[a,b,c,d,e,f,g,h,i,j]:=⟨_,_,_,_,_,_,_,_,_,_,hX.symm⟩
 obtain⟨x1,x2,x3,x4,x5,x6,x7,x8,x9,x10,rfl⟩:=hXf
 rw[hX] at c0 c1 c2 c3 c4 c5 c6 c7 c8 c9 c10 d1 d2 d3
 simp only[A1,rI,List.map_cons,List.map_nil] at *
 repeat' first|(with_reducible first|refine zz ?_|refine zx ?_)|simp -dsimp|refine zp c0 ?_|refine zp c1 ?_|refine zp c2 ?_|refine zp c3 ?_|refine zp c4 ?_|refine zp c5 ?_|refine zp c6 ?_|refine zp c7 ?_|refine zp c8 ?_|refine zp c9 ?_|refine zp c10 ?_|refine zp s1 ?_|refine zp s3 ?_|refine zp p3 ?_|refine zq q1 ?_|refine zq d1 ?_|refine zq d2 ?_|refine zq d3 ?_|refine zq p1 ?_|refine zq p2 ?_|refine zq p3 ?_|refine zq p4 ?_|refine zq s0 ?_|refine zq s2 ?_|refine zq s3 ?_|refine zq c0 ?_|refine QCall.thaw (q2) ?_ ?_ ?_;(focus simp;done);(focus simp;done)|refine QCall.thaw (q3) ?_ ?_ ?_;(focus simp;done);(focus simp;done)|refine zM 12 198 70 [0,1,2,3,4,5,6,7,8,9,10,11,12,13,14,15,16,17,18,19,20,21,22,148] ?_|refine zM 14 198 50 [0,1,2,3,4,5,6,7,8,9,10,11,12,13,14,15,16,17,18,19,20,21,22,148] ?_|with_reducible refine zE [0,1,2,3,4,5,6,7,8,9,10,11,12,13,14,15,16,17,18,19,20,21,22,148] ?_|refine i9 ?_ ?_<;>intro h<;>try simp only[i7] at h
end Go.Proofs
namespace Go.Proofs
open Go Go.Ab
def HY (b:Bool) (f:Nat→N0) (n:Nat):List Susp:=gf b (fun i=>(f i).1) (fun i=>(f i).2) n
def Ju (d:Desk) (f:Nat→N0):Prop:=∀ i,i<d.faults.length→f i∈d.faults.getD i []
structure DkG (n:Nat) (D:List Desk):Prop where
 ne:D≠[]
 len:∀ d∈D,d.faults.length=n
 f:∀ d∈D,∀ x∈d.faults,x≠[]
 cause:∀ d∈D,∀ g,Ju d g→HY d.notes g n≠[]
variable {n:Nat} {D:List Desk}
end Go.Proofs
namespace Go.Proofs
open Go Go.Ab
variable {n:Nat} {D D':List Desk}
end Go.Proofs
namespace Go.Proofs
open Go Go.Ab
variable {G:JI}
attribute [simp] r9 cW Q5 li w5 B0 nilV L7 ZK
structure CauseOk (n:Nat) (lo hi:Int) (l a su op:List Susp):Prop where
 b1:1≤lo
 b2:lo≤hi
 b3:hi≤1+2*n
 b4:(l.length:Int)=lo
 b5:a≠[]↔lo=1
 b6:∀ s r,a=s :: r→∃ r',l=s :: r'
 b7:(su.length:Int)≤lo
 b8:hi≤(su.length:Int)+op.length
 lm:∀ s∈l,qP n s=true∧(s∈su∨s∈op)
 am:∀ s∈a,qP n s=true∧(s∈su∨s∈op)
 ls:l.Pairwise ci
 aS':a.Pairwise ci
 sm:∀ s∈su,s∈l∧(a=[]∨a=[s])
structure Hid (P:Prop):Prop where
 out:P
open Go Go.Ab Tryz
attribute [simp] r9 cW Q5 li w5 B0 nilV L7 ZK
def pN (c:Case) (a b:Int):Case:={ c with loop:={ c.loop with lo:=a,hi:=b } }
theorem yV {c:Case} {a b:Int} (he:r5 c=0) (h:-8000000000≤a∧a≤b∧b≤8000000000):r5 (pN c a b)=0:=by
 obtain⟨hp,hcb⟩:=C3 he
 unfold r5
 rw[if_neg (by show ¬ r7 c.p≠0;simp[hp]),if_pos]
 unfold W3 at hcb ⊢
 simp only[Bool.and_eq_true] at hcb ⊢
 obtain⟨b1,b2,b3,b4,_,b6⟩:=hcb
 refine⟨b1,b2,b3,b4,?_,b6⟩
 show Q3 a b _ _=true
 simp only[Q3,decide_eq_true_eq];omega
theorem Au {c:Case} (he:r5 c=0):I1 c=if N6 c=0 then 0 else 101:=by
 unfold I1
 rw[if_neg (by simp[he])]
 by_cases h:N6 c=0<;>simp[h]
theorem CB {c:Case} (he:r5 c=0):decide (N6 c=0)=FA c:=by
 unfold N6 J5 pP FA
 rw[if_pos he,if_pos he]
 generalize J4 (c.loop.links.zip c.pieces)=S
 by_cases h:S.2<c.loop.lo∨S.1 > c.loop.hi
 ·rw[if_pos h]
  have:(decide (S.2<c.loop.lo)||decide (c.loop.hi<S.1))=true:=by simp;omega
  rw[this];simp
 ·rw[if_neg h]
  have:(decide (S.2<c.loop.lo)||decide (c.loop.hi<S.1))=false:=by simp;omega
  rw[this]
  split<;>simp
theorem yU {c:Case} (he:r5 c=0) {a b:Int} (ha:a=min (J5 c).1 c.loop.lo) (hb:b=max (J5 c).2 c.loop.hi):(-8000000000≤a∧b≤8000000000)∧r5 (pN c a b)=0∧N6 (pN c a b)=2∧I1 (pN c a b)=101:=by
 have hok:=L0 (C3 he).2
 have hS:J5 c=J4 (c.loop.links.zip c.pieces):=by unfold J5;rw[if_pos he]
 have hle:=(bH hok.p).1
 have hbd:=ka hok (Nat.le_refl c.pieces.length)
 have hlen:=hok.e
 have htk:(c.loop.links.zip c.pieces).take c.pieces.length=c.loop.links.zip c.pieces:=List.take_of_length_le (by rw[List.length_zip];omega)
 rw[htk] at hbd
 have hg:=(C3 he).2
 unfold W3 at hg
 simp only[Bool.and_eq_true,Q3,decide_eq_true_eq] at hg
 obtain⟨_,_,_,_,hg,_⟩:=hg
 rw[hS] at ha hb
 have hin:-8000000000≤a∧a≤b∧b≤8000000000:=by omega
 have h1:=yV (c:=c) he hin
 have h2:N6 (pN c a b)=2:=by
  unfold N6 J5 pP
  rw[if_pos h1,if_pos h1]
  show (if (J4 (c.loop.links.zip c.pieces)).2<a∨(J4 (c.loop.links.zip c.pieces)).1 > b then 0 else if a≤(J4 (c.loop.links.zip c.pieces)).1∧(J4 (c.loop.links.zip c.pieces)).2≤b then 2 else 1)=2
  rw[if_neg (by omega),if_pos (by omega)]
 refine⟨⟨hin.1,hin.2.2⟩,h1,h2,?_⟩
 rw[Au h1,h2];decide
set_option maxRecDepth 10000 in
theorem qu (c:Case) (hG:p5 G) (hN:D5 G) (hS:v7 G) (hU:U7 G) (hR:w0 G) (hC:K9 G) (hK:bU G) (hF:jp G) (hp:nm c.p):zP prog G 11 [n5 c] (bv true):=by
 refine zf func11 ntmps11 ?_
 try simp only[iv]
 have a1:=CW (G:=G) hG hN hS hU hR hC hK hF
 have c1:=vK (G:=G) c
 cases hq:dM c
 ·rw[hq] at c1
  simp only[n5,j4,rI,List.map_cons,List.map_nil] at c1 ⊢
  have hs:=trivial
  repeat' first|(with_reducible first|refine zz ?_|refine zr ?_|refine zE [0,1,2,3,4,5,6,7,10,12,13,14,15,17,29,83,114] ?_)|simp -dsimp[hs]|refine zp a1 ?_|refine zp c1 ?_|refine i9 ?_ ?_<;>intro h<;>try simp only[i7] at h
  all_goals try clear hs
 ·obtain⟨hsk,hk⟩:=DG hp hq
  rw[hq] at c1
  have c2:=uQ (G:=G) c hk
  by_cases he:r5 c=0
  ·rw[he] at c2
   have c3:=ta (G:=G) c hG hN hS hR hk
   have c4:=jL (G:=G) c hG hN hS hR hk
   have c5:=jd (G:=G) c hG hN hS hU hR hC hK hk
   have c6:=qv (G:=G) c hG hN hS hU hR hC hF hk
   have c7:=CU (G:=G) c he
   have c8:=xi (G:=G) c hsk
   have hap:=CB he
   have hak:=Au he
   have hle:(J5 c).1≤(J5 c).2:=by
    have:J5 c=J4 (c.loop.links.zip c.pieces):=by unfold J5;rw[if_pos he]
    rw[this];exact(bH (L0 (C3 he).2).p).1
   obtain⟨⟨g1,g2⟩,g3,g4,g5⟩:=yU he rfl rfl
   have hkx:KC (pN c (min (J5 c).1 c.loop.lo) (max (J5 c).2 c.loop.hi)):=⟨hk.p,hk.l,hk.q⟩
   have c9:=jL (G:=G) _ hG hN hS hR hkx
   have c10:=qw (G:=G) _ hG hN hS hU hR hC hF hkx
   have s1:=cO (G:=G) (min (J5 c).1 c.loop.lo) (max (J5 c).2 c.loop.hi)
   rw[g3,g4] at c9
   rw[g5] at c10
   rw[he] at c3 c4
   generalize qx (pN c (min (J5 c).1 c.loop.lo) (max (J5 c).2 c.loop.hi))=al at *
   generalize jZ c 2=su at *
   generalize jZ c 1=op at *
   generalize oy c=N at *
   generalize J5 c=S at *
   have f1:¬ S.2<S.1:=by omega
   have f2:¬ min S.1 c.loop.lo < -8000000000:=by omega
   have f3:¬ (8000000000:Int)<max S.2 c.loop.hi:=by omega
   simp only[pN,n5,j4,C0,C6,rI,List.map_cons,List.map_nil] at c1 c2 c3 c4 c5 c6 c7 c8 c9 c10 s1 ⊢
   have hs:True:=trivial
   have hcs:(N6 c=0∧FA c=true∧I1 c=0)∨(¬ N6 c=0∧FA c=false∧I1 c=101):=by
    by_cases h:N6 c=0
    ·exact .inl ⟨h,by rw[← hap];simp[h],by rw[hak,if_pos h]⟩
    ·exact .inr ⟨h,by rw[← hap];simp[h],by rw[hak,if_neg h]⟩
   clear hap hak
   generalize N6 c=F at *
   generalize I1 c=A at *
   generalize FA c=B at *
   rcases hcs with⟨k1,k2,k3⟩|⟨k1,k2,k3⟩
   all_goals
    rw[k2] at c7
    rw[k3] at c5 c6
    have hs:=za f1 (za f2 (za f3 k1))
    repeat' first|(with_reducible first|refine zz ?_|refine zr ?_|refine zE [0,1,2,3,4,5,6,7,10,12,13,14,15,17,29,83,114] ?_)|simp -dsimp[hs]|refine zp a1 ?_|refine zp c1 ?_|refine zp c2 ?_|refine zp c3 ?_|refine zp c4 ?_|refine zp c5 ?_|refine zp c6 ?_|refine zp c7 ?_|refine zp c8 ?_|refine zp c9 ?_|refine zp c10 ?_|refine zp s1 ?_|refine i9 ?_ ?_<;>intro h<;>try simp only[i7] at h
    all_goals try clear hs
  ·simp only[n5,j4,rI,List.map_cons,List.map_nil] at c1 c2 ⊢
   have hs:=he
   repeat' first|(with_reducible first|refine zz ?_|refine zr ?_|refine zE [0,1,2,3,4,5,6,7,10,12,13,14,15,17,29,83,114] ?_)|simp -dsimp[hs]|refine zp a1 ?_|refine zp c1 ?_|refine zp c2 ?_|refine i9 ?_ ?_<;>intro h<;>try simp only[i7] at h
   all_goals try clear hs
end Go.Proofs
namespace Go.Ab
open Go Go.Sort
theorem RelM.grownS {G:JI} {M:MS} {w':World} {os:Array Obj} (h:RelM G M) (hw:w'.heap=M.w.heap++os) (hio:SameIo M.w w'):RelM G { M with w:=w' }∧Ext M.objs.length M { M with w:=w' }:=by
 have hold:∀ {b:Nat},b<M.w.heap.size→w'.heap[b]?=M.w.heap[b]?:=fun {b} hb=>by rw[hw];simp[Array.getElem?_append,hb]
 have hsz:M.w.heap.size≤w'.heap.size:=by rw[hw];simp
 have he:Ext M.objs.length M { M with w:=w' }:=
  ⟨Nat.le_refl _,fun b hb=>⟨⟨Nat.lt_of_lt_of_le hb.1 hsz,hb.2⟩,hold hb.1⟩,cE M,hsz,fun p _ c' hc=>⟨⟨c',hc⟩,rfl⟩,
   fun p _ sz es g nl hv=>⟨sz,es,g,nl,hv,Nat.le_refl _,fun _=>⟨rfl,rfl,fun hn=>⟨rfl,by simp only[G7];rw[hold (h.lt p _ hv (by simp[DObj.blk,hn]))]⟩⟩⟩,fun p _ ks es hm=>⟨⟨ks,es,hm⟩,rfl⟩,
   fun p _ r hm=>⟨⟨r,hm⟩,rfl⟩,fun p _ d hm hi=>⟨⟨d,hm,hi⟩,rfl⟩,fun p _ r hm=>⟨⟨r,hm⟩,rfl⟩,hio⟩
 exact⟨⟨fun o d ho=>(h.objs o d ho).ext he (fun _=>rfl) (fun hb=>hold (h.lt o d ho hb)),fun o d ho hb=>Nat.lt_of_lt_of_le (h.lt o d ho hb) hsz,h.inj,fun g l hg=>(h.glob g l hg).mono he.ok,fun b hF=>Nat.lt_of_lt_of_le (h.fl b hF) hsz,h.own⟩,he⟩
theorem nE {l:List Int} {c:Array Value} {i:Nat} (hi:i<l.length) (hc:i<c.size):(putCells (Value.int .i64) 0 l.toArray c)[i]?=some (.int .i64 l[i]):=by
 simp only[putCells,Array.getElem?_mapIdx,Array.getElem?_eq_getElem hc,Option.map_some]
 rw[if_pos ⟨Nat.zero_le _,by simpa using hi⟩]
 simp[hi]
theorem DCall.sort {P:Program} {G:JI} {f:FuncId}
 (hS:∀ (blk cap:Nat) (zs:List Int) (w:World),Holds (Value.int .i64) w blk 0 zs.toArray→blk<w.heap.size→zs.length<4611686018427387904 →
  Calls P f #[.slice (some ⟨blk,0,none⟩) zs.length cap] w fun e w'=>e=.returned (.tuple #[])∧∃ n os,w'=grow (putRow (Value.int .i64) (Sort.ahead w n) blk 0 (zs.mergeSort fun x y=>decide (x≤y)).toArray) os)
 (h0:∀ (a:Option Addr) (cap:Nat) (w:World),Calls P f #[.slice a 0 cap] w fun e w'=>e=.returned (.tuple #[])∧w'=w)
 (l:List Int) (g sz:Nat) (nl:Bool) (hz:sz=1∨nl=true∧l=[]) (hl:l.length<1000000) :
 DCall P G f [.one (.vec 0 g 0 l.length)] [.vec sz (l9 (l.map Ab.encI)) g nl] (fun d o=>d=.tup []∧o=[.vec sz (l9 ((l6 l).map Ab.encI)) g nl]):=by
 intro M vs hM ho hsz hr
 obtain⟨v,rfl⟩:∃ v,vs=#[v]:=by
  obtain⟨vl⟩:=vs
  match vl,hsz with
  | [v],_=>exact⟨v,rfl⟩
 have hv:=hr 0 _ v rfl rfl
 have h1:M.objs[0]?=some (.vec sz (l9 (l.map Ab.encI)) g nl):=by rw[ho];rfl
 have hO:=hM.objs 0 _ h1
 cases hv with
 | one _ _ hv =>
 cases hv with
 | vec _ _ _ _ _ _ _ hv =>
 obtain⟨_,hv⟩:=hv _ _ _ _ h1
 obtain⟨hvt,hvf⟩:=hv rfl
 have hnil:∀ (a:Option Addr) (cap:Nat),l=[]→Calls P f #[.slice a 0 cap] M.w fun e w'=>∃ v d M',e=.returned v∧M'.w=w'∧RelM G M'∧RepV M' d v∧Ext 1 M M'∧d=.tup []∧M'.objs=[.vec sz (l9 ((l6 l).map Ab.encI)) g nl]:=fun a cap hle=>by
  refine(h0 a cap M.w).mono fun e w' ⟨he,hw⟩=>?_
  subst hw
  refine⟨_,.tup [],M,he,rfl,hM,.tup _ _ rfl (fun j d v h=>by simp at h),(Ext.refl M).weaken (by simp[ho]),rfl,?_⟩
  rw[ho,hle,show l6 []=[] from List.mergeSort_nil]
 cases nl with
 | true =>
   obtain⟨_,e,hv⟩:=hvt rfl
   have e:l=[]:=List.eq_nil_of_length_eq_zero e
   have:=hnil none 0 e
   rw[hv];simpa using this
 | false =>
   obtain rfl:sz=1:=hz.resolve_right fun h=>Bool.noConfusion h.1
   obtain⟨x,cap,hv,hc,hx,hb⟩:=hvf rfl
   by_cases e:l=[]
   ·have:=hnil (some ⟨M.β 0,x,none⟩) cap e
    rw[hv];subst e;simpa using this
   have hlp:0<l.length:=List.length_pos_iff.2 e
   have hx0:x=0:=by rcases hx with hx|hx<;>omega
   subst hx0
   obtain⟨_,hO⟩:=hO
   obtain⟨_,c,T,hh,hcs,hes,hrep⟩:=hO rfl
   have hcl:l.length≤c.size:=by simpa[o5] using hcs
   have hcell:∀ j (hj:j<l.length),c[j]?=some (.int .i64 l[j]):=fun j hj=>by
    have hjc:j<c.size:=by omega
    have:=hrep j [DC.im (.raw (.int .i64 l[j]))] 0 (.im (.raw (.int .i64 l[j]))) c[j] (by simp[l9,hj]) rfl (by simp[hjc])
    have hcj:c[j]?=some c[j]:=by simp[hjc]
    generalize c[j]=y at this hcj
    cases this with
    | im _ _ hi =>
      cases hi
      exact hcj
   have hH:Holds (Value.int .i64) M.w (M.β 0) 0 l.toArray:=fun j hj=>by
    have hj:j<l.length:=by simpa using hj
    refine⟨?_,?_⟩
    ·simp only[World.cell?,hh]
     simp[hcell j hj,hj]
    ·simp[World.frozen?,hh]
   have hlt:M.β 0<M.w.heap.size:=hM.lt 0 _ h1 rfl
   rw[hv]
   refine(hS (M.β 0) cap l M.w hH hlt (by omega)).mono fun e' w' ⟨he,n,os,hw⟩=>?_
   have hmod:M.w.heap.modify (M.β 0) (onCells (putCells (Value.int .i64) 0 (l6 l).toArray))=M.w.heap.setIfInBounds (M.β 0) (.cells (putCells (Value.int .i64) 0 (l6 l).toArray c) T (0,0)):=by
    apply Array.ext_getElem?
    intro k
    simp only[Array.getElem?_modify,Array.getElem?_setIfInBounds]
    by_cases hk:M.β 0=k
    ·subst hk;rw[if_pos rfl,if_pos rfl,if_pos hlt,hh];rfl
    ·simp[hk]
   have ha:(DObj.vec 1 (l9 (l.map Ab.encI)) g false).alike (.vec 1 (l9 ((l6 l).map Ab.encI)) g false):=⟨rfl,.inl ⟨rfl,rfl⟩⟩
   have hs:K1 (.cells (putCells (Value.int .i64) 0 (l6 l).toArray c) T (0,0))=K1 (.cells c T (0,0)):=by simp[K1,putCells]
   have hE:=Ext.turn (d':=.vec 1 (l9 ((l6 l).map Ab.encI)) g false) h1 rfl ha hh hs
   have hR:=RelM.turn (d':=.vec 1 (l9 ((l6 l).map Ab.encI)) g false) hM h1 rfl ha hh hs (by
    refine⟨fun h=>Bool.noConfusion h,fun _=>⟨by omega,putCells (Value.int .i64) 0 (l6 l).toArray c,T,by simp[MS.turn,Array.getElem?_setIfInBounds_self_of_lt hlt],by simpa[o5,L8,putCells] using hcl,fun i x hx=>?_,fun i x j d v hx hj hv=>?_⟩⟩
    ·simp only[l9,List.getElem?_map,Option.map_map] at hx
     obtain⟨y,_,rfl⟩:=Option.map_eq_some_iff.1 hx
     rfl
    ·simp only[l9,List.getElem?_map,Option.map_map] at hx
     obtain⟨y,hy,rfl⟩:=Option.map_eq_some_iff.1 hx
     have hil:i<(l6 l).length:=e7 hy
     match j,hj with
     | 0,hj =>
       cases hj
       have hic:i<c.size:=by rw[L8] at hil;omega
       rw[Nat.mul_one,Nat.add_zero,nE hil hic] at hv
       have e:(l6 l)[i]'hil=y:=(List.getElem?_eq_some_iff.1 hy).2
       cases hv
       rw[e]
       exact .im _ _ (.raw _ rfl))
   have hg:=RelM.grownS (w':=w') (os:=os) hR (by rw[hw];simp only[grow,putRow,mapBlock,Sort.ahead,MS.turn];rw[show (l.mergeSort fun x y=>decide (x≤y))=l6 l from rfl,hmod]) (by rw[hw];exact⟨rfl,rfl,rfl,Nat.le_add_right _ _⟩)
   refine⟨_,.tup [],_,he,?_,hg.1,.tup _ _ rfl (fun j d v h=>by simp at h),?_,rfl,?_⟩
   ·rfl
   ·have hl1:M.objs.length=1:=by rw[ho];rfl
    have h2:=hg.2
    rw[show (M.turn 0 (.cells (putCells (Value.int .i64) 0 (l6 l).toArray c) T (0,0)) (.vec 1 (l9 ((l6 l).map Ab.encI)) g false)).objs.length=1 by simp[MS.turn,ho]] at h2
    rw[hl1] at hE
    exact hE.trans h2
   ·simp[MS.turn,ho]
end Go.Ab
namespace Go.Proofs
open Go.Shelf
def Tryz.laysSort_ren:Go.Shelf.Ren:=⟨fun|189=>173|125=>201|257=>221|128=>249|129=>250|294=>270|295=>271|296=>272|297=>273|298=>274|299=>275|216=>196|300=>276|301=>277|328=>302|329=>286|330=>287|331=>303|332=>304|215=>239|343=>314|n=>n,fun|28=>40|3=>3|46=>287|0=>0|51=>157|53=>335|4=>4|183=>328|182=>327|131=>154|5=>5|9=>9|218=>363|222=>367|228=>390|229=>391|n=>n,fun|n=>n⟩
theorem Tryz.laysSort:Go.Proofs.Lays.n189 Tryz.prog Tryz.laysSort_ren:={
 mixed:=by kernel_rfl
 f125:=Tryz.func201.trans (congrArg some (by kernel_rfl))
 f128:=Tryz.func249.trans (congrArg some (by kernel_rfl))
 f129:=Tryz.func250.trans (congrArg some (by kernel_rfl))
 f189:=Tryz.func173.trans (congrArg some (by kernel_rfl))
 f215:=Tryz.func239.trans (congrArg some (by kernel_rfl))
 f216:=Tryz.func196.trans (congrArg some (by kernel_rfl))
 f257:=Tryz.func221.trans (congrArg some (by kernel_rfl))
 f294:=Tryz.func270.trans (congrArg some (by kernel_rfl))
 f295:=Tryz.func271.trans (congrArg some (by kernel_rfl))
 f296:=Tryz.func272.trans (congrArg some (by kernel_rfl))
 f297:=Tryz.func273.trans (congrArg some (by kernel_rfl))
 f298:=Tryz.func274.trans (congrArg some (by kernel_rfl))
 f299:=Tryz.func275.trans (congrArg some (by kernel_rfl))
 f300:=Tryz.func276.trans (congrArg some (by kernel_rfl))
 f301:=Tryz.func277.trans (congrArg some (by kernel_rfl))
 f328:=Tryz.func302.trans (congrArg some (by kernel_rfl))
 f329:=Tryz.func286.trans (congrArg some (by kernel_rfl))
 f330:=Tryz.func287.trans (congrArg some (by kernel_rfl))
 f331:=Tryz.func303.trans (congrArg some (by kernel_rfl))
 f332:=Tryz.func304.trans (congrArg some (by kernel_rfl))
 f343:=Tryz.func314.trans (congrArg some (by kernel_rfl))
 t0:=Tryz.underlying0
 a0:=Tryz.isAgg0
 z0:=Tryz.sizeOf0
 v0:=Tryz.zeroValue0
 t3:=Tryz.underlying3
 a3:=Tryz.isAgg3
 z3:=Tryz.sizeOf3
 v3:=Tryz.zeroValue3
 t4:=Tryz.underlying4
 a4:=Tryz.isAgg4
 z4:=Tryz.sizeOf4
 v4:=Tryz.zeroValue4
 t5:=Tryz.underlying5
 a5:=Tryz.isAgg5
 z5:=Tryz.sizeOf5
 v5:=Tryz.zeroValue5
 t9:=Tryz.underlying9
 a9:=Tryz.isAgg9
 z9:=Tryz.sizeOf9
 v9:=Tryz.zeroValue9
 t28:=Tryz.underlying40
 a28:=Tryz.isAgg40
 z28:=Tryz.sizeOf40
 v28:=Tryz.zeroValue40
 t46:=Tryz.underlying287
 a46:=Tryz.isAgg287
 z46:=Tryz.sizeOf287
 v46:=Tryz.zeroValue287
 t51:=Tryz.underlying157
 a51:=Tryz.isAgg157
 z51:=Tryz.sizeOf157
 v51:=Tryz.zeroValue157
 t53:=Tryz.underlying335
 a53:=Tryz.isAgg335
 z53:=Tryz.sizeOf335
 v53:=Tryz.zeroValue335
 t131:=Tryz.underlying154
 a131:=Tryz.isAgg154
 z131:=Tryz.sizeOf154
 v131:=Tryz.zeroValue154
 t182:=Tryz.underlying327
 a182:=Tryz.isAgg327
 z182:=Tryz.sizeOf327
 v182:=Tryz.zeroValue327
 t183:=Tryz.underlying328
 a183:=Tryz.isAgg328
 z183:=Tryz.sizeOf328
 v183:=Tryz.zeroValue328
 t218:=Tryz.underlying363
 a218:=Tryz.isAgg363
 z218:=Tryz.sizeOf363
 v218:=Tryz.zeroValue363
 t222:=Tryz.underlying367
 a222:=Tryz.isAgg367
 z222:=Tryz.sizeOf367
 v222:=Tryz.zeroValue367
 t228:=Tryz.underlying390
 a228:=Tryz.isAgg390
 z228:=Tryz.sizeOf390
 v228:=Tryz.zeroValue390
 t229:=Tryz.underlying391
 a229:=Tryz.isAgg391
 z229:=Tryz.sizeOf391
 v229:=Tryz.zeroValue391 }
end Go.Proofs
namespace Go.Proofs
open Go Go.Ab
theorem DQ (G:JI):v7 G:=fun l g sz nl hz hl =>
 DCall.sort (P:=Tryz.prog) (G:=G) (f:=173) (fun blk cap zs w hH hb hs=>Any.slices_Sort_int Tryz.laysSort blk 0 cap zs w hH hb hs) (fun a cap w=>Any.slices_Sort_int_none Tryz.laysSort a cap w) l g sz nl hz hl
end Go.Proofs
namespace Go.Proofs
open Go.Shelf
def Tryz.laysSus_ren:Go.Shelf.Ren:=⟨fun|6=>138|15=>201|14=>200|28=>249|29=>250|20=>241|21=>242|22=>243|23=>244|24=>245|25=>246|26=>247|27=>248|46=>285|47=>286|48=>287|49=>288|50=>289|57=>305|n=>n,fun|22=>52|24=>42|25=>140|3=>3|39=>287|0=>0|53=>157|55=>335|4=>4|46=>328|45=>327|50=>154|5=>5|9=>9|66=>363|70=>367|76=>390|77=>391|n=>n,fun|n=>n⟩
theorem Tryz.laysSus:Go.Proofs.SlLaysF0.n6 Tryz.prog Tryz.laysSus_ren:={
 mixed:=by kernel_rfl
 f6:=⟨Tryz.f138.name,by decide,Tryz.func138.trans (congrArg some (by kernel_rfl))⟩
 f14:=⟨Tryz.f200.name,by decide,Tryz.func200.trans (congrArg some (by kernel_rfl))⟩
 f15:=Tryz.func201.trans (congrArg some (by kernel_rfl))
 f20:=⟨Tryz.f241.name,by decide,Tryz.func241.trans (congrArg some (by kernel_rfl))⟩
 f21:=⟨Tryz.f242.name,by decide,Tryz.func242.trans (congrArg some (by kernel_rfl))⟩
 f22:=⟨Tryz.f243.name,by decide,Tryz.func243.trans (congrArg some (by kernel_rfl))⟩
 f23:=⟨Tryz.f244.name,by decide,Tryz.func244.trans (congrArg some (by kernel_rfl))⟩
 f24:=⟨Tryz.f245.name,by decide,Tryz.func245.trans (congrArg some (by kernel_rfl))⟩
 f25:=⟨Tryz.f246.name,by decide,Tryz.func246.trans (congrArg some (by kernel_rfl))⟩
 f26:=⟨Tryz.f247.name,by decide,Tryz.func247.trans (congrArg some (by kernel_rfl))⟩
 f27:=⟨Tryz.f248.name,by decide,Tryz.func248.trans (congrArg some (by kernel_rfl))⟩
 f28:=Tryz.func249.trans (congrArg some (by kernel_rfl))
 f29:=Tryz.func250.trans (congrArg some (by kernel_rfl))
 f46:=⟨Tryz.f285.name,by decide,Tryz.func285.trans (congrArg some (by kernel_rfl))⟩
 f47:=Tryz.func286.trans (congrArg some (by kernel_rfl))
 f48:=Tryz.func287.trans (congrArg some (by kernel_rfl))
 f49:=⟨Tryz.f288.name,by decide,Tryz.func288.trans (congrArg some (by kernel_rfl))⟩
 f50:=⟨Tryz.f289.name,by decide,Tryz.func289.trans (congrArg some (by kernel_rfl))⟩
 f57:=⟨Tryz.f305.name,by decide,Tryz.func305.trans (congrArg some (by kernel_rfl))⟩
 t0:=Tryz.underlying0
 a0:=Tryz.isAgg0
 z0:=Tryz.sizeOf0
 v0:=Tryz.zeroValue0
 t3:=Tryz.underlying3
 a3:=Tryz.isAgg3
 z3:=Tryz.sizeOf3
 v3:=Tryz.zeroValue3
 t4:=Tryz.underlying4
 a4:=Tryz.isAgg4
 z4:=Tryz.sizeOf4
 v4:=Tryz.zeroValue4
 t5:=Tryz.underlying5
 a5:=Tryz.isAgg5
 z5:=Tryz.sizeOf5
 v5:=Tryz.zeroValue5
 t9:=Tryz.underlying9
 a9:=Tryz.isAgg9
 z9:=Tryz.sizeOf9
 v9:=Tryz.zeroValue9
 t22:=Tryz.underlying52
 a22:=Tryz.isAgg52
 z22:=Tryz.sizeOf52
 v22:=Tryz.zeroValue52
 t25:=Tryz.underlying140
 a25:=Tryz.isAgg140
 z25:=Tryz.sizeOf140
 v25:=Tryz.zeroValue140
 t39:=Tryz.underlying287
 a39:=Tryz.isAgg287
 z39:=Tryz.sizeOf287
 v39:=Tryz.zeroValue287
 t45:=Tryz.underlying327
 a45:=Tryz.isAgg327
 z45:=Tryz.sizeOf327
 v45:=Tryz.zeroValue327
 t46:=Tryz.underlying328
 a46:=Tryz.isAgg328
 z46:=Tryz.sizeOf328
 v46:=Tryz.zeroValue328
 t50:=Tryz.underlying154
 a50:=Tryz.isAgg154
 z50:=Tryz.sizeOf154
 v50:=Tryz.zeroValue154
 t53:=Tryz.underlying157
 a53:=Tryz.isAgg157
 z53:=Tryz.sizeOf157
 v53:=Tryz.zeroValue157
 t55:=Tryz.underlying335
 a55:=Tryz.isAgg335
 z55:=Tryz.sizeOf335
 v55:=Tryz.zeroValue335
 t66:=Tryz.underlying363
 a66:=Tryz.isAgg363
 z66:=Tryz.sizeOf363
 v66:=Tryz.zeroValue363
 t70:=Tryz.underlying367
 a70:=Tryz.isAgg367
 z70:=Tryz.sizeOf367
 v70:=Tryz.zeroValue367
 t76:=Tryz.underlying390
 a76:=Tryz.isAgg390
 z76:=Tryz.sizeOf390
 v76:=Tryz.zeroValue390
 t77:=Tryz.underlying391
 a77:=Tryz.isAgg391
 z77:=Tryz.sizeOf391
 v77:=Tryz.zeroValue391 }
end Go.Proofs
namespace Go.Proofs
open Go Go.Ab Go.Sort
theorem HW:SWO (fun x y:wD=>decide (jj x.1 y.1<0)) where
 irrefl x:=by
  rw[decide_eq_false_iff_not,fV];unfold ci;omega
 trans x y z h1 h2:=by
  rw[decide_eq_true_iff,fV] at *
  exact sY h1 h2
 ntrans x y z h1 h2:=by
  rw[decide_eq_false_iff_not,fV] at *
  unfold ci at *
  omega
theorem Bl (G:JI):U7 G:=fun l gn sz nl hz hl =>
 DCall.sortF (P:=Tryz.prog) (G:=G) (f:=138) (g:=86) ue 2 (by decide) (fun _=>rfl) (fun a b=>jj a.1 b.1) HW (fun x y=>by have h:=tS (G:=fun _=>none) x.1 y.1 x.2 y.2;exact h)
  (fun α _ en hk h1 c hO blk cap d w hcmp hH hb hs=>AnyQ.slices_SortFunc Tryz.laysSus 2 Tryz.isAgg42 Tryz.sizeOf42 en hk h1 c hO 86 #[] blk 0 cap d w (by simp) hcmp hH hb hs)
  (fun a cap w=>AnyF.slices_SortFunc_none Tryz.laysSus a cap _ w) (.im (.fn (.func 86) []))
  (fun M v hv=>by
   cases hv with
   | im _ _ h=>cases h with
     | fn _ _ vs h1 _ =>
       have:vs=#[]:=Array.eq_empty_of_size_eq_zero (by simpa using h1.symm)
       rw[this]) l gn sz nl hz hl
end Go.Proofs
namespace Go.Proofs.YtjodaihiogfkbaaGreatDoor
open Go Go.Ab Go.ChangeShapes Go.WideShapes Go.ChangeAt Go.RowKit
def G6 (g:Nat):Option (List IC):=if g=5 then some [.fn (.func 357) [],.fn (.func 358) [],.fn (.func 359) [],.fn (.func 360) []] else if g=7 then some [.fn (.func 372) [],.fn (.func 373) [],.fn (.func 374) []] else if g=4 then some [.fn (.func 346) [],.fn (.func 347) [],.fn (.func 348) [],.fn (.func 349) [],.fn (.func 350) [],.fn (.func 351) [],.fn (.func 354) [],.fn (.func 356) []] else if g=6 then some [.fn (.func 364) [],.fn (.func 365) [],.fn (.func 366) [],.fn (.func 369) [],.fn (.func 370) []] else if g=1 then some [.raw .nilFunc,.fn (.func 339) [],.fn (.func 340) [],.fn (.func 343) []] else if g=0 then some [.raw (.bool false),.raw (.bool false)] else if g=2 then some [.raw (.bool true),.raw (.bool false)] else if g=3 then some [.raw (.bool false),.raw (.bool true)] else .none
theorem gSheet:Tryz.prog.globalNamed "blueline/sheet.checks" = some 5:=by kernel_rfl
theorem tSheet:(Tryz.prog.globals[5]?).map (·.type)=some 311:=by kernel_rfl
theorem gChain:Tryz.prog.globalNamed "blueline/chain.checks" = some 7:=by kernel_rfl
theorem tChain:(Tryz.prog.globals[7]?).map (·.type)=some 386:=by kernel_rfl
theorem gNote:Tryz.prog.globalNamed "blueline/note.checks" = some 4:=by kernel_rfl
theorem tNote:(Tryz.prog.globals[4]?).map (·.type)=some 257:=by kernel_rfl
theorem gRecall:Tryz.prog.globalNamed "blueline/recall.checks" = some 6:=by kernel_rfl
theorem tRecall:(Tryz.prog.globals[6]?).map (·.type)=some 380:=by kernel_rfl
theorem own:ownKnob Tryz.prog.godebug=.none:=by kernel_rfl
theorem BZ:laidOutB Tryz.prog=true:=by kernel_rfl
theorem dS {W:World} {g:Nat} {fs:List FuncId} (h0:0<fs.length) (h:∀ (j:Nat) (f:FuncId),fs[j]?=some f→W.cell? ⟨g,j,.none⟩=some (.func (.func f) #[] #[])):RepI W (ve W) (.ip (fs.map fun f=>.fn (.func f) [])) (.pointer (some ⟨g,0,.none⟩)):=by
 have hb:g<W.heap.size:=U6 (a:=⟨g,0,.none⟩) (h 0 fs[0] (by simp))
 refine .ip _ _ (fun j=>.func (.func (fs.getD j 0)) #[] #[]) rfl hb (fun j c hj=>?_) (fun j c hj=>?_)
 ·rw[List.getElem?_map,Option.map_eq_some_iff] at hj
  obtain⟨f,hf,rfl⟩:=hj
  have:=h j f hf
  simpa[hf] using this
 ·rw[List.getElem?_map,Option.map_eq_some_iff] at hj
  obtain⟨f,hf,rfl⟩:=hj
  simpa[hf] using RepI.fn (w:=W) (ok:=ve W) (.func f) [] #[] rfl (fun j c v h=>by simp at h)
theorem pa {W:World} (h:laidMetH Tryz.prog Rows.blameFitsRow.laid W):∀ (j:Nat) (f:FuncId),[357,358,359,360][j]?=some f→W.cell? ⟨5,j,.none⟩=some (.func (.func f) #[] #[]):=by
 obtain⟨g,t,cs,fuel,p,hg,ht,hv,hd⟩:=h.funcs (n:= "blueline/sheet.checks") (List.mem_cons_self ..)
 obtain rfl:=Option.some.inj (gSheet.symm.trans hg)
 obtain rfl:=Option.some.inj (tSheet.symm.trans ht)
 intro j f hj
 rw[World.var?_cell hg hv j]
 exact R7 (names:=[[98,108,117,101,108,105,110,101,47,115,104,101,101,116,46,99,104,101,99,107,115,36,49],[98,108,117,101,108,105,110,101,47,115,104,101,101,116,46,99,104,101,99,107,115,36,50],[98,108,117,101,108,105,110,101,47,115,104,101,101,116,46,99,104,101,99,107,115,36,51],[98,108,117,101,108,105,110,101,47,115,104,101,101,116,46,99,104,101,99,107,115,36,52]]) (fs:=[357,358,359,360]) Tryz.underlying311 Tryz.underlying310 rfl rfl Tryz.underlying309 (by kernel_rfl) (by kernel_rfl) rfl (by kernel_rfl) rfl hd j f hj
theorem qo {W:World} (h:laidMetH Tryz.prog Rows.blameFitsRow.laid W):∀ (j:Nat) (f:FuncId),[372,373,374][j]?=some f→W.cell? ⟨7,j,.none⟩=some (.func (.func f) #[] #[]):=by
 obtain⟨g,t,cs,fuel,p,hg,ht,hv,hd⟩:=h.funcs (n:= "blueline/chain.checks") (List.mem_cons_of_mem _ (List.mem_cons_self ..))
 obtain rfl:=Option.some.inj (gChain.symm.trans hg)
 obtain rfl:=Option.some.inj (tChain.symm.trans ht)
 intro j f hj
 rw[World.var?_cell hg hv j]
 exact R7 (names:=[[98,108,117,101,108,105,110,101,47,99,104,97,105,110,46,99,104,101,99,107,115,36,49],[98,108,117,101,108,105,110,101,47,99,104,97,105,110,46,99,104,101,99,107,115,36,50],[98,108,117,101,108,105,110,101,47,99,104,97,105,110,46,99,104,101,99,107,115,36,51]]) (fs:=[372,373,374]) Tryz.underlying386 Tryz.underlying385 rfl rfl Tryz.underlying384 (by kernel_rfl) (by kernel_rfl) rfl (by kernel_rfl) rfl hd j f hj
theorem rG {W:World} (h:laidMetH Tryz.prog Rows.blameFitsRow.laid W):∀ (j:Nat) (f:FuncId),[346,347,348,349,350,351,354,356][j]?=some f→W.cell? ⟨4,j,.none⟩=some (.func (.func f) #[] #[]):=by
 obtain⟨g,t,cs,fuel,p,hg,ht,hv,hd⟩:=h.funcs (n:= "blueline/note.checks") (List.mem_cons_of_mem _ (List.mem_cons_of_mem _ (List.mem_cons_self ..)))
 obtain rfl:=Option.some.inj (gNote.symm.trans hg)
 obtain rfl:=Option.some.inj (tNote.symm.trans ht)
 intro j f hj
 rw[World.var?_cell hg hv j]
 exact R7 (names:=[[98,108,117,101,108,105,110,101,47,110,111,116,101,46,99,104,101,99,107,115,36,49],[98,108,117,101,108,105,110,101,47,110,111,116,101,46,99,104,101,99,107,115,36,50],[98,108,117,101,108,105,110,101,47,110,111,116,101,46,99,104,101,99,107,115,36,51],[98,108,117,101,108,105,110,101,47,110,111,116,101,46,99,104,101,99,107,115,36,52],[98,108,117,101,108,105,110,101,47,110,111,116,101,46,99,104,101,99,107,115,36,53],[98,108,117,101,108,105,110,101,47,110,111,116,101,46,99,104,101,99,107,115,36,54],[98,108,117,101,108,105,110,101,47,110,111,116,101,46,99,104,101,99,107,115,36,55],[98,108,117,101,108,105,110,101,47,110,111,116,101,46,99,104,101,99,107,115,36,56]]) (fs:=[346,347,348,349,350,351,354,356]) Tryz.underlying257 Tryz.underlying256 rfl rfl Tryz.underlying254 (by kernel_rfl) (by kernel_rfl) rfl (by kernel_rfl) rfl hd j f hj
theorem nD {W:World} (h:laidMetH Tryz.prog Rows.blameFitsRow.laid W):∀ (j:Nat) (f:FuncId),[364,365,366,369,370][j]?=some f→W.cell? ⟨6,j,.none⟩=some (.func (.func f) #[] #[]):=by
 obtain⟨g,t,cs,fuel,p,hg,ht,hv,hd⟩:=h.funcs (n:= "blueline/recall.checks") (List.mem_cons_of_mem _ (List.mem_cons_of_mem _ (List.mem_cons_of_mem _ (List.mem_cons_self ..))))
 obtain rfl:=Option.some.inj (gRecall.symm.trans hg)
 obtain rfl:=Option.some.inj (tRecall.symm.trans ht)
 intro j f hj
 rw[World.var?_cell hg hv j]
 exact R7 (names:=[[98,108,117,101,108,105,110,101,47,114,101,99,97,108,108,46,99,104,101,99,107,115,36,49],[98,108,117,101,108,105,110,101,47,114,101,99,97,108,108,46,99,104,101,99,107,115,36,50],[98,108,117,101,108,105,110,101,47,114,101,99,97,108,108,46,99,104,101,99,107,115,36,51],[98,108,117,101,108,105,110,101,47,114,101,99,97,108,108,46,99,104,101,99,107,115,36,52],[98,108,117,101,108,105,110,101,47,114,101,99,97,108,108,46,99,104,101,99,107,115,36,53]]) (fs:=[364,365,366,369,370]) Tryz.underlying380 Tryz.underlying379 rfl rfl Tryz.underlying377 (by kernel_rfl) (by kernel_rfl) rfl (by kernel_rfl) rfl hd j f hj
theorem gKinds:Tryz.prog.globalNamed "blueline/blame.kinds" = some 1:=by kernel_rfl
theorem tKinds:(Tryz.prog.globals[1]?).map (·.type)=some 211:=by kernel_rfl
theorem nQ {W:World} (h:laidMetH Tryz.prog Rows.blameFitsRow.laid W):∀ (j:Nat) (v:Value),[Value.nilFunc,.func (.func 339) #[] #[],.func (.func 340) #[] #[],.func (.func 343) #[] #[]][j]?=some v→W.cell? ⟨1,j,.none⟩=some v:=by
 obtain⟨g,t,cs,fuel,p,hg,ht,hv,hd⟩:=h.funcs (n:= "blueline/blame.kinds") (List.mem_cons_of_mem _ (List.mem_cons_of_mem _ (List.mem_cons_of_mem _ (List.mem_cons_of_mem _ (List.mem_cons_of_mem _ (List.mem_cons_of_mem _ (List.mem_cons_of_mem _ (List.mem_cons_self ..))))))))
 obtain rfl:=Option.some.inj (gKinds.symm.trans hg)
 obtain rfl:=Option.some.inj (tKinds.symm.trans ht)
 have hU:=pF (b1:=98) (r1:=[108,117,101,108,105,110,101,47,98,108,97,109,101,46,107,105,110,100,115,36,49]) (f1:=339) (b2:=98) (r2:=[108,117,101,108,105,110,101,47,98,108,97,109,101,46,107,105,110,100,115,36,50]) (f2:=340) (b3:=98) (r3:=[108,117,101,108,105,110,101,47,98,108,97,109,101,46,107,105,110,100,115,36,51]) (f3:=343) Tryz.underlying211 Tryz.underlying210 rfl rfl Tryz.underlying209 (by kernel_rfl) (by kernel_rfl) (by kernel_rfl) (by kernel_rfl) (by kernel_rfl) hd
 intro j v hj
 rw[World.var?_cell hg hv j]
 exact hU j v hj
theorem gFine:Tryz.prog.globalNamed "blueline/blame.fine" = some 0:=by kernel_rfl
theorem Ga:(Tryz.prog.globals[0]?).map (·.type)=some 148:=by kernel_rfl
theorem sn {W:World} (h:laidMetH Tryz.prog Rows.blameFitsRow.laid W):∀ (j:Nat) (v:Value),[Value.bool false,.bool false][j]?=some v→W.cell? ⟨0,j,.none⟩=some v:=by
 have hf:=h.filter fun x=>x.1 == "blueline/blame.fine"
 rw[show (Rows.blameFitsRow.laid.filter fun x=>x.1 == "blueline/blame.fine")=[("blueline/blame.fine",.agg [.lit (.bool false),.lit (.bool false)])] by rfl] at hf
 obtain⟨cs,hv,hd⟩:=iw (t:=148) (e:=4) Tryz.underlying148 Tryz.underlying4 (by kernel_rfl) (by kernel_rfl) (fun g hg=>by obtain rfl:=Option.some.inj (gFine.symm.trans hg);exact Ga) hf
 intro j v hj
 rw[World.var?_cell gFine hv j]
 exact hd j v hj
theorem gOld:Tryz.prog.globalNamed "blueline/blame.old" = some 2:=by kernel_rfl
theorem HV:(Tryz.prog.globals[2]?).map (·.type)=some 148:=by kernel_rfl
theorem vc {W:World} (h:laidMetH Tryz.prog Rows.blameFitsRow.laid W):∀ (j:Nat) (v:Value),[Value.bool true,.bool false][j]?=some v→W.cell? ⟨2,j,.none⟩=some v:=by
 have hf:=h.filter fun x=>x.1 == "blueline/blame.old"
 rw[show (Rows.blameFitsRow.laid.filter fun x=>x.1 == "blueline/blame.old")=[("blueline/blame.old",.agg [.lit (.bool true),.lit (.bool false)])] by rfl] at hf
 obtain⟨cs,hv,hd⟩:=iw (t:=148) (e:=4) Tryz.underlying148 Tryz.underlying4 (by kernel_rfl) (by kernel_rfl) (fun g hg=>by obtain rfl:=Option.some.inj (gOld.symm.trans hg);exact HV) hf
 intro j v hj
 rw[World.var?_cell gOld hv j]
 exact hd j v hj
theorem gHand:Tryz.prog.globalNamed "blueline/blame.hand" = some 3:=by kernel_rfl
theorem FZ:(Tryz.prog.globals[3]?).map (·.type)=some 148:=by kernel_rfl
theorem sh {W:World} (h:laidMetH Tryz.prog Rows.blameFitsRow.laid W):∀ (j:Nat) (v:Value),[Value.bool false,.bool true][j]?=some v→W.cell? ⟨3,j,.none⟩=some v:=by
 have hf:=h.filter fun x=>x.1 == "blueline/blame.hand"
 rw[show (Rows.blameFitsRow.laid.filter fun x=>x.1 == "blueline/blame.hand")=[("blueline/blame.hand",.agg [.lit (.bool false),.lit (.bool true)])] by rfl] at hf
 obtain⟨cs,hv,hd⟩:=iw (t:=148) (e:=4) Tryz.underlying148 Tryz.underlying4 (by kernel_rfl) (by kernel_rfl) (fun g hg=>by obtain rfl:=Option.some.inj (gHand.symm.trans hg);exact FZ) hf
 intro j v hj
 rw[World.var?_cell gHand hv j]
 exact hd j v hj
theorem Ea {W:World} (h:laidMetH Tryz.prog Rows.blameFitsRow.laid W):∀ g l,G6 g=some l→RepI W (ve W) (.ip l) (.pointer (some ⟨g,0,.none⟩)):=by
 intro g l hl
 unfold G6 at hl
 split at hl
 ·rename_i e;subst e;cases hl;exact dS (fs:=[357,358,359,360]) (by decide) (pa h)
 ·split at hl
  ·rename_i e;subst e;cases hl;exact dS (fs:=[372,373,374]) (by decide) (qo h)
  ·split at hl
   ·rename_i e;subst e;cases hl;exact dS (fs:=[346,347,348,349,350,351,354,356]) (by decide) (rG h)
   ·split at hl
    ·rename_i e;subst e;cases hl;exact dS (fs:=[364,365,366,369,370]) (by decide) (nD h)
    ·split at hl
     ·rename_i e;subst e;cases hl;exact uL (nQ h)
     ·split at hl
      ·rename_i e;subst e;cases hl;exact nC (sn h)
      ·split at hl
       ·rename_i e;subst e;cases hl;exact nC (vc h)
       ·split at hl
        ·rename_i e;subst e;cases hl;exact nC (sh h)
        ·cases hl
theorem zI (os:Os) (args:Array Value):laidMetH Tryz.prog Rows.blameFitsRow.laid ((World.doorLaid Tryz.prog 600 os).forCall (fun _ _=>0) ⟨#[],args,[]⟩).memory:=
 laidMetH_of_parts3 (fuel:=8) (laidMet_of_run' 8 (by kernel_rfl) (by kernel_rfl)) (by kernel_rfl) (by kernel_rfl)
set_option maxRecDepth 100000 in
theorem iG (os:Os) (started:os.Started) (H:Type) (enc:TypeId×Value→H) :
 ReturnsInHanded {} Tryz.checked os 11 .any (fun w args=>(Rows.blameFitsSpec.pre enc Tryz.prog Tryz.f11 [] false w args∧laidMetH Tryz.prog Rows.blameFitsRow.laid w)∧sizedMet enc Tryz.prog Tryz.f11 (OpenSpec.ofChange Rows.blameFitsSpec) false w args)
  (Rows.blameFitsSpec.post enc Tryz.prog Tryz.f11 false true false false):=by
 refine returnsInHanded_of_change_and (C:=Tryz.checked) (X:=fun w _=>laidMetH Tryz.prog Rows.blameFitsRow.laid w) (fun _ _ _ hh h=>h.of_heap hh) own started (by kernel_rfl) Tryz.func11
  (ChangeSpec.witness_shaped (enc:=enc) (C:=Tryz.checked) (os:=os) (X:=fun w _=>laidMetH Tryz.prog Rows.blameFitsRow.laid w) false (World.doorLaid Tryz.prog 600 os) #[.agg #[.slice .none 0 0,.slice .none 0 0,.slice .none 0 0,.slice .none 0 0,.int .i64 0,.int .i64 0,.slice .none 0 0,.int .i64 0,.int .i64 0,.slice .none 0 0]] 8 rfl (World.shaped_of_RefB (by kernel_rfl) (by kernel_rfl)) (by kernel_rfl) (by kernel_rfl) (by kernel_rfl) (zI os _)) ?_
 intro W base args ds gs sX hval0 hW _ _ hL _
 have hval:∀ (j:Nat) t v,Tryz.f11.params[j]?=some t→args[j]?=some v→Value.okWide Tryz.prog W .any base t v:=hval0
 have hW':=hW
 obtain⟨p,q,hA0,hV,rfl,hfz,hnd⟩:=hW
 have hA:DataW.TrodAll enc Tryz.prog W 0 (fun _=>true) true Tryz.f11.params.toList args.toList ds p:=hA0
 rw[Tryz.params11] at hA hval
 obtain⟨v0,d0,rfl,rfl,h0⟩:=trodAll_one hA
 obtain⟨p0,hp0⟩:∃ p0,p0=p:=⟨p,rfl⟩
 subst hp0
 obtain⟨rfl,rfl⟩:=trodVars_none hV
 obtain⟨cs0,rfl,hcs0⟩:=okWide_struct Tryz.underlying39 (hval 0 39 v0 rfl rfl)
 clear hA0 hval0
 simp only[List.append_nil] at hW'
 have h0k:=h0
 obtain⟨fuel0,hf0⟩:=h0
 obtain⟨l0,⟨c0,hc0,rfl⟩,hR0⟩:=Ef H enc W fuel0 cs0.toList _ hf0
 have hlt0:∀ x∈p0,x.block<W.heap.size:=fun x hx=>by simpa using hW'.lt x (by simp[hx])
 have hcall:=(qu (G:=G6) c0 rfl rfl (DQ G6) (Bl G6) rfl rfl rfl ⟨rfl,rfl,rfl⟩ hc0 []).calls (vs:=#[.agg cs0]) (W:=W) (u:=.bool true) (Ea hL) rfl (fun j d v hd hv=>by
  match j with
  | 0=>simp at hd hv;subst hd;subst hv;exact .ofCells hR0
  | j+1=>simp at hd)
 refine hcall.mono fun e W' ⟨he,hnx⟩=>?_
 subst he
 refine⟨_,rfl,_,_,_,[],p0,[],hW',trodAll_mk1 (shut_bool Tryz.underlying4 _),?_,rfl,hnx.frame _,fun h=>by cases h⟩
 have hend:=trodAll_mk1 (Below.trod BZ (by kernel_rfl) (of_decide_eq_true (by kernel_rfl)) h0k hnx hlt0)
 simp only[List.append_nil,List.nil_append,List.append_assoc] at hend ⊢
 exact hend
theorem jr:Rows.BlameFitsSaid:=
 OpenClaim.holds_of_wide 11 Tryz.f11 rfl rfl rfl rfl rfl rfl rfl ⟨rfl,rfl,rfl,rfl,rfl⟩ rfl rfl rfl rfl rfl (by kernel_rfl) Tryz.func11 iH
  (of_decide_eq_true (by kernel_rfl)) (by unfold Func.isWrapper;first|(rw[if_pos (by decide +kernel)];kernel_rfl)|(rw[if_neg (by decide +kernel)];exact⟨rfl,rfl⟩))
  (fun os started H enc _=>iG os started H enc)
end Go.Proofs.YtjodaihiogfkbaaGreatDoor
