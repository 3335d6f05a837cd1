/- Part 25 of the proofs. -/
import Derived.Shelf.Sort.Plain
import Derived.Shelf.Slices.In.SortNone
import Derived.Test.YtjodaihiogfkbaaGreatDoorR14
import Derived.Test.YtjodaihiogfkbaaGreatDoorR18
import Derived.Test.YtjodaihiogfkbaaGreatDoorE02
import Derived.Test.YtjodaihiogfkbaaGreatDoorE03
import Derived.Test.YtjodaihiogfkbaaGreatDoorE06
set_option linter.all false
set_option linter.deprecated false
set_option maxHeartbeats 100000000
namespace Go.Ab
open Go
abbrev Gp:=Nat×Bool
def sJ (b:Nat→Nat×Nat) (m:Nat→Gp×Gp) (i k:Nat) (x:Issue):List DC:=if k<i then [.im (rI x.drawing),.im (rI x.letter),.im (.raw (.int .u8 x.kind)),.vec (b k).1 (m k).1.1 0 x.items.length,.vec (b k).2 (m k).2.1 0 x.dims.length] else (g9 x).map .im
def bB (b:Nat→Nat×Nat) (m:Nat→Gp×Gp) (i:Nat) (l:List Issue):List (List DC):=l.mapIdx (sJ b m i)
def jB (l:List Issue) (m:Nat→Gp×Gp) (k:Nat):Q4:=match l[k]? with
 | some x=>(.vec 2 [] 0 true,.vec 2 (l8 (x.items.map B5)) (m k).1.1 (m k).1.2,.vec 3 [] 0 true,.vec 3 (l8 (x.dims.map E5)) (m k).2.1 (m k).2.2)
 | none=>(.gone,.gone,.gone,.gone)
def sN (b:Nat→Nat) (m:Nat→Gp) (i k:Nat) (x:Holder):List DC:=if k<i then [.im (rI x.id),.im (rI x.frm),.im (rI x.to),.vec (b k) (m k).1 0 x.draws.length] else (o8 x).map .im
def bE (b:Nat→Nat) (m:Nat→Gp) (i:Nat) (l:List Holder):List (List DC):=l.mapIdx (sN b m i)
def lk (l:List Holder) (m:Nat→Gp) (k:Nat):Q2:=match l[k]? with
 | some x=>(.vec 1 [] 0 true,.vec 1 (l8 (x.draws.map Ab.encI)) (m k).1 (m k).2)
 | none=>(.gone,.gone)
@[simp] theorem HV (b:Nat→Nat×Nat) (m:Nat→Gp×Gp) (i:Nat) (l:List Issue):(bB b m i l).length=l.length:=by simp[bB]
@[simp] theorem If (b:Nat→Nat) (m:Nat→Gp) (i:Nat) (l:List Holder):(bE b m i l).length=l.length:=by simp[bE]
theorem wp (b:Nat→Nat×Nat) (m:Nat→Gp×Gp) (l:List Issue):bB b m 0 l=l8 (l.map g9):=by
 unfold bB l8
 apply List.ext_getElem?
 intro k
 simp[List.getElem?_mapIdx,sJ]
 rfl
theorem wz (b:Nat→Nat) (m:Nat→Gp) (l:List Holder):bE b m 0 l=l8 (l.map o8):=by
 unfold bE l8
 apply List.ext_getElem?
 intro k
 simp[List.getElem?_mapIdx,sN]
 rfl
theorem CV {b:Nat→Nat×Nat} {m:Nat→Gp×Gp} {i:Nat} {l:List Issue} {x:Issue} (h:l[i]?=some x):(bB b m i l)[i]?=some ((g9 x).map .im):=by
 simp[bB,List.getElem?_mapIdx,h,sJ]
theorem De {b:Nat→Nat} {m:Nat→Gp} {i:Nat} {l:List Holder} {x:Holder} (h:l[i]?=some x):(bE b m i l)[i]?=some ((o8 x).map .im):=by
 simp[bE,List.getElem?_mapIdx,h,sN]
def fN {α:Type} (m:Nat→α) (i:Nat) (g:α) (k:Nat):α:=if k=i then g else m k
theorem zT {b:Nat→Nat×Nat} {m:Nat→Gp×Gp} {i:Nat} {l:List Issue} {x:Issue} (h:l[i]?=some x) (g:Gp×Gp):(bB b m i l).set i [.im (rI x.drawing),.im (rI x.letter),.im (.raw (.int .u8 x.kind)),.vec (b i).1 g.1.1 0 x.items.length,.vec (b i).2 g.2.1 0 x.dims.length]=bB b (fN m i g) (i+1) l:=by
 apply List.ext_getElem?
 intro k
 rw[List.getElem?_set]
 by_cases e:i=k
 ·subst e
  have hlt:=e7 h
  rw[if_pos rfl,if_pos (by simpa using hlt)]
  simp only[bB,List.getElem?_mapIdx,h,Option.map_some,sJ,fN,if_true,Nat.lt_succ_self]
 ·rw[if_neg e]
  simp only[bB,List.getElem?_mapIdx]
  have h1:¬ k=i:=fun h=>e h.symm
  cases hk:l[k]? with
  | none=>rfl
  | some y =>
    simp only[Option.map_some,sJ,fN,if_neg h1]
    by_cases h2:k<i
    ·rw[if_pos h2,if_pos (by omega)]
    ·rw[if_neg h2,if_neg (by omega)]
theorem Ag {b:Nat→Nat} {m:Nat→Gp} {i:Nat} {l:List Holder} {x:Holder} (h:l[i]?=some x) (g:Gp):(bE b m i l).set i [.im (rI x.id),.im (rI x.frm),.im (rI x.to),.vec (b i) g.1 0 x.draws.length]=bE b (fN m i g) (i+1) l:=by
 apply List.ext_getElem?
 intro k
 rw[List.getElem?_set]
 by_cases e:i=k
 ·subst e
  have hlt:=e7 h
  rw[if_pos rfl,if_pos (by simpa using hlt)]
  simp only[bE,List.getElem?_mapIdx,h,Option.map_some,sN,fN,if_true,Nat.lt_succ_self]
 ·rw[if_neg e]
  simp only[bE,List.getElem?_mapIdx]
  have h1:¬ k=i:=fun h=>e h.symm
  cases hk:l[k]? with
  | none=>rfl
  | some y =>
    simp only[Option.map_some,sN,fN,if_neg h1]
    by_cases h2:k<i
    ·rw[if_pos h2,if_pos (by omega)]
    ·rw[if_neg h2,if_neg (by omega)]
theorem wo {l:List Issue} {m:Nat→Gp×Gp} {i:Nat} {x:Issue} (h:l[i]?=some x) (g:Gp×Gp):G0 (jB l (fN m i g)) (i+1)=G0 (jB l m) i++[.vec 2 [] 0 true,.vec 2 (l8 (x.items.map B5)) g.1.1 g.1.2,.vec 3 [] 0 true,.vec 3 (l8 (x.dims.map E5)) g.2.1 g.2.2]:=by
 rw[G0,dC (H:=jB l m) fun k hk=>by unfold jB fN;rw[if_neg (by omega)]]
 simp[jB,h,fN]
theorem wy {l:List Holder} {m:Nat→Gp} {i:Nat} {x:Holder} (h:l[i]?=some x) (g:Gp):J1 (lk l (fN m i g)) (i+1)=J1 (lk l m) i++[.vec 1 [] 0 true,.vec 1 (l8 (x.draws.map Ab.encI)) g.1 g.2]:=by
 rw[J1,dD (H:=lk l m) fun k hk=>by unfold lk fN;rw[if_neg (by omega)]]
 simp[lk,h,fN]
abbrev BM:=(Gp×Gp)×(Nat→Gp×Gp)×(Gp×Gp)×(Nat→Gp)×(Gp×Gp)
def tq (s k:Nat):Nat×Nat:=(4*k+(13+s),4*k+(15+s))
def tr (N s k:Nat):Nat:=4*N+2*k+(17+s)
def oY (s:Nat) (m:BM) (c:Case):List DC:=[.vec (9+s) m.1.1.1 0 c.p.n.reg.length,.vec (11+s) m.1.2.1 0 c.p.n.notes.length,.vec (4*c.p.n.reg.length+(13+s)) m.2.2.1.1.1 0 c.p.holders.length,.vec (4*c.p.n.reg.length+(15+s)) m.2.2.1.2.1 0 c.p.prints.length,.im (rI c.machine),.im (rI c.of),.vec (4*c.p.n.reg.length+2*c.p.holders.length+(17+s)) m.2.2.2.2.1.1 0 c.loop.links.length,.im (rI c.loop.lo),.im (rI c.loop.hi),.vec (4*c.p.n.reg.length+2*c.p.holders.length+(19+s)) m.2.2.2.2.2.1 0 c.pieces.length]
def qD (s:Nat) (m:BM) (c:Case):List DObj:=.row (oY s m c) :: .vec 0 [] 0 true :: .vec 0 [] 0 true :: .vec 0 [] 0 true :: .vec 0 [] 0 true :: .vec 0 [] 0 true :: .vec 0 [] 0 true :: .row (oY s m c) :: .vec 5 [] 0 true :: .vec 5 (bB (tq s) m.2.1 c.p.n.reg.length c.p.n.reg) m.1.1.1 m.1.1.2 :: .vec 10 [] 0 true :: .vec 10 (l8 (c.p.n.notes.map j9)) m.1.2.1 m.1.2.2 :: (G0 (jB c.p.n.reg m.2.1) c.p.n.reg.length ++ .vec 4 [] 0 true :: .vec 4 (bE (tr c.p.n.reg.length s) m.2.2.2.1 c.p.holders.length c.p.holders) m.2.2.1.1.1 m.2.2.1.1.2 :: .vec 7 [] 0 true :: .vec 7 (l8 (c.p.prints.map A3)) m.2.2.1.2.1 m.2.2.1.2.2 :: (J1 (lk c.p.holders m.2.2.2.1) c.p.holders.length++[.vec 3 [] 0 true,.vec 3 (l8 (c.loop.links.map G8)) m.2.2.2.2.1.1 m.2.2.2.2.1.2,.vec 4 [] 0 true,.vec 4 (l8 (c.pieces.map A9)) m.2.2.2.2.2.1 m.2.2.2.2.2.2]))
theorem nZ (e:Nat→Nat) (l:List (List IC)):(l8 l).map (rnL e)=l8 l:=by
 unfold l8
 rw[List.map_map]
 exact List.map_congr_left fun x _=>ff e x
theorem Ch (a s:Nat) (m:Nat→Gp×Gp) (i:Nat) (l:List Issue):(bB (tq a) m i l).map (rnL fun o=>s+o)=bB (tq (a+s)) m i l:=by
 apply List.ext_getElem?
 intro k
 simp only[bB,List.getElem?_map,List.getElem?_mapIdx]
 cases l[k]? with
 | none=>rfl
 | some x =>
   simp only[Option.map_some,sJ]
   by_cases h:k<i
   ·rw[if_pos h,if_pos h]
    simp only[rnL,iz,tq]
    rw[show s+(4*k+(13+a))=4*k+(13+(a+s)) by omega,show s+(4*k+(15+a))=4*k+(15+(a+s)) by omega]
   ·rw[if_neg h,if_neg h,ff]
theorem Ci (N a s:Nat) (m:Nat→Gp) (i:Nat) (l:List Holder):(bE (tr N a) m i l).map (rnL fun o=>s+o)=bE (tr N (a+s)) m i l:=by
 apply List.ext_getElem?
 intro k
 simp only[bE,List.getElem?_map,List.getElem?_mapIdx]
 cases l[k]? with
 | none=>rfl
 | some x =>
   simp only[Option.map_some,sN]
   by_cases h:k<i
   ·rw[if_pos h,if_pos h]
    simp only[rnL,iz,tr]
    rw[show s+(4*N+2*k+(17+a))=4*N+2*k+(17+(a+s)) by omega]
   ·rw[if_neg h,if_neg h,ff]
theorem yz (a s:Nat) (m:BM) (c:Case):rnL (fun o=>s+o) (oY a m c)=oY (a+s) m c:=by
 simp only[oY,rnL,iz]
 simp only[List.cons.injEq,DC.vec.injEq,and_true,true_and]
 omega
theorem EO (a s:Nat) (m:BM) (c:Case):(qD a m c).map (cF fun o=>s+o)=qD (a+s) m c:=by
 have h4:(G0 (jB c.p.n.reg m.2.1) c.p.n.reg.length).map (cF fun o=>s+o)=G0 (jB c.p.n.reg m.2.1) c.p.n.reg.length:=by
  rw[nm]
  refine dC fun k hk=>?_
  unfold jB
  rw[List.getElem?_eq_getElem hk]
  simp only[cF,nZ,List.map_nil]
 have h2:(J1 (lk c.p.holders m.2.2.2.1) c.p.holders.length).map (cF fun o=>s+o)=J1 (lk c.p.holders m.2.2.2.1) c.p.holders.length:=by
  rw[no]
  refine dD fun k hk=>?_
  unfold lk
  rw[List.getElem?_eq_getElem hk]
  simp only[cF,nZ,List.map_nil]
 simp only[qD,List.map_cons,List.map_append,List.map_nil,cF,yz,Ch,Ci,nZ,h4,h2]
theorem qx (n:Nat):u7 [] n=fun o=>n+o:=by
 funext o;simp[u7]
theorem ss (objs o:List DObj):o4 [] objs o=objs++o.map (cF fun k=>objs.length+k):=by
 unfold o4
 rw[qx]
 simp[gf]
end Go.Ab
namespace Go.Proofs
open Go Go.Ab
variable {G:KB}
attribute [simp] s7 cG N9 gQ v6 B0 nilV J9 ZK
theorem xk (c:Case) (hk:KC c):DCall Tryz.prog G 98 [o2 c] [] (fun d o=>∃ m:BM,True∧d=.agg (oY 0 m c)∧o=qD 0 m c):=by
 generalize hQ:(fun (d:DV) (o:List DObj)=>∃ m:BM,True∧d=.agg (oY 0 m c)∧o=qD 0 m c)=Q
 refine h9 Tryz.func98 rfl Tryz.ntmps98 (by simp) rfl ?_
 have c1:=Iq (G:=G) c.p.n.reg (by have:=hk.p.n.1.1;omega)
 have c2:=Gd (G:=G) c.p.n.notes (by have:=hk.p.n.2.1;omega)
 unfold F6 at c1 c2
 simp only[List.length_map] at c1 c2
 simp only[o2]
 have hs:=trivial
 repeat' first|with_reducible refine zz ?_|simp -dsimp[hs]|refine CallE.embed_ex [] (c1) ?_ ?_ ?_ ?_ ?_ ?_;(focus simp[u7];done);(focus simp;done);(focus simp;done);(focus simp;done);(focus refine o7 ?_;simp[u7,r8];done);intro mmA hmmA;try simp -dsimp[o4,u7,hs]|refine CallE.embed_ex [] (c2) ?_ ?_ ?_ ?_ ?_ ?_;(focus simp[u7];done);(focus simp;done);(focus simp;done);(focus simp;done);(focus refine o7 ?_;simp[u7,r8];done);intro mmB hmmB;try simp -dsimp[o4,u7,hs]|refine X7 (id:=2) (nt:=117) [none,none,none,none,none,none,none,none,none,none,none,none,none,none,none,some [0],some [15],some [16],some [17],none,some [1],some [20],some [21],none] [0,1,2,3,4,5,6,7,9,10,11,12,13,15,16,17,18,20,21,22,8,14,19,23] 20 [([0,1,8,9,10,11,12,13,14,15,16,17,18,19],[0,1,2,3,4,5,6,15,36,37,38,85,86,87]),([0,1,13,14,15,16,17,18,19],[0,1,2,3,4,5,6,16,21,36,37,38,85,86,87]),([1,17,18,19],[0,1,2,3,4,5,6,16,22,26,36,37,38,85,86,87])] [0,1,2,3,4,5,6,36,37,38,85,86,87] mixed rfl (by kernel_rfl) (by kernel_rfl) (by kernel_rfl) ?_|with_reducible refine zE [0,1,2,3,4,5,6,36,37,38,85,86,87] ?_
 all_goals try clear hs
 refine i6 (ι:={ q:Nat×(Nat→Gp×Gp) // q.1≤c.p.n.reg.length }) (fun q=>⟨117,[(1,.one (.ptr 0 0)),(2,.one (.ptr 7 0)),(3,.one (.ptr 0 0)),(36,iv (c.p.n.reg.length:Int)),(37,iv (q.1.1:Int))],.row [.vec 9 mmA.1 0 c.p.n.reg.length,.vec 11 mmB.1 0 c.p.n.notes.length,.im (.sl (c.p.holders.map o8)),.im (.sl (c.p.prints.map A3)),.im (rI c.machine),.im (rI c.of),.im (.sl (c.loop.links.map G8)),.im (rI c.loop.lo),.im (rI c.loop.hi),.im (.sl (c.pieces.map A9))] :: .vec 0 [] 0 true :: .vec 0 [] 0 true :: .vec 0 [] 0 true :: .vec 0 [] 0 true :: .vec 0 [] 0 true :: .vec 0 [] 0 true :: .row [.vec 1 0 0 0,.vec 2 0 0 0,.vec 3 0 0 0,.vec 4 0 0 0,.im (rI 0),.im (rI 0),.vec 5 0 0 0,.im (rI 0),.im (rI 0),.vec 6 0 0 0] :: .vec 5 [] 0 true :: .vec 5 (bB (fun k=>(4*k+13,4*k+15)) q.1.2 q.1.1 c.p.n.reg) mmA.1 mmA.2 :: .vec 10 [] 0 true :: .vec 10 (l8 (c.p.n.notes.map j9)) mmB.1 mmB.2 :: G0 (jB c.p.n.reg q.1.2) q.1.1⟩) (fun q=>c.p.n.reg.length-q.1.1) ⟨(0,fun _=>((0,false),(0,false))),by simp⟩ (zv [1,2,3,36,37] (by simp[wp,G0])) ?_
 rintro⟨⟨i,m⟩,hi⟩
 simp only at hi
 simp only[iv,rI]
 by_cases hlt:i<c.p.n.reg.length
 ·have hw:IntKind.i64.wrap ((i:Int)+1)=((i+1:Nat):Int):=o5 (by omega) (by have:=hk.p.n.1.1;omega)
  have hx0:c.p.n.reg[i]?=some c.p.n.reg[i]:=by simp[hlt]
  have hxm:=hk.p.n.1.2 _ (List.mem_of_getElem? hx0)
  generalize c.p.n.reg[i]=x at *
  have c3:=Ip (G:=G) x.items (by omega)
  have c4:=Is (G:=G) x.dims (by omega)
  unfold F6 at c3 c4
  simp only[List.length_map] at c3 c4
  have hat:∀ h,(bB (fun k=>(4*k+13,4*k+15)) m i c.p.n.reg)[i]'h=(g9 x).map .im:=fun h=>by
   have:=CV (b:=fun k=>(4*k+13,4*k+15)) (m:=m) hx0
   rw[List.getElem?_eq_getElem h] at this;exact Option.some.inj this
  simp only[g9,rI,List.map_cons,List.map_nil] at hat
  have hset:=fun g=>zT (b:=fun k=>(4*k+13,4*k+15)) (m:=m) hx0 g
  have hsuc:=fun g=>wo (m:=m) hx0 g
  have hs:=za hlt (za hw hat)
  repeat' first|with_reducible refine zz ?_|simp -dsimp[hs]|refine CallE.embed_ex [] (c3) ?_ ?_ ?_ ?_ ?_ ?_;(focus simp[u7];done);(focus simp;done);(focus simp;done);(focus simp;done);(focus refine o7 ?_;simp[u7,r8];done);intro mmC hmmC;try simp -dsimp[o4,u7,hs]|refine CallE.embed_ex [] (c4) ?_ ?_ ?_ ?_ ?_ ?_;(focus simp[u7];done);(focus simp;done);(focus simp;done);(focus simp;done);(focus refine o7 ?_;simp[u7,r8];done);intro mmD hmmD;try simp -dsimp[o4,u7,hs]|refine X7 (id:=7) (nt:=117) [none,none,none,none,none,none,none,none,none,none,none,none,some [0],some [12],none,some [1],some [15],none] [0,1,2,3,4,5,7,8,9,10,12,13,15,16,6,11,14,17] 14 [([0,1,6,7,8,9,10,11,12,13],[0,1,2,3,4,5,6,36,37,38,53,85,86,87]),([0,1,10,11,12,13],[0,1,2,3,4,5,6,36,37,38,54,58,85,86,87]),([1,12,13],[0,1,2,3,4,5,6,36,37,38,54,59,61,85,86,87])] [0,1,2,3,4,5,6,36,37,38,85,86,87] mixed rfl (by kernel_rfl) (by kernel_rfl) (by kernel_rfl) ?_|with_reducible refine zE [0,1,2,3,4,5,6,36,37,38,85,86,87] ?_|refine i9 ?_ ?_<;>intro h<;>try simp only[i7] at h
  all_goals try clear hs
  refine At.round ⟨(i+1,fN m i (mmC,mmD)),by simp only;omega⟩ (by simp only;omega) (Weak.of_keep [1,2,3,36,37] ?_)
  rw[← hset (mmC,mmD),hsuc (mmC,mmD)]
  simp
 ·obtain rfl:i=c.p.n.reg.length:=by omega
  have c5:=Gf (G:=G) c.p.holders (by have:=hk.p.p.h;omega)
  have c6:=Dz (G:=G) c.p.prints (by have:=hk.p.p.q;omega)
  unfold F6 at c5 c6
  simp only[List.length_map] at c5 c6
  have hs:=hlt
  repeat' first|with_reducible refine zz ?_|simp -dsimp[hs]|refine CallE.embed_ex [] (c5) ?_ ?_ ?_ ?_ ?_ ?_;(focus simp[u7];done);(focus simp;done);(focus simp;done);(focus simp;done);(focus refine o7 ?_;simp[u7,r8];done);intro mmE hmmE;try simp -dsimp[o4,u7,hs]|refine CallE.embed_ex [] (c6) ?_ ?_ ?_ ?_ ?_ ?_;(focus simp[u7];done);(focus simp;done);(focus simp;done);(focus simp;done);(focus refine o7 ?_;simp[u7,r8];done);intro mmF hmmF;try simp -dsimp[o4,u7,hs]|refine X7 (id:=9) (nt:=117) [none,none,none,none,none,none,none,none,none,none,none,none,some [0],some [12],none,some [1],some [15],none] [0,1,2,3,4,5,7,8,9,10,12,13,15,16,6,11,14,17] 14 [([0,1,6,7,8,9,10,11,12,13],[0,1,2,3,4,5,6,36,37,38,70,85,86,87]),([0,1,10,11,12,13],[0,1,2,3,4,5,6,36,37,38,71,75,85,86,87]),([1,12,13],[0,1,2,3,4,5,6,36,37,38,71,76,78,85,86,87])] [0,1,2,3,4,5,6,36,37,38,85,86,87] mixed rfl (by kernel_rfl) (by kernel_rfl) (by kernel_rfl) ?_|with_reducible refine zE [0,1,2,3,4,5,6,36,37,38,85,86,87] ?_|refine i9 ?_ ?_<;>intro h<;>try simp only[i7] at h
  all_goals try clear hs
  clear hlt hi
  generalize hN:c.p.n.reg.length=N at *
  refine i6 (ι:={ q:Nat×(Nat→Gp) // q.1≤c.p.holders.length }) (fun q=>⟨117,[(1,.one (.ptr 0 0)),(2,.one (.ptr 7 0)),(3,.one (.ptr 0 0)),(85,iv (c.p.holders.length:Int)),(86,iv (q.1.1:Int))],.row [.vec 9 mmA.1 0 N,.vec 11 mmB.1 0 c.p.n.notes.length,.vec (4*N+13) mmE.1 0 c.p.holders.length,.vec (4*N+15) mmF.1 0 c.p.prints.length,.im (rI c.machine),.im (rI c.of),.im (.sl (c.loop.links.map G8)),.im (rI c.loop.lo),.im (rI c.loop.hi),.im (.sl (c.pieces.map A9))] :: .vec 0 [] 0 true :: .vec 0 [] 0 true :: .vec 0 [] 0 true :: .vec 0 [] 0 true :: .vec 0 [] 0 true :: .vec 0 [] 0 true :: .row [.vec 1 0 0 0,.vec 2 0 0 0,.vec 3 0 0 0,.vec 4 0 0 0,.im (rI 0),.im (rI 0),.vec 5 0 0 0,.im (rI 0),.im (rI 0),.vec 6 0 0 0] :: .vec 5 [] 0 true :: .vec 5 (bB (fun k=>(4*k+13,4*k+15)) m N c.p.n.reg) mmA.1 mmA.2 :: .vec 10 [] 0 true :: .vec 10 (l8 (c.p.n.notes.map j9)) mmB.1 mmB.2 :: (G0 (jB c.p.n.reg m) N ++ .vec 4 [] 0 true :: .vec 4 (bE (fun k=>4*N+2*k+17) q.1.2 q.1.1 c.p.holders) mmE.1 mmE.2 :: .vec 7 [] 0 true :: .vec 7 (l8 (c.p.prints.map A3)) mmF.1 mmF.2 :: J1 (lk c.p.holders q.1.2) q.1.1)⟩) (fun q=>c.p.holders.length-q.1.1) ⟨(0,fun _=>(0,false)),by simp⟩ (zv [1,2,3,85,86] (by simp[wz,J1])) ?_
  rintro⟨⟨i,m2⟩,hi⟩
  simp only at hi
  simp only[iv,rI]
  by_cases hlt:i<c.p.holders.length
  ·have hw:IntKind.i64.wrap ((i:Int)+1)=((i+1:Nat):Int):=o5 (by omega) (by have:=hk.p.p.h;omega)
   have hx0:c.p.holders[i]?=some c.p.holders[i]:=by simp[hlt]
   have hxm:=hk.p.p.d _ (List.mem_of_getElem? hx0)
   generalize c.p.holders[i]=x at *
   have c3:=Ir (G:=G) x.draws (by omega)
   unfold F6 at c3
   simp only[List.length_map] at c3
   have hat:∀ h,(bE (fun k=>4*N+2*k+17) m2 i c.p.holders)[i]'h=(o8 x).map .im:=fun h=>by
    have:=De (b:=fun k=>4*N+2*k+17) (m:=m2) hx0
    rw[List.getElem?_eq_getElem h] at this;exact Option.some.inj this
   simp only[o8,rI,List.map_cons,List.map_nil] at hat
   have hset:=fun g=>Ag (b:=fun k=>4*N+2*k+17) (m:=m2) hx0 g
   have hsuc:=fun g=>wy (m:=m2) hx0 g
   have hs:=za hlt (za hw hat)
   repeat' first|with_reducible refine zz ?_|simp -dsimp[hs]|refine CallE.embed_ex [] (c3) ?_ ?_ ?_ ?_ ?_ ?_;(focus simp[u7];done);(focus simp;done);(focus simp;done);(focus simp;done);(focus refine o7 ?_;simp[u7,r8];done);intro mmC hmmC;try simp -dsimp[o4,u7,hs]|refine X7 (id:=13) (nt:=117) [none,none,none,none,none,none,none,none,none,none,none,none,none,none,some [3,4],some [14],none] [0,1,2,3,4,5,6,7,8,9,10,11,12,14,15,13,16] 15 [([0,1,2,3,4,13,14],[0,1,2,3,4,5,6,36,37,38,85,86,87,101])] [0,1,2,3,4,5,6,36,37,38,85,86,87] mixed rfl (by kernel_rfl) (by kernel_rfl) (by kernel_rfl) ?_|with_reducible refine zE [0,1,2,3,4,5,6,36,37,38,85,86,87] ?_|refine i9 ?_ ?_<;>intro h<;>try simp only[i7] at h
   all_goals try clear hs
   refine At.round ⟨(i+1,fN m2 i mmC),by simp only;omega⟩ (by simp only;omega) (Weak.of_keep [1,2,3,85,86] ?_)
   rw[← hset mmC,hsuc mmC]
   simp
   refine congrArg (fun a=>(bE (fun k=>4*N+2*k+17) m2 i c.p.holders).set i [_,_,_,DC.vec a _ _ _]) ?_
   omega
  ·obtain rfl:i=c.p.holders.length:=by omega
   have c7:=Ge (G:=G) c.loop.links (by have:=hk.l;omega)
   have c8:=DA (G:=G) c.pieces (by have:=hk.q;omega)
   unfold F6 at c7 c8
   simp only[List.length_map] at c7 c8
   have hs:=hlt
   repeat' first|(with_reducible first|refine zz ?_|refine zr ?_)|simp -dsimp[hs]|refine CallE.embed_ex [] (c7) ?_ ?_ ?_ ?_ ?_ ?_;(focus simp[u7];done);(focus simp;done);(focus simp;done);(focus simp;done);(focus refine o7 ?_;simp[u7,r8];done);intro mmG hmmG;try simp -dsimp[o4,u7,hs]|refine CallE.embed_ex [] (c8) ?_ ?_ ?_ ?_ ?_ ?_;(focus simp[u7];done);(focus simp;done);(focus simp;done);(focus simp;done);(focus refine o7 ?_;simp[u7,r8];done);intro mmH hmmH;try simp -dsimp[o4,u7,hs]|refine X7 (id:=15) (nt:=117) [none,none,none,none,none,none,none,some [],some [7],none,some [],none] [0,1,2,4,5,7,8,10,3,6,9,11] 8 [([3,4,5,6,7],[0,1,2,3,4,5,6,36,37,38,85,86,87,108]),([5,6,7],[0,1,2,3,4,5,6,36,37,38,85,86,87,109,111]),([7],[0,1,2,3,4,5,6,36,37,38,85,86,87,109,112,114])] [0,1,2,3,4,5,6,36,37,38,85,86,87] mixed rfl (by kernel_rfl) (by kernel_rfl) (by kernel_rfl) ?_|with_reducible refine zE [0,1,2,3,4,5,6,36,37,38,85,86,87] ?_|refine i9 ?_ ?_<;>intro h<;>try simp only[i7] at h
   all_goals try clear hs
   subst hQ
   refine⟨((mmA,mmB),m,(mmE,mmF),m2,(mmG,mmH)),trivial,?_,?_⟩
   ·simp only[oY,hN,DV.agg.injEq,List.cons.injEq,DC.vec.injEq,and_true,true_and,Nat.add_zero]
    exact⟨rfl,rfl,by omega,rfl,rfl,by omega⟩
   ·simp only[qD,oY,hN,List.cons.injEq,DObj.row.injEq,DC.vec.injEq,and_true,true_and,Nat.add_zero]
    exact⟨⟨rfl,rfl,by omega,rfl,rfl,by omega⟩,⟨rfl,rfl,by omega,rfl,rfl,by omega⟩,rfl,rfl⟩
end Go.Proofs
namespace Go.Proofs
open Go Go.Ab Tryz
variable {G:KB}
def xY (x:Piece) (lo hi:Int):Piece:=⟨x.holder,x.day,lo,hi⟩
def dt (c:Case) (k:Nat) (x:Piece) (lo hi:Int):Case:={ c with pieces:=c.pieces.set k (xY x lo hi) }
noncomputable def mR (c:Case) (n lo hi:Int):Int:=if V2 c n≠0 then V2 c n else match c.pieces[n.toNat]? with
 | some x=>if P7 lo hi x.lo x.hi=true then 0 else 2
 | none=>2
theorem CI {c:Case} {n lo hi:Int} (h:mR c n lo hi=0):r7 c=0∧∃ (k:Nat) (x:Piece),n=(k:Int)∧c.pieces[k]?=some x∧P7 lo hi x.lo x.hi=true:=by
 unfold mR at h
 by_cases h0:V2 c n=0
 ·rw[if_neg (by simp[h0])] at h
  obtain⟨he,hn0,hn1⟩:=qd h0
  obtain⟨k,rfl⟩:=Int.eq_ofNat_of_zero_le hn0
  rw[Int.toNat_natCast] at h
  cases hx:c.pieces[k]? with
  | none=>rw[hx] at h;simp at h
  | some x =>
    rw[hx] at h
    simp only at h
    by_cases hi':P7 lo hi x.lo x.hi=true
    ·exact⟨he,k,x,rfl,hx,hi'⟩
    ·rw[if_neg hi'] at h;exact absurd h (by decide)
 ·rw[if_pos (by exact h0)] at h;exact absurd h h0
def xZ (s:Nat) (m:BM) (c:Case) (lo hi:Int):List DObj:=.row (oY (9+s) m c) :: .row [.im (rI lo),.im (rI hi)] :: .vec 0 [] 0 true :: .vec 0 [] 0 true :: .vec 0 [] 0 true :: .vec 0 [] 0 true :: .vec 0 [] 0 true :: .vec 0 [] 0 true :: .row (oY (9+s) m c) :: qD (9+s) m c
theorem Ft {l:List Piece} {k:Nat} {x:Piece} (lo hi:Int) (h:l[k]?=some x):(l8 (l.map A9)).set k [.im (.raw (.int .i64 x.holder)),.im (.raw (.int .i64 x.day)),.im (.raw (.int .i64 lo)),.im (.raw (.int .i64 hi))]=l8 ((l.set k (xY x lo hi)).map A9):=by
 rw[List.map_set]
 unfold l8
 rw[List.map_set]
 rfl
theorem Bk (c:Case) (k:Nat) (x:Piece) (lo hi:Int) (hx0:c.pieces[k]?=some x) (h0:r7 c=0) (hin:P7 lo hi x.lo x.hi=true) (hG:p9 G) (hN:E8 G) (hS:A0 G) (hR:A2 G) (hk:KC c):DCall prog G 41 [o2 c,iv (k:Int),D6 lo hi] [] (fun d o=>∃ m:BM,True∧d=.tup [.agg (oY 9 m (dt c k x lo hi)),iv 0]∧o=xZ 0 m (dt c k x lo hi) lo hi):=by
 generalize hQ:(fun (d:DV) (o:List DObj)=>∃ m:BM,True∧d=.tup [.agg (oY 9 m (dt c k x lo hi)),iv 0]∧o=xZ 0 m (dt c k x lo hi) lo hi)=Q
 refine h9 func41 rfl ntmps41 (by simp) rfl ?_
 have hlt:k<c.pieces.length:=e7 hx0
 have hx:c.pieces[k]=x:=(List.getElem?_eq_some_iff.1 hx0).2
 have hq16:=hk.q
 have c1:=ia (G:=G) c hG hN hS hR hk
 rw[h0] at c1
 have c2:=O4 (G:=G) 0 ((c.pieces.length:Int)-1) [(k:Int)] (by simp)
 rw[show ([(k:Int)].all fun y=>decide (0≤y)&&decide (y≤(c.pieces.length:Int)-1))=true by simp;omega] at c2
 have c3:=bC (G:=G) lo hi x.lo x.hi
 rw[hin] at c3
 have hw:IntKind.i64.wrap ((c.pieces.length:Int)-1)=(c.pieces.length:Int)-1:=o5 (by omega) (by omega)
 have c4:=xk (G:=G) c hk
 simp only[o2,j4,D6] at c1 c3 c4 ⊢
 have hs:=za hx (za hlt hw)
 repeat' first|(with_reducible first|refine zz ?_|refine zr ?_)|simp -dsimp[hs]|refine zp c1 ?_|refine zq c2 ?_|refine zq c3 ?_|refine CallE.embed_ex [] c4 ?_ ?_ ?_ ?_ ?_ ?_;(focus simp[u7];done);(focus simp;done);(focus simp;done);(focus simp;done);(focus refine o7 ?_;simp[u7,r8];done);intro mmA hmmA;(try simp only[ss,qx,jz,yz,EO,Nat.zero_add]);try simp -dsimp[oY,qD]|refine zM 4 52 27 [0,1,2,3,5,6,7,8,12,41] ?_|with_reducible refine zE [0,1,2,3,5,6,7,8,12,41] ?_|refine i9 ?_ ?_<;>intro h<;>try simp only[i7] at h
 subst hQ
 have hst:=Ft lo hi hx0
 refine⟨mmA,trivial,?_,?_⟩
 ·simp[oY,dt]
 ·simp[xZ,qD,oY,dt,hst]
def ka:Case:=⟨⟨⟨[],[]⟩,[],[]⟩,0,0,⟨[],0,0⟩,[]⟩
noncomputable def Eu (c:Case) (n lo hi:Int):Case:=if mR c n lo hi=0 then (match c.pieces[n.toNat]? with|some x=>dt c n.toNat x lo hi|none=>ka) else ka
theorem ux {c:Case} {k:Nat} {x:Piece} {lo hi:Int} (h:mR c (k:Int) lo hi=0) (hx:c.pieces[k]?=some x):Eu c (k:Int) lo hi=dt c k x lo hi:=by
 unfold Eu;rw[if_pos h,Int.toNat_natCast,hx]
theorem Fv {c:Case} {n lo hi:Int} (h:¬ mR c n lo hi=0):Eu c n lo hi=ka:=by
 unfold Eu;rw[if_neg h]
theorem zu {c:Case} {k:Nat} {x:Piece} (lo hi:Int) (h0:r7 c=0) (hx:c.pieces[k]?=some x):mR c (k:Int) lo hi=if P7 lo hi x.lo x.hi=true then 0 else 2:=by
 have hlt:=e7 hx
 have h1:V2 c (k:Int)=0:=by unfold V2;rw[if_neg (by simp[h0]),if_pos (by omega)]
 unfold mR
 rw[if_neg (by simp[h1]),Int.toNat_natCast,hx]
theorem CJ {c:Case} {n:Int} (lo hi:Int) (h0:r7 c=0) (hn:¬ (0≤n∧n<c.pieces.length)):mR c n lo hi=2:=by
 have h1:V2 c n=2:=by unfold V2;rw[if_neg (by simp[h0]),if_neg hn]
 unfold mR
 rw[if_pos (by rw[h1];decide),h1]
theorem CL {c:Case} (n lo hi:Int) (h0:¬ r7 c=0):mR c n lo hi=r7 c:=by
 have h1:V2 c n=r7 c:=by unfold V2;rw[if_pos h0]
 unfold mR
 rw[if_pos (by rw[h1];exact h0),h1]
theorem Bl (c:Case) (n lo hi:Int) (h:¬ mR c n lo hi=0) (hG:p9 G) (hN:E8 G) (hS:A0 G) (hR:A2 G) (hk:KC c):zP prog G 41 [o2 c,iv n,D6 lo hi] (.tup [o2 ka,iv (mR c n lo hi)]):=by
 refine zf func41 ntmps41 ?_
 try simp only[iv,D6]
 have c1:=ia (G:=G) c hG hN hS hR hk
 have hq16:=hk.q
 simp only[o2,j4,D6] at c1 ⊢
 by_cases h0:r7 c=0
 ·rw[h0] at c1
  have hw:IntKind.i64.wrap ((c.pieces.length:Int)-1)=(c.pieces.length:Int)-1:=o5 (by omega) (by omega)
  have c2:=O4 (G:=G) 0 ((c.pieces.length:Int)-1) [n] (by simp)
  by_cases hn:0≤n∧n<c.pieces.length
  ·obtain⟨k,rfl⟩:=Int.eq_ofNat_of_zero_le hn.1
   have hlt:k<c.pieces.length:=by omega
   have hx0:c.pieces[k]?=some c.pieces[k]:=by simp[hlt]
   have hE:=zu lo hi h0 hx0
   generalize hx:c.pieces[k]=x at *
   have c3:=bC (G:=G) lo hi x.lo x.hi
   rw[show ([(k:Int)].all fun y=>decide (0≤y)&&decide (y≤(c.pieces.length:Int)-1))=true by simp;omega] at c2
   have hin:P7 lo hi x.lo x.hi=false:=by
    cases hb:P7 lo hi x.lo x.hi
    ·rfl
    ·rw[hb,if_pos rfl] at hE;exact absurd hE h
   rw[hin,if_neg (by decide)] at hE
   rw[hin] at c3
   rw[hE]
   simp only[D6] at c3
   have hs:=za hx (za hlt hw)
   repeat' first|(with_reducible first|refine zz ?_|refine zr ?_)|simp -dsimp[hs]|refine zp c1 ?_|refine zq c2 ?_|refine zq c3 ?_|refine zM 4 52 27 [0,1,2,3,5,6,7,8,12,41] ?_|with_reducible refine zE [0,1,2,3,5,6,7,8,12,41] ?_|refine i9 ?_ ?_<;>intro h<;>try simp only[i7] at h
   all_goals simp[ka]
  ·have hE:=CJ lo hi h0 hn
   rw[show ([n].all fun y=>decide (0≤y)&&decide (y≤(c.pieces.length:Int)-1))=false by simp;omega] at c2
   rw[hE]
   have hs:=hw
   repeat' first|(with_reducible first|refine zz ?_|refine zr ?_)|simp -dsimp[hs]|refine zp c1 ?_|refine zq c2 ?_|refine zM 4 52 27 [0,1,2,3,5,6,7,8,12,41] ?_|with_reducible refine zE [0,1,2,3,5,6,7,8,12,41] ?_|refine i9 ?_ ?_<;>intro h<;>try simp only[i7] at h
   all_goals simp[ka]
 ·have hE:=CL n lo hi h0
  rw[hE]
  have hs:=h0
  repeat' first|(with_reducible first|refine zz ?_|refine zr ?_|refine zE [0,1,2,3,5,6,7,8,12,41] ?_)|simp -dsimp[hs]|refine zp c1 ?_|refine i9 ?_ ?_<;>intro h<;>try simp only[i7] at h
  all_goals simp[ka]
end Go.Proofs
namespace Go.Ab
open Go
theorem Av {i n:Nat} (h:i<n) (F:Nat→Q4) (R:List DObj):(G0 F n++R)[4*i+1]?=some (F i).2.1:=by
 rw[List.getElem?_append_left (by simp;omega),iO F (by omega) h];rfl
theorem Au {i n:Nat} (h:i<n) (F:Nat→Q4) (R:List DObj):(G0 F n++R)[4*i+3]?=some (F i).2.2.2:=by
 rw[List.getElem?_append_left (by simp;omega),iO F (by omega) h];rfl
theorem Aw {i n:Nat} (h:i<n) (F:Nat→Q2) (R:List DObj):(J1 F n++R)[2*i+1]?=some (F i).2:=by
 rw[List.getElem?_append_left (by simp;omega),np F (by omega) h];rfl
theorem ot {α β:Type} {f:α→Option β}:∀ {l:List α} {r:List β},l.length=r.length→(∀ (i:Nat) (x:α),l[i]?=some x→f x=r[i]?)→E4 f l=some r
 | [],[],_,_=>rfl
 | [],_ :: _,h,_=>by simp at h
 | _ :: _,[],h,_=>by simp at h
 | x :: l,y :: r,h,h2=>by
   have h0:=h2 0 x rfl
   have h1:=ot (f:=f) (l:=l) (r:=r) (by simpa using h) (fun i z hz=>by simpa using h2 (i+1) z (by simpa using hz))
   simp only[List.getElem?_cons_zero] at h0
   simp only[E4,h0,h1]
theorem gz {k o g len sz:Nat} {nl:Bool} {objs:List DObj} {es:List (List DC)} {L:List (List IC)} (ho:objs[o]?=some (.vec sz es g nl)) (hl:es.length=len) (h:E4 (E4 (frz k 0 objs)) es=some L):frz (k+1) 0 objs (.vec o g 0 len)=some (.sl L):=by
 subst hl
 simp only[frz,ho,Nat.zero_le,if_true,Nat.zero_add,Nat.le_refl,and_self,List.drop_zero,List.take_length,h,Option.map_some]
theorem ej {o g len sz:Nat} {nl:Bool} {objs:List DObj} {es:List (List DC)} {L:List (List IC)} (ho:objs[o]?=some (.vec sz es g nl)) (hl:es.length=len) (h:E4 (E4 (frz 19 0 objs)) es=some L):fz 0 objs (.vec o g 0 len)=.im (.sl L):=by
 simp only[fz,DC.lt,gz ho hl h]
 simp
theorem FP {s:Nat} {m:BM} {c:Case} {objs:List DObj} (h1:objs[9+s]?=some (.vec 5 (bB (tq s) m.2.1 c.p.n.reg.length c.p.n.reg) m.1.1.1 m.1.1.2)) (h2:objs[11+s]?=some (.vec 10 (l8 (c.p.n.notes.map j9)) m.1.2.1 m.1.2.2))
 (h3:objs[4*c.p.n.reg.length+(13+s)]?=some (.vec 4 (bE (tr c.p.n.reg.length s) m.2.2.2.1 c.p.holders.length c.p.holders) m.2.2.1.1.1 m.2.2.1.1.2)) (h4:objs[4*c.p.n.reg.length+(15+s)]?=some (.vec 7 (l8 (c.p.prints.map A3)) m.2.2.1.2.1 m.2.2.1.2.2))
 (h5:objs[4*c.p.n.reg.length+2*c.p.holders.length+(17+s)]?=some (.vec 3 (l8 (c.loop.links.map G8)) m.2.2.2.2.1.1 m.2.2.2.2.1.2)) (h6:objs[4*c.p.n.reg.length+2*c.p.holders.length+(19+s)]?=some (.vec 4 (l8 (c.pieces.map A9)) m.2.2.2.2.2.1 m.2.2.2.2.2.2))
 (hA:∀ (k:Nat) (x:Issue),c.p.n.reg[k]?=some x→objs[4*k+(13+s)]?=some (.vec 2 (l8 (x.items.map B5)) (m.2.1 k).1.1 (m.2.1 k).1.2)∧objs[4*k+(15+s)]?=some (.vec 3 (l8 (x.dims.map E5)) (m.2.1 k).2.1 (m.2.1 k).2.2))
 (hB:∀ (k:Nat) (x:Holder),c.p.holders[k]?=some x→objs[4*c.p.n.reg.length+2*k+(17+s)]?=some (.vec 1 (l8 (x.draws.map Ab.encI)) (m.2.2.2.1 k).1 (m.2.2.2.1 k).2)):(oY s m c).map (fz 0 objs)=(j4 c).map .im:=by
 have e1:E4 (E4 (frz 19 0 objs)) (bB (tq s) m.2.1 c.p.n.reg.length c.p.n.reg)=some (c.p.n.reg.map g9):=by
  refine ot (by simp) fun i r hr=>?_
  simp only[bB,List.getElem?_mapIdx,Option.map_eq_some_iff] at hr
  obtain⟨x,hx,rfl⟩:=hr
  rw[List.getElem?_map,hx]
  obtain⟨a1,a2⟩:=hA i x hx
  have b1:=gz (k:=18) (len:=x.items.length) a1 (by simp[l8]) (S9 _ _ _ _)
  have b2:=gz (k:=18) (len:=x.dims.length) a2 (by simp[l8]) (S9 _ _ _ _)
  have hlt:=e7 hx
  have f1:∀ c:IC,frz 19 0 objs (.im c)=some c:=fun _=>rfl
  simp only[sJ,if_pos hlt,E4,f1,tq,b1,b2,Option.map_some,g9]
 have e2:E4 (E4 (frz 19 0 objs)) (bE (tr c.p.n.reg.length s) m.2.2.2.1 c.p.holders.length c.p.holders)=some (c.p.holders.map o8):=by
  refine ot (by simp) fun i r hr=>?_
  simp only[bE,List.getElem?_mapIdx,Option.map_eq_some_iff] at hr
  obtain⟨x,hx,rfl⟩:=hr
  rw[List.getElem?_map,hx]
  have b1:=gz (k:=18) (len:=x.draws.length) (hB i x hx) (by simp[l8]) (S9 _ _ _ _)
  have hlt:=e7 hx
  have f1:∀ c:IC,frz 19 0 objs (.im c)=some c:=fun _=>rfl
  simp only[sN,if_pos hlt,E4,f1,tr,b1,Option.map_some,o8]
 simp only[oY,List.map_cons,List.map_nil,j4]
 rw[ej h1 (by simp) e1,ej h2 (by simp[l8]) (S9 _ _ _ _),ej h3 (by simp) e2,ej h4 (by simp[l8]) (S9 _ _ _ _),ej h5 (by simp[l8]) (S9 _ _ _ _),ej h6 (by simp[l8]) (S9 _ _ _ _)]
 rfl
end Go.Ab
namespace Go.Proofs
open Go Go.Ab Tryz
variable {G:KB}
attribute [simp] s7 cG N9 gQ v6 B0 nilV J9 ZK
theorem jQ (c:Case) (s:Susp) (w:Int) (h1:0≤s.kind∧s.kind≤255) (hG:p9 G) (hN:E8 G) (hS:A0 G) (hR:A2 G) (hC:N0 G) (hK:ci G) (hk:KC c):zP prog G 45 [o2 c,F1 s,vh w] (bv (decide (fo c s=0)&&decide (fm c s=w))):=by
 refine zf func45 ntmps45 ?_
 try simp only[vh]
 have c1:=qV (G:=G) c s h1 hG hN hS hR hC hK hk
 generalize fm c s=A at *
 generalize fo c s=B at *
 simp only[o2,j4,F1,j7,rI,List.map_cons,List.map_nil] at c1 ⊢
 have hs:=trivial
 repeat' first|(with_reducible first|refine zz ?_|refine zr ?_|refine zE [0,1,2,3,4,6,7,8] ?_)|simp -dsimp[hs]|refine zp c1 ?_|with_reducible refine j0 ?_ ?_<;>intro h<;>have h0:=h<;>(try simp only[i7] at h)<;>have h2:=h<;>(try simp at h2)<;>replace hs:=za h0 (za h (za h2 hs))
 all_goals simp
theorem Dk (m:BM) (c:Case) (lo hi:Int):(oY 9 m c).map (fz 0 (xZ 0 m c lo hi))=(j4 c).map .im:=by
 refine FP (s:=9) (m:=m) (c:=c) ?_ ?_ ?_ ?_ ?_ ?_ ?_ ?_
 ·simp[xZ,qD]
 ·simp[xZ,qD]
 ·simp[xZ,qD]
 ·simp[xZ,qD]
 ·simp[xZ,qD]
 ·simp[xZ,qD]
 ·intro k x hx
  have hlt:=e7 hx
  have a1:=Av hlt
  have a3:=Au hlt
  simp[xZ,qD,a1,a3,jB,hx]
 ·intro k x hx
  have hlt:=e7 hx
  have a1:=Aw hlt
  simp[xZ,qD,a1,lk,hx]
theorem lN (c:Case) (n lo hi:Int) (hG:p9 G) (hN:E8 G) (hS:A0 G) (hR:A2 G) (hk:KC c) (objs:List DObj):DCall prog G 41 [o2 c,iv n,D6 lo hi] objs (fun d objs'=>d=.tup [o2 (Eu c n lo hi),iv (mR c n lo hi)]∧objs'=objs):=by
 by_cases h:mR c n lo hi=0
 ·obtain⟨he,k,x,rfl,hx0,hin⟩:=CI h
  rw[ux h hx0,h]
  refine DCall.frame ?_ (by simp) (by simp) objs
  refine(Bk (G:=G) c k x lo hi hx0 he hin hG hN hS hR hk).mono ?_
  rintro d o ⟨m,_,rfl,rfl⟩
  have:=Dk m (dt c k x lo hi) lo hi
  simp only[fw,fzVL,this]
  rfl
 ·rw[Fv h]
  exact Bl (G:=G) c n lo hi h hG hN hS hR hk objs
theorem xf:dU boltP:=by
 refine⟨?_,?_⟩
 ·exact⟨by decide,by decide⟩
 ·intro x hx
  simp only[boltP,List.mem_cons,List.not_mem_nil,or_false] at hx
  rcases hx with rfl|rfl|rfl|rfl<;>exact⟨by decide,by decide⟩
theorem tC:R8 boltC=true:=by decide +kernel
theorem tD:v7 boltP.n=0:=by decide +kernel
theorem xe:nums boltP.n.reg=[1,2,3]:=by decide +kernel
theorem qS:PrintsOk boltP:=by
 refine⟨by decide,by decide,fun i x hx=>?_,fun i x hx=>?_⟩
 ·rw[xe]
  have h:=List.getElem?_eq_some_iff.1 hx
  obtain⟨h1,h2⟩:=h
  have h1':i<2:=h1
  rcases i with _|_|i
  ·cases hx
   refine⟨by unfold IL;simp,fun k d hd=>?_⟩
   rcases k with _|_|k
   ·cases hd;exact⟨by decide,by simp⟩
   ·cases hd;exact⟨by decide,fun _ e he=>by cases he;decide⟩
   ·exact absurd hd (by simp)
  ·cases hx
   refine⟨?_,fun k d hd=>?_⟩
   ·refine⟨by decide,fun _ y hy=>?_,by decide,by decide,by decide,by decide⟩
    cases hy;decide
   ·rcases k with _|k
    ·cases hd;exact⟨by decide,by simp⟩
    ·exact absurd hd (by simp)
  ·omega
 ·obtain⟨h1,h2⟩:=List.getElem?_eq_some_iff.1 hx
  have h1':i<4:=h1
  rcases i with _|_|_|_|i
  ·cases hx;exact⟨by simp,fun c hc=>by rcases c with _|_|_|_|_|c<;>first|decide +kernel|omega⟩
  ·cases hx;exact⟨fun _ y hy=>by cases hy;decide,fun c hc=>by rcases c with _|_|_|_|_|c<;>first|decide +kernel|omega⟩
  ·cases hx;exact⟨fun _ y hy=>by cases hy;decide,fun c hc=>by rcases c with _|_|_|_|_|c<;>first|decide +kernel|omega⟩
  ·cases hx;exact⟨fun _ y hy=>by cases hy;decide,fun c hc=>by rcases c with _|_|_|_|_|c<;>first|decide +kernel|omega⟩
  ·omega
theorem gW:s9 boltP=0:=by
 unfold s9
 rw[if_neg (by rw[tD];decide),if_pos (dl qS)]
theorem V6:r7 boltC=0:=by
 unfold r7
 rw[if_neg (by rw[show boltC.p=boltP from rfl,gW];decide),if_pos (by decide +kernel)]
theorem bolt_k:tO boltC∧KC boltC:=BJ xf tC
theorem qR:aH boltC=(15,17):=by
 unfold aH;rw[if_pos V6];decide +kernel
theorem nJ:ap boltC=0:=by
 unfold ap;rw[if_pos V6,qR];decide +kernel
theorem N1:H8 boltC=0:=by
 unfold H8;rw[if_neg (by rw[V6];decide),if_neg (by rw[nJ];decide)]
theorem lK (d i w:Int) (hd:wW d 1=true) (h:(boltP.holders.any fun y=>decide (y.id=i))=true∧w∈nums boltP.n.reg):T7 boltP d 1 i w=0:=by
 unfold T7 K7
 rw[if_neg,if_pos h]
 rw[if_neg (by rw[gW];decide),if_pos hd];decide
theorem uD {l r:List Int} (hp:l.Perm r) (hs:r.Pairwise (·≤·)):l4 l=r:=
 List.Perm.eq_of_pairwise (fun a b _ _ h1 h2=>by omega) (oD l) hs (((List.mergeSort_perm l _)).trans hp)
theorem lJ:H6 boltC 0=[1,2]:=by
 show N6 boltP 20 2 2=_
 unfold N6
 rw[if_pos (lK 20 2 2 (by decide) (by decide +kernel))]
 unfold aS
 have e:l4 (ae 20 2 2 boltP.prints++[bl 20 2 2 boltP.prints])=[1,2]:=uD (by decide +kernel) (by decide +kernel)
 rw[e];decide +kernel
theorem lI:H6 boltC 1=[1]:=by
 show N6 boltP 20 1 3=_
 unfold N6
 rw[if_pos (lK 20 1 3 (by decide) (by decide +kernel))]
 unfold aS
 have e:l4 (ae 20 1 3 boltP.prints++[bl 20 1 3 boltP.prints])=[1]:=uD (by decide +kernel) (by decide +kernel)
 rw[e];decide +kernel
theorem nI:l4 (l5 boltP.n.notes)=[]:=by decide +kernel
theorem DJ:xW boltC []=false:=by decide +kernel
theorem DL:ig boltC [] 0=[(true,false),(false,true)]:=by
 show (H6 boltC 0).foldl (H5 boltC ⟨2,0,false⟩ ⟨2,20,106,107⟩ (cO boltC [] 2)) []=_
 rw[lJ];decide +kernel
theorem DK:ig boltC [] 1=[(false,false)]:=by
 show (H6 boltC 1).foldl (H5 boltC ⟨3,0,true⟩ ⟨1,20,90,91⟩ (cO boltC [] 3)) []=_
 rw[lI];decide +kernel
def gX:Desk:=⟨boltC,false,[[(true,false),(false,true)],[(false,false)]]⟩
theorem nK:D8 boltC []=gX:=by
 unfold D8 gX
 rw[DJ,show (List.range boltC.pieces.length).map (ig boltC [])=[ig boltC [] 0,ig boltC [] 1] from rfl,DL,DK]
theorem aC:o9 boltC=[gX]:=by
 unfold o9
 rw[show boltC.p=boltP from rfl,nI,show nS ([]:List Int)=[[]] by decide +kernel]
 simp[nK]
theorem bolt_sus:nT boltC 2=[]∧nT boltC 1=[⟨2,0⟩,⟨3,0⟩]:=by
 unfold nT GU Ev
 rw[if_pos N1,if_pos N1,aC]
 decide +kernel
theorem Bb:tL boltC=[⟨2,0⟩,⟨3,0⟩]:=by
 unfold tL Bq
 rw[if_pos N1,aC]
 decide +kernel
theorem AZ:sX boltC=[⟨2,0⟩]:=by
 unfold sX
 rw[if_pos N1,aC]
 decide +kernel
theorem Ba:qF boltC=(1,1):=by
 unfold qF
 rw[if_pos N1,aC]
 decide +kernel
theorem dR (k:Nat) (h:k<2):V2 boltC k=0∧gu boltC k=H6 boltC k:=by
 have e:V2 boltC k=0:=by
  unfold V2
  rw[if_neg (by rw[V6];decide),if_pos ⟨by omega,by show (k:Int)<((2:Nat):Int);omega⟩]
 exact⟨e,by unfold gu;rw[if_pos e];rfl⟩
theorem bolt_clr:fE boltC 1=0∧jF boltC 1=(90,91):=by
 have e0:=(dR 1 (by decide)).1
 have e:O0 boltC 1=(90,91):=by
  show (gu boltC ((1:Nat):Int)).foldl (F8 boltC ⟨3,0,true⟩) (90,91)=_
  rw[(dR 1 (by decide)).2,lI];decide +kernel
 have e1:fE boltC 1=0:=by
  unfold fE
  rw[if_neg (by rw[show (1:Int)=((1:Nat):Int) from rfl,e0];decide),e];decide
 exact⟨e1,by unfold jF;rw[if_pos e1,e]⟩
theorem V5 (s:Susp) (h:pm 2 s=true):fo boltC s=0∧fm boltC s=H4 [gX] s:=by
 have e:fo boltC s=0:=by
  unfold fo
  rw[if_neg (by rw[N1];decide),if_pos (show pm boltC.pieces.length s=true from h)]
 exact⟨e,by unfold fm;rw[if_pos e,aC]⟩
theorem qT (s:Susp) (h:pm 2 s=true):kT boltC [] s=0∧iJ boltC [] s=H4 [gX] s:=by
 have e:kT boltC [] s=0:=by
  unfold kT
  rw[if_neg (by rw[N1];decide),if_neg (by rw[show boltC.p=boltP from rfl,nI];decide),if_pos (show pm boltC.pieces.length s=true from h)]
 exact⟨e,by unfold iJ;rw[if_pos e,nK]⟩
def EC:Case:={ boltC with pieces:=[⟨2,20,107,107⟩,⟨1,20,90,91⟩] }
theorem bolt_ms:mR boltC 0 107 107=0∧Eu boltC 0 107 107=EC:=by
 have e0:=(dR 0 (by decide)).1
 have e1:mR boltC 0 107 107=0:=by
  unfold mR
  rw[if_neg (by rw[show (0:Int)=((0:Nat):Int) from rfl,e0];decide)];rfl
 exact⟨e1,by unfold Eu;rw[if_pos e1];rfl⟩
set_option maxRecDepth 10000 in
theorem DQ (hG:p9 G) (hN:E8 G) (hS:A0 G) (hU:W5 G) (hR:A2 G) (hC:N0 G) (hK:ci G) (hF:jD G):zP prog G 32 [] (bv true):=by
 refine zf func32 ntmps32 ?_
 try simp only[iv]
 have hk:=bolt_k.2
 have c0:=Gn (G:=G)
 have c1:=Bj (G:=G) boltC hG hN hS hR hk
 have c2:=uU (G:=G) boltC hG hN hS hR hk
 have c3:=lO (G:=G) boltC 0 hG hN hS hR hk
 have c4:=qU (G:=G) boltC hG hN hS hU hR hC hK hk
 have c5:=Bn (G:=G) boltC hG hN hS hU hR hC hF hk
 have c6:=xj (G:=G) boltC hG hN hS hU hR hC hF hk
 have c7:=Bm (G:=G) boltC hG hN hS hU hR hC hF hk
 have c8:=qX (G:=G) boltC 1 hG hN hS hR hk
 have c9:=lN (G:=G) boltC 0 107 107 hG hN hS hR hk
 have c10:=Gs (G:=G) boltC [] ⟨2,0⟩ (by decide) (by decide) hG hN hS hR hC hK hk
 rw[qR,V6] at c1
 rw[nJ,V6] at c2
 rw[show (0:Int)=((0:Nat):Int) from rfl,(dR 0 (by decide)).1,(dR 0 (by decide)).2,lJ] at c3
 rw[bolt_sus.1,bolt_sus.2,N1] at c4
 rw[Bb,N1] at c5
 rw[AZ,N1] at c6
 rw[Ba,N1] at c7
 rw[bolt_clr.1,bolt_clr.2] at c8
 rw[bolt_ms.1,bolt_ms.2] at c9
 rw[(qT ⟨2,0⟩ (by decide)).1,(qT ⟨2,0⟩ (by decide)).2,show H4 [gX] ⟨2,0⟩=1 by decide] at c10
 have d1:=jQ (G:=G) boltC ⟨1,0⟩ 0 (by decide) hG hN hS hR hC hK hk
 have d2:=jQ (G:=G) boltC ⟨3,0⟩ 1 (by decide) hG hN hS hR hC hK hk
 have d3:=jQ (G:=G) boltC ⟨2,1⟩ 0 (by decide) hG hN hS hR hC hK hk
 rw[(V5 ⟨1,0⟩ (by decide)).1,(V5 ⟨1,0⟩ (by decide)).2,show H4 [gX] ⟨1,0⟩=0 by decide] at d1
 rw[(V5 ⟨3,0⟩ (by decide)).1,(V5 ⟨3,0⟩ (by decide)).2,show H4 [gX] ⟨3,0⟩=1 by decide] at d2
 rw[(V5 ⟨2,1⟩ (by decide)).1,(V5 ⟨2,1⟩ (by decide)).2,show H4 [gX] ⟨2,1⟩=0 by decide] at d3
 simp only[decide_true,Bool.and_self] at d1 d2 d3
 have s0:=EH (G:=G)
 have s1:=yf (G:=G) 0
 have s2:=yf (G:=G) 1
 have s3:=yg (G:=G) 0
 have p1:=da (G:=G) 15 17
 have p2:=da (G:=G) 90 91
 have p3:=da (G:=G) 107 107
 have p4:=da (G:=G) 1 1
 have q1:=rQ (G:=G) [1,2] [1,2] (by simp)
 simp only[decide_true] at q1
 have q2:=mN (G:=G) [⟨2,0⟩,⟨3,0⟩] (by simp)
 have q3:=mN (G:=G) [⟨2,0⟩] (by simp)
 simp only[o2,F1,j7,D5,D6,vh,u9,Ab.encI,rI,List.map_cons,List.map_nil,Int.natCast_zero] at *
 obtain⟨m1,m2,m3,m4,m5,m6,m7,m8,m9,hM⟩:∃ m1 m2 m3 m4 m5 m6 m7 m8 m9,(j4 EC).map DC.im=[.im m1,.im m2,.im m3,.im m4,.im m5,.im m6,.im m7,.im m8,.im m9,.im (.sl ([⟨2,20,107,107⟩,⟨1,20,90,91⟩].map A9))]:=⟨_,_,_,_,_,_,_,_,_,rfl⟩
 rw[hM] at c9
 obtain⟨X,hX⟩:∃ X,j4 boltC=X:=⟨_,rfl⟩
 have hXf:∃ a b c d e f g h i j,X=[a,b,c,d,e,f,g,h,i,j]:=⟨_,_,_,_,_,_,_,_,_,_,hX.symm⟩
 obtain⟨x1,x2,x3,x4,x5,x6,x7,x8,x9,x10,rfl⟩:=hXf
 rw[hX] at c0 c1 c2 c3 c4 c5 c6 c7 c8 c9 c10 d1 d2 d3
 simp only[A9,rI,List.map_cons,List.map_nil] at *
 repeat' first|(with_reducible first|refine zz ?_|refine zx ?_)|simp -dsimp|refine zp c0 ?_|refine zp c1 ?_|refine zp c2 ?_|refine zp c3 ?_|refine zp c4 ?_|refine zp c5 ?_|refine zp c6 ?_|refine zp c7 ?_|refine zp c8 ?_|refine zp c9 ?_|refine zp c10 ?_|refine zp s1 ?_|refine zp s3 ?_|refine zp p3 ?_|refine zq q1 ?_|refine zq d1 ?_|refine zq d2 ?_|refine zq d3 ?_|refine zq p1 ?_|refine zq p2 ?_|refine zq p3 ?_|refine zq p4 ?_|refine zq s0 ?_|refine zq s2 ?_|refine zq s3 ?_|refine zq c0 ?_|refine QCall.thaw (q2) ?_ ?_ ?_;(focus simp;done);(focus simp;done)|refine QCall.thaw (q3) ?_ ?_ ?_;(focus simp;done);(focus simp;done)|refine zM 12 198 70 [0,1,2,3,4,5,6,7,8,9,10,11,12,13,14,15,16,17,18,19,20,21,22,148] ?_|refine zM 14 198 50 [0,1,2,3,4,5,6,7,8,9,10,11,12,13,14,15,16,17,18,19,20,21,22,148] ?_|with_reducible refine zE [0,1,2,3,4,5,6,7,8,9,10,11,12,13,14,15,16,17,18,19,20,21,22,148] ?_|refine i9 ?_ ?_<;>intro h<;>try simp only[i7] at h
end Go.Proofs
namespace Go.Proofs
open Go Go.Ab
def yo (b:Bool) (f:Nat→J6) (n:Nat):List Susp:=gr b (fun i=>(f i).1) (fun i=>(f i).2) n
def Kn (d:Desk) (f:Nat→J6):Prop:=∀ i,i<d.faults.length→f i∈d.faults.getD i []
theorem selS_mem {b:Bool} {f:Nat→J6} {n:Nat} {s:Susp}:s∈yo b f n↔(b=true∧s=⟨1,0⟩)∨(∃ i,i<n∧(f i).1=true∧s=pN i)∨(∃ i,i<n∧(f i).2=true∧s=dz i):=listS_mem
theorem zQ {D:List Desk} {s:Susp} (h:H4 D s=0):∀ d∈D,kV d s true=false:=by
 intro d hd
 unfold H4 at h
 split at h
 ·rename_i h1
  rw[List.any_eq_false] at h1
  simpa using h1 d hd
 ·split at h<;>exact absurd h (by decide)
theorem vR (a b:Susp):N3 a b=-(N3 b a):=by
 unfold N3 U8 U8 U8
 repeat' split
 all_goals omega
theorem Cv {a b c:Susp} (h1:N3 a b≤0) (h2:N3 b c≤0):N3 a c≤0∧(N3 a c=0→N3 a b=0∧N3 b c=0):=by
 unfold N3 U8 U8 U8 at *
 repeat' split at h1
 all_goals repeat' split at h2
 all_goals repeat' split
 all_goals omega
theorem lF:∀ a b:List Susp,K5 a b=-(K5 b a)
 | [],[]=>rfl
 | [],_ :: _=>rfl
 | _ :: _,[]=>rfl
 | a :: x,b :: y=>by
   have h1:=vR a b
   simp only[K5]
   by_cases h:N3 a b=0
   ·have h':N3 b a=0:=by omega
    rw[if_neg (by simp[h]),if_neg (by simp[h'])]
    exact lF x y
   ·have h':¬ N3 b a=0:=by omega
    rw[if_pos h,if_pos h']
    exact h1
theorem qI:∀ {a b c:List Susp},K5 a b≤0→K5 b c≤0→K5 a c≤0
 | [],_,[],_,_=>by simp[K5]
 | [],_,_ :: _,_,_=>by simp[K5]
 | _ :: _,[],_,h,_=>by simp[K5] at h
 | _ :: _,_ :: _,[],_,h=>by simp[K5] at h
 | a :: x,b :: y,d :: z,h1,h2=>by
   simp only[K5] at h1 h2 ⊢
   have hp:=@Cv a b d
   by_cases e1:N3 a b=0
   ·rw[if_neg (by simp[e1])] at h1
    by_cases e2:N3 b d=0
    ·rw[if_neg (by simp[e2])] at h2
     obtain⟨p1,p2⟩:=hp (by omega) (by omega)
     have e3:N3 a d=0:=by rw[vQ] at *;rw[e1,e2]
     rw[if_neg (by simp[e3])]
     exact qI h1 h2
    ·rw[if_pos e2] at h2
     obtain⟨p1,p2⟩:=hp (by omega) h2
     have:N3 a d≠0:=fun e=>e2 (p2 e).2
     rw[if_pos this];exact p1
   ·rw[if_pos e1] at h1
    have h2':N3 b d≤0:=by
     by_cases e2:N3 b d=0
     ·omega
     ·rwa [if_pos e2] at h2
    obtain⟨p1,p2⟩:=hp h1 h2'
    have:N3 a d≠0:=fun e=>e1 (p2 e).1
    rw[if_pos this];exact p1
theorem nA (a b:List Susp):ct a b=-(ct b a):=by
 have:=lF a b
 unfold ct U8 U8 U8
 repeat' split
 all_goals omega
theorem qH {a b:List Susp}:ct a b≤0↔a.length<b.length∨(a.length=b.length∧K5 a b≤0):=by
 unfold ct U8 U8 U8
 repeat' split
 all_goals omega
theorem uP {a b c:List Susp} (h1:ct a b≤0) (h2:ct b c≤0):ct a c≤0:=by
 rw[qH] at *
 rcases h1 with h1|⟨h1,g1⟩<;>rcases h2 with h2|⟨h2,g2⟩
 ·exact .inl (by omega)
 ·exact .inl (by omega)
 ·exact .inl (by omega)
 ·exact .inr ⟨by omega,qI g1 g2⟩
theorem iX (a:List Susp):ct a a≤0:=by have:=nA a a;omega
theorem pX:∀ (r:List (List Susp)) (x:List Susp),(r.foldl P4 x=x∨r.foldl P4 x∈r)∧ct (r.foldl P4 x) x≤0∧∀ y∈r,ct (r.foldl P4 x) y≤0
 | [],x=>⟨.inl rfl,iX x,by simp⟩
 | z :: r,x=>by
   rw[List.foldl_cons]
   obtain⟨h1,h2,h3⟩:=pX r (P4 x z)
   have ha:=nA z x
   have hs:(P4 x z=x∨P4 x z=z)∧ct (P4 x z) x≤0∧ct (P4 x z) z≤0:=by
    unfold P4
    split
    ·exact⟨.inr rfl,by omega,iX z⟩
    ·exact⟨.inl rfl,iX x,by omega⟩
   refine⟨?_,uP h2 hs.2.1,fun y hy=>?_⟩
   ·rcases h1 with h1|h1
    ·rcases hs.1 with e|e
     ·exact .inl (h1.trans e)
     ·exact .inr (by rw[h1,e];exact List.mem_cons_self)
    ·exact .inr (List.mem_cons_of_mem _ h1)
   ·rcases List.mem_cons.1 hy with rfl|hy
    ·exact uP h2 hs.2.2
    ·exact h3 y hy
theorem vZ {L:List (List Susp)} (h:L≠[]):kR L∈L∧∀ y∈L,ct (kR L) y≤0:=by
 cases L with
 | nil=>exact absurd rfl h
 | cons x r =>
   obtain⟨h1,h2,h3⟩:=pX r x
   refine⟨?_,fun y hy=>?_⟩
   ·rcases h1 with h1|h1
    ·show r.foldl P4 x∈_
     rw[h1];exact List.mem_cons_self
    ·exact List.mem_cons_of_mem _ h1
   ·rcases List.mem_cons.1 hy with rfl|hy
    ·exact h2
    ·exact h3 y hy
structure DkG (n:Nat) (D:List Desk):Prop where
 ne:D≠[]
 len:∀ d∈D,d.faults.length=n
 f:∀ d∈D,∀ x∈d.faults,x≠[]
 cause:∀ d∈D,∀ g,Kn d g→yo d.notes g n≠[]
def Jp (D:List Desk):List Susp:=kR (D.map U3)
variable {n:Nat} {D:List Desk}
theorem FY (h:DkG n D):∃ d∈D,Jp D=U3 d:=by
 have h1:=(vZ (L:=D.map U3) (by simpa using h.ne)).1
 obtain⟨d,hd,e⟩:=List.mem_map.1 h1
 exact⟨d,hd,e.symm⟩
end Go.Proofs
namespace Go.Proofs
open Go Go.Ab
variable {n:Nat} {D D':List Desk}
end Go.Proofs
namespace Go.Proofs
open Go Go.Ab
theorem Cd {c:Case} {t:List Int} (hl:F2 (cR c t) 0=0) {y:Link} (hy:y∈c.loop.links):py c y (cO c t y.drawing)=some (U6 (cR c t) y):=by
 have hok:=JF (du hl).1
 have hx:c.loop∈(cR c t).loops:=by simp[cR]
 have hd:=(lA hok hx hy).2
 obtain⟨hm,_,_⟩:=hok.link _ hx y hy
 obtain⟨i,hi⟩:=List.mem_iff_getElem?.1 hm
 have hnd:(nums c.p.n.reg).Nodup:=(D9 hok.reg).1.imp fun h e=>by omega
 have hix:idx (nums c.p.n.reg) y.drawing=i:=iM hnd hi
 have hl2:(L8 c.p.n t c.machine)[i]?=some (cO c t y.drawing):=by
  unfold L8 cO
  rw[List.getElem?_map,show (nums c.p.n.reg)[i]?=some y.drawing from hi];rfl
 have e:u5 (cR c t).reg (cR c t).lets y.drawing=(o6 c.p.n.reg y.drawing (cO c t y.drawing)).getD J7:=by
  unfold u5
  rw[show (cR c t).reg=c.p.n.reg from rfl,show (cR c t).lets=L8 c.p.n t c.machine from rfl,hix,Int.toNat_natCast,hl2];rfl
 rw[e] at hd
 unfold py
 cases hf:o6 c.p.n.reg y.drawing (cO c t y.drawing) with
 | none=>rw[hf] at hd;simp[J7] at hd
 | some z=>rw[hf] at hd;simpa using hd
theorem mU (D:Link→Dim):∀ (q:List (Link×Piece)) (s:Int×Int) (a b:Int),(∀ p∈q,p.2.lo≤(D p.1).upper∧(D p.1).lower≤p.2.hi)→s.1≤b→a≤s.2 →
 (q.foldl B1 s).1≤q.foldl (fun s p=>s+me p.1 (P8 true p.1 (D p.1))) b∧q.foldl (fun s p=>s+me p.1 (P8 false p.1 (D p.1))) a≤(q.foldl B1 s).2
 | [],s,a,b,_,h1,h2=>⟨h1,h2⟩
 | p :: q,s,a,b,h,h1,h2=>by
   rw[List.foldl_cons,List.foldl_cons,List.foldl_cons]
   have hp:=h p List.mem_cons_self
   refine mU D q _ _ _ (fun p hp=>h p (List.mem_cons_of_mem _ hp)) ?_ ?_
   ·unfold B1 me P8
    cases p.1.back<;>simp<;>omega
   ·unfold B1 me P8
    cases p.1.back<;>simp<;>omega
theorem po {l:List Link} {P:List Piece} (h:P.length=l.length) (D:Link→Dim) (hi:Bool):cP l (l.map D) hi=(l.zip P).foldl (fun s p=>s+me p.1 (P8 hi p.1 (D p.1))) 0:=by
 have e:l.zip (l.map D)=(l.zip P).map fun p=>(p.1,D p.1):=by
  refine List.ext_getElem? fun i=>?_
  by_cases hi:i<l.length
  ·rw[List.getElem?_eq_getElem (by simp[hi]),List.getElem?_eq_getElem (by simp[hi];omega)];simp
  ·rw[List.getElem?_eq_none (by simp;omega),List.getElem?_eq_none (by simp;omega)]
 unfold cP
 rw[e,List.foldl_map]
theorem addF_mem {L:List J6} {so:Bool} {f g:J6}:g∈aF L so f↔g∈L∨(so=true∧g=f):=by
 unfold aF
 split
 ·rename_i h;rw[List.mem_append,List.mem_singleton];simp[h.1]
 ·rename_i h
  constructor
  ·exact .inl
  ·rintro (h1|⟨h1,rfl⟩)
   ·exact h1
   ·exact Classical.byContradiction fun h2=>h ⟨h1,h2⟩
theorem sP {c:Case} {y:Link} {x:Piece} {o:Int} {L:List J6} {l:Int} {g:J6}:g∈H5 c y x o L l↔g∈L∨(sR c y x l=true∧g=(!decide (l=o),false))∨(rA c y x l=true∧g=(!decide (l=o),true)):=by
 unfold H5
 rw[addF_mem,addF_mem,or_assoc]
theorem ln {c:Case} {y:Link} {x:Piece} {o:Int} {g:J6}:∀ {l:List Int} {L:List J6},g∈l.foldl (H5 c y x o) L↔g∈L∨∃ a∈l,(sR c y x a=true∧g=(!decide (a=o),false))∨(rA c y x a=true∧g=(!decide (a=o),true))
 | [],L=>by simp
 | a :: l,L=>by
   rw[List.foldl_cons,ln,sP,or_assoc]
   simp only[List.mem_cons,exists_eq_or_imp]
theorem oK {c:Case} {t:List Int} {k:Nat} {x:Piece} {y:Link} (hx:c.pieces[k]?=some x) (hy:c.loop.links[k]?=some y) {g:J6}:g∈ig c t k↔∃ a∈H6 c k,(sR c y x a=true∧g=(!decide (a=cO c t y.drawing),false))∨(rA c y x a=true∧g=(!decide (a=cO c t y.drawing),true)):=by
 unfold ig
 rw[hx,hy]
 simp only
 rw[ln]
 simp
theorem ti {c:Case} {t:List Int} {k:Nat} (hk:k<c.pieces.length):(D8 c t).faults.getD k []=ig c t k:=by
 simp[D8,List.getD,hk]
theorem AU {c:Case} (h0:H8 c=0) {t:List Int} (hn:xW c t=false) (hf:∀ k,k<c.pieces.length→(false,false)∈ig c t k):False:=by
 obtain⟨he,hft⟩:=F5 h0
 have hok:=H0 (C5 he).2
 have hlen:=hok.e
 unfold xW at hn
 simp only[Bool.or_eq_false_iff,Bool.not_eq_false',decide_eq_true_eq] at hn
 obtain⟨hl,hc⟩:=hn
 have hmeet:∀ p∈c.loop.links.zip c.pieces,p.2.lo≤(U6 (cR c t) p.1).upper∧(U6 (cR c t) p.1).lower≤p.2.hi:=fun p hp=>by
  obtain⟨k,hk⟩:=List.mem_iff_getElem?.1 hp
  rw[List.getElem?_zip_eq_some] at hk
  obtain⟨hy,hx⟩:=hk
  have h1:=hf k (e7 hx)
  rw[oK hx hy] at h1
  obtain⟨a,ha,h2|h2⟩:=h1
  ·have e:a=cO c t p.1.drawing:=by have:=h2.2;simp at this;exact this
   subst e
   have h3:=h2.1
   unfold sR at h3
   rw[Cd hl (List.mem_of_getElem? hy)] at h3
   simpa using h3
  ·exact absurd h2.2 (by simp)
 have hs:=mU (U6 (cR c t)) (c.loop.links.zip c.pieces) (0,0) 0 0 hmeet (Int.le_refl _) (Int.le_refl _)
 rw[← po hlen,← po hlen] at hs
 have hlp:(cR c t).loops[(0:Int).toNat]?=some c.loop:=rfl
 have hLo:vF (cR c t) 0=cP c.loop.links (c.loop.links.map (U6 (cR c t))) false:=by
  rw[vF,if_pos hl,HO,hlp];rfl
 have hHi:vG (cR c t) 0=cP c.loop.links (c.loop.links.map (U6 (cR c t))) true:=by
  rw[vG,if_pos hl,Ig,hlp];rfl
 rw[← hLo,← hHi] at hs
 rw[P1,if_pos hl,Jr,hlp] at hc
 simp only at hc
 have hg:c.loop.lo≤vF (cR c t) 0∧vG (cR c t) 0≤c.loop.hi:=by
  split at hc
  ·assumption
  ·split at hc<;>exact absurd hc (by decide)
 unfold ap aH lq at hft
 rw[if_pos he,if_pos he] at hft
 have hs2:O1 (c.loop.links.zip c.pieces)=(c.loop.links.zip c.pieces).foldl B1 (0,0):=rfl
 rw[hs2] at hft
 split at hft
 ·omega
 ·split at hft<;>exact absurd hft (by decide)
theorem Dw {c:Case} (h0:H8 c=0):DkG c.pieces.length (o9 c):=by
 obtain⟨he,_⟩:=F5 h0
 refine⟨fun e=>?_,fun d hd=>?_,lB he,fun d hd g hg e=>?_⟩
 ·have:=(Z8 he).1
  rw[e] at this;exact absurd this (by decide)
 ·obtain⟨t,_,rfl⟩:=List.mem_map.1 hd
  simp[D8]
 ·obtain⟨t,_,rfl⟩:=List.mem_map.1 hd
  have hl:(D8 c t).faults.length=c.pieces.length:=by simp[D8]
  refine AU h0 (t:=t) ?_ fun k hk=>?_
  ·cases hn:xW c t
   ·rfl
   ·have:(⟨1,0⟩:Susp)∈yo (D8 c t).notes g c.pieces.length:=selS_mem.2 (.inl ⟨hn,rfl⟩)
    rw[e] at this;simp at this
  ·have h1:=hg k (by omega)
   rw[ti hk] at h1
   have e2:g k=(false,false):=by
    refine Prod.ext ?_ ?_
    ·cases hb:(g k).1
     ·rfl
     ·have:pN k∈yo (D8 c t).notes g c.pieces.length:=selS_mem.2 (.inr (.inl ⟨k,hk,hb,rfl⟩))
      rw[e] at this;simp at this
    ·cases hb:(g k).2
     ·rfl
     ·have:dz k∈yo (D8 c t).notes g c.pieces.length:=selS_mem.2 (.inr (.inr ⟨k,hk,hb,rfl⟩))
      rw[e] at this;simp at this
   rw[e2] at h1;exact h1
variable {G:KB}
attribute [simp] s7 cG N9 gQ v6 B0 nilV J9 ZK
theorem Br {n:Nat} {s:Susp} (h:s∈bO n):pm n s=true:=by
 unfold pm
 rcases listS_mem.1 h with⟨_,rfl⟩|⟨i,hi,_,rfl⟩|⟨i,hi,_,rfl⟩
 ·simp
 ·rw[if_neg (by simp[pN])]
  show (((decide _&&decide _)&&(decide (0≤(i:Int))&&decide ((i:Int)≤(n:Int)-1)))=true)
  simp[pN]
  omega
 ·rw[if_neg (by simp[dz])]
  show (((decide _&&decide _)&&(decide (0≤(i:Int))&&decide ((i:Int)≤(n:Int)-1)))=true)
  simp[dz]
  omega
structure CauseOk (n:Nat) (lo hi:Int) (l a su op:List Susp):Prop where
 b1:1≤lo
 b2:lo≤hi
 b3:hi≤1+2*n
 b4:(l.length:Int)=lo
 b5:a≠[]↔lo=1
 b6:∀ s r,a=s :: r→∃ r',l=s :: r'
 b7:(su.length:Int)≤lo
 b8:hi≤(su.length:Int)+op.length
 lm:∀ s∈l,pm n s=true∧(s∈su∨s∈op)
 am:∀ s∈a,pm n s=true∧(s∈su∨s∈op)
 ls:l.Pairwise cw
 aS':a.Pairwise cw
 sm:∀ s∈su,s∈l∧(a=[]∨a=[s])
structure Hid (P:Prop):Prop where
 out:P
attribute [simp] s7 cG N9 gQ v6 B0 nilV J9 ZK
attribute [simp] s7 cG N9 gQ v6 B0 nilV J9 ZK
attribute [simp] s7 cG N9 gQ v6 B0 nilV J9 ZK
structure TrueOk (c:Case) (t:List Int) (l su op:List Susp) (lo hi:Int):Prop where
 b1:l≠[]
 b2:lo≤(l.length:Int)
 b3:(l.length:Int)≤hi
 b4:∀ s∈l,(s∈su∨s∈op)∧kT c t s=0∧¬ iJ c t s=0
 b5:∀ s∈su,kT c t s=0∧iJ c t s=2∧s∈l∧s∉op
end Go.Proofs
namespace Go.Proofs
open Go Go.Ab
variable {c:Case} {k:Nat} {x:Piece} {a b:Int}
theorem oo {j:Nat}:(dt c k x a b).pieces[j]?=if j=k then (c.pieces[k]?).map (fun _=>xY x a b) else c.pieces[j]?:=by
 show (c.pieces.set k (xY x a b))[j]?=_
 rw[List.getElem?_set]
 by_cases h:j=k
 ·subst h
  rw[if_pos rfl,if_pos rfl]
  by_cases h2:j<c.pieces.length
  ·rw[if_pos h2,List.getElem?_eq_getElem h2];rfl
  ·rw[if_neg h2,List.getElem?_eq_none (by omega)];rfl
 ·rw[if_neg (Ne.symm h),if_neg h]
theorem si:(dt c k x a b).pieces.length=c.pieces.length:=by simp[dt]
theorem pz:∀ (q q':List (Link×Piece)) (s s':Int×Int),q.length=q'.length→(∀ (i:Nat) p p',q[i]?=some p→q'[i]?=some p'→p'.1=p.1∧p.2.lo≤p'.2.lo∧p'.2.hi≤p.2.hi)→s.1≤s'.1→s'.2≤s.2→(q.foldl B1 s).1≤(q'.foldl B1 s').1∧(q'.foldl B1 s').2≤(q.foldl B1 s).2
 | [],[],_,_,_,_,h1,h2=>⟨h1,h2⟩
 | [],_ :: _,_,_,h,_,_,_=>by simp at h
 | _ :: _,[],_,_,h,_,_,_=>by simp at h
 | p :: q,p' :: q',s,s',hl,h,h1,h2=>by
   rw[List.foldl_cons,List.foldl_cons]
   obtain⟨g1,g2,g3⟩:=h 0 p p' rfl rfl
   refine pz q q' _ _ (by simpa using hl) (fun i p p' e e'=>h (i+1) p p' (by simpa using e) (by simpa using e')) ?_ ?_
   ·unfold B1;rw[g1];split<;>simp<;>omega
   ·unfold B1;rw[g1];split<;>simp<;>omega
structure MsOk (c:Case) (k:Nat) (x:Piece) (a b:Int):Prop where
 p1:c.pieces[k]?=some x
 p2:x.lo≤a∧a≤b∧b≤x.hi
 p3:H8 c=0
theorem CH (h:MsOk c k x a b):r7 (dt c k x a b)=0:=by
 obtain⟨hx,⟨h1,h2,h3⟩,h0⟩:=h
 obtain⟨he,_⟩:=F5 h0
 obtain⟨hp,hcb⟩:=C5 he
 have hok:=H0 hcb
 have hlt:k<c.pieces.length:=e7 hx
 have hpc:=jZ hok hlt
 rw[(List.getElem?_eq_some_iff.1 hx).2] at hpc
 unfold T9 at hpc
 unfold r7
 rw[if_neg (by show ¬ s9 c.p≠0;simp[hp]),if_pos]
 unfold Y5 at hcb ⊢
 simp only[Bool.and_eq_true,List.all_eq_true] at hcb ⊢
 obtain⟨b1,b2,b3,b4,b5,b6⟩:=hcb
 refine⟨b1,b2,b3,by rw[si];exact b4,b5,fun q hq=>?_⟩
 obtain⟨i,hi⟩:=List.mem_iff_getElem?.1 hq
 rw[List.getElem?_zip_eq_some] at hi
 obtain⟨hy,hq2⟩:=hi
 rw[oo] at hq2
 by_cases e:i=k
 ·subst e
  rw[if_pos rfl,hx] at hq2
  have hq3:q.2=xY x a b:=(Option.some.inj hq2).symm
  have hold:=b6 (q.1,x) (List.mem_iff_getElem?.2 ⟨i,by rw[List.getElem?_zip_eq_some];exact⟨hy,hx⟩⟩)
  rw[hq3]
  simp only[H3,Bool.and_eq_true,P7,decide_eq_true_eq] at hold ⊢
  obtain⟨c1,c2,c3,c4,c5⟩:=hold
  refine⟨c1,c2,c3,c4,?_⟩
  show 0≤a∧a≤1000000000∧0≤b∧b≤1000000000∧a≤b
  omega
 ·rw[if_neg e] at hq2
  exact b6 q (List.mem_iff_getElem?.2 ⟨i,by rw[List.getElem?_zip_eq_some];exact⟨hy,hq2⟩⟩)
theorem uH {c:Case} (h:ap c=0) (he:r7 c=0):(O1 (c.loop.links.zip c.pieces)).2<c.loop.lo∨(O1 (c.loop.links.zip c.pieces)).1 > c.loop.hi:=by
 unfold ap aH lq at h
 rw[if_pos he,if_pos he] at h
 split at h
 ·assumption
 ·split at h<;>exact absurd h (by decide)
theorem Fu (h:MsOk c k x a b):H8 (dt c k x a b)=0:=by
 have he:=CH h
 obtain⟨hx,⟨h1,h2,h3⟩,h0⟩:=h
 obtain⟨he0,hf0⟩:=F5 h0
 have hd:=uH hf0 he0
 have hlen:=(H0 (C5 he0).2).e
 have hm:=pz (c.loop.links.zip c.pieces) ((dt c k x a b).loop.links.zip (dt c k x a b).pieces) (0,0) (0,0) (by simp[dt]) (fun i p p' e e'=>by
  rw[List.getElem?_zip_eq_some] at e e'
  have hl:p'.1=p.1:=Option.some.inj (e'.1.symm.trans e.1)
  refine⟨hl,?_⟩
  have e2:=e'.2
  rw[oo] at e2
  by_cases g:i=k
  ·subst g
   rw[if_pos rfl,hx] at e2
   have e3:p'.2=xY x a b:=(Option.some.inj e2).symm
   have e4:p.2=x:=Option.some.inj (e.2.symm.trans hx)
   rw[e3,e4];exact⟨h1,h3⟩
  ·rw[if_neg g] at e2
   have e3:p'.2=p.2:=Option.some.inj (e2.symm.trans e.2)
   rw[e3];exact⟨Int.le_refl _,Int.le_refl _⟩) (Int.le_refl _) (Int.le_refl _)
 unfold H8
 rw[if_neg (by simp[he]),if_neg]
 unfold ap aH lq
 rw[if_pos he,if_pos he,if_pos]
 ·simp
 ·unfold O1 at hd ⊢
  show _<c.loop.lo∨_ > c.loop.hi
  omega
theorem CG {j:Nat} (hx:c.pieces[k]?=some x):H6 (dt c k x a b) j=H6 c j:=by
 unfold H6
 rw[oo]
 by_cases e:j=k
 ·subst e
  rw[if_pos rfl,hx]
  show (match some (xY x a b),c.loop.links[j]? with|some x,some y=>N6 c.p x.day x.holder y.drawing|_,_=>[])=_
  cases c.loop.links[j]?<;>rfl
 ·rw[if_neg e];rfl
theorem Et (y:Link) (l:Int):py (dt c k x a b) y l=py c y l:=rfl
theorem sF (h0:H8 c=0) {y:Link} (hx:c.pieces[k]?=some x) (hy:c.loop.links[k]?=some y):H4 (o9 c) (dz k)=0↔∀ l∈H6 c k,rA c y x l=false:=by
 have hk:k<c.pieces.length:=e7 hx
 constructor
 ·intro h l hl
  obtain⟨d,hd,_⟩:=FY (Dw h0)
  obtain⟨t,ht,rfl⟩:=List.mem_map.1 hd
  have h1:=zQ h _ hd
  cases hf:rA c y x l
  ·rfl
  ·have hm:(!decide (l=cO c t y.drawing),true)∈ig c t k:=(oK hx hy).2 ⟨l,hl,.inr ⟨hf,rfl⟩⟩
   unfold kV at h1
   rw[if_neg (by simp[dz]),if_neg (by simp[dz]),show (dz k).index.toNat=k from rfl,ti hk,List.any_eq_false] at h1
   exact absurd rfl (h1 _ hm)
 ·intro h
  unfold H4
  rw[if_pos]
  rw[List.any_eq_false]
  intro d hd
  obtain⟨t,ht,rfl⟩:=List.mem_map.1 hd
  unfold kV
  rw[if_neg (by simp[dz]),if_neg (by simp[dz]),show (dz k).index.toNat=k from rfl,ti hk,List.any_eq_true]
  rintro⟨f,hf,hf2⟩
  rw[oK hx hy] at hf
  obtain⟨l,hl,⟨_,rfl⟩|⟨f1,rfl⟩⟩:=hf
  ·exact absurd hf2 (by simp)
  ·rw[h l hl] at f1;exact absurd f1 (by decide)
theorem lH (c:Case) (y:Link):∀ (L:List Int) (s:Int×Int) (p q:Int),(((L.foldl (F8 c y) s).1≤p∧q≤(L.foldl (F8 c y) s).2)↔(s.1≤p∧q≤s.2)∧∀ l∈L,∀ d,py c y l=some d→d.lower≤p∧q≤d.upper)
 | [],s,p,q=>by simp
 | l :: L,s,p,q=>by
   rw[List.foldl_cons,lH c y L]
   unfold F8
   cases hz:py c y l with
   | none =>
     constructor
     ·rintro⟨h1,h2⟩
      refine⟨h1,fun m hm d hd=>?_⟩
      rcases List.mem_cons.1 hm with rfl|hm
      ·rw[hz] at hd;cases hd
      ·exact h2 m hm d hd
     ·rintro⟨h1,h2⟩
      exact⟨h1,fun m hm=>h2 m (List.mem_cons_of_mem _ hm)⟩
   | some e =>
     constructor
     ·rintro⟨h1,h2⟩
      simp only at h1
      refine⟨by omega,fun m hm d hd=>?_⟩
      rcases List.mem_cons.1 hm with rfl|hm
      ·rw[hz] at hd;cases hd;omega
      ·exact h2 m hm d hd
     ·rintro⟨h1,h2⟩
      have h3:=h2 l List.mem_cons_self e hz
      exact⟨by simp only;omega,fun m hm=>h2 m (List.mem_cons_of_mem _ hm)⟩
end Go.Proofs
namespace Go.Proofs
open Go Go.Ab Tryz
variable {G:KB}
attribute [simp] s7 cG N9 gQ v6 B0 nilV J9 ZK
theorem yF {c:Case} (hs:R8 c=true) (h0:H8 c=0):ac c=true:=by
 obtain⟨he,hf⟩:=F5 h0
 have hd:=uH hf he
 unfold ac GM
 simp only[Bool.and_eq_true,Bool.or_eq_true,decide_eq_true_eq]
 exact⟨hs,he,by omega⟩
theorem pJ {c:Case} (h:ac c=true):R8 c=true:=by
 unfold ac at h
 simp only[Bool.and_eq_true] at h
 exact h.1
theorem Dg {n k:Nat} (h:k<n):dz k∈bO n:=listS_mem.2 (.inr (.inr ⟨k,h,rfl,rfl⟩))
theorem zO {c:Case} (h0:H8 c=0) {s:Susp} (hs:s∈bO c.pieces.length):fo c s=0∧fm c s=H4 (o9 c) s:=by
 have e:fo c s=0:=by
  unfold fo
  rw[if_neg (by simp[h0]),if_pos (Br hs)]
 exact⟨e,by unfold fm;rw[if_pos e]⟩
structure MsF (c:Case) (k:Nat) (x:Piece) (a b:Int):Prop where
 q1:mR c (k:Int) a b=0
 q2:Eu c (k:Int) a b=dt c k x a b
 q3:ac (dt c k x a b)=true
 q4:dU (dt c k x a b).p
 q5:KC (dt c k x a b)
 q6:fo (dt c k x a b) (dz k)=0
 q7:fm (dt c k x a b) (dz k)=0↔(O0 c (k:Int)).1≤a∧b≤(O0 c (k:Int)).2
theorem uz {c:Case} (he:r7 c=0) {k:Nat} (hk:k<c.pieces.length):V2 c (k:Int)=0∧gu c (k:Int)=H6 c k:=by
 have e:V2 c (k:Int)=0:=by
  unfold V2
  rw[if_neg (by simp[he]),if_pos ⟨by omega,by omega⟩]
 exact⟨e,by unfold gu;rw[if_pos e,Int.toNat_natCast]⟩
theorem uQ {c:Case} (he:r7 c=0) {k:Nat} {x:Piece} {y:Link} (hx:c.pieces[k]?=some x) (hy:c.loop.links[k]?=some y):O0 c (k:Int)=(H6 c k).foldl (F8 c y) (x.lo,x.hi):=by
 unfold O0
 rw[Int.toNat_natCast,hx,hy,(uz he (e7 hx)).2]
theorem JG {c:Case} {k:Nat} {x:Piece} {a b:Int} (hp:dU c.p) (hq:ac c=true) (h:MsOk c k x a b):MsF c k x a b:=by
 have h0:=Fu h
 obtain⟨hx,⟨h1,h2,h3⟩,hc0⟩:=h
 obtain⟨he,_⟩:=F5 hc0
 have hlt:=e7 hx
 have hlen:=(H0 (C5 he).2).e
 have hy:c.loop.links[k]?=some c.loop.links[k]:=List.getElem?_eq_getElem (by omega)
 have e1:mR c (k:Int) a b=0:=by
  rw[zu a b he hx,if_pos]
  simp only[P7,decide_eq_true_eq];omega
 have hsm:R8 (dt c k x a b)=true:=by
  have:=pJ hq
  unfold R8 at this ⊢
  rw[si];exact this
 have hr:=yF hsm h0
 have hp':dU (dt c k x a b).p:=hp
 obtain⟨_,hk',_⟩:=kG hp' hr
 have hA:dz k∈bO (dt c k x a b).pieces.length:=by rw[si];exact Dg hlt
 obtain⟨k1,k2⟩:=zO h0 hA
 refine⟨e1,ux e1 hx,hr,hp',hk',k1,?_⟩
 have hx':(dt c k x a b).pieces[k]?=some (xY x a b):=by rw[oo,if_pos rfl,hx];rfl
 rw[k2,sF h0 hx' hy,uQ he hx hy,lH,CG hx]
 have hs:(x.lo,x.hi).1≤a∧b≤(x.lo,x.hi).2:=⟨h1,h3⟩
 constructor
 ·intro h
  refine⟨hs,fun l hl d hd=>?_⟩
  have h4:=h l hl
  unfold rA at h4
  rw[Et,hd] at h4
  simp only[Bool.not_eq_false',P7,decide_eq_true_eq] at h4
  have e5:(xY x a b).lo=a∧(xY x a b).hi=b:=⟨rfl,rfl⟩
  omega
 ·rintro⟨_,h⟩ l hl
  unfold rA
  rw[Et]
  cases hd:py c c.loop.links[k] l with
  | none=>rfl
  | some d =>
    have h4:=h l hl d hd
    simp only[Bool.not_eq_false',P7,decide_eq_true_eq]
    have e5:(xY x a b).lo=a∧(xY x a b).hi=b:=⟨rfl,rfl⟩
    omega
theorem DB {c:Case} (he:r7 c=0) {k:Nat} {x:Piece} {y:Link} (hx:c.pieces[k]?=some x) (hy:c.loop.links[k]?=some y):x.lo≤(O0 c (k:Int)).1∧(O0 c (k:Int)).2≤x.hi:=by
 rw[uQ he hx hy]
 exact((lH c y (H6 c k) (x.lo,x.hi) _ _).1 ⟨Int.le_refl _,Int.le_refl _⟩).1
theorem DD {c:Case} (he:r7 c=0) {k:Nat} (hk:k<c.pieces.length):((O0 c (k:Int)).1≤(O0 c (k:Int)).2∧fE c (k:Int)=0∧jF c (k:Int)=O0 c (k:Int))∨((O0 c (k:Int)).2<(O0 c (k:Int)).1∧fE c (k:Int)=6):=by
 have e:=(uz he hk).1
 by_cases h:(O0 c (k:Int)).2<(O0 c (k:Int)).1
 ·right
  refine⟨h,?_⟩
  unfold fE;rw[if_neg (by simp[e]),if_pos h]
 ·left
  have e2:fE c (k:Int)=0:=by unfold fE;rw[if_neg (by simp[e]),if_neg h]
  exact⟨by omega,e2,by unfold jF;rw[if_pos e2]⟩
set_option maxRecDepth 10000 in
theorem pb (c:Case) (w:Nat) (b:List Int) (hG:p9 G) (hN:E8 G) (hS:A0 G) (hU:W5 G) (hR:A2 G) (hC:N0 G) (hK:ci G) (hF:jD G) (hp:dU c.p) (hw8:w≤255) (hu:∀ n∈b,0≤n∧n≤4294967295):zP prog G 9 [o2 c,vh (w:Int),.one (.im (.sl (b.map AD)))] (bv true):=by
 refine zf func9 ntmps9 ?_
 try simp only[vh]
 have a1:=DQ (G:=G) hG hN hS hU hR hC hK hF
 have c1:=og (G:=G) c hp
 cases hq:ac c
 ·rw[hq] at c1
  simp only[o2,j4,rI,List.map_cons,List.map_nil] at c1 ⊢
  have hs:=trivial
  repeat' first|(with_reducible first|refine zz ?_|refine zr ?_|refine zE [0,1,2,3,6,7,8,9,10,11,12,13,14,15,16,17,18,26,47,89,91,119] ?_)|simp -dsimp[hs]|refine zp a1 ?_|refine zp c1 ?_|refine i9 ?_ ?_<;>intro h<;>try simp only[i7] at h
  all_goals try clear hs
 ·obtain⟨hsk,hk,h0⟩:=kG hp hq
  have hq':=hq
  rw[hq] at c1
  obtain⟨he,_⟩:=F5 h0
  have hok:=H0 (C5 he).2
  have hlen:=hok.e
  have hl8:=hok.l
  have hq16:=hk.q
  have hlt:w % c.pieces.length<c.pieces.length:=Nat.mod_lt _ (by omega)
  have hm:((w:Int).tmod (c.pieces.length:Int))=((w % c.pieces.length:Nat):Int):=by
   rw[Int.tmod_eq_emod_of_nonneg (by omega)];omega
  have h0i:¬ (c.pieces.length:Int)=0:=by omega
  have hPn:¬ c.pieces=[]:=fun e=>by rw[e] at h0i;exact h0i rfl
  generalize hj:w % c.pieces.length=k at *
  have hx0:c.pieces[k]?=some c.pieces[k]:=List.getElem?_eq_getElem hlt
  have hy0:c.loop.links[k]?=some c.loop.links[k]:=List.getElem?_eq_getElem (by omega)
  have hpc:=jZ hok hlt
  unfold T9 at hpc
  have hci:=DB he hx0 hy0
  have hce:=DD he hlt
  have c2:=qX (G:=G) c (k:Int) hG hN hS hR hk
  have c3:=AP (G:=G) b 0 (by omega) hu
  have u1:=tz hu 0
  have hmd:c.pieces[k].lo≤c.pieces[k].lo+K6 b 0 % (c.pieces[k].hi-c.pieces[k].lo+1)∧c.pieces[k].lo+K6 b 0 % (c.pieces[k].hi-c.pieces[k].lo+1)≤c.pieces[k].hi:=by
   have h1:0≤K6 b 0 % (c.pieces[k].hi-c.pieces[k].lo+1):=Int.emod_nonneg _ (by omega)
   have h2:K6 b 0 % (c.pieces[k].hi-c.pieces[k].lo+1)<c.pieces[k].hi-c.pieces[k].lo+1:=Int.emod_lt_of_pos _ (by omega)
   omega
  have w0:IntKind.i64.wrap (w:Int)=(w:Int):=o5 (by omega) (by omega)
  have w1:IntKind.i64.wrap (k:Int)=(k:Int):=o5 (by omega) (by omega)
  have w6:IntKind.i64.wrap (c.pieces[k].hi-c.pieces[k].lo)=c.pieces[k].hi-c.pieces[k].lo:=o5 (by omega) (by omega)
  have w7:IntKind.i64.wrap (c.pieces[k].hi-c.pieces[k].lo+1)=c.pieces[k].hi-c.pieces[k].lo+1:=o5 (by omega) (by omega)
  have g7:¬ c.pieces[k].hi-c.pieces[k].lo+1=0:=by omega
  obtain⟨n,hn⟩:∃ n,n=c.pieces[k].lo+K6 b 0 % (c.pieces[k].hi-c.pieces[k].lo+1):=⟨_,rfl⟩
  have w8:IntKind.i64.wrap (c.pieces[k].lo+(K6 b 0).tmod (c.pieces[k].hi-c.pieces[k].lo+1))=n:=by
   rw[Int.tmod_eq_emod_of_nonneg (by omega),← hn]
   exact o5 (by omega) (by omega)
  rw[← hn] at hmd
  generalize K6 b 0=U at *
  have s1:=yg (G:=G) (k:Int)
  have s2:=da (G:=G) n n
  have mn:=JG hp hq' ⟨hx0,⟨hmd.1,Int.le_refl _,hmd.2⟩,h0⟩
  have c4:=lN (G:=G) c (k:Int) n n hG hN hS hR hk
  have c5:=og (G:=G) (dt c k c.pieces[k] n n) mn.q4
  have c6:=qV (G:=G) (dt c k c.pieces[k] n n) (dz k) (by simp[dz]) hG hN hS hR hC hK mn.q5
  rw[mn.q1,mn.q2] at c4
  rw[mn.q3] at c5
  rw[mn.q6] at c6
  have hkn:=mn.q7
  clear mn
  generalize dt c k c.pieces[k] n n=xn at *
  generalize fm xn (dz k)=kn at *
  rcases hce with⟨hle,e1,e2⟩|⟨hgt,e1⟩
  ·have mt:=JG hp hq' ⟨hx0,⟨hci.1,hle,hci.2⟩,h0⟩
   have d4:=lN (G:=G) c (k:Int) (O0 c (k:Int)).1 (O0 c (k:Int)).2 hG hN hS hR hk
   have d5:=og (G:=G) (dt c k c.pieces[k] (O0 c (k:Int)).1 (O0 c (k:Int)).2) mt.q4
   have d6:=jQ (G:=G) (dt c k c.pieces[k] (O0 c (k:Int)).1 (O0 c (k:Int)).2) (dz k) 0 (by simp[dz]) hG hN hS hR hC hK mt.q5
   rw[mt.q1,mt.q2] at d4
   rw[mt.q3] at d5
   rw[mt.q6,mt.q7.2 ⟨Int.le_refl _,Int.le_refl _⟩] at d6
   simp only[decide_true,Bool.and_self] at d6
   clear mt
   rw[e1,e2] at c2
   clear e1 e2
   generalize dt c k c.pieces[k] (O0 c (k:Int)).1 (O0 c (k:Int)).2=xt at *
   generalize O0 c (k:Int)=S at *
   obtain⟨p,q⟩:=S
   simp only at hle hci c2 d4 hkn
   generalize hx:c.pieces[k]=x at *
   have f1:¬ p<x.lo:=by omega
   have f2:¬ x.hi<q:=by omega
   have f3:¬ q<p:=by omega
   have hcs:(p≤n∧n≤q∧kn=0)∨(p≤n∧¬ n≤q∧¬ kn=0)∨(¬ p≤n∧True∧¬ kn=0):=by
    by_cases g1:p≤n
    ·by_cases g2:n≤q
     ·exact .inl ⟨g1,g2,hkn.2 ⟨g1,g2⟩⟩
     ·exact .inr (.inl ⟨g1,g2,fun e=>g2 (hkn.1 e).2⟩)
    ·exact .inr (.inr ⟨g1,trivial,fun e=>g1 (hkn.1 e).1⟩)
   obtain⟨XN,hXN⟩:∃ X,o2 xn=X:=⟨_,rfl⟩
   obtain⟨XT,hXT⟩:∃ X,o2 xt=X:=⟨_,rfl⟩
   have hXf:∃ a b c d e f g h i j,XN=.agg [.im a,.im b,.im c,.im d,.im e,.im f,.im g,.im h,.im i,.im j]:=⟨_,_,_,_,_,_,_,_,_,_,hXN.symm⟩
   have hXg:∃ a b c d e f g h i j,XT=.agg [.im a,.im b,.im c,.im d,.im e,.im f,.im g,.im h,.im i,.im j]:=⟨_,_,_,_,_,_,_,_,_,_,hXT.symm⟩
   obtain⟨n1,n2,n3,n4,n5,n6,n7,n8,n9,n10,rfl⟩:=hXf
   obtain⟨t1,t2,t3,t4,t5,t6,t7,t8,t9,t10,rfl⟩:=hXg
   rw[hXN] at c4 c5 c6
   rw[hXT] at d4 d5 d6
   clear hXN hXT
   simp only[o2,j4,F1,j7,dz,D6,rI,List.map_cons,List.map_nil] at c1 c2 c4 c5 c6 d4 d5 d6 s1 s2 ⊢
   have hs:True:=trivial
   rcases hcs with⟨k1,k2,k3⟩|⟨k1,k2,k3⟩|⟨k1,k2,k3⟩
   all_goals
    have hs:=za hx (za hlt (za hm (za h0i (za hPn (za g7 (za w0 (za w1 (za w6 (za w7 (za w8 (za f1 (za f2 (za f3 (za k1 (za k2 k3)))))))))))))))
    repeat' first|(with_reducible first|refine zz ?_|refine zr ?_)|simp -dsimp[hs]|refine zp a1 ?_|refine zp c1 ?_|refine zp c2 ?_|refine zq c3 ?_|refine zq c4 ?_|refine zp c5 ?_|refine zq c6 ?_|refine zp d4 ?_|refine zq d5 ?_|refine zq d6 ?_|refine zq s1 ?_|refine zq s2 ?_|refine zM 9 151 35 [0,1,2,3,6,7,8,9,10,11,12,13,14,15,16,17,18,26,47,89,91,119] ?_|refine zM 13 151 13 [0,1,2,3,6,7,8,9,10,11,12,13,14,15,16,17,18,26,47,89,91,119] ?_|refine zM 17 151 9 [0,1,2,3,6,7,8,9,10,11,12,13,14,15,16,17,18,26,47,89,91,119] ?_|refine E0 (id:=14) (nt:=151) 10 [8] [0,1,2,3,6,7,8,9,10,11,12,13,14,15,16,17,18,26,47,89,91,104,105,106,107,108,109,110,111,119] [0,1,2,3,6,7,8,9,10,11,12,13,14,15,16,17,18,26,47,89,91,119] mixed rfl (by kernel_rfl) ?_|with_reducible refine zE [0,1,2,3,6,7,8,9,10,11,12,13,14,15,16,17,18,26,47,89,91,119] ?_|refine i9 ?_ ?_<;>intro h<;>try simp only[i7] at h
    all_goals try clear hs
  ·rw[e1] at c2
   clear e1
   have hkz:¬ kn=0:=fun e=>by have:=hkn.1 e;omega
   generalize jF c (k:Int)=S at *
   obtain⟨p,q⟩:=S
   generalize hx:c.pieces[k]=x at *
   obtain⟨XN,hXN⟩:∃ X,o2 xn=X:=⟨_,rfl⟩
   have hXf:∃ a b c d e f g h i j,XN=.agg [.im a,.im b,.im c,.im d,.im e,.im f,.im g,.im h,.im i,.im j]:=⟨_,_,_,_,_,_,_,_,_,_,hXN.symm⟩
   obtain⟨n1,n2,n3,n4,n5,n6,n7,n8,n9,n10,rfl⟩:=hXf
   rw[hXN] at c4 c5 c6
   clear hXN
   simp only[o2,j4,F1,j7,dz,D6,rI,List.map_cons,List.map_nil] at c1 c2 c4 c5 c6 s1 s2 ⊢
   have hs:=za hx (za hlt (za hm (za h0i (za hPn (za g7 (za w0 (za w1 (za w6 (za w7 (za w8 hkz))))))))))
   repeat' first|(with_reducible first|refine zz ?_|refine zr ?_)|simp -dsimp[hs]|refine zp a1 ?_|refine zp c1 ?_|refine zp c2 ?_|refine zq c3 ?_|refine zq c4 ?_|refine zp c5 ?_|refine zq c6 ?_|refine zq s1 ?_|refine zq s2 ?_|refine zM 13 151 13 [0,1,2,3,6,7,8,9,10,11,12,13,14,15,16,17,18,26,47,89,91,119] ?_|refine zM 17 151 9 [0,1,2,3,6,7,8,9,10,11,12,13,14,15,16,17,18,26,47,89,91,119] ?_|refine E0 (id:=14) (nt:=151) 10 [8] [0,1,2,3,6,7,8,9,10,11,12,13,14,15,16,17,18,26,47,89,91,104,105,106,107,108,109,110,111,119] [0,1,2,3,6,7,8,9,10,11,12,13,14,15,16,17,18,26,47,89,91,119] mixed rfl (by kernel_rfl) ?_|with_reducible refine zE [0,1,2,3,6,7,8,9,10,11,12,13,14,15,16,17,18,26,47,89,91,119] ?_|refine i9 ?_ ?_<;>intro h<;>try simp only[i7] at h
   all_goals try clear hs
end Go.Proofs
namespace Go.Ab
open Go Go.Sort
theorem RelM.grownS {G:KB} {M:MS} {w':World} {os:Array Obj} (h:RelM G M) (hw:w'.heap=M.w.heap++os) (hio:SameIo M.w w'):RelM G { M with w:=w' }∧Ext M.objs.length M { M with w:=w' }:=by
 have hold:∀ {b:Nat},b<M.w.heap.size→w'.heap[b]?=M.w.heap[b]?:=fun {b} hb=>by rw[hw];simp[Array.getElem?_append,hb]
 have hsz:M.w.heap.size≤w'.heap.size:=by rw[hw];simp
 have he:Ext M.objs.length M { M with w:=w' }:=
  ⟨Nat.le_refl _,fun b hb=>⟨⟨Nat.lt_of_lt_of_le hb.1 hsz,hb.2⟩,hold hb.1⟩,cN M,hsz,fun p _ c' hc=>⟨⟨c',hc⟩,rfl⟩,
   fun p _ sz es g nl hv=>⟨sz,es,g,nl,hv,Nat.le_refl _,fun _=>⟨rfl,rfl,fun hn=>⟨rfl,by simp only[I4];rw[hold (h.lt p _ hv (by simp[DObj.blk,hn]))]⟩⟩⟩,fun p _ ks es hm=>⟨⟨ks,es,hm⟩,rfl⟩,
   fun p _ r hm=>⟨⟨r,hm⟩,rfl⟩,fun p _ d hm hi=>⟨⟨d,hm,hi⟩,rfl⟩,fun p _ r hm=>⟨⟨r,hm⟩,rfl⟩,hio⟩
 exact⟨⟨fun o d ho=>(h.objs o d ho).ext he (fun _=>rfl) (fun hb=>hold (h.lt o d ho hb)),fun o d ho hb=>Nat.lt_of_lt_of_le (h.lt o d ho hb) hsz,h.inj,fun g l hg=>(h.glob g l hg).mono he.ok,fun b hF=>Nat.lt_of_lt_of_le (h.fl b hF) hsz,h.own⟩,he⟩
theorem oh {l:List Int} {c:Array Value} {i:Nat} (hi:i<l.length) (hc:i<c.size):(putCells (Value.int .i64) 0 l.toArray c)[i]?=some (.int .i64 l[i]):=by
 simp only[putCells,Array.getElem?_mapIdx,Array.getElem?_eq_getElem hc,Option.map_some]
 rw[if_pos ⟨Nat.zero_le _,by simpa using hi⟩]
 simp[hi]
theorem DCall.sort {P:Program} {G:KB} {f:FuncId}
 (hS:∀ (blk cap:Nat) (zs:List Int) (w:World),Holds (Value.int .i64) w blk 0 zs.toArray→blk<w.heap.size→zs.length<4611686018427387904 →
  Calls P f #[.slice (some ⟨blk,0,none⟩) zs.length cap] w fun e w'=>e=.returned (.tuple #[])∧∃ n os,w'=grow (putRow (Value.int .i64) (Sort.ahead w n) blk 0 (zs.mergeSort fun x y=>decide (x≤y)).toArray) os)
 (h0:∀ (a:Option Addr) (cap:Nat) (w:World),Calls P f #[.slice a 0 cap] w fun e w'=>e=.returned (.tuple #[])∧w'=w)
 (l:List Int) (g sz:Nat) (nl:Bool) (hz:sz=1∨nl=true∧l=[]) (hl:l.length<1000000) :
 DCall P G f [.one (.vec 0 g 0 l.length)] [.vec sz (l8 (l.map Ab.encI)) g nl] (fun d o=>d=.tup []∧o=[.vec sz (l8 ((l4 l).map Ab.encI)) g nl]):=by
 intro M vs hM ho hsz hr
 obtain⟨v,rfl⟩:∃ v,vs=#[v]:=by
  obtain⟨vl⟩:=vs
  match vl,hsz with
  | [v],_=>exact⟨v,rfl⟩
 have hv:=hr 0 _ v rfl rfl
 have h1:M.objs[0]?=some (.vec sz (l8 (l.map Ab.encI)) g nl):=by rw[ho];rfl
 have hO:=hM.objs 0 _ h1
 cases hv with
 | one _ _ hv =>
 cases hv with
 | vec _ _ _ _ _ _ _ hv =>
 obtain⟨_,hv⟩:=hv _ _ _ _ h1
 obtain⟨hvt,hvf⟩:=hv rfl
 have hnil:∀ (a:Option Addr) (cap:Nat),l=[]→Calls P f #[.slice a 0 cap] M.w fun e w'=>∃ v d M',e=.returned v∧M'.w=w'∧RelM G M'∧RepV M' d v∧Ext 1 M M'∧d=.tup []∧M'.objs=[.vec sz (l8 ((l4 l).map Ab.encI)) g nl]:=fun a cap hle=>by
  refine(h0 a cap M.w).mono fun e w' ⟨he,hw⟩=>?_
  subst hw
  refine⟨_,.tup [],M,he,rfl,hM,.tup _ _ rfl (fun j d v h=>by simp at h),(Ext.refl M).weaken (by simp[ho]),rfl,?_⟩
  rw[ho,hle,show l4 []=[] from List.mergeSort_nil]
 cases nl with
 | true =>
   obtain⟨_,e,hv⟩:=hvt rfl
   have e:l=[]:=List.eq_nil_of_length_eq_zero e
   have:=hnil none 0 e
   rw[hv];simpa using this
 | false =>
   obtain rfl:sz=1:=hz.resolve_right fun h=>Bool.noConfusion h.1
   obtain⟨x,cap,hv,hc,hx,hb⟩:=hvf rfl
   by_cases e:l=[]
   ·have:=hnil (some ⟨M.β 0,x,none⟩) cap e
    rw[hv];subst e;simpa using this
   have hlp:0<l.length:=List.length_pos_iff.2 e
   have hx0:x=0:=by rcases hx with hx|hx<;>omega
   subst hx0
   obtain⟨_,hO⟩:=hO
   obtain⟨_,c,T,hh,hcs,hes,hrep⟩:=hO rfl
   have hcl:l.length≤c.size:=by simpa[q9] using hcs
   have hcell:∀ j (hj:j<l.length),c[j]?=some (.int .i64 l[j]):=fun j hj=>by
    have hjc:j<c.size:=by omega
    have:=hrep j [DC.im (.raw (.int .i64 l[j]))] 0 (.im (.raw (.int .i64 l[j]))) c[j] (by simp[l8,hj]) rfl (by simp[hjc])
    have hcj:c[j]?=some c[j]:=by simp[hjc]
    generalize c[j]=y at this hcj
    cases this with
    | im _ _ hi =>
      cases hi
      exact hcj
   have hH:Holds (Value.int .i64) M.w (M.β 0) 0 l.toArray:=fun j hj=>by
    have hj:j<l.length:=by simpa using hj
    refine⟨?_,?_⟩
    ·simp only[World.cell?,hh]
     simp[hcell j hj,hj]
    ·simp[World.frozen?,hh]
   have hlt:M.β 0<M.w.heap.size:=hM.lt 0 _ h1 rfl
   rw[hv]
   refine(hS (M.β 0) cap l M.w hH hlt (by omega)).mono fun e' w' ⟨he,n,os,hw⟩=>?_
   have hmod:M.w.heap.modify (M.β 0) (onCells (putCells (Value.int .i64) 0 (l4 l).toArray))=M.w.heap.setIfInBounds (M.β 0) (.cells (putCells (Value.int .i64) 0 (l4 l).toArray c) T (0,0)):=by
    apply Array.ext_getElem?
    intro k
    simp only[Array.getElem?_modify,Array.getElem?_setIfInBounds]
    by_cases hk:M.β 0=k
    ·subst hk;rw[if_pos rfl,if_pos rfl,if_pos hlt,hh];rfl
    ·simp[hk]
   have ha:(DObj.vec 1 (l8 (l.map Ab.encI)) g false).alike (.vec 1 (l8 ((l4 l).map Ab.encI)) g false):=⟨rfl,.inl ⟨rfl,rfl⟩⟩
   have hs:L6 (.cells (putCells (Value.int .i64) 0 (l4 l).toArray c) T (0,0))=L6 (.cells c T (0,0)):=by simp[L6,putCells]
   have hE:=Ext.turn (d':=.vec 1 (l8 ((l4 l).map Ab.encI)) g false) h1 rfl ha hh hs
   have hR:=RelM.turn (d':=.vec 1 (l8 ((l4 l).map Ab.encI)) g false) hM h1 rfl ha hh hs (by
    refine⟨fun h=>Bool.noConfusion h,fun _=>⟨by omega,putCells (Value.int .i64) 0 (l4 l).toArray c,T,by simp[MS.turn,Array.getElem?_setIfInBounds_self_of_lt hlt],by simpa[q9,N4,putCells] using hcl,fun i x hx=>?_,fun i x j d v hx hj hv=>?_⟩⟩
    ·simp only[l8,List.getElem?_map,Option.map_map] at hx
     obtain⟨y,_,rfl⟩:=Option.map_eq_some_iff.1 hx
     rfl
    ·simp only[l8,List.getElem?_map,Option.map_map] at hx
     obtain⟨y,hy,rfl⟩:=Option.map_eq_some_iff.1 hx
     have hil:i<(l4 l).length:=e7 hy
     match j,hj with
     | 0,hj =>
       cases hj
       have hic:i<c.size:=by rw[N4] at hil;omega
       rw[Nat.mul_one,Nat.add_zero,oh hil hic] at hv
       have e:(l4 l)[i]'hil=y:=(List.getElem?_eq_some_iff.1 hy).2
       cases hv
       rw[e]
       exact .im _ _ (.raw _ rfl))
   have hg:=RelM.grownS (w':=w') (os:=os) hR (by rw[hw];simp only[grow,putRow,mapBlock,Sort.ahead,MS.turn];rw[show (l.mergeSort fun x y=>decide (x≤y))=l4 l from rfl,hmod]) (by rw[hw];exact⟨rfl,rfl,rfl,Nat.le_add_right _ _⟩)
   refine⟨_,.tup [],_,he,?_,hg.1,.tup _ _ rfl (fun j d v h=>by simp at h),?_,rfl,?_⟩
   ·rfl
   ·have hl1:M.objs.length=1:=by rw[ho];rfl
    have h2:=hg.2
    rw[show (M.turn 0 (.cells (putCells (Value.int .i64) 0 (l4 l).toArray c) T (0,0)) (.vec 1 (l8 ((l4 l).map Ab.encI)) g false)).objs.length=1 by simp[MS.turn,ho]] at h2
    rw[hl1] at hE
    exact hE.trans h2
   ·simp[MS.turn,ho]
end Go.Ab
