/- Part 24 of the proofs. -/
import Derived.Shelf.Sort.Plain
import Derived.Shelf.Slices.In.SortNone
import Derived.Ground.NamesProg
import Derived.Shelf.Lays
import Derived.Shelf.SlGeneric
import Derived.Shelf.SlSortCmp.NoneTotal
import Derived.Ground.SlsfProg
import Derived.Test.YtjodaihiogfkbaaGreatDoorQ14
import Derived.Test.YtjodaihiogfkbaaGreatDoorQ15
import Derived.Test.YtjodaihiogfkbaaGreatDoorQ18
import Derived.Test.YtjodaihiogfkbaaGreatDoorD02
import Derived.Test.YtjodaihiogfkbaaGreatDoorD03
import Derived.Test.YtjodaihiogfkbaaGreatDoorD04
import Derived.Test.YtjodaihiogfkbaaGreatDoorD05
set_option linter.all false
set_option linter.deprecated false
set_option maxHeartbeats 100000000
namespace Go.Ab
open Go
abbrev Gp:=Nat×Bool
def sr (b:Nat→Nat×Nat) (m:Nat→Gp×Gp) (i k:Nat) (x:Issue):List DC:=if k<i then [.im (rI x.drawing),.im (rI x.letter),.im (.raw (.int .u8 x.kind)),.vec (b k).1 (m k).1.1 0 x.items.length,.vec (b k).2 (m k).2.1 0 x.dims.length] else (e9 x).map .im
def bj (b:Nat→Nat×Nat) (m:Nat→Gp×Gp) (i:Nat) (l:List Issue):List (List DC):=l.mapIdx (sr b m i)
def jw (l:List Issue) (m:Nat→Gp×Gp) (k:Nat):Q4:=match l[k]? with
 | some x=>(.vec 2 [] 0 true,.vec 2 (l8 (x.items.map A3)) (m k).1.1 (m k).1.2,.vec 3 [] 0 true,.vec 3 (l8 (x.dims.map E0)) (m k).2.1 (m k).2.2)
 | none=>(.gone,.gone,.gone,.gone)
def sB (b:Nat→Nat) (m:Nat→Gp) (i k:Nat) (x:Holder):List DC:=if k<i then [.im (rI x.id),.im (rI x.frm),.im (rI x.to),.vec (b k) (m k).1 0 x.draws.length] else (o2 x).map .im
def bn (b:Nat→Nat) (m:Nat→Gp) (i:Nat) (l:List Holder):List (List DC):=l.mapIdx (sB b m i)
def lh (l:List Holder) (m:Nat→Gp) (k:Nat):Q2:=match l[k]? with
 | some x=>(.vec 1 [] 0 true,.vec 1 (l8 (x.draws.map Ab.encI)) (m k).1 (m k).2)
 | none=>(.gone,.gone)
@[simp] theorem Ht (b:Nat→Nat×Nat) (m:Nat→Gp×Gp) (i:Nat) (l:List Issue):(bj b m i l).length=l.length:=by simp[bj]
@[simp] theorem HD (b:Nat→Nat) (m:Nat→Gp) (i:Nat) (l:List Holder):(bn b m i l).length=l.length:=by simp[bn]
theorem vN (b:Nat→Nat×Nat) (m:Nat→Gp×Gp) (l:List Issue):bj b m 0 l=l8 (l.map e9):=by
 unfold bj l8
 apply List.ext_getElem?
 intro k
 simp[List.getElem?_mapIdx,sr]
 rfl
theorem vX (b:Nat→Nat) (m:Nat→Gp) (l:List Holder):bn b m 0 l=l8 (l.map o2):=by
 unfold bn l8
 apply List.ext_getElem?
 intro k
 simp[List.getElem?_mapIdx,sB]
 rfl
theorem CB {b:Nat→Nat×Nat} {m:Nat→Gp×Gp} {i:Nat} {l:List Issue} {x:Issue} (h:l[i]?=some x):(bj b m i l)[i]?=some ((e9 x).map .im):=by
 simp[bj,List.getElem?_mapIdx,h,sr]
theorem CL {b:Nat→Nat} {m:Nat→Gp} {i:Nat} {l:List Holder} {x:Holder} (h:l[i]?=some x):(bn b m i l)[i]?=some ((o2 x).map .im):=by
 simp[bn,List.getElem?_mapIdx,h,sB]
def fx {α:Type} (m:Nat→α) (i:Nat) (g:α) (k:Nat):α:=if k=i then g else m k
theorem yX {b:Nat→Nat×Nat} {m:Nat→Gp×Gp} {i:Nat} {l:List Issue} {x:Issue} (h:l[i]?=some x) (g:Gp×Gp):(bj b m i l).set i [.im (rI x.drawing),.im (rI x.letter),.im (.raw (.int .u8 x.kind)),.vec (b i).1 g.1.1 0 x.items.length,.vec (b i).2 g.2.1 0 x.dims.length]=bj b (fx m i g) (i+1) l:=by
 apply List.ext_getElem?
 intro k
 rw[List.getElem?_set]
 by_cases e:i=k
 ·subst e
  have hlt:=e7 h
  rw[if_pos rfl,if_pos (by simpa using hlt)]
  simp only[bj,List.getElem?_mapIdx,h,Option.map_some,sr,fx,if_true,Nat.lt_succ_self]
 ·rw[if_neg e]
  simp only[bj,List.getElem?_mapIdx]
  have h1:¬ k=i:=fun h=>e h.symm
  cases hk:l[k]? with
  | none=>rfl
  | some y =>
    simp only[Option.map_some,sr,fx,if_neg h1]
    by_cases h2:k<i
    ·rw[if_pos h2,if_pos (by omega)]
    ·rw[if_neg h2,if_neg (by omega)]
theorem zB {b:Nat→Nat} {m:Nat→Gp} {i:Nat} {l:List Holder} {x:Holder} (h:l[i]?=some x) (g:Gp):(bn b m i l).set i [.im (rI x.id),.im (rI x.frm),.im (rI x.to),.vec (b i) g.1 0 x.draws.length]=bn b (fx m i g) (i+1) l:=by
 apply List.ext_getElem?
 intro k
 rw[List.getElem?_set]
 by_cases e:i=k
 ·subst e
  have hlt:=e7 h
  rw[if_pos rfl,if_pos (by simpa using hlt)]
  simp only[bn,List.getElem?_mapIdx,h,Option.map_some,sB,fx,if_true,Nat.lt_succ_self]
 ·rw[if_neg e]
  simp only[bn,List.getElem?_mapIdx]
  have h1:¬ k=i:=fun h=>e h.symm
  cases hk:l[k]? with
  | none=>rfl
  | some y =>
    simp only[Option.map_some,sB,fx,if_neg h1]
    by_cases h2:k<i
    ·rw[if_pos h2,if_pos (by omega)]
    ·rw[if_neg h2,if_neg (by omega)]
theorem vM {l:List Issue} {m:Nat→Gp×Gp} {i:Nat} {x:Issue} (h:l[i]?=some x) (g:Gp×Gp):F0 (jw l (fx m i g)) (i+1)=F0 (jw l m) i++[.vec 2 [] 0 true,.vec 2 (l8 (x.items.map A3)) g.1.1 g.1.2,.vec 3 [] 0 true,.vec 3 (l8 (x.dims.map E0)) g.2.1 g.2.2]:=by
 rw[F0,dh (H:=jw l m) fun k hk=>by unfold jw fx;rw[if_neg (by omega)]]
 simp[jw,h,fx]
theorem vW {l:List Holder} {m:Nat→Gp} {i:Nat} {x:Holder} (h:l[i]?=some x) (g:Gp):I1 (lh l (fx m i g)) (i+1)=I1 (lh l m) i++[.vec 1 [] 0 true,.vec 1 (l8 (x.draws.map Ab.encI)) g.1 g.2]:=by
 rw[I1,di (H:=lh l m) fun k hk=>by unfold lh fx;rw[if_neg (by omega)]]
 simp[lh,h,fx]
abbrev Bq:=(Gp×Gp)×(Nat→Gp×Gp)×(Gp×Gp)×(Nat→Gp)×(Gp×Gp)
def sY (s k:Nat):Nat×Nat:=(4*k+(13+s),4*k+(15+s))
def sZ (N s k:Nat):Nat:=4*N+2*k+(17+s)
def oL (s:Nat) (m:Bq) (c:Case):List DC:=[.vec (9+s) m.1.1.1 0 c.p.n.reg.length,.vec (11+s) m.1.2.1 0 c.p.n.notes.length,.vec (4*c.p.n.reg.length+(13+s)) m.2.2.1.1.1 0 c.p.holders.length,.vec (4*c.p.n.reg.length+(15+s)) m.2.2.1.2.1 0 c.p.prints.length,.im (rI c.machine),.im (rI c.of),.vec (4*c.p.n.reg.length+2*c.p.holders.length+(17+s)) m.2.2.2.2.1.1 0 c.loop.links.length,.im (rI c.loop.lo),.im (rI c.loop.hi),.vec (4*c.p.n.reg.length+2*c.p.holders.length+(19+s)) m.2.2.2.2.2.1 0 c.pieces.length]
def qr (s:Nat) (m:Bq) (c:Case):List DObj:=.row (oL s m c) :: .vec 0 [] 0 true :: .vec 0 [] 0 true :: .vec 0 [] 0 true :: .vec 0 [] 0 true :: .vec 0 [] 0 true :: .vec 0 [] 0 true :: .row (oL s m c) :: .vec 5 [] 0 true :: .vec 5 (bj (sY s) m.2.1 c.p.n.reg.length c.p.n.reg) m.1.1.1 m.1.1.2 :: .vec 10 [] 0 true :: .vec 10 (l8 (c.p.n.notes.map l5)) m.1.2.1 m.1.2.2 :: (F0 (jw c.p.n.reg m.2.1) c.p.n.reg.length ++ .vec 4 [] 0 true :: .vec 4 (bn (sZ c.p.n.reg.length s) m.2.2.2.1 c.p.holders.length c.p.holders) m.2.2.1.1.1 m.2.2.1.1.2 :: .vec 7 [] 0 true :: .vec 7 (l8 (c.p.prints.map w5)) m.2.2.1.2.1 m.2.2.1.2.2 :: (I1 (lh c.p.holders m.2.2.2.1) c.p.holders.length++[.vec 3 [] 0 true,.vec 3 (l8 (c.loop.links.map F9)) m.2.2.2.2.1.1 m.2.2.2.2.1.2,.vec 4 [] 0 true,.vec 4 (l8 (c.pieces.map A0)) m.2.2.2.2.2.1 m.2.2.2.2.2.2]))
theorem nQ (e:Nat→Nat) (l:List (List IC)):(l8 l).map (rnL e)=l8 l:=by
 unfold l8
 rw[List.map_map]
 exact List.map_congr_left fun x _=>eS e x
theorem BK (a s:Nat) (m:Nat→Gp×Gp) (i:Nat) (l:List Issue):(bj (sY a) m i l).map (rnL fun o=>s+o)=bj (sY (a+s)) m i l:=by
 apply List.ext_getElem?
 intro k
 simp only[bj,List.getElem?_map,List.getElem?_mapIdx]
 cases l[k]? with
 | none=>rfl
 | some x =>
   simp only[Option.map_some,sr]
   by_cases h:k<i
   ·rw[if_pos h,if_pos h]
    simp only[rnL,gZ,sY]
    rw[show s+(4*k+(13+a))=4*k+(13+(a+s)) by omega,show s+(4*k+(15+a))=4*k+(15+(a+s)) by omega]
   ·rw[if_neg h,if_neg h,eS]
theorem BL (N a s:Nat) (m:Nat→Gp) (i:Nat) (l:List Holder):(bn (sZ N a) m i l).map (rnL fun o=>s+o)=bn (sZ N (a+s)) m i l:=by
 apply List.ext_getElem?
 intro k
 simp only[bn,List.getElem?_map,List.getElem?_mapIdx]
 cases l[k]? with
 | none=>rfl
 | some x =>
   simp only[Option.map_some,sB]
   by_cases h:k<i
   ·rw[if_pos h,if_pos h]
    simp only[rnL,gZ,sZ]
    rw[show s+(4*N+2*k+(17+a))=4*N+2*k+(17+(a+s)) by omega]
   ·rw[if_neg h,if_neg h,eS]
theorem xW (a s:Nat) (m:Bq) (c:Case):rnL (fun o=>s+o) (oL a m c)=oL (a+s) m c:=by
 simp only[oL,rnL,gZ]
 simp only[List.cons.injEq,DC.vec.injEq,and_true,true_and]
 omega
theorem Eo (a s:Nat) (m:Bq) (c:Case):(qr a m c).map (cr fun o=>s+o)=qr (a+s) m c:=by
 have h4:(F0 (jw c.p.n.reg m.2.1) c.p.n.reg.length).map (cr fun o=>s+o)=F0 (jw c.p.n.reg m.2.1) c.p.n.reg.length:=by
  rw[mZ]
  refine dh fun k hk=>?_
  unfold jw
  rw[List.getElem?_eq_getElem hk]
  simp only[cr,nQ,List.map_nil]
 have h2:(I1 (lh c.p.holders m.2.2.2.1) c.p.holders.length).map (cr fun o=>s+o)=I1 (lh c.p.holders m.2.2.2.1) c.p.holders.length:=by
  rw[nf]
  refine di fun k hk=>?_
  unfold lh
  rw[List.getElem?_eq_getElem hk]
  simp only[cr,nQ,List.map_nil]
 simp only[qr,List.map_cons,List.map_append,List.map_nil,cr,xW,BK,BL,nQ,h4,h2]
theorem qj (n:Nat):u3 [] n=fun o=>n+o:=by
 funext o;simp[u3]
theorem rZ (objs o:List DObj):n5 [] objs o=objs++o.map (cr fun k=>objs.length+k):=by
 unfold n5
 rw[qj]
 simp[fP]
end Go.Ab
namespace Go.Proofs
open Go Go.Ab
variable {G:GW}
attribute [simp] r5 ct M7 gF u5 A1 nilV I6 ZK
theorem wK (c:Case) (hk:KC c):DCall Tryz.prog G 98 [n3 c] [] (fun d o=>∃ m:Bq,True∧d=.agg (oL 0 m c)∧o=qr 0 m c):=by
 generalize hQ:(fun (d:DV) (o:List DObj)=>∃ m:Bq,True∧d=.agg (oL 0 m c)∧o=qr 0 m c)=Q
 refine h9 Tryz.func98 rfl Tryz.ntmps98 (by simp) rfl ?_
 have c1:=HM (G:=G) c.p.n.reg (by have:=hk.p.n.1.1;omega)
 have c2:=FF (G:=G) c.p.n.notes (by have:=hk.p.n.2.1;omega)
 unfold E6 at c1 c2
 simp only[List.length_map] at c1 c2
 simp only[n3]
 have hs:=trivial
 repeat' first|with_reducible refine zz ?_|simp -dsimp[hs]|refine CallE.embed_ex [] (c1) ?_ ?_ ?_ ?_ ?_ ?_;(focus simp[u3];done);(focus simp;done);(focus simp;done);(focus simp;done);(focus refine n7 ?_;simp[u3,p9];done);intro mmA hmmA;try simp -dsimp[n5,u3,hs]|refine CallE.embed_ex [] (c2) ?_ ?_ ?_ ?_ ?_ ?_;(focus simp[u3];done);(focus simp;done);(focus simp;done);(focus simp;done);(focus refine n7 ?_;simp[u3,p9];done);intro mmB hmmB;try simp -dsimp[n5,u3,hs]|refine W3 (id:=2) (nt:=117) [none,none,none,none,none,none,none,none,none,none,none,none,none,none,none,some [0],some [15],some [16],some [17],none,some [1],some [20],some [21],none] [0,1,2,3,4,5,6,7,9,10,11,12,13,15,16,17,18,20,21,22,8,14,19,23] 20 [([0,1,8,9,10,11,12,13,14,15,16,17,18,19],[0,1,2,3,4,5,6,15,36,37,38,85,86,87]),([0,1,13,14,15,16,17,18,19],[0,1,2,3,4,5,6,16,21,36,37,38,85,86,87]),([1,17,18,19],[0,1,2,3,4,5,6,16,22,26,36,37,38,85,86,87])] [0,1,2,3,4,5,6,36,37,38,85,86,87] mixed rfl (by kernel_rfl) (by kernel_rfl) (by kernel_rfl) ?_|with_reducible refine zE [0,1,2,3,4,5,6,36,37,38,85,86,87] ?_
 all_goals try clear hs
 refine i6 (ι:={ q:Nat×(Nat→Gp×Gp) // q.1≤c.p.n.reg.length }) (fun q=>⟨117,[(1,.one (.ptr 0 0)),(2,.one (.ptr 7 0)),(3,.one (.ptr 0 0)),(36,iv (c.p.n.reg.length:Int)),(37,iv (q.1.1:Int))],.row [.vec 9 mmA.1 0 c.p.n.reg.length,.vec 11 mmB.1 0 c.p.n.notes.length,.im (.sl (c.p.holders.map o2)),.im (.sl (c.p.prints.map w5)),.im (rI c.machine),.im (rI c.of),.im (.sl (c.loop.links.map F9)),.im (rI c.loop.lo),.im (rI c.loop.hi),.im (.sl (c.pieces.map A0))] :: .vec 0 [] 0 true :: .vec 0 [] 0 true :: .vec 0 [] 0 true :: .vec 0 [] 0 true :: .vec 0 [] 0 true :: .vec 0 [] 0 true :: .row [.vec 1 0 0 0,.vec 2 0 0 0,.vec 3 0 0 0,.vec 4 0 0 0,.im (rI 0),.im (rI 0),.vec 5 0 0 0,.im (rI 0),.im (rI 0),.vec 6 0 0 0] :: .vec 5 [] 0 true :: .vec 5 (bj (fun k=>(4*k+13,4*k+15)) q.1.2 q.1.1 c.p.n.reg) mmA.1 mmA.2 :: .vec 10 [] 0 true :: .vec 10 (l8 (c.p.n.notes.map l5)) mmB.1 mmB.2 :: F0 (jw c.p.n.reg q.1.2) q.1.1⟩) (fun q=>c.p.n.reg.length-q.1.1) ⟨(0,fun _=>((0,false),(0,false))),by simp⟩ (zv [1,2,3,36,37] (by simp[vN,F0])) ?_
 rintro⟨⟨i,m⟩,hi⟩
 simp only at hi
 simp only[iv,rI]
 by_cases hlt:i<c.p.n.reg.length
 ·have hw:IntKind.i64.wrap ((i:Int)+1)=((i+1:Nat):Int):=n8 (by omega) (by have:=hk.p.n.1.1;omega)
  have hx0:c.p.n.reg[i]?=some c.p.n.reg[i]:=by simp[hlt]
  have hxm:=hk.p.n.1.2 _ (List.mem_of_getElem? hx0)
  generalize c.p.n.reg[i]=x at *
  have c3:=HL (G:=G) x.items (by omega)
  have c4:=HO (G:=G) x.dims (by omega)
  unfold E6 at c3 c4
  simp only[List.length_map] at c3 c4
  have hat:∀ h,(bj (fun k=>(4*k+13,4*k+15)) m i c.p.n.reg)[i]'h=(e9 x).map .im:=fun h=>by
   have:=CB (b:=fun k=>(4*k+13,4*k+15)) (m:=m) hx0
   rw[List.getElem?_eq_getElem h] at this;exact Option.some.inj this
  simp only[e9,rI,List.map_cons,List.map_nil] at hat
  have hset:=fun g=>yX (b:=fun k=>(4*k+13,4*k+15)) (m:=m) hx0 g
  have hsuc:=fun g=>vM (m:=m) hx0 g
  have hs:=za hlt (za hw hat)
  repeat' first|with_reducible refine zz ?_|simp -dsimp[hs]|refine CallE.embed_ex [] (c3) ?_ ?_ ?_ ?_ ?_ ?_;(focus simp[u3];done);(focus simp;done);(focus simp;done);(focus simp;done);(focus refine n7 ?_;simp[u3,p9];done);intro mmC hmmC;try simp -dsimp[n5,u3,hs]|refine CallE.embed_ex [] (c4) ?_ ?_ ?_ ?_ ?_ ?_;(focus simp[u3];done);(focus simp;done);(focus simp;done);(focus simp;done);(focus refine n7 ?_;simp[u3,p9];done);intro mmD hmmD;try simp -dsimp[n5,u3,hs]|refine W3 (id:=7) (nt:=117) [none,none,none,none,none,none,none,none,none,none,none,none,some [0],some [12],none,some [1],some [15],none] [0,1,2,3,4,5,7,8,9,10,12,13,15,16,6,11,14,17] 14 [([0,1,6,7,8,9,10,11,12,13],[0,1,2,3,4,5,6,36,37,38,53,85,86,87]),([0,1,10,11,12,13],[0,1,2,3,4,5,6,36,37,38,54,58,85,86,87]),([1,12,13],[0,1,2,3,4,5,6,36,37,38,54,59,61,85,86,87])] [0,1,2,3,4,5,6,36,37,38,85,86,87] mixed rfl (by kernel_rfl) (by kernel_rfl) (by kernel_rfl) ?_|with_reducible refine zE [0,1,2,3,4,5,6,36,37,38,85,86,87] ?_|refine i9 ?_ ?_<;>intro h<;>try simp only[i7] at h
  all_goals try clear hs
  refine At.round ⟨(i+1,fx m i (mmC,mmD)),by simp only;omega⟩ (by simp only;omega) (Weak.of_keep [1,2,3,36,37] ?_)
  rw[← hset (mmC,mmD),hsuc (mmC,mmD)]
  simp
 ·obtain rfl:i=c.p.n.reg.length:=by omega
  have c5:=FH (G:=G) c.p.holders (by have:=hk.p.p.h;omega)
  have c6:=De (G:=G) c.p.prints (by have:=hk.p.p.q;omega)
  unfold E6 at c5 c6
  simp only[List.length_map] at c5 c6
  have hs:=hlt
  repeat' first|with_reducible refine zz ?_|simp -dsimp[hs]|refine CallE.embed_ex [] (c5) ?_ ?_ ?_ ?_ ?_ ?_;(focus simp[u3];done);(focus simp;done);(focus simp;done);(focus simp;done);(focus refine n7 ?_;simp[u3,p9];done);intro mmE hmmE;try simp -dsimp[n5,u3,hs]|refine CallE.embed_ex [] (c6) ?_ ?_ ?_ ?_ ?_ ?_;(focus simp[u3];done);(focus simp;done);(focus simp;done);(focus simp;done);(focus refine n7 ?_;simp[u3,p9];done);intro mmF hmmF;try simp -dsimp[n5,u3,hs]|refine W3 (id:=9) (nt:=117) [none,none,none,none,none,none,none,none,none,none,none,none,some [0],some [12],none,some [1],some [15],none] [0,1,2,3,4,5,7,8,9,10,12,13,15,16,6,11,14,17] 14 [([0,1,6,7,8,9,10,11,12,13],[0,1,2,3,4,5,6,36,37,38,70,85,86,87]),([0,1,10,11,12,13],[0,1,2,3,4,5,6,36,37,38,71,75,85,86,87]),([1,12,13],[0,1,2,3,4,5,6,36,37,38,71,76,78,85,86,87])] [0,1,2,3,4,5,6,36,37,38,85,86,87] mixed rfl (by kernel_rfl) (by kernel_rfl) (by kernel_rfl) ?_|with_reducible refine zE [0,1,2,3,4,5,6,36,37,38,85,86,87] ?_|refine i9 ?_ ?_<;>intro h<;>try simp only[i7] at h
  all_goals try clear hs
  clear hlt hi
  generalize hN:c.p.n.reg.length=N at *
  refine i6 (ι:={ q:Nat×(Nat→Gp) // q.1≤c.p.holders.length }) (fun q=>⟨117,[(1,.one (.ptr 0 0)),(2,.one (.ptr 7 0)),(3,.one (.ptr 0 0)),(85,iv (c.p.holders.length:Int)),(86,iv (q.1.1:Int))],.row [.vec 9 mmA.1 0 N,.vec 11 mmB.1 0 c.p.n.notes.length,.vec (4*N+13) mmE.1 0 c.p.holders.length,.vec (4*N+15) mmF.1 0 c.p.prints.length,.im (rI c.machine),.im (rI c.of),.im (.sl (c.loop.links.map F9)),.im (rI c.loop.lo),.im (rI c.loop.hi),.im (.sl (c.pieces.map A0))] :: .vec 0 [] 0 true :: .vec 0 [] 0 true :: .vec 0 [] 0 true :: .vec 0 [] 0 true :: .vec 0 [] 0 true :: .vec 0 [] 0 true :: .row [.vec 1 0 0 0,.vec 2 0 0 0,.vec 3 0 0 0,.vec 4 0 0 0,.im (rI 0),.im (rI 0),.vec 5 0 0 0,.im (rI 0),.im (rI 0),.vec 6 0 0 0] :: .vec 5 [] 0 true :: .vec 5 (bj (fun k=>(4*k+13,4*k+15)) m N c.p.n.reg) mmA.1 mmA.2 :: .vec 10 [] 0 true :: .vec 10 (l8 (c.p.n.notes.map l5)) mmB.1 mmB.2 :: (F0 (jw c.p.n.reg m) N ++ .vec 4 [] 0 true :: .vec 4 (bn (fun k=>4*N+2*k+17) q.1.2 q.1.1 c.p.holders) mmE.1 mmE.2 :: .vec 7 [] 0 true :: .vec 7 (l8 (c.p.prints.map w5)) mmF.1 mmF.2 :: I1 (lh c.p.holders q.1.2) q.1.1)⟩) (fun q=>c.p.holders.length-q.1.1) ⟨(0,fun _=>(0,false)),by simp⟩ (zv [1,2,3,85,86] (by simp[vX,I1])) ?_
  rintro⟨⟨i,m2⟩,hi⟩
  simp only at hi
  simp only[iv,rI]
  by_cases hlt:i<c.p.holders.length
  ·have hw:IntKind.i64.wrap ((i:Int)+1)=((i+1:Nat):Int):=n8 (by omega) (by have:=hk.p.p.h;omega)
   have hx0:c.p.holders[i]?=some c.p.holders[i]:=by simp[hlt]
   have hxm:=hk.p.p.d _ (List.mem_of_getElem? hx0)
   generalize c.p.holders[i]=x at *
   have c3:=HN (G:=G) x.draws (by omega)
   unfold E6 at c3
   simp only[List.length_map] at c3
   have hat:∀ h,(bn (fun k=>4*N+2*k+17) m2 i c.p.holders)[i]'h=(o2 x).map .im:=fun h=>by
    have:=CL (b:=fun k=>4*N+2*k+17) (m:=m2) hx0
    rw[List.getElem?_eq_getElem h] at this;exact Option.some.inj this
   simp only[o2,rI,List.map_cons,List.map_nil] at hat
   have hset:=fun g=>zB (b:=fun k=>4*N+2*k+17) (m:=m2) hx0 g
   have hsuc:=fun g=>vW (m:=m2) hx0 g
   have hs:=za hlt (za hw hat)
   repeat' first|with_reducible refine zz ?_|simp -dsimp[hs]|refine CallE.embed_ex [] (c3) ?_ ?_ ?_ ?_ ?_ ?_;(focus simp[u3];done);(focus simp;done);(focus simp;done);(focus simp;done);(focus refine n7 ?_;simp[u3,p9];done);intro mmC hmmC;try simp -dsimp[n5,u3,hs]|refine W3 (id:=13) (nt:=117) [none,none,none,none,none,none,none,none,none,none,none,none,none,none,some [3,4],some [14],none] [0,1,2,3,4,5,6,7,8,9,10,11,12,14,15,13,16] 15 [([0,1,2,3,4,13,14],[0,1,2,3,4,5,6,36,37,38,85,86,87,101])] [0,1,2,3,4,5,6,36,37,38,85,86,87] mixed rfl (by kernel_rfl) (by kernel_rfl) (by kernel_rfl) ?_|with_reducible refine zE [0,1,2,3,4,5,6,36,37,38,85,86,87] ?_|refine i9 ?_ ?_<;>intro h<;>try simp only[i7] at h
   all_goals try clear hs
   refine At.round ⟨(i+1,fx m2 i mmC),by simp only;omega⟩ (by simp only;omega) (Weak.of_keep [1,2,3,85,86] ?_)
   rw[← hset mmC,hsuc mmC]
   simp
   refine congrArg (fun a=>(bn (fun k=>4*N+2*k+17) m2 i c.p.holders).set i [_,_,_,DC.vec a _ _ _]) ?_
   omega
  ·obtain rfl:i=c.p.holders.length:=by omega
   have c7:=FG (G:=G) c.loop.links (by have:=hk.l;omega)
   have c8:=Df (G:=G) c.pieces (by have:=hk.q;omega)
   unfold E6 at c7 c8
   simp only[List.length_map] at c7 c8
   have hs:=hlt
   repeat' first|(with_reducible first|refine zz ?_|refine zr ?_)|simp -dsimp[hs]|refine CallE.embed_ex [] (c7) ?_ ?_ ?_ ?_ ?_ ?_;(focus simp[u3];done);(focus simp;done);(focus simp;done);(focus simp;done);(focus refine n7 ?_;simp[u3,p9];done);intro mmG hmmG;try simp -dsimp[n5,u3,hs]|refine CallE.embed_ex [] (c8) ?_ ?_ ?_ ?_ ?_ ?_;(focus simp[u3];done);(focus simp;done);(focus simp;done);(focus simp;done);(focus refine n7 ?_;simp[u3,p9];done);intro mmH hmmH;try simp -dsimp[n5,u3,hs]|refine W3 (id:=15) (nt:=117) [none,none,none,none,none,none,none,some [],some [7],none,some [],none] [0,1,2,4,5,7,8,10,3,6,9,11] 8 [([3,4,5,6,7],[0,1,2,3,4,5,6,36,37,38,85,86,87,108]),([5,6,7],[0,1,2,3,4,5,6,36,37,38,85,86,87,109,111]),([7],[0,1,2,3,4,5,6,36,37,38,85,86,87,109,112,114])] [0,1,2,3,4,5,6,36,37,38,85,86,87] mixed rfl (by kernel_rfl) (by kernel_rfl) (by kernel_rfl) ?_|with_reducible refine zE [0,1,2,3,4,5,6,36,37,38,85,86,87] ?_|refine i9 ?_ ?_<;>intro h<;>try simp only[i7] at h
   all_goals try clear hs
   subst hQ
   refine⟨((mmA,mmB),m,(mmE,mmF),m2,(mmG,mmH)),trivial,?_,?_⟩
   ·simp only[oL,hN,DV.agg.injEq,List.cons.injEq,DC.vec.injEq,and_true,true_and,Nat.add_zero]
    exact⟨rfl,rfl,by omega,rfl,rfl,by omega⟩
   ·simp only[qr,oL,hN,List.cons.injEq,DObj.row.injEq,DC.vec.injEq,and_true,true_and,Nat.add_zero]
    exact⟨⟨rfl,rfl,by omega,rfl,rfl,by omega⟩,⟨rfl,rfl,by omega,rfl,rfl,by omega⟩,rfl,rfl⟩
end Go.Proofs
namespace Go.Proofs
open Go Go.Ab Tryz
variable {G:GW}
def Jg (x:Piece) (lo hi:Int):Piece:=⟨x.holder,x.day,lo,hi⟩
def Cp (c:Case) (k:Nat) (x:Piece) (lo hi:Int):Case:={ c with pieces:=c.pieces.set k (Jg x lo hi) }
noncomputable def oZ (c:Case) (n lo hi:Int):Int:=if X7 c n≠0 then X7 c n else match c.pieces[n.toNat]? with
 | some x=>if T6 lo hi x.lo x.hi=true then 0 else 2
 | none=>2
theorem Cm {c:Case} {n lo hi:Int} (h:oZ c n lo hi=0):s6 c=0∧∃ (k:Nat) (x:Piece),n=(k:Int)∧c.pieces[k]?=some x∧T6 lo hi x.lo x.hi=true:=by
 unfold oZ at h
 by_cases h0:X7 c n=0
 ·rw[if_neg (by simp[h0])] at h
  obtain⟨he,hn0,hn1⟩:=pO h0
  obtain⟨k,rfl⟩:=Int.eq_ofNat_of_zero_le hn0
  rw[Int.toNat_natCast] at h
  cases hx:c.pieces[k]? with
  | none=>rw[hx] at h;simp at h
  | some x =>
    rw[hx] at h
    simp only at h
    by_cases hi':T6 lo hi x.lo x.hi=true
    ·exact⟨he,k,x,rfl,hx,hi'⟩
    ·rw[if_neg hi'] at h;exact absurd h (by decide)
 ·rw[if_pos (by exact h0)] at h;exact absurd h h0
def xx (s:Nat) (m:Bq) (c:Case) (lo hi:Int):List DObj:=.row (oL (9+s) m c) :: .row [.im (rI lo),.im (rI hi)] :: .vec 0 [] 0 true :: .vec 0 [] 0 true :: .vec 0 [] 0 true :: .vec 0 [] 0 true :: .vec 0 [] 0 true :: .vec 0 [] 0 true :: .row (oL (9+s) m c) :: qr (9+s) m c
theorem ET {l:List Piece} {k:Nat} {x:Piece} (lo hi:Int) (h:l[k]?=some x):(l8 (l.map A0)).set k [.im (.raw (.int .i64 x.holder)),.im (.raw (.int .i64 x.day)),.im (.raw (.int .i64 lo)),.im (.raw (.int .i64 hi))]=l8 ((l.set k (Jg x lo hi)).map A0):=by
 rw[List.map_set]
 unfold l8
 rw[List.map_set]
 rfl
theorem AK (c:Case) (k:Nat) (x:Piece) (lo hi:Int) (hx0:c.pieces[k]?=some x) (h0:s6 c=0) (hin:T6 lo hi x.lo x.hi=true) (hG:o4 G) (hN:D6 G) (hS:u7 G) (hR:w0 G) (hk:KC c):DCall prog G 41 [n3 c,iv (k:Int),C7 lo hi] [] (fun d o=>∃ m:Bq,True∧d=.tup [.agg (oL 9 m (Cp c k x lo hi)),iv 0]∧o=xx 0 m (Cp c k x lo hi) lo hi):=by
 generalize hQ:(fun (d:DV) (o:List DObj)=>∃ m:Bq,True∧d=.tup [.agg (oL 9 m (Cp c k x lo hi)),iv 0]∧o=xx 0 m (Cp c k x lo hi) lo hi)=Q
 refine h9 func41 rfl ntmps41 (by simp) rfl ?_
 have hlt:k<c.pieces.length:=e7 hx0
 have hx:c.pieces[k]=x:=(List.getElem?_eq_some_iff.1 hx0).2
 have hq16:=hk.q
 have c1:=gP (G:=G) c hG hN hS hR hk
 rw[h0] at c1
 have c2:=N0 (G:=G) 0 ((c.pieces.length:Int)-1) [(k:Int)] (by simp)
 rw[show ([(k:Int)].all fun y=>decide (0≤y)&&decide (y≤(c.pieces.length:Int)-1))=true by simp;omega] at c2
 have c3:=bk (G:=G) lo hi x.lo x.hi
 rw[hin] at c3
 have hw:IntKind.i64.wrap ((c.pieces.length:Int)-1)=(c.pieces.length:Int)-1:=n8 (by omega) (by omega)
 have c4:=wK (G:=G) c hk
 simp only[n3,j4,C7] at c1 c3 c4 ⊢
 have hs:=za hx (za hlt hw)
 repeat' first|(with_reducible first|refine zz ?_|refine zr ?_)|simp -dsimp[hs]|refine zp c1 ?_|refine zq c2 ?_|refine zq c3 ?_|refine CallE.embed_ex [] c4 ?_ ?_ ?_ ?_ ?_ ?_;(focus simp[u3];done);(focus simp;done);(focus simp;done);(focus simp;done);(focus refine n7 ?_;simp[u3,p9];done);intro mmA hmmA;(try simp only[rZ,qj,jq,xW,Eo,Nat.zero_add]);try simp -dsimp[oL,qr]|refine zM 4 52 27 [0,1,2,3,5,6,7,8,12,41] ?_|with_reducible refine zE [0,1,2,3,5,6,7,8,12,41] ?_|refine i9 ?_ ?_<;>intro h<;>try simp only[i7] at h
 subst hQ
 have hst:=ET lo hi hx0
 refine⟨mmA,trivial,?_,?_⟩
 ·simp[oL,Cp]
 ·simp[xx,qr,oL,Cp,hst]
def jT:Case:=⟨⟨⟨[],[]⟩,[],[]⟩,0,0,⟨[],0,0⟩,[]⟩
noncomputable def EV (c:Case) (n lo hi:Int):Case:=if oZ c n lo hi=0 then (match c.pieces[n.toNat]? with|some x=>Cp c n.toNat x lo hi|none=>jT) else jT
theorem Cl {c:Case} {k:Nat} {x:Piece} {lo hi:Int} (h:oZ c (k:Int) lo hi=0) (hx:c.pieces[k]?=some x):EV c (k:Int) lo hi=Cp c k x lo hi:=by
 unfold EV;rw[if_pos h,Int.toNat_natCast,hx]
theorem EU {c:Case} {n lo hi:Int} (h:¬ oZ c n lo hi=0):EV c n lo hi=jT:=by
 unfold EV;rw[if_neg h]
theorem EW {c:Case} {k:Nat} {x:Piece} (lo hi:Int) (h0:s6 c=0) (hx:c.pieces[k]?=some x):oZ c (k:Int) lo hi=if T6 lo hi x.lo x.hi=true then 0 else 2:=by
 have hlt:=e7 hx
 have h1:X7 c (k:Int)=0:=by unfold X7;rw[if_neg (by simp[h0]),if_pos (by omega)]
 unfold oZ
 rw[if_neg (by simp[h1]),Int.toNat_natCast,hx]
theorem Cn {c:Case} {n:Int} (lo hi:Int) (h0:s6 c=0) (hn:¬ (0≤n∧n<c.pieces.length)):oZ c n lo hi=2:=by
 have h1:X7 c n=2:=by unfold X7;rw[if_neg (by simp[h0]),if_neg hn]
 unfold oZ
 rw[if_pos (by rw[h1];decide),h1]
theorem Co {c:Case} (n lo hi:Int) (h0:¬ s6 c=0):oZ c n lo hi=s6 c:=by
 have h1:X7 c n=s6 c:=by unfold X7;rw[if_pos h0]
 unfold oZ
 rw[if_pos (by rw[h1];exact h0),h1]
theorem AL (c:Case) (n lo hi:Int) (h:¬ oZ c n lo hi=0) (hG:o4 G) (hN:D6 G) (hS:u7 G) (hR:w0 G) (hk:KC c):zP prog G 41 [n3 c,iv n,C7 lo hi] (.tup [n3 jT,iv (oZ c n lo hi)]):=by
 refine zf func41 ntmps41 ?_
 try simp only[iv,C7]
 have c1:=gP (G:=G) c hG hN hS hR hk
 have hq16:=hk.q
 simp only[n3,j4,C7] at c1 ⊢
 by_cases h0:s6 c=0
 ·rw[h0] at c1
  have hw:IntKind.i64.wrap ((c.pieces.length:Int)-1)=(c.pieces.length:Int)-1:=n8 (by omega) (by omega)
  have c2:=N0 (G:=G) 0 ((c.pieces.length:Int)-1) [n] (by simp)
  by_cases hn:0≤n∧n<c.pieces.length
  ·obtain⟨k,rfl⟩:=Int.eq_ofNat_of_zero_le hn.1
   have hlt:k<c.pieces.length:=by omega
   have hx0:c.pieces[k]?=some c.pieces[k]:=by simp[hlt]
   have hE:=EW lo hi h0 hx0
   generalize hx:c.pieces[k]=x at *
   have c3:=bk (G:=G) lo hi x.lo x.hi
   rw[show ([(k:Int)].all fun y=>decide (0≤y)&&decide (y≤(c.pieces.length:Int)-1))=true by simp;omega] at c2
   have hin:T6 lo hi x.lo x.hi=false:=by
    cases hb:T6 lo hi x.lo x.hi
    ·rfl
    ·rw[hb,if_pos rfl] at hE;exact absurd hE h
   rw[hin,if_neg (by decide)] at hE
   rw[hin] at c3
   rw[hE]
   simp only[C7] at c3
   have hs:=za hx (za hlt hw)
   repeat' first|(with_reducible first|refine zz ?_|refine zr ?_)|simp -dsimp[hs]|refine zp c1 ?_|refine zq c2 ?_|refine zq c3 ?_|refine zM 4 52 27 [0,1,2,3,5,6,7,8,12,41] ?_|with_reducible refine zE [0,1,2,3,5,6,7,8,12,41] ?_|refine i9 ?_ ?_<;>intro h<;>try simp only[i7] at h
   all_goals simp[jT]
  ·have hE:=Cn lo hi h0 hn
   rw[show ([n].all fun y=>decide (0≤y)&&decide (y≤(c.pieces.length:Int)-1))=false by simp;omega] at c2
   rw[hE]
   have hs:=hw
   repeat' first|(with_reducible first|refine zz ?_|refine zr ?_)|simp -dsimp[hs]|refine zp c1 ?_|refine zq c2 ?_|refine zM 4 52 27 [0,1,2,3,5,6,7,8,12,41] ?_|with_reducible refine zE [0,1,2,3,5,6,7,8,12,41] ?_|refine i9 ?_ ?_<;>intro h<;>try simp only[i7] at h
   all_goals simp[jT]
 ·have hE:=Co n lo hi h0
  rw[hE]
  have hs:=h0
  repeat' first|(with_reducible first|refine zz ?_|refine zr ?_|refine zE [0,1,2,3,5,6,7,8,12,41] ?_)|simp -dsimp[hs]|refine zp c1 ?_|refine i9 ?_ ?_<;>intro h<;>try simp only[i7] at h
  all_goals simp[jT]
end Go.Proofs
namespace Go.Ab
open Go
theorem zS {i n:Nat} (h:i<n) (F:Nat→Q4) (R:List DObj):(F0 F n++R)[4*i+1]?=some (F i).2.1:=by
 rw[List.getElem?_append_left (by simp;omega),iA F (by omega) h];rfl
theorem zR {i n:Nat} (h:i<n) (F:Nat→Q4) (R:List DObj):(F0 F n++R)[4*i+3]?=some (F i).2.2.2:=by
 rw[List.getElem?_append_left (by simp;omega),iA F (by omega) h];rfl
theorem zT {i n:Nat} (h:i<n) (F:Nat→Q2) (R:List DObj):(I1 F n++R)[2*i+1]?=some (F i).2:=by
 rw[List.getElem?_append_left (by simp;omega),ng F (by omega) h];rfl
theorem nZ {α β:Type} {f:α→Option β}:∀ {l:List α} {r:List β},l.length=r.length→(∀ (i:Nat) (x:α),l[i]?=some x→f x=r[i]?)→D8 f l=some r
 | [],[],_,_=>rfl
 | [],_ :: _,h,_=>by simp at h
 | _ :: _,[],h,_=>by simp at h
 | x :: l,y :: r,h,h2=>by
   have h0:=h2 0 x rfl
   have h1:=nZ (f:=f) (l:=l) (r:=r) (by simpa using h) (fun i z hz=>by simpa using h2 (i+1) z (by simpa using hz))
   simp only[List.getElem?_cons_zero] at h0
   simp only[D8,h0,h1]
theorem gj {k o g len sz:Nat} {nl:Bool} {objs:List DObj} {es:List (List DC)} {L:List (List IC)} (ho:objs[o]?=some (.vec sz es g nl)) (hl:es.length=len) (h:D8 (D8 (frz k 0 objs)) es=some L):frz (k+1) 0 objs (.vec o g 0 len)=some (.sl L):=by
 subst hl
 simp only[frz,ho,Nat.zero_le,if_true,Nat.zero_add,Nat.le_refl,and_self,List.drop_zero,List.take_length,h,Option.map_some]
theorem dT {o g len sz:Nat} {nl:Bool} {objs:List DObj} {es:List (List DC)} {L:List (List IC)} (ho:objs[o]?=some (.vec sz es g nl)) (hl:es.length=len) (h:D8 (D8 (frz 19 0 objs)) es=some L):fz 0 objs (.vec o g 0 len)=.im (.sl L):=by
 simp only[fz,DC.lt,gj ho hl h]
 simp
theorem Ft {s:Nat} {m:Bq} {c:Case} {objs:List DObj} (h1:objs[9+s]?=some (.vec 5 (bj (sY s) m.2.1 c.p.n.reg.length c.p.n.reg) m.1.1.1 m.1.1.2)) (h2:objs[11+s]?=some (.vec 10 (l8 (c.p.n.notes.map l5)) m.1.2.1 m.1.2.2))
 (h3:objs[4*c.p.n.reg.length+(13+s)]?=some (.vec 4 (bn (sZ c.p.n.reg.length s) m.2.2.2.1 c.p.holders.length c.p.holders) m.2.2.1.1.1 m.2.2.1.1.2)) (h4:objs[4*c.p.n.reg.length+(15+s)]?=some (.vec 7 (l8 (c.p.prints.map w5)) m.2.2.1.2.1 m.2.2.1.2.2))
 (h5:objs[4*c.p.n.reg.length+2*c.p.holders.length+(17+s)]?=some (.vec 3 (l8 (c.loop.links.map F9)) m.2.2.2.2.1.1 m.2.2.2.2.1.2)) (h6:objs[4*c.p.n.reg.length+2*c.p.holders.length+(19+s)]?=some (.vec 4 (l8 (c.pieces.map A0)) m.2.2.2.2.2.1 m.2.2.2.2.2.2))
 (hA:∀ (k:Nat) (x:Issue),c.p.n.reg[k]?=some x→objs[4*k+(13+s)]?=some (.vec 2 (l8 (x.items.map A3)) (m.2.1 k).1.1 (m.2.1 k).1.2)∧objs[4*k+(15+s)]?=some (.vec 3 (l8 (x.dims.map E0)) (m.2.1 k).2.1 (m.2.1 k).2.2))
 (hB:∀ (k:Nat) (x:Holder),c.p.holders[k]?=some x→objs[4*c.p.n.reg.length+2*k+(17+s)]?=some (.vec 1 (l8 (x.draws.map Ab.encI)) (m.2.2.2.1 k).1 (m.2.2.2.1 k).2)):(oL s m c).map (fz 0 objs)=(j4 c).map .im:=by
 have e1:D8 (D8 (frz 19 0 objs)) (bj (sY s) m.2.1 c.p.n.reg.length c.p.n.reg)=some (c.p.n.reg.map e9):=by
  refine nZ (by simp) fun i r hr=>?_
  simp only[bj,List.getElem?_mapIdx,Option.map_eq_some_iff] at hr
  obtain⟨x,hx,rfl⟩:=hr
  rw[List.getElem?_map,hx]
  obtain⟨a1,a2⟩:=hA i x hx
  have b1:=gj (k:=18) (len:=x.items.length) a1 (by simp[l8]) (Q8 _ _ _ _)
  have b2:=gj (k:=18) (len:=x.dims.length) a2 (by simp[l8]) (Q8 _ _ _ _)
  have hlt:=e7 hx
  have f1:∀ c:IC,frz 19 0 objs (.im c)=some c:=fun _=>rfl
  simp only[sr,if_pos hlt,D8,f1,sY,b1,b2,Option.map_some,e9]
 have e2:D8 (D8 (frz 19 0 objs)) (bn (sZ c.p.n.reg.length s) m.2.2.2.1 c.p.holders.length c.p.holders)=some (c.p.holders.map o2):=by
  refine nZ (by simp) fun i r hr=>?_
  simp only[bn,List.getElem?_mapIdx,Option.map_eq_some_iff] at hr
  obtain⟨x,hx,rfl⟩:=hr
  rw[List.getElem?_map,hx]
  have b1:=gj (k:=18) (len:=x.draws.length) (hB i x hx) (by simp[l8]) (Q8 _ _ _ _)
  have hlt:=e7 hx
  have f1:∀ c:IC,frz 19 0 objs (.im c)=some c:=fun _=>rfl
  simp only[sB,if_pos hlt,D8,f1,sZ,b1,Option.map_some,o2]
 simp only[oL,List.map_cons,List.map_nil,j4]
 rw[dT h1 (by simp) e1,dT h2 (by simp[l8]) (Q8 _ _ _ _),dT h3 (by simp) e2,dT h4 (by simp[l8]) (Q8 _ _ _ _),dT h5 (by simp[l8]) (Q8 _ _ _ _),dT h6 (by simp[l8]) (Q8 _ _ _ _)]
 rfl
end Go.Ab
namespace Go.Proofs
open Go Go.Ab Tryz
variable {G:GW}
attribute [simp] r5 ct M7 gF u5 A1 nilV I6 ZK
theorem jK (c:Case) (s:Susp) (w:Int) (h1:0≤s.kind∧s.kind≤255) (hG:o4 G) (hN:D6 G) (hS:u7 G) (hR:w0 G) (hC:J0 G) (hK:bR G) (hk:KC c):zP prog G 45 [n3 c,E9 s,xB w] (bv (decide (ge c s=0)&&decide (iu c s=w))):=by
 refine zf func45 ntmps45 ?_
 try simp only[xB]
 have c1:=AO (G:=G) c s h1 hG hN hS hR hC hK hk
 generalize iu c s=A at *
 generalize ge c s=B at *
 simp only[n3,j4,E9,l4,rI,List.map_cons,List.map_nil] at c1 ⊢
 have hs:=trivial
 repeat' first|(with_reducible first|refine zz ?_|refine zr ?_|refine zE [0,1,2,3,4,6,7,8] ?_)|simp -dsimp[hs]|refine zp c1 ?_|with_reducible refine j0 ?_ ?_<;>intro h<;>have h0:=h<;>(try simp only[i7] at h)<;>have h2:=h<;>(try simp at h2)<;>replace hs:=za h0 (za h (za h2 hs))
 all_goals simp
theorem CQ (m:Bq) (c:Case) (lo hi:Int):(oL 9 m c).map (fz 0 (xx 0 m c lo hi))=(j4 c).map .im:=by
 refine Ft (s:=9) (m:=m) (c:=c) ?_ ?_ ?_ ?_ ?_ ?_ ?_ ?_
 ·simp[xx,qr]
 ·simp[xx,qr]
 ·simp[xx,qr]
 ·simp[xx,qr]
 ·simp[xx,qr]
 ·simp[xx,qr]
 ·intro k x hx
  have hlt:=e7 hx
  have a1:=zS hlt
  have a3:=zR hlt
  simp[xx,qr,a1,a3,jw,hx]
 ·intro k x hx
  have hlt:=e7 hx
  have a1:=zT hlt
  simp[xx,qr,a1,lh,hx]
theorem AM (c:Case) (n lo hi:Int) (hG:o4 G) (hN:D6 G) (hS:u7 G) (hR:w0 G) (hk:KC c) (objs:List DObj):DCall prog G 41 [n3 c,iv n,C7 lo hi] objs (fun d objs'=>d=.tup [n3 (EV c n lo hi),iv (oZ c n lo hi)]∧objs'=objs):=by
 by_cases h:oZ c n lo hi=0
 ·obtain⟨he,k,x,rfl,hx0,hin⟩:=Cm h
  rw[Cl h hx0,h]
  refine DCall.frame ?_ (by simp) (by simp) objs
  refine(AK (G:=G) c k x lo hi hx0 he hin hG hN hS hR hk).mono ?_
  rintro d o ⟨m,_,rfl,rfl⟩
  have:=CQ m (Cp c k x lo hi) lo hi
  simp only[fe,fzVL,this]
  rfl
 ·rw[EU h]
  exact AL (G:=G) c n lo hi h hG hN hS hR hk objs
theorem wF:jl boltP:=by
 refine⟨?_,?_⟩
 ·exact⟨by decide,by decide⟩
 ·intro x hx
  simp only[boltP,List.mem_cons,List.not_mem_nil,or_false] at hx
  rcases hx with rfl|rfl|rfl|rfl<;>exact⟨by decide,by decide⟩
theorem th:bI boltC=true:=by decide +kernel
theorem ti:u6 boltP.n=0:=by decide +kernel
theorem wE:nums boltP.n.reg=[1,2,3]:=by decide +kernel
theorem qG:PrintsOk boltP:=by
 refine⟨by decide,by decide,fun i x hx=>?_,fun i x hx=>?_⟩
 ·rw[wE]
  have h:=List.getElem?_eq_some_iff.1 hx
  obtain⟨h1,h2⟩:=h
  have h1':i<2:=h1
  rcases i with _|_|i
  ·cases hx
   refine⟨by unfold Ii;simp,fun k d hd=>?_⟩
   rcases k with _|_|k
   ·cases hd;exact⟨by decide,by simp⟩
   ·cases hd;exact⟨by decide,fun _ e he=>by cases he;decide⟩
   ·exact absurd hd (by simp)
  ·cases hx
   refine⟨?_,fun k d hd=>?_⟩
   ·refine⟨by decide,fun _ y hy=>?_,by decide,by decide,by decide,by decide⟩
    cases hy;decide
   ·rcases k with _|k
    ·cases hd;exact⟨by decide,by simp⟩
    ·exact absurd hd (by simp)
  ·omega
 ·obtain⟨h1,h2⟩:=List.getElem?_eq_some_iff.1 hx
  have h1':i<4:=h1
  rcases i with _|_|_|_|i
  ·cases hx;exact⟨by simp,fun c hc=>by rcases c with _|_|_|_|_|c<;>first|decide +kernel|omega⟩
  ·cases hx;exact⟨fun _ y hy=>by cases hy;decide,fun c hc=>by rcases c with _|_|_|_|_|c<;>first|decide +kernel|omega⟩
  ·cases hx;exact⟨fun _ y hy=>by cases hy;decide,fun c hc=>by rcases c with _|_|_|_|_|c<;>first|decide +kernel|omega⟩
  ·cases hx;exact⟨fun _ y hy=>by cases hy;decide,fun c hc=>by rcases c with _|_|_|_|_|c<;>first|decide +kernel|omega⟩
  ·omega
theorem gL:s8 boltP=0:=by
 unfold s8
 rw[if_neg (by rw[ti];decide),if_pos (cV qG)]
theorem U1:s6 boltC=0:=by
 unfold s6
 rw[if_neg (by rw[show boltC.p=boltP from rfl,gL];decide),if_pos (by decide +kernel)]
theorem bolt_k:tx boltC∧KC boltC:=Bn wF th
theorem qF:bG boltC=(15,17):=by
 unfold bG;rw[if_pos U1];decide +kernel
theorem nA:dj boltC=0:=by
 unfold dj;rw[if_pos U1,qF];decide +kernel
theorem L0:J1 boltC=0:=by
 unfold J1;rw[if_neg (by rw[U1];decide),if_neg (by rw[nA];decide)]
theorem lD (d i w:Int) (hd:ww d 1=true) (h:(boltP.holders.any fun y=>decide (y.id=i))=true∧w∈nums boltP.n.reg):R8 boltP d 1 i w=0:=by
 unfold R8 J6
 rw[if_neg,if_pos h]
 rw[if_neg (by rw[gL];decide),if_pos hd];decide
theorem uh {l r:List Int} (hp:l.Perm r) (hs:r.Pairwise (·≤·)):j7 l=r:=
 List.Perm.eq_of_pairwise (fun a b _ _ h1 h2=>by omega) (om l) hs (((List.mergeSort_perm l _)).trans hp)
theorem lC:P1 boltC 0=[1,2]:=by
 show O1 boltP 20 2 2=_
 unfold O1
 rw[if_pos (lD 20 2 2 (by decide) (by decide +kernel))]
 unfold aE
 have e:j7 (Y9 20 2 2 boltP.prints++[aW 20 2 2 boltP.prints])=[1,2]:=uh (by decide +kernel) (by decide +kernel)
 rw[e];decide +kernel
theorem lB:P1 boltC 1=[1]:=by
 show O1 boltP 20 1 3=_
 unfold O1
 rw[if_pos (lD 20 1 3 (by decide) (by decide +kernel))]
 unfold aE
 have e:j7 (Y9 20 1 3 boltP.prints++[aW 20 1 3 boltP.prints])=[1]:=uh (by decide +kernel) (by decide +kernel)
 rw[e];decide +kernel
theorem nz:j7 (j6 boltP.n.notes)=[]:=by decide +kernel
theorem Dl:ii boltC []=false:=by decide +kernel
theorem Dn:li boltC [] 0=[(true,false),(false,true)]:=by
 show (P1 boltC 0).foldl (I8 boltC ⟨2,0,false⟩ ⟨2,20,106,107⟩ (nW boltC [] 2)) []=_
 rw[lC];decide +kernel
theorem Dm:li boltC [] 1=[(false,false)]:=by
 show (P1 boltC 1).foldl (I8 boltC ⟨3,0,true⟩ ⟨1,20,90,91⟩ (nW boltC [] 3)) []=_
 rw[lB];decide +kernel
def gM:Desk:=⟨boltC,false,[[(true,false),(false,true)],[(false,false)]]⟩
theorem nB:G5 boltC []=gM:=by
 unfold G5 gM
 rw[Dl,show (List.range boltC.pieces.length).map (li boltC [])=[li boltC [] 0,li boltC [] 1] from rfl,Dn,Dm]
theorem ai:o9 boltC=[gM]:=by
 unfold o9
 rw[show boltC.p=boltP from rfl,nz,show G9 ([]:List Int)=[[]] by decide +kernel]
 simp[nB]
theorem bolt_sus:nK boltC 2=[]∧nK boltC 1=[⟨2,0⟩,⟨3,0⟩]:=by
 unfold nK Gu DU
 rw[if_pos L0,if_pos L0,ai]
 decide +kernel
theorem AA:tu boltC=[⟨2,0⟩,⟨3,0⟩]:=by
 unfold tu AV
 rw[if_pos L0,ai]
 decide +kernel
theorem Ay:sK boltC=[⟨2,0⟩]:=by
 unfold sK
 rw[if_pos L0,ai]
 decide +kernel
theorem Az:qu boltC=(1,1):=by
 unfold qu
 rw[if_pos L0,ai]
 decide +kernel
theorem dD (k:Nat) (h:k<2):X7 boltC k=0∧jv boltC k=P1 boltC k:=by
 have e:X7 boltC k=0:=by
  unfold X7
  rw[if_neg (by rw[U1];decide),if_pos ⟨by omega,by show (k:Int)<((2:Nat):Int);omega⟩]
 exact⟨e,by unfold jv;rw[if_pos e];rfl⟩
theorem bolt_clr:mi boltC 1=0∧oO boltC 1=(90,91):=by
 have e0:=(dD 1 (by decide)).1
 have e:lA boltC 1=(90,91):=by
  show (jv boltC ((1:Nat):Int)).foldl (J5 boltC ⟨3,0,true⟩) (90,91)=_
  rw[(dD 1 (by decide)).2,lB];decide +kernel
 have e1:mi boltC 1=0:=by
  unfold mi
  rw[if_neg (by rw[show (1:Int)=((1:Nat):Int) from rfl,e0];decide),e];decide
 exact⟨e1,by unfold oO;rw[if_pos e1,e]⟩
theorem U0 (s:Susp) (h:pa 2 s=true):ge boltC s=0∧iu boltC s=H8 [gM] s:=by
 have e:ge boltC s=0:=by
  unfold ge
  rw[if_neg (by rw[L0];decide),if_pos (show pa boltC.pieces.length s=true from h)]
 exact⟨e,by unfold iu;rw[if_pos e,ai]⟩
theorem qH (s:Susp) (h:pa 2 s=true):ek boltC [] s=0∧da boltC [] s=H8 [gM] s:=by
 have e:ek boltC [] s=0:=by
  unfold ek
  rw[if_neg (by rw[L0];decide),if_neg (by rw[show boltC.p=boltP from rfl,nz];decide),if_pos (show pa boltC.pieces.length s=true from h)]
 exact⟨e,by unfold da;rw[if_pos e,nB]⟩
def Ec:Case:={ boltC with pieces:=[⟨2,20,107,107⟩,⟨1,20,90,91⟩] }
theorem bolt_ms:oZ boltC 0 107 107=0∧EV boltC 0 107 107=Ec:=by
 have e0:=(dD 0 (by decide)).1
 have e1:oZ boltC 0 107 107=0:=by
  unfold oZ
  rw[if_neg (by rw[show (0:Int)=((0:Nat):Int) from rfl,e0];decide)];rfl
 exact⟨e1,by unfold EV;rw[if_pos e1];rfl⟩
set_option maxRecDepth 10000 in
theorem Dt (hG:o4 G) (hN:D6 G) (hS:u7 G) (hU:V0 G) (hR:w0 G) (hC:J0 G) (hK:bR G) (hF:jy G):zP prog G 32 [] (bv true):=by
 refine zf func32 ntmps32 ?_
 try simp only[iv]
 have hk:=bolt_k.2
 have c0:=FP (G:=G)
 have c1:=AJ (G:=G) boltC hG hN hS hR hk
 have c2:=uy (G:=G) boltC hG hN hS hR hk
 have c3:=lG (G:=G) boltC 0 hG hN hS hR hk
 have c4:=qI (G:=G) boltC hG hN hS hU hR hC hK hk
 have c5:=AR (G:=G) boltC hG hN hS hU hR hC hF hk
 have c6:=wJ (G:=G) boltC hG hN hS hU hR hC hF hk
 have c7:=AP (G:=G) boltC hG hN hS hU hR hC hF hk
 have c8:=AQ (G:=G) boltC 1 hG hN hS hR hk
 have c9:=AM (G:=G) boltC 0 107 107 hG hN hS hR hk
 have c10:=AN (G:=G) boltC [] ⟨2,0⟩ (by decide) (by decide) hG hN hS hR hC hK hk
 rw[qF,U1] at c1
 rw[nA,U1] at c2
 rw[show (0:Int)=((0:Nat):Int) from rfl,(dD 0 (by decide)).1,(dD 0 (by decide)).2,lC] at c3
 rw[bolt_sus.1,bolt_sus.2,L0] at c4
 rw[AA,L0] at c5
 rw[Ay,L0] at c6
 rw[Az,L0] at c7
 rw[bolt_clr.1,bolt_clr.2] at c8
 rw[bolt_ms.1,bolt_ms.2] at c9
 rw[(qH ⟨2,0⟩ (by decide)).1,(qH ⟨2,0⟩ (by decide)).2,show H8 [gM] ⟨2,0⟩=1 by decide] at c10
 have d1:=jK (G:=G) boltC ⟨1,0⟩ 0 (by decide) hG hN hS hR hC hK hk
 have d2:=jK (G:=G) boltC ⟨3,0⟩ 1 (by decide) hG hN hS hR hC hK hk
 have d3:=jK (G:=G) boltC ⟨2,1⟩ 0 (by decide) hG hN hS hR hC hK hk
 rw[(U0 ⟨1,0⟩ (by decide)).1,(U0 ⟨1,0⟩ (by decide)).2,show H8 [gM] ⟨1,0⟩=0 by decide] at d1
 rw[(U0 ⟨3,0⟩ (by decide)).1,(U0 ⟨3,0⟩ (by decide)).2,show H8 [gM] ⟨3,0⟩=1 by decide] at d2
 rw[(U0 ⟨2,1⟩ (by decide)).1,(U0 ⟨2,1⟩ (by decide)).2,show H8 [gM] ⟨2,1⟩=0 by decide] at d3
 simp only[decide_true,Bool.and_self] at d1 d2 d3
 have s0:=xG (G:=G)
 have s1:=xF (G:=G) 0
 have s2:=xF (G:=G) 1
 have s3:=Eh (G:=G) 0
 have p1:=eP (G:=G) 15 17
 have p2:=eP (G:=G) 90 91
 have p3:=eP (G:=G) 107 107
 have p4:=eP (G:=G) 1 1
 have q1:=rA (G:=G) [1,2] [1,2] (by simp)
 simp only[decide_true] at q1
 have q2:=mE (G:=G) [⟨2,0⟩,⟨3,0⟩] (by simp)
 have q3:=mE (G:=G) [⟨2,0⟩] (by simp)
 simp only[n3,E9,l4,C4,C7,xB,r8,Ab.encI,rI,List.map_cons,List.map_nil,Int.natCast_zero] at *
 obtain⟨m1,m2,m3,m4,m5,m6,m7,m8,m9,hM⟩:∃ m1 m2 m3 m4 m5 m6 m7 m8 m9,(j4 Ec).map DC.im=[.im m1,.im m2,.im m3,.im m4,.im m5,.im m6,.im m7,.im m8,.im m9,.im (.sl ([⟨2,20,107,107⟩,⟨1,20,90,91⟩].map A0))]:=⟨_,_,_,_,_,_,_,_,_,rfl⟩
 rw[hM] at c9
 obtain⟨X,hX⟩:∃ X,j4 boltC=X:=⟨_,rfl⟩
 have hXf:∃ a b c d e f g h i j,X=[a,b,c,d,e,f,g,h,i,j]:=⟨_,_,_,_,_,_,_,_,_,_,hX.symm⟩
 obtain⟨x1,x2,x3,x4,x5,x6,x7,x8,x9,x10,rfl⟩:=hXf
 rw[hX] at c0 c1 c2 c3 c4 c5 c6 c7 c8 c9 c10 d1 d2 d3
 simp only[A0,rI,List.map_cons,List.map_nil] at *
 repeat' first|(with_reducible first|refine zz ?_|refine zx ?_)|simp -dsimp|refine zp c0 ?_|refine zp c1 ?_|refine zp c2 ?_|refine zp c3 ?_|refine zp c4 ?_|refine zp c5 ?_|refine zp c6 ?_|refine zp c7 ?_|refine zp c8 ?_|refine zp c9 ?_|refine zp c10 ?_|refine zp s1 ?_|refine zp s3 ?_|refine zp p3 ?_|refine zq q1 ?_|refine zq d1 ?_|refine zq d2 ?_|refine zq d3 ?_|refine zq p1 ?_|refine zq p2 ?_|refine zq p3 ?_|refine zq p4 ?_|refine zq s0 ?_|refine zq s2 ?_|refine zq s3 ?_|refine zq c0 ?_|refine QCall.thaw (q2) ?_ ?_ ?_;(focus simp;done);(focus simp;done)|refine QCall.thaw (q3) ?_ ?_ ?_;(focus simp;done);(focus simp;done)|refine zM 12 198 70 [0,1,2,3,4,5,6,7,8,9,10,11,12,13,14,15,16,17,18,19,20,21,22,148] ?_|refine zM 14 198 50 [0,1,2,3,4,5,6,7,8,9,10,11,12,13,14,15,16,17,18,19,20,21,22,148] ?_|with_reducible refine zE [0,1,2,3,4,5,6,7,8,9,10,11,12,13,14,15,16,17,18,19,20,21,22,148] ?_|refine i9 ?_ ?_<;>intro h<;>try simp only[i7] at h
end Go.Proofs
namespace Go.Proofs
open Go Go.Ab
def Iq (b:Bool) (f:Nat→M8) (n:Nat):List Susp:=fX b (fun i=>(f i).1) (fun i=>(f i).2) n
def JN (d:Desk) (f:Nat→M8):Prop:=∀ i,i<d.faults.length→f i∈d.faults.getD i []
structure DkG (n:Nat) (D:List Desk):Prop where
 ne:D≠[]
 len:∀ d∈D,d.faults.length=n
 f:∀ d∈D,∀ x∈d.faults,x≠[]
 cause:∀ d∈D,∀ g,JN d g→Iq d.notes g n≠[]
variable {n:Nat} {D:List Desk}
end Go.Proofs
namespace Go.Proofs
open Go Go.Ab
variable {n:Nat} {D D':List Desk}
end Go.Proofs
namespace Go.Proofs
open Go Go.Ab
variable {G:GW}
attribute [simp] r5 ct M7 gF u5 A1 nilV I6 ZK
theorem qK {n:Nat} {s:Susp} (h:s∈cg n):pa n s=true:=by
 unfold pa
 rcases listS_mem.1 h with⟨_,rfl⟩|⟨i,hi,_,rfl⟩|⟨i,hi,_,rfl⟩
 ·simp
 ·rw[if_neg (by simp[rK])]
  show (((decide _&&decide _)&&(decide (0≤(i:Int))&&decide ((i:Int)≤(n:Int)-1)))=true)
  simp[rK]
  omega
 ·rw[if_neg (by simp[sD])]
  show (((decide _&&decide _)&&(decide (0≤(i:Int))&&decide ((i:Int)≤(n:Int)-1)))=true)
  simp[sD]
  omega
structure CauseOk (n:Nat) (lo hi:Int) (l a su op:List Susp):Prop where
 b1:1≤lo
 b2:lo≤hi
 b3:hi≤1+2*n
 b4:(l.length:Int)=lo
 b5:a≠[]↔lo=1
 b6:∀ s r,a=s :: r→∃ r',l=s :: r'
 b7:(su.length:Int)≤lo
 b8:hi≤(su.length:Int)+op.length
 lm:∀ s∈l,pa n s=true∧(s∈su∨s∈op)
 am:∀ s∈a,pa n s=true∧(s∈su∨s∈op)
 ls:l.Pairwise cb
 aS':a.Pairwise cb
 sm:∀ s∈su,s∈l∧(a=[]∨a=[s])
structure Hid (P:Prop):Prop where
 out:P
open Go Go.Ab Tryz
attribute [simp] r5 ct M7 gF u5 A1 nilV I6 ZK
theorem pN {n:Notes} (h0:j9 n.reg=0) (hok:cE n) {d:Int} (hd:d∈nums n.reg) (s:List Int) (m:Int):(n9 n.reg d (Fb n s d m)).isSome=true:=by
 obtain⟨z,hz,hzd⟩:=iT _ _ _ hd
 have hd0:d≠0:=by
  intro e
  have:=wB h0 hz
  omega
 have h1:1≤R0 n.reg d:=by
  have:=(V8 h0 d z.letter).1 ((qb n.reg d z.letter).2 ⟨z,hz,hzd,rfl⟩)
  omega
 unfold Fb fZ
 split
 ·exact(V8 h0 d 1).2 ⟨by omega,h1⟩
 ·rename_i hk
  obtain⟨x,h1,h2⟩:=qD n.notes (R1 s [] m n.notes) d (R1 s [] m n.notes).length (by omega)
  rw[h1]
  have h:=hok _ x h1
  simp only[rT,Bool.and_eq_true] at h
  have h4:=h.1.1.1.1.2
  unfold Cj at h4
  split at h4
  ·omega
  ·rw[decide_eq_true_eq] at h4
   unfold AS at h4
   rw[if_neg (show ¬ j9 n.reg≠0 by simp[h0])] at h4
   split at h4
   ·rename_i hf
    rw[h2] at hf
    exact hf
   ·omega
theorem sf {n:Notes} (h0:j9 n.reg=0) (hok:cE n) (t:List Int) (m:Int):r7 n.reg (B8 n t m)=true:=by
 refine pc h0 (by simp[B8]) fun k h1 h2=>?_
 have hd:(nums n.reg)[k]?=some (nums n.reg)[k]:=List.getElem?_eq_getElem h1
 have he:(B8 n t m)[k]?=some (Fb n t (nums n.reg)[k] m):=by unfold B8;rw[List.getElem?_map,hd];rfl
 obtain⟨h3,h4⟩:=List.getElem?_eq_some_iff.1 he
 rw[h4]
 exact pN h0 hok (List.getElem_mem h1) t m
theorem wC {c:Case} (h:s6 c=0):1≤c.machine∧c.machine≤999:=by
 have hcb:=(C1 h).2
 rw[N3,Bool.and_eq_true] at hcb
 have:=hcb.1
 simp only[dC,Bool.and_eq_true,decide_eq_true_eq] at this
 exact this.2.1
theorem Am (c:Case) (s:List Int) (he:s6 c=0) (ht:F1 (j7 (j6 c.p.n.notes)) s=true) (hsl:s.length<1000) (hG:o4 G) (hN:D6 G) (hS:u7 G) (hC:J0 G) (hk:KC c):zP prog G 48 [n3 c,r8 s] (.tup [bv (!ii c s),bv true]):=by
 refine zf func48 ntmps48 ?_
 try simp only[r8]
 obtain⟨hp0,hcb⟩:=C1 he
 obtain⟨hn0,hpb,hr0⟩:=C5 hp0
 have hmc:=wC he
 have hok:=(Z0 hn0).2.2.1
 have hA:D3 c.p.n s c.machine=0:=by
  unfold D3;rw[if_neg (by simp[hn0]),if_neg (by rw[ht];decide),if_pos hmc]
 have c1:=kM (G:=G) c.p.n s c.machine hG hN hS hk.p.n hsl
 rw[hA,if_pos rfl,kT] at c1
 have hnl:=u4 c.p.n.reg c.p.n.reg.length
 have hr80:=hk.p.n.1.1
 have hq16:=(N2 hcb).l
 have hown:(B8 c.p.n s c.machine).length=(nums c.p.n.reg).length:=by unfold B8;rw[List.length_map]
 have hll:(B8 c.p.n s c.machine).length≤80:=by rw[hown,nums];omega
 have hsc:iN (iK c s):=⟨hk.p.n.1,by show (B8 c.p.n s c.machine).length≤80;omega,by simp[iK],fun x hx=>by simp[iK] at hx;subst hx;omega⟩
 have c2:=vE (G:=G) c.p.n.reg (B8 c.p.n s c.machine) (by omega) (by omega)
 rw[sf hr0 hok] at c2
 have c3:=mH (G:=G) (iK c s) 0 hG hC hsc Jf
 have hnb:ii c s=(!decide (D9 (iK c s) 0=0) || !decide (L6 (iK c s) 0=2)):=rfl
 rw[hnb]
 generalize D9 (iK c s) 0=le at *
 generalize L6 (iK c s) 0=ck at *
 simp only[Ao,iK,L5,F8,F4,o5,p6,n3,j4,List.map_cons,List.map_nil] at c1 c2 c3 ⊢
 generalize B8 c.p.n s c.machine=LT at *
 clear hnb
 have hs:True:=trivial
 by_cases g1:le=0<;>by_cases g2:ck=2
 all_goals
  have hs:=za g1 g2
  repeat' first|(with_reducible first|refine zz ?_|refine zr ?_|refine zE [0,1,2,4,5,6,7,8,9,30] ?_)|simp -dsimp[hs]|refine zp c1 ?_|refine zp c2 ?_|refine zt c3 ?_ ?_ ?_;(focus simp;done);focus (simp;done)|refine i9 ?_ ?_<;>intro h<;>try simp only[i7] at h
  all_goals try clear hs
theorem rk (c:Case):0<(G9 (j7 (j6 c.p.n.notes))).length:=by rw[ap];exact Nat.pos_of_ne_zero (by simp)
attribute [simp] r5 ct M7 gF u5 A1 nilV I6 ZK
attribute [simp] r5 ct M7 gF u5 A1 nilV I6 ZK
theorem yK {c:Case} (h0:J1 c=0) {t:List Int} (ht:F1 (j7 (j6 c.p.n.notes)) t=true) {s:Susp} (hs:s∈cg c.pieces.length):ek c t s=0∧da c t s=H8 [G5 c t] s:=by
 have e:ek c t s=0:=by
  unfold ek
  rw[if_neg (by simp[h0]),if_neg (by simp[ht]),if_pos (qK hs)]
 exact⟨e,by unfold da;rw[if_pos e]⟩
structure TrueOk (c:Case) (t:List Int) (l su op:List Susp) (lo hi:Int):Prop where
 b1:l≠[]
 b2:lo≤(l.length:Int)
 b3:(l.length:Int)≤hi
 b4:∀ s∈l,(s∈su∨s∈op)∧ek c t s=0∧¬ da c t s=0
 b5:∀ s∈su,ek c t s=0∧da c t s=2∧s∈l∧s∉op
attribute [simp] r5 ct M7 gF u5 A1 nilV I6 ZK
def noteU:Susp:=⟨1,0⟩
theorem mI (n:Nat):noteU∈cg n:=listS_mem.2 (.inl ⟨rfl,rfl⟩)
theorem mN (d:Desk) (b:Bool):mb d noteU b=(d.notes==b):=by unfold mb;rw[if_pos (show noteU.kind=1 from rfl)]
theorem yL {c:Case} (h0:J1 c=0) {t:List Int} (ht:F1 (j7 (j6 c.p.n.notes)) t=true):ek c t noteU=0∧da c t noteU=if ii c t=true then 2 else 0:=by
 obtain⟨m1,m2⟩:=yK h0 ht (mI c.pieces.length)
 refine⟨m1,?_⟩
 rw[m2]
 unfold H8
 simp only[List.any_cons,List.any_nil,Bool.or_false,mN]
 have e:(G5 c t).notes=ii c t:=rfl
 rw[e]
 cases ii c t<;>simp
def nH (c:Case) (T:List (List Int)):Bool:=T.any fun t=>ii c t
def Cf (c:Case) (T:List (List Int)):Bool:=T.any fun t=>!ii c t
theorem uF (c:Case) {T:List (List Int)} {k:Nat} (h:k<T.length):nH c (T.take (k+1))=(nH c (T.take k)||ii c T[k]):=by
 unfold nH;rw[List.take_succ_eq_append_getElem h,List.any_append];simp
theorem yy (c:Case) {T:List (List Int)} {k:Nat} (h:k<T.length):Cf c (T.take (k+1))=(Cf c (T.take k) || !ii c T[k]):=by
 unfold Cf;rw[List.take_succ_eq_append_getElem h,List.any_append];simp
theorem sj {c:Case} (h0:J1 c=0):ge c noteU=0∧iu c noteU=if Cf c (G9 (j7 (j6 c.p.n.notes)))=false then 2 else if nH c (G9 (j7 (j6 c.p.n.notes)))=false then 0 else 1:=by
 have hp:=rk c
 have e:ge c noteU=0:=by
  unfold ge
  rw[if_neg (by simp[h0]),if_pos (qK (mI c.pieces.length))]
 refine⟨e,?_⟩
 unfold iu
 rw[if_pos e]
 unfold H8 o9 nH Cf
 simp only[List.any_map,Function.comp_def,mN]
 obtain⟨T,hT⟩:∃ T,G9 (j7 (j6 c.p.n.notes))=T:=⟨_,rfl⟩
 rw[hT] at hp ⊢
 have e1:(T.any fun t=>(G5 c t).notes==true)=T.any fun t=>ii c t:=by
  congr 1;funext t;show (ii c t==true)=_;cases ii c t<;>rfl
 have e2:(T.any fun t=>(G5 c t).notes==false)=T.any fun t=>!ii c t:=by
  congr 1;funext t;show (ii c t==false)=_;cases ii c t<;>rfl
 rw[e1,e2]
 obtain⟨t,r,rfl⟩:∃ t r,T=t :: r:=by
  cases T with
  | nil=>simp at hp
  | cons t r=>exact⟨t,r,rfl⟩
 have key:∀ y z:Bool,(y=true∨z=true)→(if y=false then (0:Int) else if z=false then 2 else 1)=if z=false then 2 else if y=false then 0 else 1:=by
  intro y z;cases y<;>cases z<;>simp
 refine key _ _ ?_
 simp only[List.any_cons,Bool.or_eq_true,Bool.not_eq_true']
 cases hb:ii c t
 ·exact .inr (.inl rfl)
 ·exact .inl (.inl rfl)
set_option maxRecDepth 10000 in
theorem oR (c:Case) (hG:o4 G) (hN:D6 G) (hS:u7 G) (hU:V0 G) (hR:w0 G) (hC:J0 G) (hK:bR G) (hF:jy G) (hp:jl c.p):zP prog G 10 [n3 c] (bv true):=by
 refine zf func10 ntmps10 ?_
 try simp only[iv]
 have a1:=Dt (G:=G) hG hN hS hU hR hC hK hF
 have c1:=BN (G:=G) c hp
 cases hq:kA c
 ·rw[hq] at c1
  simp only[n3,j4,rI,List.map_cons,List.map_nil] at c1 ⊢
  have hs:=trivial
  repeat' first|(with_reducible first|refine zz ?_|refine zr ?_|refine zE [0,1,2,3,4,5,7,8,9,10,11,12,20,25,26,27,28,64,76,78] ?_)|simp -dsimp[hs]|refine zp a1 ?_|refine zp c1 ?_|refine i9 ?_ ?_<;>intro h<;>try simp only[i7] at h
  all_goals try clear hs
 ·obtain⟨hsk,hk,h0⟩:=rJ hp hq
  rw[hq] at c1
  obtain⟨he,_⟩:=R7 h0
  obtain⟨hn0,_,_⟩:=C5 (C1 he).1
  have hnk:=Z0 hn0
  have c2:=vc (G:=G) c.p.n hk.p.n hnk.2.2.1 hnk.2.2.2
  obtain⟨hT1,hT2,hT3⟩:=Im he
  have c3:=fun t (h:t∈G9 (j7 (j6 c.p.n.notes)))=>Am (G:=G) c t he (hT1 t h).1 (hT1 t h).2 hG hN hS hC hk
  have c4:=fun t (h:t∈G9 (j7 (j6 c.p.n.notes)))=>AN (G:=G) c t noteU (by decide) (hT1 t h).2 hG hN hS hR hC hK hk
  have c4':∀ t∈G9 (j7 (j6 c.p.n.notes)),ek c t noteU=0∧da c t noteU=if ii c t=true then 2 else 0:=fun t h=>yL h0 (hT1 t h).1
  have c5:=fun w=>jK (G:=G) c noteU w (by decide) hG hN hS hR hC hK hk
  obtain⟨k1,k2⟩:=sj h0
  have s0:=xG (G:=G)
  rw[k1,k2] at c5
  clear k1 k2
  have hne:G9 (j7 (j6 c.p.n.notes))≠[]:=fun e=>by rw[e] at hT3;exact absurd hT3 (by decide)
  generalize G9 (j7 (j6 c.p.n.notes))=T at *
  simp only[n3,j4,E9,l4,noteU,o5,p6,IJ,rI,List.map_cons,List.map_nil] at c1 c2 c3 c4 c4' c5 s0 ⊢
  have hs:=trivial
  repeat' first|(with_reducible first|refine zz ?_|refine zE [0,1,2,3,4,5,7,8,9,10,11,12,20,25,26,27,28,64,76,78] ?_)|simp -dsimp[hs]|refine zp a1 ?_|refine zp c1 ?_|refine zp c2 ?_|refine i9 ?_ ?_<;>intro h<;>try simp only[i7] at h
  all_goals try clear hs
  refine i6 (ι:={ k:Nat // k≤T.length }) (fun k=>⟨86,[(1,.one (.ptr 0 0)),(3,bv true),(4,bv (nH c (T.take k.1))),(5,bv (Cf c (T.take k.1))),(25,.one (.im (.sl (T.map Aa)))),(26,iv (T.length:Int)),(27,iv (k.1:Int))],[.row ((j4 c).map .im)]⟩) (fun k=>T.length-k.1) ⟨0,by omega⟩ (zw [1,3,4,5,25,26,27] 1 (by simp[nH,Cf])) ?_
  clear a1 c1 c2
  rintro⟨k,hkl⟩
  simp only[iv,rI,bv]
  by_cases hlt:k<T.length
  ·have hw:=zk k
   have hx0:T[k]?=some T[k]:=by simp[hlt]
   have e1:=uF c hlt
   have e2:=yy c hlt
   have c6:=c3 T[k] (List.getElem_mem hlt)
   have c7:=c4 T[k] (List.getElem_mem hlt)
   obtain⟨m1,m2⟩:=c4' T[k] (List.getElem_mem hlt)
   rw[m1,m2] at c7
   clear m1 m2 c3 c4 c4'
   generalize hx:T[k]=x at *
   generalize nH c (T.take k)=y at *
   generalize Cf c (T.take k)=z at *
   have hs:True:=trivial
   cases hb:ii c x
   ·rw[hb] at c6 c7 e1 e2
    simp only[Bool.false_eq_true,if_false,Bool.not_false,Bool.or_false,Bool.or_true] at c6 c7 e1 e2
    clear hs
    have hs:True:=trivial
    cases y<;>cases z
    all_goals
     have hs:=za hx (za hlt (za hw hx0))
     repeat' first|with_reducible refine zz ?_|simp -dsimp[hs]|refine zp c6 ?_|refine zq c7 ?_|refine zq s0 ?_|refine zM 9 86 9 [0,1,2,3,4,5,7,8,9,10,11,12,20,25,26,27,28,64,76,78] ?_|with_reducible refine zE [0,1,2,3,4,5,7,8,9,10,11,12,20,25,26,27,28,64,76,78] ?_|refine i9 ?_ ?_<;>intro h<;>try simp only[i7] at h
     all_goals try clear hs
    all_goals exact zn ⟨k+1,by omega⟩ (zw [1,3,4,5,25,26,27] 1 (by simp[e1,e2]))
   ·rw[hb] at c6 c7 e1 e2
    simp only[if_true,Bool.not_true,Bool.or_false,Bool.or_true] at c6 c7 e1 e2
    clear hs
    have hs:True:=trivial
    cases y<;>cases z
    all_goals
     have hs:=za hx (za hlt (za hw hx0))
     repeat' first|with_reducible refine zz ?_|simp -dsimp[hs]|refine zp c6 ?_|refine zq c7 ?_|refine zq s0 ?_|refine zM 9 86 9 [0,1,2,3,4,5,7,8,9,10,11,12,20,25,26,27,28,64,76,78] ?_|with_reducible refine zE [0,1,2,3,4,5,7,8,9,10,11,12,20,25,26,27,28,64,76,78] ?_|refine i9 ?_ ?_<;>intro h<;>try simp only[i7] at h
     all_goals try clear hs
    all_goals exact zn ⟨k+1,by omega⟩ (zw [1,3,4,5,25,26,27] 1 (by simp[e1,e2]))
  ·obtain rfl:k=T.length:=by omega
   simp only[List.take_length]
   clear c3 c4 c4'
   generalize nH c T=y at *
   generalize Cf c T=z at *
   have c6:=c5 (if z=false then 2 else if y=false then 0 else 1)
   simp only[decide_true,Bool.and_self] at c6
   have hs:True:=trivial
   cases y<;>cases z
   all_goals
    simp only[Bool.true_eq_false,if_true,if_false] at c6
    have hs:=hlt
    repeat' first|(with_reducible first|refine zz ?_|refine zr ?_)|simp -dsimp[hs]|refine zq c6 ?_|refine zq s0 ?_|refine zM 19 86 8 [0,1,2,3,4,5,7,8,9,10,11,12,20,25,26,27,28,64,76,78] ?_|with_reducible refine zE [0,1,2,3,4,5,7,8,9,10,11,12,20,25,26,27,28,64,76,78] ?_|refine i9 ?_ ?_<;>intro h<;>try simp only[i7] at h
    all_goals try clear hs
end Go.Proofs
namespace Go.Ab
open Go Go.Sort
theorem RelM.grownS {G:GW} {M:MS} {w':World} {os:Array Obj} (h:RelM G M) (hw:w'.heap=M.w.heap++os) (hio:SameIo M.w w'):RelM G { M with w:=w' }∧Ext M.objs.length M { M with w:=w' }:=by
 have hold:∀ {b:Nat},b<M.w.heap.size→w'.heap[b]?=M.w.heap[b]?:=fun {b} hb=>by rw[hw];simp[Array.getElem?_append,hb]
 have hsz:M.w.heap.size≤w'.heap.size:=by rw[hw];simp
 have he:Ext M.objs.length M { M with w:=w' }:=
  ⟨Nat.le_refl _,fun b hb=>⟨⟨Nat.lt_of_lt_of_le hb.1 hsz,hb.2⟩,hold hb.1⟩,cF M,hsz,fun p _ c' hc=>⟨⟨c',hc⟩,rfl⟩,
   fun p _ sz es g nl hv=>⟨sz,es,g,nl,hv,Nat.le_refl _,fun _=>⟨rfl,rfl,fun hn=>⟨rfl,by simp only[H4];rw[hold (h.lt p _ hv (by simp[DObj.blk,hn]))]⟩⟩⟩,fun p _ ks es hm=>⟨⟨ks,es,hm⟩,rfl⟩,
   fun p _ r hm=>⟨⟨r,hm⟩,rfl⟩,fun p _ d hm hi=>⟨⟨d,hm,hi⟩,rfl⟩,fun p _ r hm=>⟨⟨r,hm⟩,rfl⟩,hio⟩
 exact⟨⟨fun o d ho=>(h.objs o d ho).ext he (fun _=>rfl) (fun hb=>hold (h.lt o d ho hb)),fun o d ho hb=>Nat.lt_of_lt_of_le (h.lt o d ho hb) hsz,h.inj,fun g l hg=>(h.glob g l hg).mono he.ok,fun b hF=>Nat.lt_of_lt_of_le (h.fl b hF) hsz,h.own⟩,he⟩
theorem nU {l:List Int} {c:Array Value} {i:Nat} (hi:i<l.length) (hc:i<c.size):(putCells (Value.int .i64) 0 l.toArray c)[i]?=some (.int .i64 l[i]):=by
 simp only[putCells,Array.getElem?_mapIdx,Array.getElem?_eq_getElem hc,Option.map_some]
 rw[if_pos ⟨Nat.zero_le _,by simpa using hi⟩]
 simp[hi]
theorem DCall.sort {P:Program} {G:GW} {f:FuncId}
 (hS:∀ (blk cap:Nat) (zs:List Int) (w:World),Holds (Value.int .i64) w blk 0 zs.toArray→blk<w.heap.size→zs.length<4611686018427387904 →
  Calls P f #[.slice (some ⟨blk,0,none⟩) zs.length cap] w fun e w'=>e=.returned (.tuple #[])∧∃ n os,w'=grow (putRow (Value.int .i64) (Sort.ahead w n) blk 0 (zs.mergeSort fun x y=>decide (x≤y)).toArray) os)
 (h0:∀ (a:Option Addr) (cap:Nat) (w:World),Calls P f #[.slice a 0 cap] w fun e w'=>e=.returned (.tuple #[])∧w'=w)
 (l:List Int) (g sz:Nat) (nl:Bool) (hz:sz=1∨nl=true∧l=[]) (hl:l.length<1000000) :
 DCall P G f [.one (.vec 0 g 0 l.length)] [.vec sz (l8 (l.map Ab.encI)) g nl] (fun d o=>d=.tup []∧o=[.vec sz (l8 ((j7 l).map Ab.encI)) g nl]):=by
 intro M vs hM ho hsz hr
 obtain⟨v,rfl⟩:∃ v,vs=#[v]:=by
  obtain⟨vl⟩:=vs
  match vl,hsz with
  | [v],_=>exact⟨v,rfl⟩
 have hv:=hr 0 _ v rfl rfl
 have h1:M.objs[0]?=some (.vec sz (l8 (l.map Ab.encI)) g nl):=by rw[ho];rfl
 have hO:=hM.objs 0 _ h1
 cases hv with
 | one _ _ hv =>
 cases hv with
 | vec _ _ _ _ _ _ _ hv =>
 obtain⟨_,hv⟩:=hv _ _ _ _ h1
 obtain⟨hvt,hvf⟩:=hv rfl
 have hnil:∀ (a:Option Addr) (cap:Nat),l=[]→Calls P f #[.slice a 0 cap] M.w fun e w'=>∃ v d M',e=.returned v∧M'.w=w'∧RelM G M'∧RepV M' d v∧Ext 1 M M'∧d=.tup []∧M'.objs=[.vec sz (l8 ((j7 l).map Ab.encI)) g nl]:=fun a cap hle=>by
  refine(h0 a cap M.w).mono fun e w' ⟨he,hw⟩=>?_
  subst hw
  refine⟨_,.tup [],M,he,rfl,hM,.tup _ _ rfl (fun j d v h=>by simp at h),(Ext.refl M).weaken (by simp[ho]),rfl,?_⟩
  rw[ho,hle,show j7 []=[] from List.mergeSort_nil]
 cases nl with
 | true =>
   obtain⟨_,e,hv⟩:=hvt rfl
   have e:l=[]:=List.eq_nil_of_length_eq_zero e
   have:=hnil none 0 e
   rw[hv];simpa using this
 | false =>
   obtain rfl:sz=1:=hz.resolve_right fun h=>Bool.noConfusion h.1
   obtain⟨x,cap,hv,hc,hx,hb⟩:=hvf rfl
   by_cases e:l=[]
   ·have:=hnil (some ⟨M.β 0,x,none⟩) cap e
    rw[hv];subst e;simpa using this
   have hlp:0<l.length:=List.length_pos_iff.2 e
   have hx0:x=0:=by rcases hx with hx|hx<;>omega
   subst hx0
   obtain⟨_,hO⟩:=hO
   obtain⟨_,c,T,hh,hcs,hes,hrep⟩:=hO rfl
   have hcl:l.length≤c.size:=by simpa[p7] using hcs
   have hcell:∀ j (hj:j<l.length),c[j]?=some (.int .i64 l[j]):=fun j hj=>by
    have hjc:j<c.size:=by omega
    have:=hrep j [DC.im (.raw (.int .i64 l[j]))] 0 (.im (.raw (.int .i64 l[j]))) c[j] (by simp[l8,hj]) rfl (by simp[hjc])
    have hcj:c[j]?=some c[j]:=by simp[hjc]
    generalize c[j]=y at this hcj
    cases this with
    | im _ _ hi =>
      cases hi
      exact hcj
   have hH:Holds (Value.int .i64) M.w (M.β 0) 0 l.toArray:=fun j hj=>by
    have hj:j<l.length:=by simpa using hj
    refine⟨?_,?_⟩
    ·simp only[World.cell?,hh]
     simp[hcell j hj,hj]
    ·simp[World.frozen?,hh]
   have hlt:M.β 0<M.w.heap.size:=hM.lt 0 _ h1 rfl
   rw[hv]
   refine(hS (M.β 0) cap l M.w hH hlt (by omega)).mono fun e' w' ⟨he,n,os,hw⟩=>?_
   have hmod:M.w.heap.modify (M.β 0) (onCells (putCells (Value.int .i64) 0 (j7 l).toArray))=M.w.heap.setIfInBounds (M.β 0) (.cells (putCells (Value.int .i64) 0 (j7 l).toArray c) T (0,0)):=by
    apply Array.ext_getElem?
    intro k
    simp only[Array.getElem?_modify,Array.getElem?_setIfInBounds]
    by_cases hk:M.β 0=k
    ·subst hk;rw[if_pos rfl,if_pos rfl,if_pos hlt,hh];rfl
    ·simp[hk]
   have ha:(DObj.vec 1 (l8 (l.map Ab.encI)) g false).alike (.vec 1 (l8 ((j7 l).map Ab.encI)) g false):=⟨rfl,.inl ⟨rfl,rfl⟩⟩
   have hs:K4 (.cells (putCells (Value.int .i64) 0 (j7 l).toArray c) T (0,0))=K4 (.cells c T (0,0)):=by simp[K4,putCells]
   have hE:=Ext.turn (d':=.vec 1 (l8 ((j7 l).map Ab.encI)) g false) h1 rfl ha hh hs
   have hR:=RelM.turn (d':=.vec 1 (l8 ((j7 l).map Ab.encI)) g false) hM h1 rfl ha hh hs (by
    refine⟨fun h=>Bool.noConfusion h,fun _=>⟨by omega,putCells (Value.int .i64) 0 (j7 l).toArray c,T,by simp[MS.turn,Array.getElem?_setIfInBounds_self_of_lt hlt],by simpa[p7,L4,putCells] using hcl,fun i x hx=>?_,fun i x j d v hx hj hv=>?_⟩⟩
    ·simp only[l8,List.getElem?_map,Option.map_map] at hx
     obtain⟨y,_,rfl⟩:=Option.map_eq_some_iff.1 hx
     rfl
    ·simp only[l8,List.getElem?_map,Option.map_map] at hx
     obtain⟨y,hy,rfl⟩:=Option.map_eq_some_iff.1 hx
     have hil:i<(j7 l).length:=e7 hy
     match j,hj with
     | 0,hj =>
       cases hj
       have hic:i<c.size:=by rw[L4] at hil;omega
       rw[Nat.mul_one,Nat.add_zero,nU hil hic] at hv
       have e:(j7 l)[i]'hil=y:=(List.getElem?_eq_some_iff.1 hy).2
       cases hv
       rw[e]
       exact .im _ _ (.raw _ rfl))
   have hg:=RelM.grownS (w':=w') (os:=os) hR (by rw[hw];simp only[grow,putRow,mapBlock,Sort.ahead,MS.turn];rw[show (l.mergeSort fun x y=>decide (x≤y))=j7 l from rfl,hmod]) (by rw[hw];exact⟨rfl,rfl,rfl,Nat.le_add_right _ _⟩)
   refine⟨_,.tup [],_,he,?_,hg.1,.tup _ _ rfl (fun j d v h=>by simp at h),?_,rfl,?_⟩
   ·rfl
   ·have hl1:M.objs.length=1:=by rw[ho];rfl
    have h2:=hg.2
    rw[show (M.turn 0 (.cells (putCells (Value.int .i64) 0 (j7 l).toArray c) T (0,0)) (.vec 1 (l8 ((j7 l).map Ab.encI)) g false)).objs.length=1 by simp[MS.turn,ho]] at h2
    rw[hl1] at hE
    exact hE.trans h2
   ·simp[MS.turn,ho]
end Go.Ab
namespace Go.Proofs
open Go.Shelf
def Tryz.laysSort_ren:Go.Shelf.Ren:=⟨fun|189=>173|125=>201|257=>221|128=>249|129=>250|294=>270|295=>271|296=>272|297=>273|298=>274|299=>275|216=>196|300=>276|301=>277|328=>302|329=>286|330=>287|331=>303|332=>304|215=>239|343=>314|n=>n,fun|28=>40|3=>3|46=>287|0=>0|51=>157|53=>335|4=>4|183=>328|182=>327|131=>154|5=>5|9=>9|218=>363|222=>367|228=>390|229=>391|n=>n,fun|n=>n⟩
theorem Tryz.laysSort:Go.Proofs.Lays.n189 Tryz.prog Tryz.laysSort_ren:={
 mixed:=by kernel_rfl
 f125:=Tryz.func201.trans (congrArg some (by kernel_rfl))
 f128:=Tryz.func249.trans (congrArg some (by kernel_rfl))
 f129:=Tryz.func250.trans (congrArg some (by kernel_rfl))
 f189:=Tryz.func173.trans (congrArg some (by kernel_rfl))
 f215:=Tryz.func239.trans (congrArg some (by kernel_rfl))
 f216:=Tryz.func196.trans (congrArg some (by kernel_rfl))
 f257:=Tryz.func221.trans (congrArg some (by kernel_rfl))
 f294:=Tryz.func270.trans (congrArg some (by kernel_rfl))
 f295:=Tryz.func271.trans (congrArg some (by kernel_rfl))
 f296:=Tryz.func272.trans (congrArg some (by kernel_rfl))
 f297:=Tryz.func273.trans (congrArg some (by kernel_rfl))
 f298:=Tryz.func274.trans (congrArg some (by kernel_rfl))
 f299:=Tryz.func275.trans (congrArg some (by kernel_rfl))
 f300:=Tryz.func276.trans (congrArg some (by kernel_rfl))
 f301:=Tryz.func277.trans (congrArg some (by kernel_rfl))
 f328:=Tryz.func302.trans (congrArg some (by kernel_rfl))
 f329:=Tryz.func286.trans (congrArg some (by kernel_rfl))
 f330:=Tryz.func287.trans (congrArg some (by kernel_rfl))
 f331:=Tryz.func303.trans (congrArg some (by kernel_rfl))
 f332:=Tryz.func304.trans (congrArg some (by kernel_rfl))
 f343:=Tryz.func314.trans (congrArg some (by kernel_rfl))
 t0:=Tryz.underlying0
 a0:=Tryz.isAgg0
 z0:=Tryz.sizeOf0
 v0:=Tryz.zeroValue0
 t3:=Tryz.underlying3
 a3:=Tryz.isAgg3
 z3:=Tryz.sizeOf3
 v3:=Tryz.zeroValue3
 t4:=Tryz.underlying4
 a4:=Tryz.isAgg4
 z4:=Tryz.sizeOf4
 v4:=Tryz.zeroValue4
 t5:=Tryz.underlying5
 a5:=Tryz.isAgg5
 z5:=Tryz.sizeOf5
 v5:=Tryz.zeroValue5
 t9:=Tryz.underlying9
 a9:=Tryz.isAgg9
 z9:=Tryz.sizeOf9
 v9:=Tryz.zeroValue9
 t28:=Tryz.underlying40
 a28:=Tryz.isAgg40
 z28:=Tryz.sizeOf40
 v28:=Tryz.zeroValue40
 t46:=Tryz.underlying287
 a46:=Tryz.isAgg287
 z46:=Tryz.sizeOf287
 v46:=Tryz.zeroValue287
 t51:=Tryz.underlying157
 a51:=Tryz.isAgg157
 z51:=Tryz.sizeOf157
 v51:=Tryz.zeroValue157
 t53:=Tryz.underlying335
 a53:=Tryz.isAgg335
 z53:=Tryz.sizeOf335
 v53:=Tryz.zeroValue335
 t131:=Tryz.underlying154
 a131:=Tryz.isAgg154
 z131:=Tryz.sizeOf154
 v131:=Tryz.zeroValue154
 t182:=Tryz.underlying327
 a182:=Tryz.isAgg327
 z182:=Tryz.sizeOf327
 v182:=Tryz.zeroValue327
 t183:=Tryz.underlying328
 a183:=Tryz.isAgg328
 z183:=Tryz.sizeOf328
 v183:=Tryz.zeroValue328
 t218:=Tryz.underlying363
 a218:=Tryz.isAgg363
 z218:=Tryz.sizeOf363
 v218:=Tryz.zeroValue363
 t222:=Tryz.underlying367
 a222:=Tryz.isAgg367
 z222:=Tryz.sizeOf367
 v222:=Tryz.zeroValue367
 t228:=Tryz.underlying390
 a228:=Tryz.isAgg390
 z228:=Tryz.sizeOf390
 v228:=Tryz.zeroValue390
 t229:=Tryz.underlying391
 a229:=Tryz.isAgg391
 z229:=Tryz.sizeOf391
 v229:=Tryz.zeroValue391 }
end Go.Proofs
namespace Go.Proofs
open Go Go.Ab
theorem El (G:GW):u7 G:=fun l g sz nl hz hl =>
 DCall.sort (P:=Tryz.prog) (G:=G) (f:=173) (fun blk cap zs w hH hb hs=>Any.slices_Sort_int Tryz.laysSort blk 0 cap zs w hH hb hs) (fun a cap w=>Any.slices_Sort_int_none Tryz.laysSort a cap w) l g sz nl hz hl
end Go.Proofs
namespace Go.Proofs
open Go.Shelf
def Tryz.laysSus_ren:Go.Shelf.Ren:=⟨fun|6=>138|15=>201|14=>200|28=>249|29=>250|20=>241|21=>242|22=>243|23=>244|24=>245|25=>246|26=>247|27=>248|46=>285|47=>286|48=>287|49=>288|50=>289|57=>305|n=>n,fun|22=>52|24=>42|25=>140|3=>3|39=>287|0=>0|53=>157|55=>335|4=>4|46=>328|45=>327|50=>154|5=>5|9=>9|66=>363|70=>367|76=>390|77=>391|n=>n,fun|n=>n⟩
theorem Tryz.laysSus:Go.Proofs.SlLaysF0.n6 Tryz.prog Tryz.laysSus_ren:={
 mixed:=by kernel_rfl
 f6:=⟨Tryz.f138.name,by decide,Tryz.func138.trans (congrArg some (by kernel_rfl))⟩
 f14:=⟨Tryz.f200.name,by decide,Tryz.func200.trans (congrArg some (by kernel_rfl))⟩
 f15:=Tryz.func201.trans (congrArg some (by kernel_rfl))
 f20:=⟨Tryz.f241.name,by decide,Tryz.func241.trans (congrArg some (by kernel_rfl))⟩
 f21:=⟨Tryz.f242.name,by decide,Tryz.func242.trans (congrArg some (by kernel_rfl))⟩
 f22:=⟨Tryz.f243.name,by decide,Tryz.func243.trans (congrArg some (by kernel_rfl))⟩
 f23:=⟨Tryz.f244.name,by decide,Tryz.func244.trans (congrArg some (by kernel_rfl))⟩
 f24:=⟨Tryz.f245.name,by decide,Tryz.func245.trans (congrArg some (by kernel_rfl))⟩
 f25:=⟨Tryz.f246.name,by decide,Tryz.func246.trans (congrArg some (by kernel_rfl))⟩
 f26:=⟨Tryz.f247.name,by decide,Tryz.func247.trans (congrArg some (by kernel_rfl))⟩
 f27:=⟨Tryz.f248.name,by decide,Tryz.func248.trans (congrArg some (by kernel_rfl))⟩
 f28:=Tryz.func249.trans (congrArg some (by kernel_rfl))
 f29:=Tryz.func250.trans (congrArg some (by kernel_rfl))
 f46:=⟨Tryz.f285.name,by decide,Tryz.func285.trans (congrArg some (by kernel_rfl))⟩
 f47:=Tryz.func286.trans (congrArg some (by kernel_rfl))
 f48:=Tryz.func287.trans (congrArg some (by kernel_rfl))
 f49:=⟨Tryz.f288.name,by decide,Tryz.func288.trans (congrArg some (by kernel_rfl))⟩
 f50:=⟨Tryz.f289.name,by decide,Tryz.func289.trans (congrArg some (by kernel_rfl))⟩
 f57:=⟨Tryz.f305.name,by decide,Tryz.func305.trans (congrArg some (by kernel_rfl))⟩
 t0:=Tryz.underlying0
 a0:=Tryz.isAgg0
 z0:=Tryz.sizeOf0
 v0:=Tryz.zeroValue0
 t3:=Tryz.underlying3
 a3:=Tryz.isAgg3
 z3:=Tryz.sizeOf3
 v3:=Tryz.zeroValue3
 t4:=Tryz.underlying4
 a4:=Tryz.isAgg4
 z4:=Tryz.sizeOf4
 v4:=Tryz.zeroValue4
 t5:=Tryz.underlying5
 a5:=Tryz.isAgg5
 z5:=Tryz.sizeOf5
 v5:=Tryz.zeroValue5
 t9:=Tryz.underlying9
 a9:=Tryz.isAgg9
 z9:=Tryz.sizeOf9
 v9:=Tryz.zeroValue9
 t22:=Tryz.underlying52
 a22:=Tryz.isAgg52
 z22:=Tryz.sizeOf52
 v22:=Tryz.zeroValue52
 t25:=Tryz.underlying140
 a25:=Tryz.isAgg140
 z25:=Tryz.sizeOf140
 v25:=Tryz.zeroValue140
 t39:=Tryz.underlying287
 a39:=Tryz.isAgg287
 z39:=Tryz.sizeOf287
 v39:=Tryz.zeroValue287
 t45:=Tryz.underlying327
 a45:=Tryz.isAgg327
 z45:=Tryz.sizeOf327
 v45:=Tryz.zeroValue327
 t46:=Tryz.underlying328
 a46:=Tryz.isAgg328
 z46:=Tryz.sizeOf328
 v46:=Tryz.zeroValue328
 t50:=Tryz.underlying154
 a50:=Tryz.isAgg154
 z50:=Tryz.sizeOf154
 v50:=Tryz.zeroValue154
 t53:=Tryz.underlying157
 a53:=Tryz.isAgg157
 z53:=Tryz.sizeOf157
 v53:=Tryz.zeroValue157
 t55:=Tryz.underlying335
 a55:=Tryz.isAgg335
 z55:=Tryz.sizeOf335
 v55:=Tryz.zeroValue335
 t66:=Tryz.underlying363
 a66:=Tryz.isAgg363
 z66:=Tryz.sizeOf363
 v66:=Tryz.zeroValue363
 t70:=Tryz.underlying367
 a70:=Tryz.isAgg367
 z70:=Tryz.sizeOf367
 v70:=Tryz.zeroValue367
 t76:=Tryz.underlying390
 a76:=Tryz.isAgg390
 z76:=Tryz.sizeOf390
 v76:=Tryz.zeroValue390
 t77:=Tryz.underlying391
 a77:=Tryz.isAgg391
 z77:=Tryz.sizeOf391
 v77:=Tryz.zeroValue391 }
end Go.Proofs
namespace Go.Proofs
open Go Go.Ab Go.Sort
theorem Io:SWO (fun x y:wT=>decide (jr x.1 y.1<0)) where
 irrefl x:=by
  rw[decide_eq_false_iff_not,fR];unfold cb;omega
 trans x y z h1 h2:=by
  rw[decide_eq_true_iff,fR] at *
  exact tn h1 h2
 ntrans x y z h1 h2:=by
  rw[decide_eq_false_iff_not,fR] at *
  unfold cb at *
  omega
theorem BH (G:GW):V0 G:=fun l gn sz nl hz hl =>
 DCall.sortF (P:=Tryz.prog) (G:=G) (f:=138) (g:=86) up 2 (by decide) (fun _=>rfl) (fun a b=>jr a.1 b.1) Io (fun x y=>by have h:=uc (G:=fun _=>none) x.1 y.1 x.2 y.2;exact h)
  (fun α _ en hk h1 c hO blk cap d w hcmp hH hb hs=>AnyQ.slices_SortFunc Tryz.laysSus 2 Tryz.isAgg42 Tryz.sizeOf42 en hk h1 c hO 86 #[] blk 0 cap d w (by simp) hcmp hH hb hs)
  (fun a cap w=>AnyF.slices_SortFunc_none Tryz.laysSus a cap _ w) (.im (.fn (.func 86) []))
  (fun M v hv=>by
   cases hv with
   | im _ _ h=>cases h with
     | fn _ _ vs h1 _ =>
       have:vs=#[]:=Array.eq_empty_of_size_eq_zero (by simpa using h1.symm)
       rw[this]) l gn sz nl hz hl
end Go.Proofs
