/- Part 25 of the proofs. -/
import Derived.Test.YtjodaihiogfkbaaGreatDoorC03
import Derived.Test.YtjodaihiogfkbaaGreatDoorC06
set_option linter.all false
set_option linter.deprecated false
set_option maxHeartbeats 100000000
namespace Go.Ab
open Go
abbrev Gp:=Nat×Bool
def tn (b:Nat→Nat×Nat) (m:Nat→Gp×Gp) (i k:Nat) (x:Issue):List DC:=if k<i then [.im (rI x.drawing),.im (rI x.letter),.im (.raw (.int .u8 x.kind)),.vec (b k).1 (m k).1.1 0 x.items.length,.vec (b k).2 (m k).2.1 0 x.dims.length] else (g9 x).map .im
def bJ (b:Nat→Nat×Nat) (m:Nat→Gp×Gp) (i:Nat) (l:List Issue):List (List DC):=l.mapIdx (tn b m i)
def jT (l:List Issue) (m:Nat→Gp×Gp) (k:Nat):Q4:=match l[k]? with
 | some x=>(.vec 2 [] 0 true,.vec 2 (l8 (x.items.map A9)) (m k).1.1 (m k).1.2,.vec 3 [] 0 true,.vec 3 (l8 (x.dims.map E3)) (m k).2.1 (m k).2.2)
 | none=>(.gone,.gone,.gone,.gone)
def tt (b:Nat→Nat) (m:Nat→Gp) (i k:Nat) (x:Holder):List DC:=if k<i then [.im (rI x.id),.im (rI x.frm),.im (rI x.to),.vec (b k) (m k).1 0 x.draws.length] else (o9 x).map .im
def bM (b:Nat→Nat) (m:Nat→Gp) (i:Nat) (l:List Holder):List (List DC):=l.mapIdx (tt b m i)
def lM (l:List Holder) (m:Nat→Gp) (k:Nat):Q2:=match l[k]? with
 | some x=>(.vec 1 [] 0 true,.vec 1 (l8 (x.draws.map Ab.encI)) (m k).1 (m k).2)
 | none=>(.gone,.gone)
@[simp] theorem ID (b:Nat→Nat×Nat) (m:Nat→Gp×Gp) (i:Nat) (l:List Issue):(bJ b m i l).length=l.length:=by simp[bJ]
@[simp] theorem IN (b:Nat→Nat) (m:Nat→Gp) (i:Nat) (l:List Holder):(bM b m i l).length=l.length:=by simp[bM]
theorem wP (b:Nat→Nat×Nat) (m:Nat→Gp×Gp) (l:List Issue):bJ b m 0 l=l8 (l.map g9):=by
 unfold bJ l8
 apply List.ext_getElem?
 intro k
 simp[List.getElem?_mapIdx,tn]
 rfl
theorem wZ (b:Nat→Nat) (m:Nat→Gp) (l:List Holder):bM b m 0 l=l8 (l.map o9):=by
 unfold bM l8
 apply List.ext_getElem?
 intro k
 simp[List.getElem?_mapIdx,tt]
 rfl
theorem DH {b:Nat→Nat×Nat} {m:Nat→Gp×Gp} {i:Nat} {l:List Issue} {x:Issue} (h:l[i]?=some x):(bJ b m i l)[i]?=some ((g9 x).map .im):=by
 simp[bJ,List.getElem?_mapIdx,h,tn]
theorem DQ {b:Nat→Nat} {m:Nat→Gp} {i:Nat} {l:List Holder} {x:Holder} (h:l[i]?=some x):(bM b m i l)[i]?=some ((o9 x).map .im):=by
 simp[bM,List.getElem?_mapIdx,h,tt]
def fX {α:Type} (m:Nat→α) (i:Nat) (g:α) (k:Nat):α:=if k=i then g else m k
theorem AA {b:Nat→Nat×Nat} {m:Nat→Gp×Gp} {i:Nat} {l:List Issue} {x:Issue} (h:l[i]?=some x) (g:Gp×Gp):(bJ b m i l).set i [.im (rI x.drawing),.im (rI x.letter),.im (.raw (.int .u8 x.kind)),.vec (b i).1 g.1.1 0 x.items.length,.vec (b i).2 g.2.1 0 x.dims.length]=bJ b (fX m i g) (i+1) l:=by
 apply List.ext_getElem?
 intro k
 rw[List.getElem?_set]
 by_cases e:i=k
 ·subst e
  have hlt:=e7 h
  rw[if_pos rfl,if_pos (by simpa using hlt)]
  simp only[bJ,List.getElem?_mapIdx,h,Option.map_some,tn,fX,if_true,Nat.lt_succ_self]
 ·rw[if_neg e]
  simp only[bJ,List.getElem?_mapIdx]
  have h1:¬ k=i:=fun h=>e h.symm
  cases hk:l[k]? with
  | none=>rfl
  | some y =>
    simp only[Option.map_some,tn,fX,if_neg h1]
    by_cases h2:k<i
    ·rw[if_pos h2,if_pos (by omega)]
    ·rw[if_neg h2,if_neg (by omega)]
theorem AM {b:Nat→Nat} {m:Nat→Gp} {i:Nat} {l:List Holder} {x:Holder} (h:l[i]?=some x) (g:Gp):(bM b m i l).set i [.im (rI x.id),.im (rI x.frm),.im (rI x.to),.vec (b i) g.1 0 x.draws.length]=bM b (fX m i g) (i+1) l:=by
 apply List.ext_getElem?
 intro k
 rw[List.getElem?_set]
 by_cases e:i=k
 ·subst e
  have hlt:=e7 h
  rw[if_pos rfl,if_pos (by simpa using hlt)]
  simp only[bM,List.getElem?_mapIdx,h,Option.map_some,tt,fX,if_true,Nat.lt_succ_self]
 ·rw[if_neg e]
  simp only[bM,List.getElem?_mapIdx]
  have h1:¬ k=i:=fun h=>e h.symm
  cases hk:l[k]? with
  | none=>rfl
  | some y =>
    simp only[Option.map_some,tt,fX,if_neg h1]
    by_cases h2:k<i
    ·rw[if_pos h2,if_pos (by omega)]
    ·rw[if_neg h2,if_neg (by omega)]
theorem wO {l:List Issue} {m:Nat→Gp×Gp} {i:Nat} {x:Issue} (h:l[i]?=some x) (g:Gp×Gp):F5 (jT l (fX m i g)) (i+1)=F5 (jT l m) i++[.vec 2 [] 0 true,.vec 2 (l8 (x.items.map A9)) g.1.1 g.1.2,.vec 3 [] 0 true,.vec 3 (l8 (x.dims.map E3)) g.2.1 g.2.2]:=by
 rw[F5,dI (H:=jT l m) fun k hk=>by unfold jT fX;rw[if_neg (by omega)]]
 simp[jT,h,fX]
theorem wY {l:List Holder} {m:Nat→Gp} {i:Nat} {x:Holder} (h:l[i]?=some x) (g:Gp):I9 (lM l (fX m i g)) (i+1)=I9 (lM l m) i++[.vec 1 [] 0 true,.vec 1 (l8 (x.draws.map Ab.encI)) g.1 g.2]:=by
 rw[I9,dJ (H:=lM l m) fun k hk=>by unfold lM fX;rw[if_neg (by omega)]]
 simp[lM,h,fX]
abbrev Cs:=(Gp×Gp)×(Nat→Gp×Gp)×(Gp×Gp)×(Nat→Gp)×(Gp×Gp)
def tR (s k:Nat):Nat×Nat:=(4*k+(13+s),4*k+(15+s))
def tS (N s k:Nat):Nat:=4*N+2*k+(17+s)
def pA (s:Nat) (m:Cs) (c:Case):List DC:=[.vec (9+s) m.1.1.1 0 c.p.n.reg.length,.vec (11+s) m.1.2.1 0 c.p.n.notes.length,.vec (4*c.p.n.reg.length+(13+s)) m.2.2.1.1.1 0 c.p.holders.length,.vec (4*c.p.n.reg.length+(15+s)) m.2.2.1.2.1 0 c.p.prints.length,.im (rI c.machine),.im (rI c.of),.vec (4*c.p.n.reg.length+2*c.p.holders.length+(17+s)) m.2.2.2.2.1.1 0 c.loop.links.length,.im (rI c.loop.lo),.im (rI c.loop.hi),.vec (4*c.p.n.reg.length+2*c.p.holders.length+(19+s)) m.2.2.2.2.2.1 0 c.pieces.length]
def rh (s:Nat) (m:Cs) (c:Case):List DObj:=.row (pA s m c) :: .vec 0 [] 0 true :: .vec 0 [] 0 true :: .vec 0 [] 0 true :: .vec 0 [] 0 true :: .vec 0 [] 0 true :: .vec 0 [] 0 true :: .row (pA s m c) :: .vec 5 [] 0 true :: .vec 5 (bJ (tR s) m.2.1 c.p.n.reg.length c.p.n.reg) m.1.1.1 m.1.1.2 :: .vec 10 [] 0 true :: .vec 10 (l8 (c.p.n.notes.map j9)) m.1.2.1 m.1.2.2 :: (F5 (jT c.p.n.reg m.2.1) c.p.n.reg.length ++ .vec 4 [] 0 true :: .vec 4 (bM (tS c.p.n.reg.length s) m.2.2.2.1 c.p.holders.length c.p.holders) m.2.2.1.1.1 m.2.2.1.1.2 :: .vec 7 [] 0 true :: .vec 7 (l8 (c.p.prints.map A0)) m.2.2.1.2.1 m.2.2.1.2.2 :: (I9 (lM c.p.holders m.2.2.2.1) c.p.holders.length++[.vec 3 [] 0 true,.vec 3 (l8 (c.loop.links.map G3)) m.2.2.2.2.1.1 m.2.2.2.2.1.2,.vec 4 [] 0 true,.vec 4 (l8 (c.pieces.map A7)) m.2.2.2.2.2.1 m.2.2.2.2.2.2]))
theorem oH (e:Nat→Nat) (l:List (List IC)):(l8 l).map (rnL e)=l8 l:=by
 unfold l8
 rw[List.map_map]
 exact List.map_congr_left fun x _=>fr e x
theorem CR (a s:Nat) (m:Nat→Gp×Gp) (i:Nat) (l:List Issue):(bJ (tR a) m i l).map (rnL fun o=>s+o)=bJ (tR (a+s)) m i l:=by
 apply List.ext_getElem?
 intro k
 simp only[bJ,List.getElem?_map,List.getElem?_mapIdx]
 cases l[k]? with
 | none=>rfl
 | some x =>
   simp only[Option.map_some,tn]
   by_cases h:k<i
   ·rw[if_pos h,if_pos h]
    simp only[rnL,iI,tR]
    rw[show s+(4*k+(13+a))=4*k+(13+(a+s)) by omega,show s+(4*k+(15+a))=4*k+(15+(a+s)) by omega]
   ·rw[if_neg h,if_neg h,fr]
theorem CS (N a s:Nat) (m:Nat→Gp) (i:Nat) (l:List Holder):(bM (tS N a) m i l).map (rnL fun o=>s+o)=bM (tS N (a+s)) m i l:=by
 apply List.ext_getElem?
 intro k
 simp only[bM,List.getElem?_map,List.getElem?_mapIdx]
 cases l[k]? with
 | none=>rfl
 | some x =>
   simp only[Option.map_some,tt]
   by_cases h:k<i
   ·rw[if_pos h,if_pos h]
    simp only[rnL,iI,tS]
    rw[show s+(4*N+2*k+(17+a))=4*N+2*k+(17+(a+s)) by omega]
   ·rw[if_neg h,if_neg h,fr]
theorem zu (a s:Nat) (m:Cs) (c:Case):rnL (fun o=>s+o) (pA a m c)=pA (a+s) m c:=by
 simp only[pA,rnL,iI]
 simp only[List.cons.injEq,DC.vec.injEq,and_true,true_and]
 omega
theorem FB (a s:Nat) (m:Cs) (c:Case):(rh a m c).map (cM fun o=>s+o)=rh (a+s) m c:=by
 have h4:(F5 (jT c.p.n.reg m.2.1) c.p.n.reg.length).map (cM fun o=>s+o)=F5 (jT c.p.n.reg m.2.1) c.p.n.reg.length:=by
  rw[nK]
  refine dI fun k hk=>?_
  unfold jT
  rw[List.getElem?_eq_getElem hk]
  simp only[cM,oH,List.map_nil]
 have h2:(I9 (lM c.p.holders m.2.2.2.1) c.p.holders.length).map (cM fun o=>s+o)=I9 (lM c.p.holders m.2.2.2.1) c.p.holders.length:=by
  rw[nM]
  refine dJ fun k hk=>?_
  unfold lM
  rw[List.getElem?_eq_getElem hk]
  simp only[cM,oH,List.map_nil]
 simp only[rh,List.map_cons,List.map_append,List.map_nil,cM,zu,CR,CS,oH,h4,h2]
theorem qZ (n:Nat):u7 [] n=fun o=>n+o:=by
 funext o;simp[u7]
theorem sZ (objs o:List DObj):n5 [] objs o=objs++o.map (cM fun k=>objs.length+k):=by
 unfold n5
 rw[qZ]
 simp[gt]
end Go.Ab
namespace Go.Proofs
open Go Go.Ab
variable {G:GW}
attribute [simp] u4 eq T1 mM A3 C2 nilV N0 ZK
theorem xN (c:Case) (hk:KC c):DCall Tryz.prog G 98 [n3 c] [] (fun d o=>∃ m:Cs,True∧d=.agg (pA 0 m c)∧o=rh 0 m c):=by
 generalize hQ:(fun (d:DV) (o:List DObj)=>∃ m:Cs,True∧d=.agg (pA 0 m c)∧o=rh 0 m c)=Q
 refine h9 Tryz.func98 rfl Tryz.ntmps98 (by simp) rfl ?_
 have c1:=IZ (G:=G) c.p.n.reg (by have:=hk.p.n.1.1;omega)
 have c2:=GT (G:=G) c.p.n.notes (by have:=hk.p.n.2.1;omega)
 unfold F2 at c1 c2
 simp only[List.length_map] at c1 c2
 simp only[n3]
 have hs:=trivial
 repeat' first|with_reducible refine zz ?_|simp -dsimp[hs]|refine CallE.embed_ex [] (c1) ?_ ?_ ?_ ?_ ?_ ?_;(focus simp[u7];done);(focus simp;done);(focus simp;done);(focus simp;done);(focus refine n9 ?_;simp[u7,r8];done);intro mmA hmmA;try simp -dsimp[n5,u7,hs]|refine CallE.embed_ex [] (c2) ?_ ?_ ?_ ?_ ?_ ?_;(focus simp[u7];done);(focus simp;done);(focus simp;done);(focus simp;done);(focus refine n9 ?_;simp[u7,r8];done);intro mmB hmmB;try simp -dsimp[n5,u7,hs]|refine Y1 (id:=2) (nt:=117) [none,none,none,none,none,none,none,none,none,none,none,none,none,none,none,some [0],some [15],some [16],some [17],none,some [1],some [20],some [21],none] [0,1,2,3,4,5,6,7,9,10,11,12,13,15,16,17,18,20,21,22,8,14,19,23] 20 [([0,1,8,9,10,11,12,13,14,15,16,17,18,19],[0,1,2,3,4,5,6,15,36,37,38,85,86,87]),([0,1,13,14,15,16,17,18,19],[0,1,2,3,4,5,6,16,21,36,37,38,85,86,87]),([1,17,18,19],[0,1,2,3,4,5,6,16,22,26,36,37,38,85,86,87])] [0,1,2,3,4,5,6,36,37,38,85,86,87] mixed rfl (by kernel_rfl) (by kernel_rfl) (by kernel_rfl) ?_|with_reducible refine zE [0,1,2,3,4,5,6,36,37,38,85,86,87] ?_
 all_goals try clear hs
 refine i6 (ι:={ q:Nat×(Nat→Gp×Gp) // q.1≤c.p.n.reg.length }) (fun q=>⟨117,[(1,.one (.ptr 0 0)),(2,.one (.ptr 7 0)),(3,.one (.ptr 0 0)),(36,iv (c.p.n.reg.length:Int)),(37,iv (q.1.1:Int))],.row [.vec 9 mmA.1 0 c.p.n.reg.length,.vec 11 mmB.1 0 c.p.n.notes.length,.im (.sl (c.p.holders.map o9)),.im (.sl (c.p.prints.map A0)),.im (rI c.machine),.im (rI c.of),.im (.sl (c.loop.links.map G3)),.im (rI c.loop.lo),.im (rI c.loop.hi),.im (.sl (c.pieces.map A7))] :: .vec 0 [] 0 true :: .vec 0 [] 0 true :: .vec 0 [] 0 true :: .vec 0 [] 0 true :: .vec 0 [] 0 true :: .vec 0 [] 0 true :: .row [.vec 1 0 0 0,.vec 2 0 0 0,.vec 3 0 0 0,.vec 4 0 0 0,.im (rI 0),.im (rI 0),.vec 5 0 0 0,.im (rI 0),.im (rI 0),.vec 6 0 0 0] :: .vec 5 [] 0 true :: .vec 5 (bJ (fun k=>(4*k+13,4*k+15)) q.1.2 q.1.1 c.p.n.reg) mmA.1 mmA.2 :: .vec 10 [] 0 true :: .vec 10 (l8 (c.p.n.notes.map j9)) mmB.1 mmB.2 :: F5 (jT c.p.n.reg q.1.2) q.1.1⟩) (fun q=>c.p.n.reg.length-q.1.1) ⟨(0,fun _=>((0,false),(0,false))),by simp⟩ (zv [1,2,3,36,37] (by simp[wP,F5])) ?_
 rintro⟨⟨i,m⟩,hi⟩
 simp only at hi
 simp only[iv,rI]
 by_cases hlt:i<c.p.n.reg.length
 ·have hw:IntKind.i64.wrap ((i:Int)+1)=((i+1:Nat):Int):=p6 (by omega) (by have:=hk.p.n.1.1;omega)
  have hx0:c.p.n.reg[i]?=some c.p.n.reg[i]:=by simp[hlt]
  have hxm:=hk.p.n.1.2 _ (List.mem_of_getElem? hx0)
  generalize c.p.n.reg[i]=x at *
  have c3:=IY (G:=G) x.items (by omega)
  have c4:=Jb (G:=G) x.dims (by omega)
  unfold F2 at c3 c4
  simp only[List.length_map] at c3 c4
  have hat:∀ h,(bJ (fun k=>(4*k+13,4*k+15)) m i c.p.n.reg)[i]'h=(g9 x).map .im:=fun h=>by
   have:=DH (b:=fun k=>(4*k+13,4*k+15)) (m:=m) hx0
   rw[List.getElem?_eq_getElem h] at this;exact Option.some.inj this
  simp only[g9,rI,List.map_cons,List.map_nil] at hat
  have hset:=fun g=>AA (b:=fun k=>(4*k+13,4*k+15)) (m:=m) hx0 g
  have hsuc:=fun g=>wO (m:=m) hx0 g
  have hs:=za hlt (za hw hat)
  repeat' first|with_reducible refine zz ?_|simp -dsimp[hs]|refine CallE.embed_ex [] (c3) ?_ ?_ ?_ ?_ ?_ ?_;(focus simp[u7];done);(focus simp;done);(focus simp;done);(focus simp;done);(focus refine n9 ?_;simp[u7,r8];done);intro mmC hmmC;try simp -dsimp[n5,u7,hs]|refine CallE.embed_ex [] (c4) ?_ ?_ ?_ ?_ ?_ ?_;(focus simp[u7];done);(focus simp;done);(focus simp;done);(focus simp;done);(focus refine n9 ?_;simp[u7,r8];done);intro mmD hmmD;try simp -dsimp[n5,u7,hs]|refine Y1 (id:=7) (nt:=117) [none,none,none,none,none,none,none,none,none,none,none,none,some [0],some [12],none,some [1],some [15],none] [0,1,2,3,4,5,7,8,9,10,12,13,15,16,6,11,14,17] 14 [([0,1,6,7,8,9,10,11,12,13],[0,1,2,3,4,5,6,36,37,38,53,85,86,87]),([0,1,10,11,12,13],[0,1,2,3,4,5,6,36,37,38,54,58,85,86,87]),([1,12,13],[0,1,2,3,4,5,6,36,37,38,54,59,61,85,86,87])] [0,1,2,3,4,5,6,36,37,38,85,86,87] mixed rfl (by kernel_rfl) (by kernel_rfl) (by kernel_rfl) ?_|with_reducible refine zE [0,1,2,3,4,5,6,36,37,38,85,86,87] ?_|refine i9 ?_ ?_<;>intro h<;>try simp only[i7] at h
  all_goals try clear hs
  refine At.round ⟨(i+1,fX m i (mmC,mmD)),by simp only;omega⟩ (by simp only;omega) (Weak.of_keep [1,2,3,36,37] ?_)
  rw[← hset (mmC,mmD),hsuc (mmC,mmD)]
  simp
 ·obtain rfl:i=c.p.n.reg.length:=by omega
  have c5:=GV (G:=G) c.p.holders (by have:=hk.p.p.h;omega)
  have c6:=Eo (G:=G) c.p.prints (by have:=hk.p.p.q;omega)
  unfold F2 at c5 c6
  simp only[List.length_map] at c5 c6
  have hs:=hlt
  repeat' first|with_reducible refine zz ?_|simp -dsimp[hs]|refine CallE.embed_ex [] (c5) ?_ ?_ ?_ ?_ ?_ ?_;(focus simp[u7];done);(focus simp;done);(focus simp;done);(focus simp;done);(focus refine n9 ?_;simp[u7,r8];done);intro mmE hmmE;try simp -dsimp[n5,u7,hs]|refine CallE.embed_ex [] (c6) ?_ ?_ ?_ ?_ ?_ ?_;(focus simp[u7];done);(focus simp;done);(focus simp;done);(focus simp;done);(focus refine n9 ?_;simp[u7,r8];done);intro mmF hmmF;try simp -dsimp[n5,u7,hs]|refine Y1 (id:=9) (nt:=117) [none,none,none,none,none,none,none,none,none,none,none,none,some [0],some [12],none,some [1],some [15],none] [0,1,2,3,4,5,7,8,9,10,12,13,15,16,6,11,14,17] 14 [([0,1,6,7,8,9,10,11,12,13],[0,1,2,3,4,5,6,36,37,38,70,85,86,87]),([0,1,10,11,12,13],[0,1,2,3,4,5,6,36,37,38,71,75,85,86,87]),([1,12,13],[0,1,2,3,4,5,6,36,37,38,71,76,78,85,86,87])] [0,1,2,3,4,5,6,36,37,38,85,86,87] mixed rfl (by kernel_rfl) (by kernel_rfl) (by kernel_rfl) ?_|with_reducible refine zE [0,1,2,3,4,5,6,36,37,38,85,86,87] ?_|refine i9 ?_ ?_<;>intro h<;>try simp only[i7] at h
  all_goals try clear hs
  clear hlt hi
  generalize hN:c.p.n.reg.length=N at *
  refine i6 (ι:={ q:Nat×(Nat→Gp) // q.1≤c.p.holders.length }) (fun q=>⟨117,[(1,.one (.ptr 0 0)),(2,.one (.ptr 7 0)),(3,.one (.ptr 0 0)),(85,iv (c.p.holders.length:Int)),(86,iv (q.1.1:Int))],.row [.vec 9 mmA.1 0 N,.vec 11 mmB.1 0 c.p.n.notes.length,.vec (4*N+13) mmE.1 0 c.p.holders.length,.vec (4*N+15) mmF.1 0 c.p.prints.length,.im (rI c.machine),.im (rI c.of),.im (.sl (c.loop.links.map G3)),.im (rI c.loop.lo),.im (rI c.loop.hi),.im (.sl (c.pieces.map A7))] :: .vec 0 [] 0 true :: .vec 0 [] 0 true :: .vec 0 [] 0 true :: .vec 0 [] 0 true :: .vec 0 [] 0 true :: .vec 0 [] 0 true :: .row [.vec 1 0 0 0,.vec 2 0 0 0,.vec 3 0 0 0,.vec 4 0 0 0,.im (rI 0),.im (rI 0),.vec 5 0 0 0,.im (rI 0),.im (rI 0),.vec 6 0 0 0] :: .vec 5 [] 0 true :: .vec 5 (bJ (fun k=>(4*k+13,4*k+15)) m N c.p.n.reg) mmA.1 mmA.2 :: .vec 10 [] 0 true :: .vec 10 (l8 (c.p.n.notes.map j9)) mmB.1 mmB.2 :: (F5 (jT c.p.n.reg m) N ++ .vec 4 [] 0 true :: .vec 4 (bM (fun k=>4*N+2*k+17) q.1.2 q.1.1 c.p.holders) mmE.1 mmE.2 :: .vec 7 [] 0 true :: .vec 7 (l8 (c.p.prints.map A0)) mmF.1 mmF.2 :: I9 (lM c.p.holders q.1.2) q.1.1)⟩) (fun q=>c.p.holders.length-q.1.1) ⟨(0,fun _=>(0,false)),by simp⟩ (zv [1,2,3,85,86] (by simp[wZ,I9])) ?_
  rintro⟨⟨i,m2⟩,hi⟩
  simp only at hi
  simp only[iv,rI]
  by_cases hlt:i<c.p.holders.length
  ·have hw:IntKind.i64.wrap ((i:Int)+1)=((i+1:Nat):Int):=p6 (by omega) (by have:=hk.p.p.h;omega)
   have hx0:c.p.holders[i]?=some c.p.holders[i]:=by simp[hlt]
   have hxm:=hk.p.p.d _ (List.mem_of_getElem? hx0)
   generalize c.p.holders[i]=x at *
   have c3:=Ja (G:=G) x.draws (by omega)
   unfold F2 at c3
   simp only[List.length_map] at c3
   have hat:∀ h,(bM (fun k=>4*N+2*k+17) m2 i c.p.holders)[i]'h=(o9 x).map .im:=fun h=>by
    have:=DQ (b:=fun k=>4*N+2*k+17) (m:=m2) hx0
    rw[List.getElem?_eq_getElem h] at this;exact Option.some.inj this
   simp only[o9,rI,List.map_cons,List.map_nil] at hat
   have hset:=fun g=>AM (b:=fun k=>4*N+2*k+17) (m:=m2) hx0 g
   have hsuc:=fun g=>wY (m:=m2) hx0 g
   have hs:=za hlt (za hw hat)
   repeat' first|with_reducible refine zz ?_|simp -dsimp[hs]|refine CallE.embed_ex [] (c3) ?_ ?_ ?_ ?_ ?_ ?_;(focus simp[u7];done);(focus simp;done);(focus simp;done);(focus simp;done);(focus refine n9 ?_;simp[u7,r8];done);intro mmC hmmC;try simp -dsimp[n5,u7,hs]|refine Y1 (id:=13) (nt:=117) [none,none,none,none,none,none,none,none,none,none,none,none,none,none,some [3,4],some [14],none] [0,1,2,3,4,5,6,7,8,9,10,11,12,14,15,13,16] 15 [([0,1,2,3,4,13,14],[0,1,2,3,4,5,6,36,37,38,85,86,87,101])] [0,1,2,3,4,5,6,36,37,38,85,86,87] mixed rfl (by kernel_rfl) (by kernel_rfl) (by kernel_rfl) ?_|with_reducible refine zE [0,1,2,3,4,5,6,36,37,38,85,86,87] ?_|refine i9 ?_ ?_<;>intro h<;>try simp only[i7] at h
   all_goals try clear hs
   refine At.round ⟨(i+1,fX m2 i mmC),by simp only;omega⟩ (by simp only;omega) (Weak.of_keep [1,2,3,85,86] ?_)
   rw[← hset mmC,hsuc mmC]
   simp
   refine congrArg (fun a=>(bM (fun k=>4*N+2*k+17) m2 i c.p.holders).set i [_,_,_,DC.vec a _ _ _]) ?_
   omega
  ·obtain rfl:i=c.p.holders.length:=by omega
   have c7:=GU (G:=G) c.loop.links (by have:=hk.l;omega)
   have c8:=Ep (G:=G) c.pieces (by have:=hk.q;omega)
   unfold F2 at c7 c8
   simp only[List.length_map] at c7 c8
   have hs:=hlt
   repeat' first|(with_reducible first|refine zz ?_|refine zr ?_)|simp -dsimp[hs]|refine CallE.embed_ex [] (c7) ?_ ?_ ?_ ?_ ?_ ?_;(focus simp[u7];done);(focus simp;done);(focus simp;done);(focus simp;done);(focus refine n9 ?_;simp[u7,r8];done);intro mmG hmmG;try simp -dsimp[n5,u7,hs]|refine CallE.embed_ex [] (c8) ?_ ?_ ?_ ?_ ?_ ?_;(focus simp[u7];done);(focus simp;done);(focus simp;done);(focus simp;done);(focus refine n9 ?_;simp[u7,r8];done);intro mmH hmmH;try simp -dsimp[n5,u7,hs]|refine Y1 (id:=15) (nt:=117) [none,none,none,none,none,none,none,some [],some [7],none,some [],none] [0,1,2,4,5,7,8,10,3,6,9,11] 8 [([3,4,5,6,7],[0,1,2,3,4,5,6,36,37,38,85,86,87,108]),([5,6,7],[0,1,2,3,4,5,6,36,37,38,85,86,87,109,111]),([7],[0,1,2,3,4,5,6,36,37,38,85,86,87,109,112,114])] [0,1,2,3,4,5,6,36,37,38,85,86,87] mixed rfl (by kernel_rfl) (by kernel_rfl) (by kernel_rfl) ?_|with_reducible refine zE [0,1,2,3,4,5,6,36,37,38,85,86,87] ?_|refine i9 ?_ ?_<;>intro h<;>try simp only[i7] at h
   all_goals try clear hs
   subst hQ
   refine⟨((mmA,mmB),m,(mmE,mmF),m2,(mmG,mmH)),trivial,?_,?_⟩
   ·simp only[pA,hN,DV.agg.injEq,List.cons.injEq,DC.vec.injEq,and_true,true_and,Nat.add_zero]
    exact⟨rfl,rfl,by omega,rfl,rfl,by omega⟩
   ·simp only[rh,pA,hN,List.cons.injEq,DObj.row.injEq,DC.vec.injEq,and_true,true_and,Nat.add_zero]
    exact⟨⟨rfl,rfl,by omega,rfl,rfl,by omega⟩,⟨rfl,rfl,by omega,rfl,rfl,by omega⟩,rfl,rfl⟩
end Go.Proofs
namespace Go.Proofs
open Go Go.Ab Tryz
variable {G:GW}
def Kn (x:Piece) (lo hi:Int):Piece:=⟨x.holder,x.day,lo,hi⟩
def Du (c:Case) (k:Nat) (x:Piece) (lo hi:Int):Case:={ c with pieces:=c.pieces.set k (Kn x lo hi) }
noncomputable def pO (c:Case) (n lo hi:Int):Int:=if Z3 c n≠0 then Z3 c n else match c.pieces[n.toNat]? with
 | some x=>if V1 lo hi x.lo x.hi=true then 0 else 2
 | none=>2
theorem Dq {c:Case} {n lo hi:Int} (h:pO c n lo hi=0):v6 c=0∧∃ (k:Nat) (x:Piece),n=(k:Int)∧c.pieces[k]?=some x∧V1 lo hi x.lo x.hi=true:=by
 unfold pO at h
 by_cases h0:Z3 c n=0
 ·rw[if_neg (by simp[h0])] at h
  obtain⟨he,hn0,hn1⟩:=qE h0
  obtain⟨k,rfl⟩:=Int.eq_ofNat_of_zero_le hn0
  rw[Int.toNat_natCast] at h
  cases hx:c.pieces[k]? with
  | none=>rw[hx] at h;simp at h
  | some x =>
    rw[hx] at h
    simp only at h
    by_cases hi':V1 lo hi x.lo x.hi=true
    ·exact⟨he,k,x,rfl,hx,hi'⟩
    ·rw[if_neg hi'] at h;exact absurd h (by decide)
 ·rw[if_pos (by exact h0)] at h;exact absurd h h0
def yE (s:Nat) (m:Cs) (c:Case) (lo hi:Int):List DObj:=.row (pA (9+s) m c) :: .row [.im (rI lo),.im (rI hi)] :: .vec 0 [] 0 true :: .vec 0 [] 0 true :: .vec 0 [] 0 true :: .vec 0 [] 0 true :: .vec 0 [] 0 true :: .vec 0 [] 0 true :: .row (pA (9+s) m c) :: rh (9+s) m c
theorem Gg {l:List Piece} {k:Nat} {x:Piece} (lo hi:Int) (h:l[k]?=some x):(l8 (l.map A7)).set k [.im (.raw (.int .i64 x.holder)),.im (.raw (.int .i64 x.day)),.im (.raw (.int .i64 lo)),.im (.raw (.int .i64 hi))]=l8 ((l.set k (Kn x lo hi)).map A7):=by
 rw[List.map_set]
 unfold l8
 rw[List.map_set]
 rfl
theorem BQ (c:Case) (k:Nat) (x:Piece) (lo hi:Int) (hx0:c.pieces[k]?=some x) (h0:v6 c=0) (hin:V1 lo hi x.lo x.hi=true) (hG:q8 G) (hN:E6 G) (hS:w7 G) (hR:w9 G) (hk:KC c):DCall prog G 41 [n3 c,iv (k:Int),D4 lo hi] [] (fun d o=>∃ m:Cs,True∧d=.tup [.agg (pA 9 m (Du c k x lo hi)),iv 0]∧o=yE 0 m (Du c k x lo hi) lo hi):=by
 generalize hQ:(fun (d:DV) (o:List DObj)=>∃ m:Cs,True∧d=.tup [.agg (pA 9 m (Du c k x lo hi)),iv 0]∧o=yE 0 m (Du c k x lo hi) lo hi)=Q
 refine h9 func41 rfl ntmps41 (by simp) rfl ?_
 have hlt:k<c.pieces.length:=e7 hx0
 have hx:c.pieces[k]=x:=(List.getElem?_eq_some_iff.1 hx0).2
 have hq16:=hk.q
 have c1:=iu (G:=G) c hG hN hS hR hk
 rw[h0] at c1
 have c2:=N8 (G:=G) 0 ((c.pieces.length:Int)-1) [(k:Int)] (by simp)
 rw[show ([(k:Int)].all fun y=>decide (0≤y)&&decide (y≤(c.pieces.length:Int)-1))=true by simp;omega] at c2
 have c3:=bK (G:=G) lo hi x.lo x.hi
 rw[hin] at c3
 have hw:IntKind.i64.wrap ((c.pieces.length:Int)-1)=(c.pieces.length:Int)-1:=p6 (by omega) (by omega)
 have c4:=xN (G:=G) c hk
 simp only[n3,j4,D4] at c1 c3 c4 ⊢
 have hs:=za hx (za hlt hw)
 repeat' first|(with_reducible first|refine zz ?_|refine zr ?_)|simp -dsimp[hs]|refine zp c1 ?_|refine zq c2 ?_|refine zq c3 ?_|refine CallE.embed_ex [] c4 ?_ ?_ ?_ ?_ ?_ ?_;(focus simp[u7];done);(focus simp;done);(focus simp;done);(focus simp;done);(focus refine n9 ?_;simp[u7,r8];done);intro mmA hmmA;(try simp only[sZ,qZ,jP,zu,FB,Nat.zero_add]);try simp -dsimp[pA,rh]|refine zM 4 52 27 [0,1,2,3,5,6,7,8,12,41] ?_|with_reducible refine zE [0,1,2,3,5,6,7,8,12,41] ?_|refine i9 ?_ ?_<;>intro h<;>try simp only[i7] at h
 subst hQ
 have hst:=Gg lo hi hx0
 refine⟨mmA,trivial,?_,?_⟩
 ·simp[pA,Du]
 ·simp[yE,rh,pA,Du,hst]
def kB:Case:=⟨⟨⟨[],[]⟩,[],[]⟩,0,0,⟨[],0,0⟩,[]⟩
noncomputable def Gi (c:Case) (n lo hi:Int):Case:=if pO c n lo hi=0 then (match c.pieces[n.toNat]? with|some x=>Du c n.toNat x lo hi|none=>kB) else kB
theorem Dp {c:Case} {k:Nat} {x:Piece} {lo hi:Int} (h:pO c (k:Int) lo hi=0) (hx:c.pieces[k]?=some x):Gi c (k:Int) lo hi=Du c k x lo hi:=by
 unfold Gi;rw[if_pos h,Int.toNat_natCast,hx]
theorem Gh {c:Case} {n lo hi:Int} (h:¬ pO c n lo hi=0):Gi c n lo hi=kB:=by
 unfold Gi;rw[if_neg h]
theorem Gj {c:Case} {k:Nat} {x:Piece} (lo hi:Int) (h0:v6 c=0) (hx:c.pieces[k]?=some x):pO c (k:Int) lo hi=if V1 lo hi x.lo x.hi=true then 0 else 2:=by
 have hlt:=e7 hx
 have h1:Z3 c (k:Int)=0:=by unfold Z3;rw[if_neg (by simp[h0]),if_pos (by omega)]
 unfold pO
 rw[if_neg (by simp[h1]),Int.toNat_natCast,hx]
theorem Dr {c:Case} {n:Int} (lo hi:Int) (h0:v6 c=0) (hn:¬ (0≤n∧n<c.pieces.length)):pO c n lo hi=2:=by
 have h1:Z3 c n=2:=by unfold Z3;rw[if_neg (by simp[h0]),if_neg hn]
 unfold pO
 rw[if_pos (by rw[h1];decide),h1]
theorem Dt {c:Case} (n lo hi:Int) (h0:¬ v6 c=0):pO c n lo hi=v6 c:=by
 have h1:Z3 c n=v6 c:=by unfold Z3;rw[if_pos h0]
 unfold pO
 rw[if_pos (by rw[h1];exact h0),h1]
theorem BR (c:Case) (n lo hi:Int) (h:¬ pO c n lo hi=0) (hG:q8 G) (hN:E6 G) (hS:w7 G) (hR:w9 G) (hk:KC c):zP prog G 41 [n3 c,iv n,D4 lo hi] (.tup [n3 kB,iv (pO c n lo hi)]):=by
 refine zf func41 ntmps41 ?_
 try simp only[iv,D4]
 have c1:=iu (G:=G) c hG hN hS hR hk
 have hq16:=hk.q
 simp only[n3,j4,D4] at c1 ⊢
 by_cases h0:v6 c=0
 ·rw[h0] at c1
  have hw:IntKind.i64.wrap ((c.pieces.length:Int)-1)=(c.pieces.length:Int)-1:=p6 (by omega) (by omega)
  have c2:=N8 (G:=G) 0 ((c.pieces.length:Int)-1) [n] (by simp)
  by_cases hn:0≤n∧n<c.pieces.length
  ·obtain⟨k,rfl⟩:=Int.eq_ofNat_of_zero_le hn.1
   have hlt:k<c.pieces.length:=by omega
   have hx0:c.pieces[k]?=some c.pieces[k]:=by simp[hlt]
   have hE:=Gj lo hi h0 hx0
   generalize hx:c.pieces[k]=x at *
   have c3:=bK (G:=G) lo hi x.lo x.hi
   rw[show ([(k:Int)].all fun y=>decide (0≤y)&&decide (y≤(c.pieces.length:Int)-1))=true by simp;omega] at c2
   have hin:V1 lo hi x.lo x.hi=false:=by
    cases hb:V1 lo hi x.lo x.hi
    ·rfl
    ·rw[hb,if_pos rfl] at hE;exact absurd hE h
   rw[hin,if_neg (by decide)] at hE
   rw[hin] at c3
   rw[hE]
   simp only[D4] at c3
   have hs:=za hx (za hlt hw)
   repeat' first|(with_reducible first|refine zz ?_|refine zr ?_)|simp -dsimp[hs]|refine zp c1 ?_|refine zq c2 ?_|refine zq c3 ?_|refine zM 4 52 27 [0,1,2,3,5,6,7,8,12,41] ?_|with_reducible refine zE [0,1,2,3,5,6,7,8,12,41] ?_|refine i9 ?_ ?_<;>intro h<;>try simp only[i7] at h
   all_goals simp[kB]
  ·have hE:=Dr lo hi h0 hn
   rw[show ([n].all fun y=>decide (0≤y)&&decide (y≤(c.pieces.length:Int)-1))=false by simp;omega] at c2
   rw[hE]
   have hs:=hw
   repeat' first|(with_reducible first|refine zz ?_|refine zr ?_)|simp -dsimp[hs]|refine zp c1 ?_|refine zq c2 ?_|refine zM 4 52 27 [0,1,2,3,5,6,7,8,12,41] ?_|with_reducible refine zE [0,1,2,3,5,6,7,8,12,41] ?_|refine i9 ?_ ?_<;>intro h<;>try simp only[i7] at h
   all_goals simp[kB]
 ·have hE:=Dt n lo hi h0
  rw[hE]
  have hs:=h0
  repeat' first|(with_reducible first|refine zz ?_|refine zr ?_|refine zE [0,1,2,3,5,6,7,8,12,41] ?_)|simp -dsimp[hs]|refine zp c1 ?_|refine i9 ?_ ?_<;>intro h<;>try simp only[i7] at h
  all_goals simp[kB]
end Go.Proofs
namespace Go.Ab
open Go
theorem Bb {i n:Nat} (h:i<n) (F:Nat→Q4) (R:List DObj):(F5 F n++R)[4*i+1]?=some (F i).2.1:=by
 rw[List.getElem?_append_left (by simp;omega),iY F (by omega) h];rfl
theorem Ba {i n:Nat} (h:i<n) (F:Nat→Q4) (R:List DObj):(F5 F n++R)[4*i+3]?=some (F i).2.2.2:=by
 rw[List.getElem?_append_left (by simp;omega),iY F (by omega) h];rfl
theorem Bc {i n:Nat} (h:i<n) (F:Nat→Q2) (R:List DObj):(I9 F n++R)[2*i+1]?=some (F i).2:=by
 rw[List.getElem?_append_left (by simp;omega),nN F (by omega) h];rfl
theorem oU {α β:Type} {f:α→Option β}:∀ {l:List α} {r:List β},l.length=r.length→(∀ (i:Nat) (x:α),l[i]?=some x→f x=r[i]?)→E2 f l=some r
 | [],[],_,_=>rfl
 | [],_ :: _,h,_=>by simp at h
 | _ :: _,[],h,_=>by simp at h
 | x :: l,y :: r,h,h2=>by
   have h0:=h2 0 x rfl
   have h1:=oU (f:=f) (l:=l) (r:=r) (by simpa using h) (fun i z hz=>by simpa using h2 (i+1) z (by simpa using hz))
   simp only[List.getElem?_cons_zero] at h0
   simp only[E2,h0,h1]
theorem gK {k o g len sz:Nat} {nl:Bool} {objs:List DObj} {es:List (List DC)} {L:List (List IC)} (ho:objs[o]?=some (.vec sz es g nl)) (hl:es.length=len) (h:E2 (E2 (frz k 0 objs)) es=some L):frz (k+1) 0 objs (.vec o g 0 len)=some (.sl L):=by
 subst hl
 simp only[frz,ho,Nat.zero_le,if_true,Nat.zero_add,Nat.le_refl,and_self,List.drop_zero,List.take_length,h,Option.map_some]
theorem eA {o g len sz:Nat} {nl:Bool} {objs:List DObj} {es:List (List DC)} {L:List (List IC)} (ho:objs[o]?=some (.vec sz es g nl)) (hl:es.length=len) (h:E2 (E2 (frz 19 0 objs)) es=some L):fz 0 objs (.vec o g 0 len)=.im (.sl L):=by
 simp only[fz,DC.lt,gK ho hl h]
 simp
theorem GG {s:Nat} {m:Cs} {c:Case} {objs:List DObj} (h1:objs[9+s]?=some (.vec 5 (bJ (tR s) m.2.1 c.p.n.reg.length c.p.n.reg) m.1.1.1 m.1.1.2)) (h2:objs[11+s]?=some (.vec 10 (l8 (c.p.n.notes.map j9)) m.1.2.1 m.1.2.2))
 (h3:objs[4*c.p.n.reg.length+(13+s)]?=some (.vec 4 (bM (tS c.p.n.reg.length s) m.2.2.2.1 c.p.holders.length c.p.holders) m.2.2.1.1.1 m.2.2.1.1.2)) (h4:objs[4*c.p.n.reg.length+(15+s)]?=some (.vec 7 (l8 (c.p.prints.map A0)) m.2.2.1.2.1 m.2.2.1.2.2))
 (h5:objs[4*c.p.n.reg.length+2*c.p.holders.length+(17+s)]?=some (.vec 3 (l8 (c.loop.links.map G3)) m.2.2.2.2.1.1 m.2.2.2.2.1.2)) (h6:objs[4*c.p.n.reg.length+2*c.p.holders.length+(19+s)]?=some (.vec 4 (l8 (c.pieces.map A7)) m.2.2.2.2.2.1 m.2.2.2.2.2.2))
 (hA:∀ (k:Nat) (x:Issue),c.p.n.reg[k]?=some x→objs[4*k+(13+s)]?=some (.vec 2 (l8 (x.items.map A9)) (m.2.1 k).1.1 (m.2.1 k).1.2)∧objs[4*k+(15+s)]?=some (.vec 3 (l8 (x.dims.map E3)) (m.2.1 k).2.1 (m.2.1 k).2.2))
 (hB:∀ (k:Nat) (x:Holder),c.p.holders[k]?=some x→objs[4*c.p.n.reg.length+2*k+(17+s)]?=some (.vec 1 (l8 (x.draws.map Ab.encI)) (m.2.2.2.1 k).1 (m.2.2.2.1 k).2)):(pA s m c).map (fz 0 objs)=(j4 c).map .im:=by
 have e1:E2 (E2 (frz 19 0 objs)) (bJ (tR s) m.2.1 c.p.n.reg.length c.p.n.reg)=some (c.p.n.reg.map g9):=by
  refine oU (by simp) fun i r hr=>?_
  simp only[bJ,List.getElem?_mapIdx,Option.map_eq_some_iff] at hr
  obtain⟨x,hx,rfl⟩:=hr
  rw[List.getElem?_map,hx]
  obtain⟨a1,a2⟩:=hA i x hx
  have b1:=gK (k:=18) (len:=x.items.length) a1 (by simp[l8]) (S6 _ _ _ _)
  have b2:=gK (k:=18) (len:=x.dims.length) a2 (by simp[l8]) (S6 _ _ _ _)
  have hlt:=e7 hx
  have f1:∀ c:IC,frz 19 0 objs (.im c)=some c:=fun _=>rfl
  simp only[tn,if_pos hlt,E2,f1,tR,b1,b2,Option.map_some,g9]
 have e2:E2 (E2 (frz 19 0 objs)) (bM (tS c.p.n.reg.length s) m.2.2.2.1 c.p.holders.length c.p.holders)=some (c.p.holders.map o9):=by
  refine oU (by simp) fun i r hr=>?_
  simp only[bM,List.getElem?_mapIdx,Option.map_eq_some_iff] at hr
  obtain⟨x,hx,rfl⟩:=hr
  rw[List.getElem?_map,hx]
  have b1:=gK (k:=18) (len:=x.draws.length) (hB i x hx) (by simp[l8]) (S6 _ _ _ _)
  have hlt:=e7 hx
  have f1:∀ c:IC,frz 19 0 objs (.im c)=some c:=fun _=>rfl
  simp only[tt,if_pos hlt,E2,f1,tS,b1,Option.map_some,o9]
 simp only[pA,List.map_cons,List.map_nil,j4]
 rw[eA h1 (by simp) e1,eA h2 (by simp[l8]) (S6 _ _ _ _),eA h3 (by simp) e2,eA h4 (by simp[l8]) (S6 _ _ _ _),eA h5 (by simp[l8]) (S6 _ _ _ _),eA h6 (by simp[l8]) (S6 _ _ _ _)]
 rfl
end Go.Ab
namespace Go.Proofs
open Go Go.Ab Tryz
variable {G:GW}
attribute [simp] u4 eq T1 mM A3 C2 nilV N0 ZK
theorem oZ (c:Case) (s:Susp) (w:Int) (h1:0≤s.kind∧s.kind≤255) (hG:q8 G) (hN:E6 G) (hS:w7 G) (hR:w9 G) (hC:L9 G) (hK:cv G) (hk:KC c):zP prog G 45 [n3 c,C7 s,yI w] (bv (decide (lH c s=0)&&decide (lG c s=w))):=by
 refine zf func45 ntmps45 ?_
 try simp only[yI]
 have c1:=BT (G:=G) c s h1 hG hN hS hR hC hK hk
 generalize lG c s=A at *
 generalize lH c s=B at *
 simp only[n3,j4,C7,j5,rI,List.map_cons,List.map_nil] at c1 ⊢
 have hs:=trivial
 repeat' first|(with_reducible first|refine zz ?_|refine zr ?_|refine zE [0,1,2,3,4,6,7,8] ?_)|simp -dsimp[hs]|refine zp c1 ?_|with_reducible refine j0 ?_ ?_<;>intro h<;>have h0:=h<;>(try simp only[i7] at h)<;>have h2:=h<;>(try simp at h2)<;>replace hs:=za h0 (za h (za h2 hs))
 all_goals simp
theorem DZ (m:Cs) (c:Case) (lo hi:Int):(pA 9 m c).map (fz 0 (yE 0 m c lo hi))=(j4 c).map .im:=by
 refine GG (s:=9) (m:=m) (c:=c) ?_ ?_ ?_ ?_ ?_ ?_ ?_ ?_
 ·simp[yE,rh]
 ·simp[yE,rh]
 ·simp[yE,rh]
 ·simp[yE,rh]
 ·simp[yE,rh]
 ·simp[yE,rh]
 ·intro k x hx
  have hlt:=e7 hx
  have a1:=Bb hlt
  have a3:=Ba hlt
  simp[yE,rh,a1,a3,jT,hx]
 ·intro k x hx
  have hlt:=e7 hx
  have a1:=Bc hlt
  simp[yE,rh,a1,lM,hx]
theorem BS (c:Case) (n lo hi:Int) (hG:q8 G) (hN:E6 G) (hS:w7 G) (hR:w9 G) (hk:KC c) (objs:List DObj):DCall prog G 41 [n3 c,iv n,D4 lo hi] objs (fun d objs'=>d=.tup [n3 (Gi c n lo hi),iv (pO c n lo hi)]∧objs'=objs):=by
 by_cases h:pO c n lo hi=0
 ·obtain⟨he,k,x,rfl,hx0,hin⟩:=Dq h
  rw[Dp h hx0,h]
  refine DCall.frame ?_ (by simp) (by simp) objs
  refine(BQ (G:=G) c k x lo hi hx0 he hin hG hN hS hR hk).mono ?_
  rintro d o ⟨m,_,rfl,rfl⟩
  have:=DZ m (Du c k x lo hi) lo hi
  simp only[fG,fzVL,this]
  rfl
 ·rw[Gh h]
  exact BR (G:=G) c n lo hi h hG hN hS hR hk objs
theorem xL:jL boltP:=by
 refine⟨?_,?_⟩
 ·exact⟨by decide,by decide⟩
 ·intro x hx
  simp only[boltP,List.mem_cons,List.not_mem_nil,or_false] at hx
  rcases hx with rfl|rfl|rfl|rfl<;>exact⟨by decide,by decide⟩
theorem ua:cj boltC=true:=by decide +kernel
theorem ub:v7 boltP.n=0:=by decide +kernel
theorem xK:nums boltP.n.reg=[1,2,3]:=by decide +kernel
theorem rD:PrintsOk boltP:=by
 refine⟨by decide,by decide,fun i x hx=>?_,fun i x hx=>?_⟩
 ·rw[xK]
  have h:=List.getElem?_eq_some_iff.1 hx
  obtain⟨h1,h2⟩:=h
  have h1':i<2:=h1
  rcases i with _|_|i
  ·cases hx
   refine⟨by unfold Ju;simp,fun k d hd=>?_⟩
   rcases k with _|_|k
   ·cases hd;exact⟨by decide,by simp⟩
   ·cases hd;exact⟨by decide,fun _ e he=>by cases he;decide⟩
   ·exact absurd hd (by simp)
  ·cases hx
   refine⟨?_,fun k d hd=>?_⟩
   ·refine⟨by decide,fun _ y hy=>?_,by decide,by decide,by decide,by decide⟩
    cases hy;decide
   ·rcases k with _|k
    ·cases hd;exact⟨by decide,by simp⟩
    ·exact absurd hd (by simp)
  ·omega
 ·obtain⟨h1,h2⟩:=List.getElem?_eq_some_iff.1 hx
  have h1':i<4:=h1
  rcases i with _|_|_|_|i
  ·cases hx;exact⟨by simp,fun c hc=>by rcases c with _|_|_|_|_|c<;>first|decide +kernel|omega⟩
  ·cases hx;exact⟨fun _ y hy=>by cases hy;decide,fun c hc=>by rcases c with _|_|_|_|_|c<;>first|decide +kernel|omega⟩
  ·cases hx;exact⟨fun _ y hy=>by cases hy;decide,fun c hc=>by rcases c with _|_|_|_|_|c<;>first|decide +kernel|omega⟩
  ·cases hx;exact⟨fun _ y hy=>by cases hy;decide,fun c hc=>by rcases c with _|_|_|_|_|c<;>first|decide +kernel|omega⟩
  ·omega
theorem ij:u3 boltP=0:=by
 unfold u3
 rw[if_neg (by rw[ub];decide),if_pos (dw rD)]
theorem V5:v6 boltC=0:=by
 unfold v6
 rw[if_neg (by rw[show boltC.p=boltP from rfl,ij];decide),if_pos (by decide +kernel)]
theorem bolt_k:um boltC∧KC boltC:=Cp xL ua
theorem rC:bu boltC=(15,17):=by
 unfold bu;rw[if_pos V5];decide +kernel
theorem oh:cN boltC=0:=by
 unfold cN;rw[if_pos V5,rC];decide +kernel
theorem M7:J4 boltC=0:=by
 unfold J4;rw[if_neg (by rw[V5];decide),if_neg (by rw[oh];decide)]
theorem mc (d i w:Int) (hd:xE d 1=true) (h:(boltP.holders.any fun y=>decide (y.id=i))=true∧w∈nums boltP.n.reg):T6 boltP d 1 i w=0:=by
 unfold T6 K3
 rw[if_neg,if_pos h]
 rw[if_neg (by rw[ij];decide),if_pos hd];decide
theorem vi {l r:List Int} (hp:l.Perm r) (hs:r.Pairwise (·≤·)):l4 l=r:=
 List.Perm.eq_of_pairwise (fun a b _ _ h1 h2=>by omega) (pg l) hs (((List.mergeSort_perm l _)).trans hp)
theorem mb:N7 boltC 0=[1,2]:=by
 show O9 boltP 20 2 2=_
 unfold O9
 rw[if_pos (mc 20 2 2 (by decide) (by decide +kernel))]
 unfold aX
 have e:l4 (aj 20 2 2 boltP.prints++[bt 20 2 2 boltP.prints])=[1,2]:=vi (by decide +kernel) (by decide +kernel)
 rw[e];decide +kernel
theorem ma:N7 boltC 1=[1]:=by
 show O9 boltP 20 1 3=_
 unfold O9
 rw[if_pos (mc 20 1 3 (by decide) (by decide +kernel))]
 unfold aX
 have e:l4 (aj 20 1 3 boltP.prints++[bt 20 1 3 boltP.prints])=[1]:=vi (by decide +kernel) (by decide +kernel)
 rw[e];decide +kernel
theorem og:l4 (l5 boltP.n.notes)=[]:=by decide +kernel
theorem Ex:yz boltC []=false:=by decide +kernel
theorem Ez:iW boltC [] 0=[(true,false),(false,true)]:=by
 show (N7 boltC 0).foldl (H0 boltC ⟨2,0,false⟩ ⟨2,20,106,107⟩ (dy boltC [] 2)) []=_
 rw[mb];decide +kernel
theorem Ey:iW boltC [] 1=[(false,false)]:=by
 show (N7 boltC 1).foldl (H0 boltC ⟨3,0,true⟩ ⟨1,20,90,91⟩ (dy boltC [] 3)) []=_
 rw[ma];decide +kernel
def ik:Desk:=⟨boltC,false,[[(true,false),(false,true)],[(false,false)]]⟩
theorem ol:D7 boltC []=ik:=by
 unfold D7 ik
 rw[Ex,show (List.range boltC.pieces.length).map (iW boltC [])=[iW boltC [] 0,iW boltC [] 1] from rfl,Ez,Ey]
theorem aI:n7 boltC=[ik]:=by
 unfold n7
 rw[show boltC.p=boltP from rfl,og,show oB ([]:List Int)=[[]] by decide +kernel]
 simp[ol]
theorem bolt_sus:db boltC 2=[]∧db boltC 1=[⟨2,0⟩,⟨3,0⟩]:=by
 unfold db Ft DF
 rw[if_pos M7,if_pos M7,aI]
 decide +kernel
theorem BH:jm boltC=[⟨2,0⟩,⟨3,0⟩]:=by
 unfold jm xT
 rw[if_pos M7,aI]
 decide +kernel
theorem BF:lP boltC=[⟨2,0⟩]:=by
 unfold lP
 rw[if_pos M7,aI]
 decide +kernel
theorem BG:jh boltC=(1,1):=by
 unfold jh
 rw[if_pos M7,aI]
 decide +kernel
theorem dY (k:Nat) (h:k<2):Z3 boltC k=0∧jS boltC k=N7 boltC k:=by
 have e:Z3 boltC k=0:=by
  unfold Z3
  rw[if_neg (by rw[V5];decide),if_pos ⟨by omega,by show (k:Int)<((2:Nat):Int);omega⟩]
 exact⟨e,by unfold jS;rw[if_pos e];rfl⟩
theorem bolt_clr:mO boltC 1=0∧pD boltC 1=(90,91):=by
 have e0:=(dY 1 (by decide)).1
 have e:lZ boltC 1=(90,91):=by
  show (jS boltC ((1:Nat):Int)).foldl (K2 boltC ⟨3,0,true⟩) (90,91)=_
  rw[(dY 1 (by decide)).2,ma];decide +kernel
 have e1:mO boltC 1=0:=by
  unfold mO
  rw[if_neg (by rw[show (1:Int)=((1:Nat):Int) from rfl,e0];decide),e];decide
 exact⟨e1,by unfold pD;rw[if_pos e1,e]⟩
theorem V4 (s:Susp) (h:nD 2 s=true):lH boltC s=0∧lG boltC s=C3 [ik] s:=by
 have e:lH boltC s=0:=by
  unfold lH
  rw[if_neg (by rw[M7];decide),if_pos (show nD boltC.pieces.length s=true from h)]
 exact⟨e,by unfold lG;rw[if_pos e,aI]⟩
theorem rE (s:Susp) (h:nD 2 s=true):oS boltC [] s=0∧lu boltC [] s=C3 [ik] s:=by
 have e:oS boltC [] s=0:=by
  unfold oS
  rw[if_neg (by rw[M7];decide),if_neg (by rw[show boltC.p=boltP from rfl,og];decide),if_pos (show nD boltC.pieces.length s=true from h)]
 exact⟨e,by unfold lu;rw[if_pos e,ol]⟩
def Fm:Case:={ boltC with pieces:=[⟨2,20,107,107⟩,⟨1,20,90,91⟩] }
theorem bolt_ms:pO boltC 0 107 107=0∧Gi boltC 0 107 107=Fm:=by
 have e0:=(dY 0 (by decide)).1
 have e1:pO boltC 0 107 107=0:=by
  unfold pO
  rw[if_neg (by rw[show (0:Int)=((0:Nat):Int) from rfl,e0];decide)];rfl
 exact⟨e1,by unfold Gi;rw[if_pos e1];rfl⟩
set_option maxRecDepth 10000 in
theorem EE (hG:q8 G) (hN:E6 G) (hS:w7 G) (hU:W5 G) (hR:w9 G) (hC:L9 G) (hK:cv G) (hF:jV G):zP prog G 32 [] (bv true):=by
 refine zf func32 ntmps32 ?_
 try simp only[iv]
 have hk:=bolt_k.2
 have c0:=Hd (G:=G)
 have c1:=BP (G:=G) boltC hG hN hS hR hk
 have c2:=vC (G:=G) boltC hG hN hS hR hk
 have c3:=mg (G:=G) boltC 0 hG hN hS hR hk
 have c4:=jJ (G:=G) boltC hG hN hS hU hR hC hK hk
 have c5:=rG (G:=G) boltC hG hN hS hU hR hC hF hk
 have c6:=ot (G:=G) boltC hG hN hS hU hR hC hF hk
 have c7:=rF (G:=G) boltC hG hN hS hU hR hC hF hk
 have c8:=BU (G:=G) boltC 1 hG hN hS hR hk
 have c9:=BS (G:=G) boltC 0 107 107 hG hN hS hR hk
 have c10:=Hg (G:=G) boltC [] ⟨2,0⟩ (by decide) (by decide) hG hN hS hR hC hK hk
 rw[rC,V5] at c1
 rw[oh,V5] at c2
 rw[show (0:Int)=((0:Nat):Int) from rfl,(dY 0 (by decide)).1,(dY 0 (by decide)).2,mb] at c3
 rw[bolt_sus.1,bolt_sus.2,M7] at c4
 rw[BH,M7] at c5
 rw[BF,M7] at c6
 rw[BG,M7] at c7
 rw[bolt_clr.1,bolt_clr.2] at c8
 rw[bolt_ms.1,bolt_ms.2] at c9
 rw[(rE ⟨2,0⟩ (by decide)).1,(rE ⟨2,0⟩ (by decide)).2,show C3 [ik] ⟨2,0⟩=1 by decide] at c10
 have d1:=oZ (G:=G) boltC ⟨1,0⟩ 0 (by decide) hG hN hS hR hC hK hk
 have d2:=oZ (G:=G) boltC ⟨3,0⟩ 1 (by decide) hG hN hS hR hC hK hk
 have d3:=oZ (G:=G) boltC ⟨2,1⟩ 0 (by decide) hG hN hS hR hC hK hk
 rw[(V4 ⟨1,0⟩ (by decide)).1,(V4 ⟨1,0⟩ (by decide)).2,show C3 [ik] ⟨1,0⟩=0 by decide] at d1
 rw[(V4 ⟨3,0⟩ (by decide)).1,(V4 ⟨3,0⟩ (by decide)).2,show C3 [ik] ⟨3,0⟩=1 by decide] at d2
 rw[(V4 ⟨2,1⟩ (by decide)).1,(V4 ⟨2,1⟩ (by decide)).2,show C3 [ik] ⟨2,1⟩=0 by decide] at d3
 simp only[decide_true,Bool.and_self] at d1 d2 d3
 have s0:=Fs (G:=G)
 have s1:=yM (G:=G) 0
 have s2:=yM (G:=G) 1
 have s3:=Fu (G:=G) 0
 have p1:=fo (G:=G) 15 17
 have p2:=fo (G:=G) 90 91
 have p3:=fo (G:=G) 107 107
 have p4:=fo (G:=G) 1 1
 have q1:=sC (G:=G) [1,2] [1,2] (by simp)
 simp only[decide_true] at q1
 have q2:=nh (G:=G) [⟨2,0⟩,⟨3,0⟩] (by simp)
 have q3:=nh (G:=G) [⟨2,0⟩] (by simp)
 simp only[n3,C7,j5,C1,D4,yI,u9,Ab.encI,rI,List.map_cons,List.map_nil,Int.natCast_zero] at *
 obtain⟨m1,m2,m3,m4,m5,m6,m7,m8,m9,hM⟩:∃ m1 m2 m3 m4 m5 m6 m7 m8 m9,(j4 Fm).map DC.im=[.im m1,.im m2,.im m3,.im m4,.im m5,.im m6,.im m7,.im m8,.im m9,.im (.sl ([⟨2,20,107,107⟩,⟨1,20,90,91⟩].map A7))]:=⟨_,_,_,_,_,_,_,_,_,rfl⟩
 rw[hM] at c9
 obtain⟨X,hX⟩:∃ X,j4 boltC=X:=⟨_,rfl⟩
 have hXf:∃ a b c d e f g h i j,X=[a,b,c,d,e,f,g,h,i,j]:=⟨_,_,_,_,_,_,_,_,_,_,hX.symm⟩
 obtain⟨x1,x2,x3,x4,x5,x6,x7,x8,x9,x10,rfl⟩:=hXf
 rw[hX] at c0 c1 c2 c3 c4 c5 c6 c7 c8 c9 c10 d1 d2 d3
 simp only[A7,rI,List.map_cons,List.map_nil] at *
 repeat' first|(with_reducible first|refine zz ?_|refine zx ?_)|simp -dsimp|refine zp c0 ?_|refine zp c1 ?_|refine zp c2 ?_|refine zp c3 ?_|refine zp c4 ?_|refine zp c5 ?_|refine zp c6 ?_|refine zp c7 ?_|refine zp c8 ?_|refine zp c9 ?_|refine zp c10 ?_|refine zp s1 ?_|refine zp s3 ?_|refine zp p3 ?_|refine zq q1 ?_|refine zq d1 ?_|refine zq d2 ?_|refine zq d3 ?_|refine zq p1 ?_|refine zq p2 ?_|refine zq p3 ?_|refine zq p4 ?_|refine zq s0 ?_|refine zq s2 ?_|refine zq s3 ?_|refine zq c0 ?_|refine QCall.thaw (q2) ?_ ?_ ?_;(focus simp;done);(focus simp;done)|refine QCall.thaw (q3) ?_ ?_ ?_;(focus simp;done);(focus simp;done)|refine zM 12 198 70 [0,1,2,3,4,5,6,7,8,9,10,11,12,13,14,15,16,17,18,19,20,21,22,148] ?_|refine zM 14 198 50 [0,1,2,3,4,5,6,7,8,9,10,11,12,13,14,15,16,17,18,19,20,21,22,148] ?_|with_reducible refine zE [0,1,2,3,4,5,6,7,8,9,10,11,12,13,14,15,16,17,18,19,20,21,22,148] ?_|refine i9 ?_ ?_<;>intro h<;>try simp only[i7] at h
end Go.Proofs
namespace Go.Proofs
open Go Go.Ab
def bN (b:Bool):Nat:=if b=true then 1 else 0
def bT (f:D3):Nat:=bN f.1+bN f.2
theorem om {L:List D3} {f:D3} (h:f∈L):bT (Q6 L)≤bT f:=by
 have h1:=jl L f h
 generalize Q6 L=g at *
 obtain⟨a,b⟩:=f
 obtain⟨x,y⟩:=g
 revert h1
 cases a<;>cases b<;>cases x<;>cases y<;>decide
theorem wy {L:List D3} {f:D3} (h:f∈L):(bT f:Int)≤an L:=by
 unfold an
 obtain⟨a,b⟩:=f
 cases a<;>cases b
 ·have:=dB L
  unfold an at this
  exact this.1
 ·split
  ·decide
  ·rw[if_pos (.inr h)];decide
 ·split
  ·decide
  ·rw[if_pos (.inl h)];decide
 ·rw[if_pos h];decide
theorem Ai {L:List D3} (h:L≠[]):∃ f∈L,(bT f:Int)=an L:=by
 unfold an
 split
 ·exact⟨_,‹_›,rfl⟩
 ·split
  ·rename_i h2
   rcases h2 with h2|h2<;>exact⟨_,h2,rfl⟩
  ·rename_i h1 h2
   obtain⟨⟨a,b⟩,r,rfl⟩:∃ f r,L=f :: r:=by
    cases L with
    | nil=>exact absurd rfl h
    | cons f r=>exact⟨f,r,rfl⟩
   cases a<;>cases b
   ·exact⟨_,List.mem_cons_self,rfl⟩
   ·exact absurd (.inr List.mem_cons_self) h2
   ·exact absurd (.inl List.mem_cons_self) h2
   ·exact absurd List.mem_cons_self h1
def U5 (f:Nat→D3):Nat→Nat
 | 0=>0
 | n+1=>U5 f n+bT (f n)
def N4 (b:Bool) (f:Nat→D3) (n:Nat):List Susp:=fa b (fun i=>(f i).1) (fun i=>(f i).2) n
theorem vc (b:Bool) (f:Nat→D3):∀ n,(X2 b (fun i=>(f i).1) (fun i=>(f i).2) n).length=bN b+U5 f n
 | 0=>by unfold X2 bN;cases b<;>rfl
 | n+1=>by
   rw[ev,List.length_append,vc b f n,List.length_append,gI,gI]
   show _=bN b+(U5 f n+(bN _+bN _))
   unfold bN;omega
theorem bA (b:Bool) (f:Nat→D3) (n:Nat):(N4 b f n).length=bN b+U5 f n:=by
 rw[N4,(I3 _ _ _ _).length_eq,vc]
theorem fN {f g:Nat→D3}:∀ {n},(∀ i,i<n→bT (f i)≤bT (g i))→U5 f n≤U5 g n
 | 0,_=>Nat.le_refl _
 | n+1,h=>Nat.add_le_add (fN fun i hi=>h i (Nat.lt_succ_of_lt hi)) (h n (Nat.lt_succ_self n))
theorem ri {f g:Nat→D3}:∀ {n},(∀ i,i<n→bT (f i)≤bT (g i))→U5 f n=U5 g n→∀ i,i<n→bT (f i)=bT (g i)
 | n+1,h,he,i,hi=>by
   have h1:=fN (n:=n) fun i hi=>h i (Nat.lt_succ_of_lt hi)
   have h2:=h n (Nat.lt_succ_self n)
   simp only[U5] at he
   rcases Nat.lt_succ_iff_lt_or_eq.1 hi with h3|rfl
   ·exact ri (fun i hi=>h i (Nat.lt_succ_of_lt hi)) (by omega) i h3
   ·omega
def sd (d:Desk) (f:Nat→D3):Prop:=∀ i,i<d.faults.length→f i∈d.faults.getD i []
theorem qa {F:List (List D3)} {f:Nat→D3} (h:∀ i,i<F.length→f i∈F.getD i []):∀ k,k≤F.length→(U5 f k:Int)≤be F k
 | 0,_=>by simp[U5,be]
 | k+1,hk=>by
   have h1:=qa h k (by omega)
   have h2:=wy (h k (by omega))
   rw[eg (by omega)]
   have h3:F.getD k []=F[k]:=by simp[List.getD,List.getElem?_eq_getElem (show k<F.length by omega)]
   rw[h3] at h2
   simp only[U5]
   omega
theorem yW {d:Desk} {f:Nat→D3} (h:sd d f):((N4 d.notes f d.faults.length).length:Int)≤X1 d:=by
 rw[bA]
 have h1:=qa h d.faults.length (Nat.le_refl _)
 unfold be at h1
 rw[List.take_length] at h1
 unfold X1
 have h2:((bN d.notes:Nat):Int)=if d.notes=true then 1 else 0:=by unfold bN;split<;>rfl
 omega
theorem uP {F:List (List D3)} (hne:∀ x∈F,x≠[]):∀ k,k≤F.length→∃ f:Nat→D3,(∀ i,i<k→f i∈F.getD i [])∧(U5 f k:Int)=be F k
 | 0,_=>⟨fun _=>(false,false),by simp,by simp[U5,be]⟩
 | k+1,hk=>by
   obtain⟨f,h1,h2⟩:=uP hne k (by omega)
   have h3:F.getD k []=F[k]:=by simp[List.getD,List.getElem?_eq_getElem (show k<F.length by omega)]
   obtain⟨g,hg,hc⟩:=Ai (hne F[k] (List.getElem_mem _))
   refine⟨fun i=>if i=k then g else f i,fun i hi=>?_,?_⟩
   ·by_cases e:i=k
    ·subst e;simp only[if_true];rw[h3];exact hg
    ·simpa[e] using h1 i (by omega)
   ·rw[eg (by omega)]
    have h4:∀ m,m≤k→U5 (fun i=>if i=k then g else f i) m=U5 f m:=by
     intro m
     induction m with
     | zero=>intro _;rfl
     | succ m ih=>intro hm;simp only[U5];rw[ih (by omega),if_neg (by omega)]
    simp only[U5]
    rw[h4 k (Nat.le_refl _)]
    simp only[if_true]
    omega
theorem Ah {d:Desk} (hne:∀ x∈d.faults,x≠[]):∃ f,sd d f∧((N4 d.notes f d.faults.length).length:Int)=X1 d:=by
 obtain⟨f,h1,h2⟩:=uP hne d.faults.length (Nat.le_refl _)
 refine⟨f,h1,?_⟩
 rw[bA]
 unfold be at h2
 rw[List.take_length] at h2
 unfold X1
 have h2:((bN d.notes:Nat):Int)=if d.notes=true then 1 else 0:=by unfold bN;split<;>rfl
 omega
def jI (d:Desk) (i:Nat):D3:=Q6 (d.faults.getD i [])
theorem X7 (d:Desk):K4 d=N4 d.notes (jI d) d.faults.length:=rfl
theorem AT {d:Desk} {i:Nat} (h:i<d.faults.length):d.faults.getD i []∈d.faults:=by
 have:d.faults.getD i []=d.faults[i]:=by simp[List.getD,List.getElem?_eq_getElem h]
 rw[this];exact List.getElem_mem _
theorem bV {d:Desk} (hne:∀ x∈d.faults,x≠[]):sd d (jI d):=fun i hi=>oo (hne _ (AT hi))
theorem xj {d:Desk} {f:Nat→D3} (h:sd d f):(K4 d).length≤(N4 d.notes f d.faults.length).length:=by
 rw[X7,bA,bA]
 have:=fN (f:=jI d) (g:=f) (n:=d.faults.length) fun i hi=>om (h i hi)
 omega
theorem selS_mem {b:Bool} {f:Nat→D3} {n:Nat} {s:Susp}:s∈N4 b f n↔(b=true∧s=⟨1,0⟩)∨(∃ i,i<n∧(f i).1=true∧s=fw i)∨(∃ i,i<n∧(f i).2=true∧s=gJ i):=listS_mem
theorem ai (b:Bool) (f:Nat→D3) (n:Nat):(N4 b f n).Pairwise G7:=S7 _ _ _ _
theorem uT {d:Desk} {f:Nat→D3} (h:sd d f) {s:Susp} (hs:s∈P4 d.faults.length):iS d s (decide (s∈N4 d.notes f d.faults.length))=true:=by
 unfold iS
 rcases listS_mem.1 hs with⟨_,rfl⟩|⟨i,hi,_,rfl⟩|⟨i,hi,_,rfl⟩
 ·rw[if_pos rfl]
  have:((⟨1,0⟩:Susp)∈N4 d.notes f d.faults.length)↔d.notes=true:=by
   rw[selS_mem]
   constructor
   ·rintro (⟨h,_⟩|⟨i,_,_,h⟩|⟨i,_,_,h⟩)
    ·exact h
    ·cases h
    ·cases h
   ·exact fun h=>.inl ⟨h,rfl⟩
  cases hd:d.notes
  ·rw[hd] at this;simp[this]
  ·rw[hd] at this;simp[this]
 ·rw[if_neg (by simp[fw]),if_pos (show (fw i).kind=2 from rfl),show (fw i).index.toNat=i from rfl]
  have:(fw i∈N4 d.notes f d.faults.length)↔(f i).1=true:=by
   rw[selS_mem]
   constructor
   ·rintro (⟨_,h⟩|⟨j,_,h1,h⟩|⟨j,_,_,h⟩)
    ·cases h
    ·have:i=j:=by simp only[fw,Susp.mk.injEq,true_and] at h;omega
     subst this;exact h1
    ·cases h
   ·exact fun h=>.inr (.inl ⟨i,hi,h,rfl⟩)
  rw[List.any_eq_true]
  refine⟨f i,h i hi,?_⟩
  cases hd:(f i).1<;>simp[this,hd]
 ·rw[if_neg (by simp[gJ]),if_neg (by simp[gJ]),show (gJ i).index.toNat=i from rfl]
  have:(gJ i∈N4 d.notes f d.faults.length)↔(f i).2=true:=by
   rw[selS_mem]
   constructor
   ·rintro (⟨_,h⟩|⟨j,_,h1,h⟩|⟨j,_,h1,h⟩)
    ·cases h
    ·cases h
    ·have:i=j:=by simp only[gJ,Susp.mk.injEq,true_and] at h;omega
     subst this;exact h1
   ·exact fun h=>.inr (.inr ⟨i,hi,h,rfl⟩)
  rw[List.any_eq_true]
  refine⟨f i,h i hi,?_⟩
  cases hd:(f i).2<;>simp[this,hd]
theorem bB {b:Bool} {f:Nat→D3} {n:Nat} {s:Susp} (h:s∈N4 b f n):s∈P4 n:=by
 rcases selS_mem.1 h with⟨_,rfl⟩|⟨i,hi,_,rfl⟩|⟨i,hi,_,rfl⟩
 ·exact listS_mem.2 (.inl ⟨rfl,rfl⟩)
 ·exact listS_mem.2 (.inr (.inl ⟨i,hi,rfl,rfl⟩))
 ·exact listS_mem.2 (.inr (.inr ⟨i,hi,rfl,rfl⟩))
theorem Ax {D:List Desk} {s:Susp} (h:C3 D s=0):∀ d∈D,iS d s true=false:=by
 intro d hd
 unfold C3 at h
 split at h
 ·rename_i h1
  rw[List.any_eq_false] at h1
  simpa using h1 d hd
 ·split at h<;>exact absurd h (by decide)
theorem wJ {D:List Desk} {s:Susp} (h:C3 D s=2):∀ d∈D,iS d s false=false:=by
 intro d hd
 unfold C3 at h
 split at h
 ·exact absurd h (by decide)
 ·split at h
  ·rename_i h1
   rw[List.any_eq_false] at h1
   simpa using h1 d hd
  ·exact absurd h (by decide)
theorem wK {D:List Desk} {s:Susp} {d:Desk} (hd:d∈D) (h:iS d s true=true):C3 D s≠0:=fun e=>by
 have:=Ax e d hd
 rw[h] at this;exact absurd this (by decide)
theorem jw (D:List Desk) (s:Susp):C3 D s=0∨C3 D s=1∨C3 D s=2:=by
 unfold C3;split<;>(try split)<;>simp
theorem kX {D:List Desk} {d:Desk} (hd:d∈D) {f:Nat→D3} (h:sd d f) {s:Susp} (hs:s∈P4 d.faults.length) (hk:C3 D s=2):s∈N4 d.notes f d.faults.length:=by
 have h1:=uT h hs
 have h2:=wJ hk d hd
 by_cases hin:s∈N4 d.notes f d.faults.length
 ·exact hin
 ·rw[decide_eq_false hin] at h1
  rw[h1] at h2;exact absurd h2 (by decide)
theorem nc {D:List Desk} {d:Desk} (hd:d∈D) {f:Nat→D3} (h:sd d f) {s:Susp} (hs:s∈N4 d.notes f d.faults.length):C3 D s≠0:=by
 have h1:=uT h (bB hs)
 rw[decide_eq_true hs] at h1
 exact wK hd h1
theorem nk (a b:Susp):I8 a b=-(I8 b a):=by
 unfold I8 U7 U7 U7
 repeat' split
 all_goals omega
theorem Df {a b c:Susp} (h1:I8 a b≤0) (h2:I8 b c≤0):I8 a c≤0∧(I8 a c=0→I8 a b=0∧I8 b c=0):=by
 unfold I8 U7 U7 U7 at *
 repeat' split at h1
 all_goals repeat' split at h2
 all_goals repeat' split
 all_goals omega
theorem lX:∀ a b:List Susp,G5 a b=-(G5 b a)
 | [],[]=>rfl
 | [],_ :: _=>rfl
 | _ :: _,[]=>rfl
 | a :: x,b :: y=>by
   have h1:=nk a b
   simp only[G5]
   by_cases h:I8 a b=0
   ·have h':I8 b a=0:=by omega
    rw[if_neg (by simp[h]),if_neg (by simp[h'])]
    exact lX x y
   ·have h':¬ I8 b a=0:=by omega
    rw[if_pos h,if_pos h']
    exact h1
theorem rl:∀ {a b c:List Susp},G5 a b≤0→G5 b c≤0→G5 a c≤0
 | [],_,[],_,_=>by simp[G5]
 | [],_,_ :: _,_,_=>by simp[G5]
 | _ :: _,[],_,h,_=>by simp[G5] at h
 | _ :: _,_ :: _,[],_,h=>by simp[G5] at h
 | a :: x,b :: y,d :: z,h1,h2=>by
   simp only[G5] at h1 h2 ⊢
   have hp:=@Df a b d
   by_cases e1:I8 a b=0
   ·rw[if_neg (by simp[e1])] at h1
    by_cases e2:I8 b d=0
    ·rw[if_neg (by simp[e2])] at h2
     obtain⟨p1,p2⟩:=hp (by omega) (by omega)
     have e3:I8 a d=0:=by rw[ordU_zero] at *;rw[e1,e2]
     rw[if_neg (by simp[e3])]
     exact rl h1 h2
    ·rw[if_pos e2] at h2
     obtain⟨p1,p2⟩:=hp (by omega) h2
     have:I8 a d≠0:=fun e=>e2 (p2 e).2
     rw[if_pos this];exact p1
   ·rw[if_pos e1] at h1
    have h2':I8 b d≤0:=by
     by_cases e2:I8 b d=0
     ·omega
     ·rwa [if_pos e2] at h2
    obtain⟨p1,p2⟩:=hp h1 h2'
    have:I8 a d≠0:=fun e=>e1 (p2 e).1
    rw[if_pos this];exact p1
theorem nV (a b:List Susp):bn a b=-(bn b a):=by
 have:=lX a b
 unfold bn U7 U7 U7
 repeat' split
 all_goals omega
theorem Y0 {a b:List Susp}:bn a b≤0↔a.length<b.length∨(a.length=b.length∧G5 a b≤0):=by
 unfold bn U7 U7 U7
 repeat' split
 all_goals omega
theorem pC {a b c:List Susp} (h1:bn a b≤0) (h2:bn b c≤0):bn a c≤0:=by
 rw[Y0] at *
 rcases h1 with h1|⟨h1,g1⟩<;>rcases h2 with h2|⟨h2,g2⟩
 ·exact .inl (by omega)
 ·exact .inl (by omega)
 ·exact .inl (by omega)
 ·exact .inr ⟨by omega,rl g1 g2⟩
theorem ji (a:List Susp):bn a a≤0:=by have:=nV a a;omega
theorem qy:∀ (r:List (List Susp)) (x:List Susp),(r.foldl P0 x=x∨r.foldl P0 x∈r)∧bn (r.foldl P0 x) x≤0∧∀ y∈r,bn (r.foldl P0 x) y≤0
 | [],x=>⟨.inl rfl,ji x,by simp⟩
 | z :: r,x=>by
   rw[List.foldl_cons]
   obtain⟨h1,h2,h3⟩:=qy r (P0 x z)
   have ha:=nV z x
   have hs:(P0 x z=x∨P0 x z=z)∧bn (P0 x z) x≤0∧bn (P0 x z) z≤0:=by
    unfold P0
    split
    ·exact⟨.inr rfl,by omega,ji z⟩
    ·exact⟨.inl rfl,ji x,by omega⟩
   refine⟨?_,pC h2 hs.2.1,fun y hy=>?_⟩
   ·rcases h1 with h1|h1
    ·rcases hs.1 with e|e
     ·exact .inl (h1.trans e)
     ·exact .inr (by rw[h1,e];exact List.mem_cons_self)
    ·exact .inr (List.mem_cons_of_mem _ h1)
   ·rcases List.mem_cons.1 hy with rfl|hy
    ·exact pC h2 hs.2.2
    ·exact h3 y hy
theorem iQ {L:List (List Susp)} (h:L≠[]):jQ L∈L∧∀ y∈L,bn (jQ L) y≤0:=by
 cases L with
 | nil=>exact absurd rfl h
 | cons x r =>
   obtain⟨h1,h2,h3⟩:=qy r x
   refine⟨?_,fun y hy=>?_⟩
   ·rcases h1 with h1|h1
    ·show r.foldl P0 x∈_
     rw[h1];exact List.mem_cons_self
    ·exact List.mem_cons_of_mem _ h1
   ·rcases List.mem_cons.1 hy with rfl|hy
    ·exact h2
    ·exact h3 y hy
theorem np:∀ (r:List Int) (x:Int),(r.foldl min x=x∨r.foldl min x∈r)∧r.foldl min x≤x∧∀ y∈r,r.foldl min x≤y
 | [],x=>by simp
 | z :: r,x=>by
   rw[List.foldl_cons]
   obtain⟨h1,h2,h3⟩:=np r (min x z)
   refine⟨?_,by omega,fun y hy=>?_⟩
   ·rcases h1 with h1|h1
    ·rw[h1]
     rcases Int.le_total x z with e|e
     ·exact .inl (Int.min_eq_left e)
     ·exact .inr (by rw[Int.min_eq_right e];exact List.mem_cons_self)
    ·exact .inr (List.mem_cons_of_mem _ h1)
   ·rcases List.mem_cons.1 hy with rfl|hy
    ·omega
    ·exact h3 y hy
theorem nv:∀ (r:List Int) (x:Int),(r.foldl max x=x∨r.foldl max x∈r)∧x≤r.foldl max x∧∀ y∈r,y≤r.foldl max x
 | [],x=>by simp
 | z :: r,x=>by
   rw[List.foldl_cons]
   obtain⟨h1,h2,h3⟩:=nv r (max x z)
   refine⟨?_,by omega,fun y hy=>?_⟩
   ·rcases h1 with h1|h1
    ·rw[h1]
     rcases Int.le_total x z with e|e
     ·exact .inr (by rw[Int.max_eq_right e];exact List.mem_cons_self)
     ·exact .inl (Int.max_eq_left e)
    ·exact .inr (List.mem_cons_of_mem _ h1)
   ·rcases List.mem_cons.1 hy with rfl|hy
    ·omega
    ·exact h3 y hy
theorem wB {L:List Int} (h:L≠[]):oQ L∈L∧∀ y∈L,oQ L≤y:=by
 cases L with
 | nil=>exact absurd rfl h
 | cons x r =>
   obtain⟨h1,h2,h3⟩:=np r x
   refine⟨?_,fun y hy=>?_⟩
   ·rcases h1 with h1|h1
    ·show r.foldl min x∈_
     rw[h1];exact List.mem_cons_self
    ·exact List.mem_cons_of_mem _ h1
   ·rcases List.mem_cons.1 hy with rfl|hy
    ·exact h2
    ·exact h3 y hy
theorem nw {L:List Int} (h:L≠[]):oT L∈L∧∀ y∈L,y≤oT L:=by
 cases L with
 | nil=>exact absurd rfl h
 | cons x r =>
   obtain⟨h1,h2,h3⟩:=nv r x
   refine⟨?_,fun y hy=>?_⟩
   ·rcases h1 with h1|h1
    ·show r.foldl max x∈_
     rw[h1];exact List.mem_cons_self
    ·exact List.mem_cons_of_mem _ h1
   ·rcases List.mem_cons.1 hy with rfl|hy
    ·exact h2
    ·exact h3 y hy
theorem nA:∀ {A B:List Susp},A.Pairwise G7→B.Pairwise G7→A.length=B.length→(∀ x∈B,x∉A→∃ y∈A,y∉B∧G7 y x)→G5 A B≤0
 | [],[],_,_,_,_=>by simp[G5]
 | [],_ :: _,_,_,h,_=>by simp at h
 | _ :: _,[],_,_,h,_=>by simp at h
 | a :: A,b :: B,hA,hB,hl,h=>by
   rw[List.pairwise_cons] at hA hB
   simp only[G5]
   by_cases e:I8 a b=0
   ·rw[if_neg (by simp[e])]
    rw[ordU_zero] at e
    subst e
    refine nA hA.2 hB.2 (by simpa using hl) fun x hx hn=>?_
    have hax:=hB.1 x hx
    have hne:x≠a:=fun e=>by subst e;unfold G7 at hax;omega
    obtain⟨y,h1,h2,h3⟩:=h x (List.mem_cons_of_mem _ hx) (by simp[hne,hn])
    rcases List.mem_cons.1 h1 with rfl|h1
    ·simp at h2
    ·exact⟨y,h1,fun h=>h2 (List.mem_cons_of_mem _ h),h3⟩
   ·rw[if_pos e]
    apply Int.not_lt.1
    intro hgt
    have hba:G7 b a:=(W1 b a).1 (by have:=nk a b;omega)
    have hbn:b∉a :: A:=by
     intro hm
     rcases List.mem_cons.1 hm with rfl|hm
     ·unfold G7 at hba;omega
     ·have:=hA.1 b hm;unfold G7 at *;omega
    obtain⟨y,h1,_,h3⟩:=h b List.mem_cons_self hbn
    rcases List.mem_cons.1 h1 with rfl|h1
    ·unfold G7 at *;omega
    ·have:=hA.1 y h1;unfold G7 at *;omega
theorem me {L:List D3} {f:D3} (h:f∈L) (hc:bT f=bT (Q6 L)):f=Q6 L∨(f=(false,true)∧Q6 L=(true,false)):=by
 have h1:=jl L f h
 generalize Q6 L=g at *
 obtain⟨a,b⟩:=f
 obtain⟨x,y⟩:=g
 revert h1 hc
 cases a<;>cases b<;>cases x<;>cases y<;>decide
theorem xk {d:Desk} {f:Nat→D3} (h:sd d f):bn (K4 d) (N4 d.notes f d.faults.length)≤0:=by
 have hl:=xj h
 rw[Y0]
 rcases Nat.lt_or_eq_of_le hl with hl|hl
 ·exact .inl hl
 ·refine .inr ⟨hl,?_⟩
  rw[X7] at hl ⊢
  have hl2:=hl
  rw[bA,bA] at hl2
  have hc:=ri (f:=jI d) (g:=f) (n:=d.faults.length) (fun i hi=>om (h i hi)) (by omega)
  refine nA (ai _ _ _) (ai _ _ _) hl fun x hx hn=>?_
  rcases selS_mem.1 hx with⟨hd,rfl⟩|⟨i,hi,hf,rfl⟩|⟨i,hi,hf,rfl⟩
  ·exact absurd (selS_mem.2 (.inl ⟨hd,rfl⟩)) hn
  ·rcases me (h i hi) (hc i hi).symm with e|⟨e,_⟩
   ·exact absurd (selS_mem.2 (.inr (.inl ⟨i,hi,by rw[show jI d i=f i from e.symm];exact hf,rfl⟩))) hn
   ·rw[e] at hf;exact absurd hf (by decide)
  ·rcases me (h i hi) (hc i hi).symm with e|⟨e,e2⟩
   ·exact absurd (selS_mem.2 (.inr (.inr ⟨i,hi,by rw[show jI d i=f i from e.symm];exact hf,rfl⟩))) hn
   ·refine⟨fw i,selS_mem.2 (.inr (.inl ⟨i,hi,by rw[show jI d i=(true,false) from e2],rfl⟩)),fun hm=>?_,.inl (by simp[fw,gJ])⟩
    rcases selS_mem.1 hm with⟨_,h⟩|⟨j,_,h1,h⟩|⟨j,_,_,h⟩
    ·cases h
    ·have:i=j:=by simp only[fw,Susp.mk.injEq,true_and] at h;omega
     subst this;rw[e] at h1;exact absurd h1 (by decide)
    ·cases h
theorem kW:∀ {A B:List Susp},A.Pairwise G7→B.Pairwise G7→(∀ x,x∈A↔x∈B)→A=B
 | [],[],_,_,_=>rfl
 | [],b :: B,_,_,h=>absurd ((h b).2 List.mem_cons_self) (by simp)
 | a :: A,[],_,_,h=>absurd ((h a).1 List.mem_cons_self) (by simp)
 | a :: A,b :: B,hA,hB,h=>by
   rw[List.pairwise_cons] at hA hB
   have e:a=b:=by
    rcases List.mem_cons.1 ((h a).1 List.mem_cons_self) with e|h1
    ·exact e
    ·rcases List.mem_cons.1 ((h b).2 List.mem_cons_self) with e|h2
     ·exact e.symm
     ·have h3:=hB.1 a h1
      have h4:=hA.1 b h2
      unfold G7 at h3 h4;omega
   subst e
   rw[kW hA.2 hB.2 fun x=>?_]
   have hx:=h x
   simp only[List.mem_cons] at hx
   constructor
   ·intro h1
    rcases hx.1 (.inr h1) with rfl|h2
    ·have:=hA.1 _ h1;unfold G7 at this;omega
    ·exact h2
   ·intro h1
    rcases hx.2 (.inr h1) with rfl|h2
    ·have:=hB.1 _ h1;unfold G7 at this;omega
    ·exact h2
structure DkG (n:Nat) (D:List Desk):Prop where
 ne:D≠[]
 len:∀ d∈D,d.faults.length=n
 f:∀ d∈D,∀ x∈d.faults,x≠[]
 cause:∀ d∈D,∀ g,sd d g→N4 d.notes g n≠[]
def cV (n:Nat) (D:List Desk) (k:Int):List Susp:=(P4 n).filter fun s=>decide (C3 D s=k)
def eS (n:Nat) (D:List Desk):List Susp:=(P4 n).filter fun s=>D.any fun d=>N3 d s
def jW (D:List Desk):List Susp:=jQ (D.map K4)
def Cv (D:List Desk):Int:=oQ (D.map fun d=>((K4 d).length:Int))
def Ff (D:List Desk):Int:=oT (D.map X1)
theorem eL (n:Nat):(P4 n).Pairwise G7:=S7 _ _ _ _
theorem fR {L:List Susp} (h:L.Pairwise G7):L.Nodup:=h.imp fun {a b} h e=>by subst e;unfold G7 at h;omega
variable {n:Nat} {D:List Desk}
theorem dL (h:DkG n D):∃ d∈D,jW D=K4 d:=by
 have h1:=(iQ (L:=D.map K4) (by simpa using h.ne)).1
 obtain⟨d,hd,e⟩:=List.mem_map.1 h1
 exact⟨d,hd,e.symm⟩
theorem Bi (h:DkG n D) {d:Desk} (hd:d∈D) {g:Nat→D3} (hg:sd d g):bn (jW D) (N4 d.notes g n)≤0:=by
 have h1:=(iQ (L:=D.map K4) (by simpa using h.ne)).2 _ (List.mem_map_of_mem hd)
 have h2:=xk hg
 rw[h.len d hd] at h2
 exact pC h1 h2
theorem gP (h:DkG n D):((jW D).length:Int)=Cv D:=by
 obtain⟨h1,h2⟩:=wB (L:=D.map fun d=>((K4 d).length:Int)) (by simpa using h.ne)
 obtain⟨d,hd,e⟩:=dL h
 have h3:=h2 _ (List.mem_map_of_mem hd)
 obtain⟨d',hd',e'⟩:=List.mem_map.1 h1
 have h4:=(iQ (L:=D.map K4) (by simpa using h.ne)).2 _ (List.mem_map_of_mem hd')
 rw[Y0] at h4
 unfold Cv
 rw[← e'] at h3 ⊢
 have e2:jW D=jQ (D.map K4):=rfl
 rw[← e2] at h4
 rw[e] at h4 ⊢
 omega
theorem yX (h:DkG n D) {d:Desk} (hd:d∈D) {g:Nat→D3} (hg:sd d g):Cv D≤(N4 d.notes g n).length∧((N4 d.notes g n).length:Int)≤Ff D:=by
 have h1:=gP h
 have h2:=Bi h hd hg
 rw[Y0] at h2
 have h3:=yW hg
 rw[h.len d hd] at h3
 have h4:=(nw (L:=D.map X1) (by simpa using h.ne)).2 _ (List.mem_map_of_mem hd)
 unfold Ff
 omega
theorem vf (h:DkG n D):1≤Cv D:=by
 obtain⟨d,hd,e⟩:=dL h
 have h1:=gP h
 have h2:=h.cause d hd (jI d) (bV (h.f d hd))
 have h3:=List.length_pos_iff.2 h2
 rw[e,X7,h.len d hd] at h1
 omega
theorem Gq (h:DkG n D):Cv D≤Ff D:=by
 obtain⟨d,hd,_⟩:=dL h
 have:=yX h hd (bV (h.f d hd))
 omega
theorem AP (h:DkG n D):∃ d∈D,∃ g,sd d g∧((N4 d.notes g n).length:Int)=Ff D:=by
 obtain⟨d,hd,e⟩:=List.mem_map.1 (nw (L:=D.map X1) (by simpa using h.ne)).1
 obtain⟨g,h1,h2⟩:=Ah (h.f d hd)
 rw[h.len d hd] at h2
 exact⟨d,hd,g,h1,by unfold Ff;rw[← e,h2]⟩
theorem DU (h:DkG n D):Ff D≤1+2*n:=by
 obtain⟨d,hd,g,_,h2⟩:=AP h
 have h3:=ao d.notes (fun i=>(g i).1) (fun i=>(g i).2) n
 have h4:=(I3 d.notes (fun i=>(g i).1) (fun i=>(g i).2) n).length_eq
 have h5:(N4 d.notes g n).length=(fa d.notes (fun i=>(g i).1) (fun i=>(g i).2) n).length:=rfl
 omega
theorem EX (s:Susp) (i:Nat):(U1 s i).1=true↔s=fw i:=by
 obtain⟨a,b⟩:=s
 unfold U1 fw
 simp only[Susp.mk.injEq]
 split
 ·rename_i h;simpa using h
 ·rename_i h;split<;>simp_all
theorem EW (s:Susp) (i:Nat):(U1 s i).2=true↔s=gJ i:=by
 obtain⟨a,b⟩:=s
 unfold U1 gJ
 simp only[Susp.mk.injEq]
 split
 ·rename_i h;simp;omega
 ·rename_i h;split<;>simp_all
theorem ki {d:Desk} (hl:d.faults.length=n) {s:Susp} (hs:s∈P4 n) (ha:N3 d s=true):sd d (U1 s)∧N4 d.notes (U1 s) n=[s]:=by
 unfold N3 at ha
 simp only[Bool.and_eq_true,List.all_eq_true,List.mem_range,decide_eq_true_eq,beq_iff_eq] at ha
 obtain⟨h1,h2⟩:=ha
 refine⟨fun i hi=>h1 i hi,kW (ai _ _ _) (List.pairwise_singleton _ _) fun x=>?_⟩
 rw[selS_mem,List.mem_singleton,h2]
 have hw1:=EX s
 have hw2:=EW s
 constructor
 ·rintro (⟨h,rfl⟩|⟨i,_,h,rfl⟩|⟨i,_,h,rfl⟩)
  ·rw[decide_eq_true_eq] at h
   rcases listS_mem.1 hs with⟨_,rfl⟩|⟨i,_,_,rfl⟩|⟨i,_,_,rfl⟩
   ·rfl
   ·exact absurd h (by simp[fw])
   ·exact absurd h (by simp[gJ])
  ·exact((hw1 i).1 h).symm
  ·exact((hw2 i).1 h).symm
 ·rintro rfl
  rcases listS_mem.1 hs with⟨_,rfl⟩|⟨i,hi,_,rfl⟩|⟨i,hi,_,rfl⟩
  ·exact .inl ⟨rfl,rfl⟩
  ·exact .inr (.inl ⟨i,hi,(hw1 i).2 rfl,rfl⟩)
  ·exact .inr (.inr ⟨i,hi,(hw2 i).2 rfl,rfl⟩)
theorem CO {d:Desk} (hl:d.faults.length=n) {g:Nat→D3} (hg:sd d g) {s:Susp} (h:N4 d.notes g n=[s]):N3 d s=true:=by
 have hm:∀ x,x∈N4 d.notes g n↔x=s:=fun x=>by rw[h,List.mem_singleton]
 have hs:s∈P4 n:=bB ((hm s).2 rfl)
 unfold N3
 simp only[Bool.and_eq_true,List.all_eq_true,List.mem_range,decide_eq_true_eq,beq_iff_eq]
 have h1:∀ i,i<n→((g i).1=true↔s=fw i):=fun i hi=>by
  constructor
  ·exact fun e=>((hm _).1 (selS_mem.2 (.inr (.inl ⟨i,hi,e,rfl⟩)))).symm
  ·rintro rfl
   rcases selS_mem.1 ((hm _).2 rfl) with⟨_,h⟩|⟨j,_,h1,h⟩|⟨j,_,_,h⟩
   ·cases h
   ·have:i=j:=by simp only[fw,Susp.mk.injEq,true_and] at h;omega
    subst this;exact h1
   ·cases h
 have h2:∀ i,i<n→((g i).2=true↔s=gJ i):=fun i hi=>by
  constructor
  ·exact fun e=>((hm _).1 (selS_mem.2 (.inr (.inr ⟨i,hi,e,rfl⟩)))).symm
  ·rintro rfl
   rcases selS_mem.1 ((hm _).2 rfl) with⟨_,h⟩|⟨j,_,_,h⟩|⟨j,_,h1,h⟩
   ·cases h
   ·cases h
   ·have:i=j:=by simp only[gJ,Susp.mk.injEq,true_and] at h;omega
    subst this;exact h1
 refine⟨fun i hi=>?_,?_⟩
 ·rw[hl] at hi
  have e:U1 s i=g i:=by
   have a1:=(EX s i).trans (h1 i hi).symm
   have a2:=(EW s i).trans (h2 i hi).symm
   exact Prod.ext (Bool.eq_iff_iff.2 a1) (Bool.eq_iff_iff.2 a2)
  rw[e];exact hg i (by omega)
 ·rcases listS_mem.1 hs with⟨_,rfl⟩|⟨i,hi,_,rfl⟩|⟨i,hi,_,rfl⟩
  ·rcases selS_mem.1 ((hm _).2 rfl) with⟨h,_⟩|⟨i,_,_,h⟩|⟨i,_,_,h⟩
   ·simpa using h
   ·cases h
   ·cases h
  ·have:¬ d.notes=true:=fun hd=>by
    have:=(hm ⟨1,0⟩).1 (selS_mem.2 (.inl ⟨hd,rfl⟩))
    cases this
   simpa[fw] using this
  ·have:¬ d.notes=true:=fun hd=>by
    have:=(hm ⟨1,0⟩).1 (selS_mem.2 (.inl ⟨hd,rfl⟩))
    cases this
   simpa[gJ] using this
theorem alo_mem {s:Susp}:s∈eS n D↔s∈P4 n∧∃ d∈D,N3 d s=true:=by
 unfold eS
 rw[List.mem_filter,List.any_eq_true]
theorem sus_mem {s:Susp} {k:Int}:s∈cV n D k↔s∈P4 n∧C3 D s=k:=by
 unfold cV
 rw[List.mem_filter,decide_eq_true_eq]
theorem uj (h:DkG n D) {d:Desk} (hd:d∈D) {g:Nat→D3} (hg:sd d g) {s:Susp} (e:N4 d.notes g n=[s]):s∈eS n D:=
 alo_mem.2 ⟨bB (b:=d.notes) (f:=g) (by rw[e];simp),d,hd,CO (h.len d hd) hg e⟩
theorem vp (h:DkG n D) (h1:Cv D=1):∃ s,jW D=[s]∧s∈eS n D:=by
 obtain⟨d,hd,e⟩:=dL h
 have h2:=gP h
 have h3:(jW D).length=1:=by omega
 obtain⟨s,hs⟩:=List.length_eq_one_iff.1 h3
 refine⟨s,hs,uj h hd (bV (h.f d hd)) ?_⟩
 rw[← hs,e,X7,h.len d hd]
theorem vF (h:DkG n D) {s:Susp} (hs:s∈eS n D):Cv D=1:=by
 obtain⟨hs,d,hd,ha⟩:=alo_mem.1 hs
 obtain⟨h1,h2⟩:=ki (h.len d hd) hs ha
 have h3:=(yX h hd h1).1
 rw[h2] at h3
 have:=vf h
 simp at h3
 omega
theorem xS (h:DkG n D):(eS n D≠[]↔Cv D=1)∧∀ (s:Susp) (r:List Susp),eS n D=s :: r→∃ r',jW D=s :: r':=by
 refine⟨⟨fun hn=>?_,fun h1 e=>?_⟩,fun s r e=>?_⟩
 ·obtain⟨s,hs⟩:=List.exists_mem_of_ne_nil _ hn
  exact vF h hs
 ·obtain⟨s,_,hs⟩:=vp h h1
  rw[e] at hs;simp at hs
 ·have hs:s∈eS n D:=by rw[e];exact List.mem_cons_self
  obtain⟨t,h2,ht⟩:=vp h (vF h hs)
  obtain⟨hs',d,hd,ha⟩:=alo_mem.1 hs
  obtain⟨g1,g2⟩:=ki (h.len d hd) hs' ha
  have h3:=Bi h hd g1
  rw[h2,g2,Y0] at h3
  have h4:G5 [t] [s]≤0:=by
   rcases h3 with h3|⟨_,h3⟩
   ·simp at h3
   ·exact h3
  have h5:s=t∨G7 t s:=by
   simp only[G5] at h4
   by_cases e0:I8 t s=0
   ·exact .inl (ordU_zero.1 e0).symm
   ·rw[if_pos e0] at h4
    exact .inr ((W1 t s).1 (by omega))
  have hsort:(eS n D).Pairwise G7:=(eL n).filter _
  rw[e,List.pairwise_cons] at hsort
  rw[e] at ht
  rcases List.mem_cons.1 ht with rfl|ht
  ·exact⟨[],h2⟩
  ·have h6:=hsort.1 t ht
   rcases h5 with rfl|h5
   ·exact⟨[],h2⟩
   ·unfold G7 at h5 h6;omega
theorem yN (h:DkG n D):((cV n D 2).length:Int)≤Cv D:=by
 obtain⟨d,hd,e⟩:=dL h
 rw[← gP h]
 have hsub:cV n D 2 ⊆ jW D:=fun s hs=>by
  rw[e,X7]
  have h2:=sus_mem.1 hs
  exact kX hd (bV (h.f d hd)) (by rw[h.len d hd];exact h2.1) h2.2
 have hnd:(cV n D 2).Nodup:=fR ((eL n).filter _)
 have:=List.Nodup.length_le_of_subset hnd hsub
 omega
theorem yS (h:DkG n D):Ff D≤((cV n D 2).length:Int)+(cV n D 1).length:=by
 obtain⟨d,hd,g,h1,h2⟩:=AP h
 rw[← h2]
 have hsub:N4 d.notes g n ⊆ cV n D 2++cV n D 1:=fun s hs=>by
  have h3:=nc hd h1 (by rw[h.len d hd];exact hs)
  have h4:=bB hs
  rw[List.mem_append,sus_mem,sus_mem]
  rcases jw D s with e|e|e
  ·exact absurd e h3
  ·exact .inr ⟨h4,e⟩
  ·exact .inl ⟨h4,e⟩
 have:=List.Nodup.length_le_of_subset (fR (ai _ _ _)) hsub
 rw[List.length_append] at this
 omega
theorem uS (h:DkG n D) {d:Desk} (hd:d∈D) {g:Nat→D3} (hg:sd d g) {s:Susp} (hs:s∈N4 d.notes g n):s∈cV n D 2∨s∈cV n D 1:=by
 have h3:=nc hd hg (by rw[h.len d hd];exact hs)
 have h4:=bB hs
 rw[sus_mem,sus_mem]
 rcases jw D s with e|e|e
 ·exact absurd e h3
 ·exact .inr ⟨h4,e⟩
 ·exact .inl ⟨h4,e⟩
theorem vo (h:DkG n D) {s:Susp} (hs:s∈jW D):s∈P4 n∧(s∈cV n D 2∨s∈cV n D 1):=by
 obtain⟨d,hd,e⟩:=dL h
 rw[e,X7,h.len d hd] at hs
 exact⟨bB hs,uS h hd (bV (h.f d hd)) hs⟩
theorem vE (h:DkG n D) {s:Susp} (hs:s∈eS n D):s∈P4 n∧(s∈cV n D 2∨s∈cV n D 1):=by
 obtain⟨hs',d,hd,ha⟩:=alo_mem.1 hs
 obtain⟨g1,g2⟩:=ki (h.len d hd) hs' ha
 exact⟨hs',uS h hd g1 (by rw[g2];simp)⟩
theorem Bh (h:DkG n D):(jW D).Pairwise G7:=by
 obtain⟨d,hd,e⟩:=dL h
 rw[e,X7];exact ai _ _ _
theorem pZ (h:DkG n D) {s:Susp} (hs:s∈cV n D 2):s∈jW D∧∀ t∈eS n D,t=s:=by
 have h2:=sus_mem.1 hs
 constructor
 ·obtain⟨d,hd,e⟩:=dL h
  rw[e,X7]
  exact kX hd (bV (h.f d hd)) (by rw[h.len d hd];exact h2.1) h2.2
 ·intro t ht
  obtain⟨ht',d,hd,ha⟩:=alo_mem.1 ht
  obtain⟨g1,g2⟩:=ki (h.len d hd) ht' ha
  have h3:=kX hd g1 (s:=s) (by rw[h.len d hd];exact h2.1) h2.2
  rw[h.len d hd,g2,List.mem_singleton] at h3
  exact h3.symm
theorem yO (h:DkG n D) {s:Susp} (hs:s∈cV n D 2):eS n D=[]∨eS n D=[s]:=by
 have h1:=(pZ h hs).2
 have h2:(eS n D).Nodup:=fR ((eL n).filter _)
 generalize eS n D=a at *
 cases a with
 | nil=>exact .inl rfl
 | cons x r =>
   right
   cases r with
   | nil=>rw[h1 x List.mem_cons_self]
   | cons y r =>
     have e1:=h1 x List.mem_cons_self
     have e2:=h1 y (List.mem_cons_of_mem _ List.mem_cons_self)
     rw[List.nodup_cons] at h2
     exact absurd (by rw[e1,e2];exact List.mem_cons_self) h2.1
end Go.Proofs
namespace Go.Proofs
open Go Go.Ab
variable {n:Nat} {D D':List Desk}
end Go.Proofs
namespace Go.Proofs
open Go Go.Ab
theorem CM {c:Case} {t:List Int} (hl:E9 (cY c t) 0=0) {y:Link} (hy:y∈c.loop.links):yy c y (dy c t y.drawing)=some (U4 (cY c t) y):=by
 have hok:=Km (dC hl).1
 have hx:c.loop∈(cY c t).loops:=by simp[cY]
 have hd:=(lS hok hx hy).2
 obtain⟨hm,_,_⟩:=hok.link _ hx y hy
 obtain⟨i,hi⟩:=List.mem_iff_getElem?.1 hm
 have hnd:(nums c.p.n.reg).Nodup:=(D8 hok.reg).1.imp fun h e=>by omega
 have hix:idx (nums c.p.n.reg) y.drawing=i:=iV hnd hi
 have hl2:(L4 c.p.n t c.machine)[i]?=some (dy c t y.drawing):=by
  unfold L4 dy
  rw[List.getElem?_map,show (nums c.p.n.reg)[i]?=some y.drawing from hi];rfl
 have e:u5 (cY c t).reg (cY c t).lets y.drawing=(n8 c.p.n.reg y.drawing (dy c t y.drawing)).getD J5:=by
  unfold u5
  rw[show (cY c t).reg=c.p.n.reg from rfl,show (cY c t).lets=L4 c.p.n t c.machine from rfl,hix,Int.toNat_natCast,hl2];rfl
 rw[e] at hd
 unfold yy
 cases hf:n8 c.p.n.reg y.drawing (dy c t y.drawing) with
 | none=>rw[hf] at hd;simp[J5] at hd
 | some z=>rw[hf] at hd;simpa using hd
theorem nr (D:Link→Dim):∀ (q:List (Link×Piece)) (s:Int×Int) (a b:Int),(∀ p∈q,p.2.lo≤(D p.1).upper∧(D p.1).lower≤p.2.hi)→s.1≤b→a≤s.2 →
 (q.foldl D6 s).1≤q.foldl (fun s p=>s+mz p.1 (P2 true p.1 (D p.1))) b∧q.foldl (fun s p=>s+mz p.1 (P2 false p.1 (D p.1))) a≤(q.foldl D6 s).2
 | [],s,a,b,_,h1,h2=>⟨h1,h2⟩
 | p :: q,s,a,b,h,h1,h2=>by
   rw[List.foldl_cons,List.foldl_cons,List.foldl_cons]
   have hp:=h p List.mem_cons_self
   refine nr D q _ _ _ (fun p hp=>h p (List.mem_cons_of_mem _ hp)) ?_ ?_
   ·unfold D6 mz P2
    cases p.1.back<;>simp<;>omega
   ·unfold D6 mz P2
    cases p.1.back<;>simp<;>omega
theorem pQ {l:List Link} {P:List Piece} (h:P.length=l.length) (D:Link→Dim) (hi:Bool):cW l (l.map D) hi=(l.zip P).foldl (fun s p=>s+mz p.1 (P2 hi p.1 (D p.1))) 0:=by
 have e:l.zip (l.map D)=(l.zip P).map fun p=>(p.1,D p.1):=by
  refine List.ext_getElem? fun i=>?_
  by_cases hi:i<l.length
  ·rw[List.getElem?_eq_getElem (by simp[hi]),List.getElem?_eq_getElem (by simp[hi];omega)];simp
  ·rw[List.getElem?_eq_none (by simp;omega),List.getElem?_eq_none (by simp;omega)]
 unfold cW
 rw[e,List.foldl_map]
theorem addF_mem {L:List D3} {so:Bool} {f g:D3}:g∈aL L so f↔g∈L∨(so=true∧g=f):=by
 unfold aL
 split
 ·rename_i h;rw[List.mem_append,List.mem_singleton];simp[h.1]
 ·rename_i h
  constructor
  ·exact .inl
  ·rintro (h1|⟨h1,rfl⟩)
   ·exact h1
   ·exact Classical.byContradiction fun h2=>h ⟨h1,h2⟩
theorem tv {c:Case} {y:Link} {x:Piece} {o:Int} {L:List D3} {l:Int} {g:D3}:g∈H0 c y x o L l↔g∈L∨(tx c y x l=true∧g=(!decide (l=o),false))∨(yF c y x l=true∧g=(!decide (l=o),true)):=by
 unfold H0
 rw[addF_mem,addF_mem,or_assoc]
theorem lN {c:Case} {y:Link} {x:Piece} {o:Int} {g:D3}:∀ {l:List Int} {L:List D3},g∈l.foldl (H0 c y x o) L↔g∈L∨∃ a∈l,(tx c y x a=true∧g=(!decide (a=o),false))∨(yF c y x a=true∧g=(!decide (a=o),true))
 | [],L=>by simp
 | a :: l,L=>by
   rw[List.foldl_cons,lN,tv,or_assoc]
   simp only[List.mem_cons,exists_eq_or_imp]
theorem Ec {c:Case} {t:List Int} {k:Nat} {x:Piece} {y:Link} (hx:c.pieces[k]?=some x) (hy:c.loop.links[k]?=some y) {g:D3}:g∈iW c t k↔∃ a∈N7 c k,(tx c y x a=true∧g=(!decide (a=dy c t y.drawing),false))∨(yF c y x a=true∧g=(!decide (a=dy c t y.drawing),true)):=by
 unfold iW
 rw[hx,hy]
 simp only
 rw[lN]
 simp
theorem GS {c:Case} {t:List Int} {k:Nat} (hk:k<c.pieces.length):(D7 c t).faults.getD k []=iW c t k:=by
 simp[D7,List.getD,hk]
theorem BA {c:Case} (h0:J4 c=0) {t:List Int} (hn:yz c t=false) (hf:∀ k,k<c.pieces.length→(false,false)∈iW c t k):False:=by
 obtain⟨he,hft⟩:=O1 h0
 have hok:=O0 (F8 he).2
 have hlen:=hok.e
 unfold yz at hn
 simp only[Bool.or_eq_false_iff,Bool.not_eq_false',decide_eq_true_eq] at hn
 obtain⟨hl,hc⟩:=hn
 have hmeet:∀ p∈c.loop.links.zip c.pieces,p.2.lo≤(U4 (cY c t) p.1).upper∧(U4 (cY c t) p.1).lower≤p.2.hi:=fun p hp=>by
  obtain⟨k,hk⟩:=List.mem_iff_getElem?.1 hp
  rw[List.getElem?_zip_eq_some] at hk
  obtain⟨hy,hx⟩:=hk
  have h1:=hf k (e7 hx)
  rw[Ec hx hy] at h1
  obtain⟨a,ha,h2|h2⟩:=h1
  ·have e:a=dy c t p.1.drawing:=by have:=h2.2;simp at this;exact this
   subst e
   have h3:=h2.1
   unfold tx at h3
   rw[CM hl (List.mem_of_getElem? hy)] at h3
   simpa using h3
  ·exact absurd h2.2 (by simp)
 have hs:=nr (U4 (cY c t)) (c.loop.links.zip c.pieces) (0,0) 0 0 hmeet (Int.le_refl _) (Int.le_refl _)
 rw[← pQ hlen,← pQ hlen] at hs
 have hlp:(cY c t).loops[(0:Int).toNat]?=some c.loop:=rfl
 have hLo:wj (cY c t) 0=cW c.loop.links (c.loop.links.map (U4 (cY c t))) false:=by
  rw[wj,if_pos hl,Iv,hlp];rfl
 have hHi:wl (cY c t) 0=cW c.loop.links (c.loop.links.map (U4 (cY c t))) true:=by
  rw[wl,if_pos hl,IP,hlp];rfl
 rw[← hLo,← hHi] at hs
 rw[O7,if_pos hl,JZ,hlp] at hc
 simp only at hc
 have hg:c.loop.lo≤wj (cY c t) 0∧wl (cY c t) 0≤c.loop.hi:=by
  split at hc
  ·assumption
  ·split at hc<;>exact absurd hc (by decide)
 unfold cN bu qQ at hft
 rw[if_pos he,if_pos he] at hft
 have hs2:R2 (c.loop.links.zip c.pieces)=(c.loop.links.zip c.pieces).foldl D6 (0,0):=rfl
 rw[hs2] at hft
 split at hft
 ·omega
 ·split at hft<;>exact absurd hft (by decide)
theorem El {c:Case} (h0:J4 c=0):DkG c.pieces.length (n7 c):=by
 obtain⟨he,_⟩:=O1 h0
 refine⟨fun e=>?_,fun d hd=>?_,lT he,fun d hd g hg e=>?_⟩
 ·have:=(ac he).1
  rw[e] at this;exact absurd this (by decide)
 ·obtain⟨t,_,rfl⟩:=List.mem_map.1 hd
  simp[D7]
 ·obtain⟨t,_,rfl⟩:=List.mem_map.1 hd
  have hl:(D7 c t).faults.length=c.pieces.length:=by simp[D7]
  refine BA h0 (t:=t) ?_ fun k hk=>?_
  ·cases hn:yz c t
   ·rfl
   ·have:(⟨1,0⟩:Susp)∈N4 (D7 c t).notes g c.pieces.length:=selS_mem.2 (.inl ⟨hn,rfl⟩)
    rw[e] at this;simp at this
  ·have h1:=hg k (by omega)
   rw[GS hk] at h1
   have e2:g k=(false,false):=by
    refine Prod.ext ?_ ?_
    ·cases hb:(g k).1
     ·rfl
     ·have:fw k∈N4 (D7 c t).notes g c.pieces.length:=selS_mem.2 (.inr (.inl ⟨k,hk,hb,rfl⟩))
      rw[e] at this;simp at this
    ·cases hb:(g k).2
     ·rfl
     ·have:gJ k∈N4 (D7 c t).notes g c.pieces.length:=selS_mem.2 (.inr (.inr ⟨k,hk,hb,rfl⟩))
      rw[e] at this;simp at this
   rw[e2] at h1;exact h1
theorem sn {c:Case} (h0:J4 c=0):lP c=jW (n7 c)∧jm c=eS c.pieces.length (n7 c)∧(∀ k,db c k=cV c.pieces.length (n7 c) k)∧jh c=(Cv (n7 c),Ff (n7 c)):=by
 refine⟨?_,?_,fun k=>?_,?_⟩
 ·unfold lP;rw[if_pos h0];rfl
 ·unfold jm;rw[if_pos h0];rfl
 ·unfold db;rw[if_pos h0];rfl
 ·unfold jh;rw[if_pos h0];rfl
end Go.Proofs
