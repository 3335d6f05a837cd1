/- Part 25 of the proofs. -/
import Derived.Test.YtlmlkkoapahmjaaGreatDoorP18
import Derived.Test.YtlmlkkoapahmjaaGreatDoorA02
import Derived.Test.YtlmlkkoapahmjaaGreatDoorA03
import Derived.Test.YtlmlkkoapahmjaaGreatDoorA06
set_option linter.all false
set_option maxHeartbeats 100000000
namespace Go.Ab
open Go
abbrev Gp:=Nat×Bool
def tY (b:Nat->Nat×Nat) (m:Nat->Gp×Gp) (i k:Nat) (x:Issue):List DC:=if k<i then [.im (rI x.drawing),.im (rI x.letter),.im (.raw (.int .u8 x.kind)),.vec (b k).1 (m k).1.1 0 x.items.length,.vec (b k).2 (m k).2.1 0 x.dims.length] else (e9 x).map .im
def bX (b:Nat->Nat×Nat) (m:Nat->Gp×Gp) (i:Nat) (l:List Issue):List (List DC):=l.mapIdx (tY b m i)
def kB (l:List Issue) (m:Nat->Gp×Gp) (k:Nat):Q4:=match l[k]? with
 | some x=>(.vec 2 [] 0 true,.vec 2 (l5 (x.items.map B1)) (m k).1.1 (m k).1.2,.vec 3 [] 0 true,.vec 3 (l5 (x.dims.map F2)) (m k).2.1 (m k).2.2)
 | none=>(.gone,.gone,.gone,.gone)
def ud (b:Nat->Nat) (m:Nat->Gp) (i k:Nat) (x:Holder):List DC:=if k<i then [.im (rI x.id),.im (rI x.frm),.im (rI x.to),.vec (b k) (m k).1 0 x.draws.length] else (o7 x).map .im
def cb (b:Nat->Nat) (m:Nat->Gp) (i:Nat) (l:List Holder):List (List DC):=l.mapIdx (ud b m i)
def mw (l:List Holder) (m:Nat->Gp) (k:Nat):Q2:=match l[k]? with
 | some x=>(.vec 1 [] 0 true,.vec 1 (l5 (x.draws.map Ab.encI)) (m k).1 (m k).2)
 | none=>(.gone,.gone)
@[simp] theorem Ji (b:Nat->Nat×Nat) (m:Nat->Gp×Gp) (i:Nat) (l:List Issue):(bX b m i l).length=l.length:=by simp[bX]
@[simp] theorem Js (b:Nat->Nat) (m:Nat->Gp) (i:Nat) (l:List Holder):(cb b m i l).length=l.length:=by simp[cb]
theorem xy (b:Nat->Nat×Nat) (m:Nat->Gp×Gp) (l:List Issue):bX b m 0 l=l5 (l.map e9):=by
 unfold bX l5;apply List.ext_getElem?
 intro k;simp[List.getElem?_mapIdx,tY];rfl
theorem xI (b:Nat->Nat) (m:Nat->Gp) (l:List Holder):cb b m 0 l=l5 (l.map o7):=by
 unfold cb l5;apply List.ext_getElem?
 intro k;simp[List.getElem?_mapIdx,ud];rfl
theorem El {b:Nat->Nat×Nat} {m:Nat->Gp×Gp} {i:Nat} {l:List Issue} {x:Issue} (h:l[i]?=some x):(bX b m i l)[i]?=some ((e9 x).map .im):=by
 simp[bX,List.getElem?_mapIdx,h,tY]
theorem Ev {b:Nat->Nat} {m:Nat->Gp} {i:Nat} {l:List Holder} {x:Holder} (h:l[i]?=some x):(cb b m i l)[i]?=some ((o7 x).map .im):=by
 simp[cb,List.getElem?_mapIdx,h,ud]
def gx {α:Type} (m:Nat->α) (i:Nat) (g:α) (k:Nat):α:=if k=i then g else m k
theorem AX {b:Nat->Nat×Nat} {m:Nat->Gp×Gp} {i:Nat} {l:List Issue} {x:Issue} (h:l[i]?=some x) (g:Gp×Gp):(bX b m i l).set i [.im (rI x.drawing),.im (rI x.letter),.im (.raw (.int .u8 x.kind)),.vec (b i).1 g.1.1 0 x.items.length,.vec (b i).2 g.2.1 0 x.dims.length]=bX b (gx m i g) (i+1) l:=by
 apply List.ext_getElem?
 intro k;rw[List.getElem?_set];by_cases e:i=k
 ·subst e;have hlt:=e7 h;rw[if_pos rfl,if_pos (by simpa using hlt)];simp only[bX,List.getElem?_mapIdx,h,Option.map_some,tY,gx,if_true,Nat.lt_succ_self]
 ·rw[if_neg e];simp only[bX,List.getElem?_mapIdx];have h1:¬ k=i:=λh=>e h.symm;cases hk:l[k]? with
  | none=>rfl
  | some y =>
    simp only[Option.map_some,tY,gx,if_neg h1];by_cases h2:k<i
    ·rw[if_pos h2,if_pos (by omega)]
    ·rw[if_neg h2,if_neg (by omega)]
theorem Bj {b:Nat->Nat} {m:Nat->Gp} {i:Nat} {l:List Holder} {x:Holder} (h:l[i]?=some x) (g:Gp):(cb b m i l).set i [.im (rI x.id),.im (rI x.frm),.im (rI x.to),.vec (b i) g.1 0 x.draws.length]=cb b (gx m i g) (i+1) l:=by
 apply List.ext_getElem?
 intro k;rw[List.getElem?_set];by_cases e:i=k
 ·subst e;have hlt:=e7 h;rw[if_pos rfl,if_pos (by simpa using hlt)];simp only[cb,List.getElem?_mapIdx,h,Option.map_some,ud,gx,if_true,Nat.lt_succ_self]
 ·rw[if_neg e];simp only[cb,List.getElem?_mapIdx];have h1:¬ k=i:=λh=>e h.symm;cases hk:l[k]? with
  | none=>rfl
  | some y =>
    simp only[Option.map_some,ud,gx,if_neg h1];by_cases h2:k<i
    ·rw[if_pos h2,if_pos (by omega)]
    ·rw[if_neg h2,if_neg (by omega)]
theorem xx {l:List Issue} {m:Nat->Gp×Gp} {i:Nat} {x:Issue} (h:l[i]?=some x) (g:Gp×Gp):G2 (kB l (gx m i g)) (i+1)=G2 (kB l m) i++[.vec 2 [] 0 true,.vec 2 (l5 (x.items.map B1)) g.1.1 g.1.2,.vec 3 [] 0 true,.vec 3 (l5 (x.dims.map F2)) g.2.1 g.2.2]:=by
 rw[G2,dZ (H:=kB l m) λk hk=>by unfold kB gx;rw[if_neg (by omega)]];simp[kB,h,gx]
theorem xH {l:List Holder} {m:Nat->Gp} {i:Nat} {x:Holder} (h:l[i]?=some x) (g:Gp):J6 (mw l (gx m i g)) (i+1)=J6 (mw l m) i++[.vec 1 [] 0 true,.vec 1 (l5 (x.draws.map Ab.encI)) g.1 g.2]:=by
 rw[J6,ec (H:=mw l m) λk hk=>by unfold mw gx;rw[if_neg (by omega)]];simp[mw,h,gx]
abbrev CW:=(Gp×Gp)×(Nat->Gp×Gp)×(Gp×Gp)×(Nat->Gp)×(Gp×Gp)
def uC (s k:Nat):Nat×Nat:=(4*k+(13+s),4*k+(15+s))
def uD (N s k:Nat):Nat:=4*N+2*k+(17+s)
def qe (s:Nat) (m:CW) (c:Case):List DC:=[.vec (9+s) m.1.1.1 0 c.p.n.reg.length,.vec (11+s) m.1.2.1 0 c.p.n.notes.length,.vec (4*c.p.n.reg.length+(13+s)) m.2.2.1.1.1 0 c.p.holders.length,.vec (4*c.p.n.reg.length+(15+s)) m.2.2.1.2.1 0 c.p.prints.length,.im (rI c.machine),.im (rI c.of),.vec (4*c.p.n.reg.length+2*c.p.holders.length+(17+s)) m.2.2.2.2.1.1 0 c.loop.links.length,.im (rI c.loop.lo),.im (rI c.loop.hi),.vec (4*c.p.n.reg.length+2*c.p.holders.length+(19+s)) m.2.2.2.2.2.1 0 c.pieces.length]
def rX (s:Nat) (m:CW) (c:Case):List DObj:=.row (qe s m c) :: .vec 0 [] 0 true :: .vec 0 [] 0 true :: .vec 0 [] 0 true :: .vec 0 [] 0 true :: .vec 0 [] 0 true :: .vec 0 [] 0 true :: .row (qe s m c) :: .vec 5 [] 0 true :: .vec 5 (bX (uC s) m.2.1 c.p.n.reg.length c.p.n.reg) m.1.1.1 m.1.1.2 :: .vec 10 [] 0 true :: .vec 10 (l5 (c.p.n.notes.map l6)) m.1.2.1 m.1.2.2 :: (G2 (kB c.p.n.reg m.2.1) c.p.n.reg.length ++ .vec 4 [] 0 true :: .vec 4 (cb (uD c.p.n.reg.length s) m.2.2.2.1 c.p.holders.length c.p.holders) m.2.2.1.1.1 m.2.2.1.1.2 :: .vec 7 [] 0 true :: .vec 7 (l5 (c.p.prints.map A4)) m.2.2.1.2.1 m.2.2.1.2.2 :: (J6 (mw c.p.holders m.2.2.2.1) c.p.holders.length++[.vec 3 [] 0 true,.vec 3 (l5 (c.loop.links.map H0)) m.2.2.2.2.1.1 m.2.2.2.2.1.2,.vec 4 [] 0 true,.vec 4 (l5 (c.pieces.map w9)) m.2.2.2.2.2.1 m.2.2.2.2.2.2]))
theorem pt (e:Nat->Nat) (l:List (List IC)):(l5 l).map (rnL e)=l5 l:=by
 unfold l5;rw[List.map_map];exact List.map_congr_left λx _=>fM e x
theorem Dq (a s:Nat) (m:Nat->Gp×Gp) (i:Nat) (l:List Issue):(bX (uC a) m i l).map (rnL λo=>s+o)=bX (uC (a+s)) m i l:=by
 apply List.ext_getElem?
 intro k;simp only[bX,List.getElem?_map,List.getElem?_mapIdx];cases l[k]? with
 | none=>rfl
 | some x =>
   simp only[Option.map_some,tY];by_cases h:k<i
   ·rw[if_pos h,if_pos h];simp only[rnL,je,uC];rw[show s+(4*k+(13+a))=4*k+(13+(a+s)) by omega,show s+(4*k+(15+a))=4*k+(15+(a+s)) by omega]
   ·rw[if_neg h,if_neg h,fM]
theorem Dr (N a s:Nat) (m:Nat->Gp) (i:Nat) (l:List Holder):(cb (uD N a) m i l).map (rnL λo=>s+o)=cb (uD N (a+s)) m i l:=by
 apply List.ext_getElem?
 intro k;simp only[cb,List.getElem?_map,List.getElem?_mapIdx];cases l[k]? with
 | none=>rfl
 | some x =>
   simp only[Option.map_some,ud];by_cases h:k<i
   ·rw[if_pos h,if_pos h];simp only[rnL,je,uD];rw[show s+(4*N+2*k+(17+a))=4*N+2*k+(17+(a+s)) by omega]
   ·rw[if_neg h,if_neg h,fM]
theorem Ad (a s:Nat) (m:CW) (c:Case):rnL (λo=>s+o) (qe a m c)=qe (a+s) m c:=by
 simp only[qe,rnL,je];simp only[List.cons.injEq,DC.vec.injEq,and_true,true_and];omega
theorem FY (a s:Nat) (m:CW) (c:Case):(rX a m c).map (cY λo=>s+o)=rX (a+s) m c:=by
 have h4:(G2 (kB c.p.n.reg m.2.1) c.p.n.reg.length).map (cY λo=>s+o)=G2 (kB c.p.n.reg m.2.1) c.p.n.reg.length:=by
  rw[oD];refine dZ λk hk=>?_;unfold kB;rw[List.getElem?_eq_getElem hk];simp only[cY,pt,List.map_nil]
 have h2:(J6 (mw c.p.holders m.2.2.2.1) c.p.holders.length).map (cY λo=>s+o)=J6 (mw c.p.holders m.2.2.2.1) c.p.holders.length:=by
  rw[oF];refine ec λk hk=>?_;unfold mw;rw[List.getElem?_eq_getElem hk];simp only[cY,pt,List.map_nil]
 simp only[rX,List.map_cons,List.map_append,List.map_nil,cY,Ad,Dq,Dr,pt,h4,h2]
theorem rR (n:Nat):v6 [] n=λo=>n+o:=by
 funext o;simp[v6]
theorem tN (objs o:List DObj):n7 [] objs o=objs++o.map (cY λk=>objs.length+k):=by
 unfold n7;rw[rR];simp[gR]
end Go.Ab
namespace Go.Proofs
open Go Go.Ab
variable {G:LS}
attribute [simp] s6 du O6 jy w5 B6 nilV K9 ZK
@[simp] abbrev Ql:List Nat:=[0,1,2,3,4,5,6,36,37,38,85,86,87]
@[simp] abbrev WZ:List Nat:=[0,1,2,3,4,5,7,8,9,10,12,13,15,16,6,11,14,17]
theorem yv (c:Case) (hk:KC c):DCall Tryz.prog G 78 [l7 c] [] (λd o=>∃ m:CW,True/\d=.agg (qe 0 m c)/\o=rX 0 m c):=by
 generalize hQ:(λ(d:DV) (o:List DObj)=>∃ m:CW,True/\d=.agg (qe 0 m c)/\o=rX 0 m c)=Q;refine h9 Tryz.func78 rfl Tryz.ntmps78 (by simp) rfl ?_;have c1:=JC (G:=G) c.p.n.reg (by have:=hk.p.n.1.1;omega);have c2:=Hs (G:=G) c.p.n.notes (by have:=hk.p.n.2.1;omega);unfold F8 at c1 c2;simp only[List.length_map] at c1 c2;simp only[l7];have hs:=trivial;repeat' first|with_reducible refine zz ?_|simp -dsimp[hs]|refine CallE.embed_ex [] (c1) ?_ ?_ ?_ ?_ ?_ ?_;(focus simp[v6];done);(focus simp;done);(focus simp;done);(focus simp;done);(focus refine o5 ?_;simp[v6,r7];done);intro mmA hmmA;try simp -dsimp[n7,v6,hs]|refine CallE.embed_ex [] (c2) ?_ ?_ ?_ ?_ ?_ ?_;(focus simp[v6];done);(focus simp;done);(focus simp;done);(focus simp;done);(focus refine o5 ?_;simp[v6,r7];done);intro mmB hmmB;try simp -dsimp[n7,v6,hs]|refine Y3 (id:=2) (nt:=117) [none,none,none,none,none,none,none,none,none,none,none,none,none,none,none,some [0],some [15],some [16],some [17],none,some [1],some [20],some [21],none] [0,1,2,3,4,5,6,7,9,10,11,12,13,15,16,17,18,20,21,22,8,14,19,23] 20 [([0,1,8,9,10,11,12,13,14,15,16,17,18,19],[0,1,2,3,4,5,6,15,36,37,38,85,86,87]),([0,1,13,14,15,16,17,18,19],[0,1,2,3,4,5,6,16,21,36,37,38,85,86,87]),([1,17,18,19],[0,1,2,3,4,5,6,16,22,26,36,37,38,85,86,87])] Ql mixed rfl (by kernel_rfl) (by kernel_rfl) (by kernel_rfl) ?_|with_reducible refine zE Ql ?_
 all_goals try clear hs
 refine i6 (ι:={ q:Nat×(Nat->Gp×Gp) // q.1<=c.p.n.reg.length }) (λq=>⟨117,[(1,.one (.ptr 0 0)),(2,.one (.ptr 7 0)),(3,.one (.ptr 0 0)),(36,iv (c.p.n.reg.length:Int)),(37,iv (q.1.1:Int))],.row [.vec 9 mmA.1 0 c.p.n.reg.length,.vec 11 mmB.1 0 c.p.n.notes.length,.im (.sl (c.p.holders.map o7)),.im (.sl (c.p.prints.map A4)),.im (rI c.machine),.im (rI c.of),.im (.sl (c.loop.links.map H0)),.im (rI c.loop.lo),.im (rI c.loop.hi),.im (.sl (c.pieces.map w9))] :: .vec 0 [] 0 true :: .vec 0 [] 0 true :: .vec 0 [] 0 true :: .vec 0 [] 0 true :: .vec 0 [] 0 true :: .vec 0 [] 0 true :: .row [.vec 1 0 0 0,.vec 2 0 0 0,.vec 3 0 0 0,.vec 4 0 0 0,.im (rI 0),.im (rI 0),.vec 5 0 0 0,.im (rI 0),.im (rI 0),.vec 6 0 0 0] :: .vec 5 [] 0 true :: .vec 5 (bX (λk=>(4*k+13,4*k+15)) q.1.2 q.1.1 c.p.n.reg) mmA.1 mmA.2 :: .vec 10 [] 0 true :: .vec 10 (l5 (c.p.n.notes.map l6)) mmB.1 mmB.2 :: G2 (kB c.p.n.reg q.1.2) q.1.1⟩) (λq=>c.p.n.reg.length-q.1.1) ⟨(0,λ_=>((0,false),(0,false))),by simp⟩ (zv [1,2,3,36,37] (by simp[xy,G2])) ?_;rintro⟨⟨i,m⟩,hi⟩;simp only at hi;simp only[iv,rI];by_cases hlt:i<c.p.n.reg.length
 ·have hw:IntKind.i64.wrap ((i:Int)+1)=((i+1:Nat):Int):=n4 (by omega) (by have:=hk.p.n.1.1;omega);have hx0:c.p.n.reg[i]?=some c.p.n.reg[i]:=by simp[hlt]
  have hxm:=hk.p.n.1.2 _ (List.mem_of_getElem? hx0);generalize c.p.n.reg[i]=x at *;have c3:=JB (G:=G) x.items (by omega);have c4:=JE (G:=G) x.dims (by omega);unfold F8 at c3 c4;simp only[List.length_map] at c3 c4;have hat:∀ h,(bX (λk=>(4*k+13,4*k+15)) m i c.p.n.reg)[i]'h=(e9 x).map .im:=λh=>by
   have:=El (b:=λk=>(4*k+13,4*k+15)) (m:=m) hx0;rw[List.getElem?_eq_getElem h] at this;exact Option.some.inj this
  simp only[e9,rI,List.map_cons,List.map_nil] at hat;have hset:=λg=>AX (b:=λk=>(4*k+13,4*k+15)) (m:=m) hx0 g;have hsuc:=λg=>xx (m:=m) hx0 g;have hs:=za hlt (za hw hat);repeat' first|with_reducible refine zz ?_|simp -dsimp[hs]|refine CallE.embed_ex [] (c3) ?_ ?_ ?_ ?_ ?_ ?_;(focus simp[v6];done);(focus simp;done);(focus simp;done);(focus simp;done);(focus refine o5 ?_;simp[v6,r7];done);intro mmC hmmC;try simp -dsimp[n7,v6,hs]|refine CallE.embed_ex [] (c4) ?_ ?_ ?_ ?_ ?_ ?_;(focus simp[v6];done);(focus simp;done);(focus simp;done);(focus simp;done);(focus refine o5 ?_;simp[v6,r7];done);intro mmD hmmD;try simp -dsimp[n7,v6,hs]|refine Y3 (id:=7) (nt:=117) [none,none,none,none,none,none,none,none,none,none,none,none,some [0],some [12],none,some [1],some [15],none] WZ 14 [([0,1,6,7,8,9,10,11,12,13],[0,1,2,3,4,5,6,36,37,38,53,85,86,87]),([0,1,10,11,12,13],[0,1,2,3,4,5,6,36,37,38,54,58,85,86,87]),([1,12,13],[0,1,2,3,4,5,6,36,37,38,54,59,61,85,86,87])] Ql mixed rfl (by kernel_rfl) (by kernel_rfl) (by kernel_rfl) ?_|with_reducible refine zE Ql ?_|refine i8 ?_ ?_<;>intro h<;>try exact h.elim
  all_goals try clear hs
  refine At.round ⟨(i+1,gx m i (mmC,mmD)),by simp only;omega⟩ (by simp only;omega) (Weak.of_keep [1,2,3,36,37] ?_);rw[<- hset (mmC,mmD),hsuc (mmC,mmD)];simp
 ·obtain rfl:i=c.p.n.reg.length:=by omega
  have c5:=Hu (G:=G) c.p.holders (by have:=hk.p.p.h;omega);have c6:=ER (G:=G) c.p.prints (by have:=hk.p.p.q;omega);unfold F8 at c5 c6;simp only[List.length_map] at c5 c6;have hs:=hlt;repeat' first|with_reducible refine zz ?_|simp -dsimp[hs]|refine CallE.embed_ex [] (c5) ?_ ?_ ?_ ?_ ?_ ?_;(focus simp[v6];done);(focus simp;done);(focus simp;done);(focus simp;done);(focus refine o5 ?_;simp[v6,r7];done);intro mmE hmmE;try simp -dsimp[n7,v6,hs]|refine CallE.embed_ex [] (c6) ?_ ?_ ?_ ?_ ?_ ?_;(focus simp[v6];done);(focus simp;done);(focus simp;done);(focus simp;done);(focus refine o5 ?_;simp[v6,r7];done);intro mmF hmmF;try simp -dsimp[n7,v6,hs]|refine Y3 (id:=9) (nt:=117) [none,none,none,none,none,none,none,none,none,none,none,none,some [0],some [12],none,some [1],some [15],none] WZ 14 [([0,1,6,7,8,9,10,11,12,13],[0,1,2,3,4,5,6,36,37,38,70,85,86,87]),([0,1,10,11,12,13],[0,1,2,3,4,5,6,36,37,38,71,75,85,86,87]),([1,12,13],[0,1,2,3,4,5,6,36,37,38,71,76,78,85,86,87])] Ql mixed rfl (by kernel_rfl) (by kernel_rfl) (by kernel_rfl) ?_|with_reducible refine zE Ql ?_|refine i8 ?_ ?_<;>intro h<;>try exact h.elim
  all_goals try clear hs
  clear hlt hi;generalize hN:c.p.n.reg.length=N at *;refine i6 (ι:={ q:Nat×(Nat->Gp) // q.1<=c.p.holders.length }) (λq=>⟨117,[(1,.one (.ptr 0 0)),(2,.one (.ptr 7 0)),(3,.one (.ptr 0 0)),(85,iv (c.p.holders.length:Int)),(86,iv (q.1.1:Int))],.row [.vec 9 mmA.1 0 N,.vec 11 mmB.1 0 c.p.n.notes.length,.vec (4*N+13) mmE.1 0 c.p.holders.length,.vec (4*N+15) mmF.1 0 c.p.prints.length,.im (rI c.machine),.im (rI c.of),.im (.sl (c.loop.links.map H0)),.im (rI c.loop.lo),.im (rI c.loop.hi),.im (.sl (c.pieces.map w9))] :: .vec 0 [] 0 true :: .vec 0 [] 0 true :: .vec 0 [] 0 true :: .vec 0 [] 0 true :: .vec 0 [] 0 true :: .vec 0 [] 0 true :: .row [.vec 1 0 0 0,.vec 2 0 0 0,.vec 3 0 0 0,.vec 4 0 0 0,.im (rI 0),.im (rI 0),.vec 5 0 0 0,.im (rI 0),.im (rI 0),.vec 6 0 0 0] :: .vec 5 [] 0 true :: .vec 5 (bX (λk=>(4*k+13,4*k+15)) m N c.p.n.reg) mmA.1 mmA.2 :: .vec 10 [] 0 true :: .vec 10 (l5 (c.p.n.notes.map l6)) mmB.1 mmB.2 :: (G2 (kB c.p.n.reg m) N ++ .vec 4 [] 0 true :: .vec 4 (cb (λk=>4*N+2*k+17) q.1.2 q.1.1 c.p.holders) mmE.1 mmE.2 :: .vec 7 [] 0 true :: .vec 7 (l5 (c.p.prints.map A4)) mmF.1 mmF.2 :: J6 (mw c.p.holders q.1.2) q.1.1)⟩) (λq=>c.p.holders.length-q.1.1) ⟨(0,λ_=>(0,false)),by simp⟩ (zv [1,2,3,85,86] (by simp[xI,J6])) ?_;rintro⟨⟨i,m2⟩,hi⟩;simp only at hi;simp only[iv,rI];by_cases hlt:i<c.p.holders.length
  ·have hw:IntKind.i64.wrap ((i:Int)+1)=((i+1:Nat):Int):=n4 (by omega) (by have:=hk.p.p.h;omega);have hx0:c.p.holders[i]?=some c.p.holders[i]:=by simp[hlt]
   have hxm:=hk.p.p.d _ (List.mem_of_getElem? hx0);generalize c.p.holders[i]=x at *;have c3:=JD (G:=G) x.draws (by omega);unfold F8 at c3;simp only[List.length_map] at c3;have hat:∀ h,(cb (λk=>4*N+2*k+17) m2 i c.p.holders)[i]'h=(o7 x).map .im:=λh=>by
    have:=Ev (b:=λk=>4*N+2*k+17) (m:=m2) hx0;rw[List.getElem?_eq_getElem h] at this;exact Option.some.inj this
   simp only[o7,rI,List.map_cons,List.map_nil] at hat;have hset:=λg=>Bj (b:=λk=>4*N+2*k+17) (m:=m2) hx0 g;have hsuc:=λg=>xH (m:=m2) hx0 g;have hs:=za hlt (za hw hat);repeat' first|with_reducible refine zz ?_|simp -dsimp[hs]|refine CallE.embed_ex [] (c3) ?_ ?_ ?_ ?_ ?_ ?_;(focus simp[v6];done);(focus simp;done);(focus simp;done);(focus simp;done);(focus refine o5 ?_;simp[v6,r7];done);intro mmC hmmC;try simp -dsimp[n7,v6,hs]|refine Y3 (id:=13) (nt:=117) [none,none,none,none,none,none,none,none,none,none,none,none,none,none,some [3,4],some [14],none] [0,1,2,3,4,5,6,7,8,9,10,11,12,14,15,13,16] 15 [([0,1,2,3,4,13,14],[0,1,2,3,4,5,6,36,37,38,85,86,87,101])] Ql mixed rfl (by kernel_rfl) (by kernel_rfl) (by kernel_rfl) ?_|with_reducible refine zE Ql ?_|refine i8 ?_ ?_<;>intro h<;>try exact h.elim
   all_goals try clear hs
   refine At.round ⟨(i+1,gx m2 i mmC),by simp only;omega⟩ (by simp only;omega) (Weak.of_keep [1,2,3,85,86] ?_);rw[<- hset mmC,hsuc mmC];simp;refine congrArg (λa=>(cb (λk=>4*N+2*k+17) m2 i c.p.holders).set i [_,_,_,DC.vec a _ _ _]) ?_;omega
  ·obtain rfl:i=c.p.holders.length:=by omega
   have c7:=Ht (G:=G) c.loop.links (by have:=hk.l;omega);have c8:=ES (G:=G) c.pieces (by have:=hk.q;omega);unfold F8 at c7 c8;simp only[List.length_map] at c7 c8;have hs:=hlt;repeat' first|(with_reducible first|refine zz ?_|refine zr ?_)|simp -dsimp[hs]|refine CallE.embed_ex [] (c7) ?_ ?_ ?_ ?_ ?_ ?_;(focus simp[v6];done);(focus simp;done);(focus simp;done);(focus simp;done);(focus refine o5 ?_;simp[v6,r7];done);intro mmG hmmG;try simp -dsimp[n7,v6,hs]|refine CallE.embed_ex [] (c8) ?_ ?_ ?_ ?_ ?_ ?_;(focus simp[v6];done);(focus simp;done);(focus simp;done);(focus simp;done);(focus refine o5 ?_;simp[v6,r7];done);intro mmH hmmH;try simp -dsimp[n7,v6,hs]|refine Y3 (id:=15) (nt:=117) [none,none,none,none,none,none,none,some [],some [7],none,some [],none] [0,1,2,4,5,7,8,10,3,6,9,11] 8 [([3,4,5,6,7],[0,1,2,3,4,5,6,36,37,38,85,86,87,108]),([5,6,7],[0,1,2,3,4,5,6,36,37,38,85,86,87,109,111]),([7],[0,1,2,3,4,5,6,36,37,38,85,86,87,109,112,114])] Ql mixed rfl (by kernel_rfl) (by kernel_rfl) (by kernel_rfl) ?_|with_reducible refine zE Ql ?_|refine i8 ?_ ?_<;>intro h<;>try exact h.elim
   all_goals try clear hs
   subst hQ;refine⟨((mmA,mmB),m,(mmE,mmF),m2,(mmG,mmH)),trivial,?_,?_⟩
   ·simp only[qe,hN,DV.agg.injEq,List.cons.injEq,DC.vec.injEq,and_true,true_and,Nat.add_zero];exact⟨rfl,rfl,by omega,rfl,rfl,by omega⟩
   ·simp only[rX,qe,hN,List.cons.injEq,DObj.row.injEq,DC.vec.injEq,and_true,true_and,Nat.add_zero];exact⟨⟨rfl,rfl,by omega,rfl,rfl,by omega⟩,⟨rfl,rfl,by omega,rfl,rfl,by omega⟩,rfl,rfl⟩
end Go.Proofs
namespace Go.Proofs
open Go Go.Ab Tryz
variable {G:LS}
def KX (x:Piece) (lo hi:Int):Piece:=⟨x.holder,x.day,lo,hi⟩
def Ea (c:Case) (k:Nat) (x:Piece) (lo hi:Int):Case:={ c with pieces:=c.pieces.set k (KX x lo hi) }
noncomputable def qu (c:Case) (n lo hi:Int):Int:=if Z9 c n≠0 then Z9 c n else match c.pieces[n.toNat]? with
 | some x=>if U6 lo hi x.lo x.hi=true then 0 else 2
 | none=>2
theorem DX {c:Case} {n lo hi:Int} (h:qu c n lo hi=0):q8 c=0/\∃ (k:Nat) (x:Piece),n=(k:Int)/\c.pieces[k]?=some x/\U6 lo hi x.lo x.hi=true:=by
 unfold qu at h;by_cases h0:Z9 c n=0
 ·rw[if_neg (by simp[h0])] at h;obtain⟨he,hn0,hn1⟩:=rj h0;obtain⟨k,rfl⟩:=Int.eq_ofNat_of_zero_le hn0;rw[Int.toNat_natCast] at h;cases hx:c.pieces[k]? with
  | none=>rw[hx] at h;simp at h
  | some x =>
    rw[hx] at h;simp only at h;by_cases hi':U6 lo hi x.lo x.hi=true
    ·exact⟨he,k,x,rfl,hx,hi'⟩
    ·rw[if_neg hi'] at h;exact absurd h (by decide)
 ·rw[if_pos (by exact h0)] at h;exact absurd h h0
def zo (s:Nat) (m:CW) (c:Case) (lo hi:Int):List DObj:=.row (qe (9+s) m c) :: .row [.im (rI lo),.im (rI hi)] :: .vec 0 [] 0 true :: .vec 0 [] 0 true :: .vec 0 [] 0 true :: .vec 0 [] 0 true :: .vec 0 [] 0 true :: .vec 0 [] 0 true :: .row (qe (9+s) m c) :: rX (9+s) m c
theorem GF {l:List Piece} {k:Nat} {x:Piece} (lo hi:Int) (h:l[k]?=some x):(l5 (l.map w9)).set k [.im (.raw (.int .i64 x.holder)),.im (.raw (.int .i64 x.day)),.im (.raw (.int .i64 lo)),.im (.raw (.int .i64 hi))]=l5 ((l.set k (KX x lo hi)).map w9):=by
 rw[List.map_set];unfold l5;rw[List.map_set];rfl
@[simp] abbrev QG:List Nat:=[0,1,2,3,5,6,7,8,12,41]
theorem Co (c:Case) (k:Nat) (x:Piece) (lo hi:Int) (hx0:c.pieces[k]?=some x) (h0:q8 c=0) (hin:U6 lo hi x.lo x.hi=true) (hG:o4 G) (hN:E2 G) (hS:u5 G) (hR:w0 G) (hk:KC c):DCall prog G 27 [l7 c,iv (k:Int),E1 lo hi] [] (λd o=>∃ m:CW,True/\d=.tup [.agg (qe 9 m (Ea c k x lo hi)),iv 0]/\o=zo 0 m (Ea c k x lo hi) lo hi):=by
 generalize hQ:(λ(d:DV) (o:List DObj)=>∃ m:CW,True/\d=.tup [.agg (qe 9 m (Ea c k x lo hi)),iv 0]/\o=zo 0 m (Ea c k x lo hi) lo hi)=Q;refine h9 func27 rfl ntmps27 (by simp) rfl ?_;have hlt:k<c.pieces.length:=e7 hx0;have hx:c.pieces[k]=x:=(List.getElem?_eq_some_iff.1 hx0).2;have hq16:=hk.q;have c1:=iS (G:=G) c hG hN hS hR hk;rw[h0] at c1;have c2:=O4 (G:=G) 0 ((c.pieces.length:Int)-1) [(k:Int)] (by simp);rw[show ([(k:Int)].all λy=>decide (0<=y)&&decide (y<=(c.pieces.length:Int)-1))=true by simp;omega] at c2;have c3:=bY (G:=G) lo hi x.lo x.hi;rw[hin] at c3;have hw:IntKind.i64.wrap ((c.pieces.length:Int)-1)=(c.pieces.length:Int)-1:=n4 (by omega) (by omega);have c4:=yv (G:=G) c hk;simp only[l7,j0,E1] at c1 c3 c4 ⊢;have hs:=za hx (za hlt hw);repeat' first|(with_reducible first|refine zz ?_|refine zr ?_)|simp -dsimp[hs]|refine zp c1 ?_|refine zq c2 ?_|refine zq c3 ?_|refine CallE.embed_ex [] c4 ?_ ?_ ?_ ?_ ?_ ?_;(focus simp[v6];done);(focus simp;done);(focus simp;done);(focus simp;done);(focus refine o5 ?_;simp[v6,r7];done);intro mmA hmmA;(try simp only[tN,rR,ku,Ad,FY,Nat.zero_add]);try simp -dsimp[qe,rX]|refine zM 4 52 27 QG ?_|with_reducible refine zE QG ?_|refine i8 ?_ ?_<;>intro h<;>try exact h.elim
 subst hQ;have hst:=GF lo hi hx0;refine⟨mmA,trivial,?_,?_⟩
 ·simp[qe,Ea]
 ·simp[zo,rX,qe,Ea,hst]
def lh:Case:=⟨⟨⟨[],[]⟩,[],[]⟩,0,0,⟨[],0,0⟩,[]⟩
noncomputable def GH (c:Case) (n lo hi:Int):Case:=if qu c n lo hi=0 then (match c.pieces[n.toNat]? with|some x=>Ea c n.toNat x lo hi|none=>lh) else lh
theorem DW {c:Case} {k:Nat} {x:Piece} {lo hi:Int} (h:qu c (k:Int) lo hi=0) (hx:c.pieces[k]?=some x):GH c (k:Int) lo hi=Ea c k x lo hi:=by
 unfold GH;rw[if_pos h,Int.toNat_natCast,hx]
theorem GG {c:Case} {n lo hi:Int} (h:¬ qu c n lo hi=0):GH c n lo hi=lh:=by
 unfold GH;rw[if_neg h]
theorem GI {c:Case} {k:Nat} {x:Piece} (lo hi:Int) (h0:q8 c=0) (hx:c.pieces[k]?=some x):qu c (k:Int) lo hi=if U6 lo hi x.lo x.hi=true then 0 else 2:=by
 have hlt:=e7 hx;have h1:Z9 c (k:Int)=0:=by unfold Z9;rw[if_neg (by simp[h0]),if_pos (by omega)]
 unfold qu;rw[if_neg (by simp[h1]),Int.toNat_natCast,hx]
theorem DY {c:Case} {n:Int} (lo hi:Int) (h0:q8 c=0) (hn:¬ (0<=n/\n<c.pieces.length)):qu c n lo hi=2:=by
 have h1:Z9 c n=2:=by unfold Z9;rw[if_neg (by simp[h0]),if_neg hn]
 unfold qu;rw[if_pos (by rw[h1];decide),h1]
theorem DZ {c:Case} (n lo hi:Int) (h0:¬ q8 c=0):qu c n lo hi=q8 c:=by
 have h1:Z9 c n=q8 c:=by unfold Z9;rw[if_pos h0]
 unfold qu;rw[if_pos (by rw[h1];exact h0),h1]
theorem Cp (c:Case) (n lo hi:Int) (h:¬ qu c n lo hi=0) (hG:o4 G) (hN:E2 G) (hS:u5 G) (hR:w0 G) (hk:KC c):zP prog G 27 [l7 c,iv n,E1 lo hi] (.tup [l7 lh,iv (qu c n lo hi)]):=by
 refine zf func27 ntmps27 ?_;try simp only[iv,E1]
 have c1:=iS (G:=G) c hG hN hS hR hk;have hq16:=hk.q;simp only[l7,j0,E1] at c1 ⊢;by_cases h0:q8 c=0
 ·rw[h0] at c1;have hw:IntKind.i64.wrap ((c.pieces.length:Int)-1)=(c.pieces.length:Int)-1:=n4 (by omega) (by omega);have c2:=O4 (G:=G) 0 ((c.pieces.length:Int)-1) [n] (by simp);by_cases hn:0<=n/\n<c.pieces.length
  ·obtain⟨k,rfl⟩:=Int.eq_ofNat_of_zero_le hn.1;have hlt:k<c.pieces.length:=by omega
   have hx0:c.pieces[k]?=some c.pieces[k]:=by simp[hlt]
   have hE:=GI lo hi h0 hx0;generalize hx:c.pieces[k]=x at *;have c3:=bY (G:=G) lo hi x.lo x.hi;rw[show ([(k:Int)].all λy=>decide (0<=y)&&decide (y<=(c.pieces.length:Int)-1))=true by simp;omega] at c2;have hin:U6 lo hi x.lo x.hi=false:=by
    cases hb:U6 lo hi x.lo x.hi
    ·rfl
    ·rw[hb,if_pos rfl] at hE;exact absurd hE h
   rw[hin,if_neg (by decide)] at hE;rw[hin] at c3;rw[hE];simp only[E1] at c3;have hs:=za hx (za hlt hw);repeat' first|(with_reducible first|refine zz ?_|refine zr ?_)|simp -dsimp[hs]|refine zp c1 ?_|refine zq c2 ?_|refine zq c3 ?_|refine zM 4 52 27 QG ?_|with_reducible refine zE QG ?_|refine i8 ?_ ?_<;>intro h<;>try exact h.elim
   all_goals simp[lh]
  ·have hE:=DY lo hi h0 hn;rw[show ([n].all λy=>decide (0<=y)&&decide (y<=(c.pieces.length:Int)-1))=false by simp;omega] at c2;rw[hE];have hs:=hw;repeat' first|(with_reducible first|refine zz ?_|refine zr ?_)|simp -dsimp[hs]|refine zp c1 ?_|refine zq c2 ?_|refine zM 4 52 27 QG ?_|with_reducible refine zE QG ?_|refine i8 ?_ ?_<;>intro h<;>try exact h.elim
   all_goals simp[lh]
 ·have hE:=DZ n lo hi h0;rw[hE];have hs:=h0;repeat' first|(with_reducible first|refine zz ?_|refine zr ?_|refine zE QG ?_)|simp -dsimp[hs]|refine zp c1 ?_|refine i8 ?_ ?_<;>intro h<;>try exact h.elim
  all_goals simp[lh]
end Go.Proofs
namespace Go.Ab
open Go
theorem Bw {i n:Nat} (h:i<n) (F:Nat->Q4) (R:List DObj):(G2 F n++R)[4*i+1]?=some (F i).2.1:=by
 rw[List.getElem?_append_left (by simp;omega),jt F (by omega) h];rfl
theorem Bv {i n:Nat} (h:i<n) (F:Nat->Q4) (R:List DObj):(G2 F n++R)[4*i+3]?=some (F i).2.2.2:=by
 rw[List.getElem?_append_left (by simp;omega),jt F (by omega) h];rfl
theorem Bx {i n:Nat} (h:i<n) (F:Nat->Q2) (R:List DObj):(J6 F n++R)[2*i+1]?=some (F i).2:=by
 rw[List.getElem?_append_left (by simp;omega),oG F (by omega) h];rfl
theorem pE {α β:Type} {f:α->Option β}:∀ {l:List α} {r:List β},l.length=r.length->(∀ (i:Nat) (x:α),l[i]?=some x->f x=r[i]?)->F1 f l=some r
 | [],[],_,_=>rfl
 | [],_ :: _,h,_=>by simp at h
 | _ :: _,[],h,_=>by simp at h
 | x :: l,y :: r,h,h2=>by
   have h0:=h2 0 x rfl;have h1:=pE (f:=f) (l:=l) (r:=r) (by simpa using h) (λi z hz=>by simpa using h2 (i+1) z (by simpa using hz));simp only[List.getElem?_cons_zero] at h0;simp only[F1,h0,h1]
theorem ir {k o g len sz:Nat} {nl:Bool} {objs:List DObj} {es:List (List DC)} {L:List (List IC)} (ho:objs[o]?=some (.vec sz es g nl)) (hl:es.length=len) (h:F1 (F1 (frz k 0 objs)) es=some L):frz (k+1) 0 objs (.vec o g 0 len)=some (.sl L):=by
 subst hl;simp only[frz,ho,Nat.zero_le,if_true,Nat.zero_add,Nat.le_refl,and_self,List.drop_zero,List.take_length,h,Option.map_some]
theorem eT {o g len sz:Nat} {nl:Bool} {objs:List DObj} {es:List (List DC)} {L:List (List IC)} (ho:objs[o]?=some (.vec sz es g nl)) (hl:es.length=len) (h:F1 (F1 (frz 19 0 objs)) es=some L):fz 0 objs (.vec o g 0 len)=.im (.sl L):=by
 simp only[fz,DC.lt,ir ho hl h];simp
theorem He {s:Nat} {m:CW} {c:Case} {objs:List DObj} (h1:objs[9+s]?=some (.vec 5 (bX (uC s) m.2.1 c.p.n.reg.length c.p.n.reg) m.1.1.1 m.1.1.2)) (h2:objs[11+s]?=some (.vec 10 (l5 (c.p.n.notes.map l6)) m.1.2.1 m.1.2.2))
 (h3:objs[4*c.p.n.reg.length+(13+s)]?=some (.vec 4 (cb (uD c.p.n.reg.length s) m.2.2.2.1 c.p.holders.length c.p.holders) m.2.2.1.1.1 m.2.2.1.1.2)) (h4:objs[4*c.p.n.reg.length+(15+s)]?=some (.vec 7 (l5 (c.p.prints.map A4)) m.2.2.1.2.1 m.2.2.1.2.2))
 (h5:objs[4*c.p.n.reg.length+2*c.p.holders.length+(17+s)]?=some (.vec 3 (l5 (c.loop.links.map H0)) m.2.2.2.2.1.1 m.2.2.2.2.1.2)) (h6:objs[4*c.p.n.reg.length+2*c.p.holders.length+(19+s)]?=some (.vec 4 (l5 (c.pieces.map w9)) m.2.2.2.2.2.1 m.2.2.2.2.2.2))
 (hA:∀ (k:Nat) (x:Issue),c.p.n.reg[k]?=some x->objs[4*k+(13+s)]?=some (.vec 2 (l5 (x.items.map B1)) (m.2.1 k).1.1 (m.2.1 k).1.2)/\objs[4*k+(15+s)]?=some (.vec 3 (l5 (x.dims.map F2)) (m.2.1 k).2.1 (m.2.1 k).2.2))
 (hB:∀ (k:Nat) (x:Holder),c.p.holders[k]?=some x->objs[4*c.p.n.reg.length+2*k+(17+s)]?=some (.vec 1 (l5 (x.draws.map Ab.encI)) (m.2.2.2.1 k).1 (m.2.2.2.1 k).2)):(qe s m c).map (fz 0 objs)=(j0 c).map .im:=by
 have e1:F1 (F1 (frz 19 0 objs)) (bX (uC s) m.2.1 c.p.n.reg.length c.p.n.reg)=some (c.p.n.reg.map e9):=by
  refine pE (by simp) λi r hr=>?_;simp only[bX,List.getElem?_mapIdx,Option.map_eq_some_iff] at hr;obtain⟨x,hx,rfl⟩:=hr;rw[List.getElem?_map,hx];obtain⟨a1,a2⟩:=hA i x hx;have b1:=ir (k:=18) (len:=x.items.length) a1 (by simp[l5]) (T0 _ _ _ _);have b2:=ir (k:=18) (len:=x.dims.length) a2 (by simp[l5]) (T0 _ _ _ _);have hlt:=e7 hx;have f1:∀ c:IC,frz 19 0 objs (.im c)=some c:=λ_=>rfl;simp only[tY,if_pos hlt,F1,f1,uC,b1,b2,Option.map_some,e9]
 have e2:F1 (F1 (frz 19 0 objs)) (cb (uD c.p.n.reg.length s) m.2.2.2.1 c.p.holders.length c.p.holders)=some (c.p.holders.map o7):=by
  refine pE (by simp) λi r hr=>?_;simp only[cb,List.getElem?_mapIdx,Option.map_eq_some_iff] at hr;obtain⟨x,hx,rfl⟩:=hr;rw[List.getElem?_map,hx];have b1:=ir (k:=18) (len:=x.draws.length) (hB i x hx) (by simp[l5]) (T0 _ _ _ _);have hlt:=e7 hx;have f1:∀ c:IC,frz 19 0 objs (.im c)=some c:=λ_=>rfl;simp only[ud,if_pos hlt,F1,f1,uD,b1,Option.map_some,o7]
 simp only[qe,List.map_cons,List.map_nil,j0];rw[eT h1 (by simp) e1,eT h2 (by simp[l5]) (T0 _ _ _ _),eT h3 (by simp) e2,eT h4 (by simp[l5]) (T0 _ _ _ _),eT h5 (by simp[l5]) (T0 _ _ _ _),eT h6 (by simp[l5]) (T0 _ _ _ _)];rfl
end Go.Ab
namespace Go.Proofs
open Go Go.Ab Tryz
variable {G:LS}
attribute [simp] s6 du O6 jy w5 B6 nilV K9 ZK
theorem pI (c:Case) (s:Susp) (w:Int) (h1:0<=s.kind/\s.kind<=255) (hG:o4 G) (hN:E2 G) (hS:u5 G) (hR:w0 G) (hC:J2 G) (hK:cH G) (hk:KC c):zP prog G 30 [l7 c,E0 s,sY w] (bv (decide (mq c s=0)&&decide (mo c s=w))):=by
 refine zf func30 ntmps30 ?_;try simp only[sY]
 have c1:=Cs (G:=G) c s h1 hG hN hS hR hC hK hk;generalize mo c s=A at *;generalize mq c s=B at *;simp only[l7,j0,E0,j4,rI,List.map_cons,List.map_nil] at c1 ⊢;have hs:=trivial;repeat' first|(with_reducible first|refine zz ?_|refine zr ?_|refine zE [0,1,2,3,4,6,7,8] ?_)|simp -dsimp[hs]|refine zp c1 ?_|with_reducible refine j5 ?_ ?_<;>intro h<;>have h0:=h<;>(try simp only[i7] at h)<;>have h2:=h<;>(try simp at h2)<;>replace hs:=za h0 (za h (za h2 hs))
 all_goals simp
theorem EA (m:CW) (c:Case) (lo hi:Int):(qe 9 m c).map (fz 0 (zo 0 m c lo hi))=(j0 c).map .im:=by
 refine He (s:=9) (m:=m) (c:=c) ?_ ?_ ?_ ?_ ?_ ?_ ?_ ?_
 ·simp[zo,rX]
 ·simp[zo,rX]
 ·simp[zo,rX]
 ·simp[zo,rX]
 ·simp[zo,rX]
 ·simp[zo,rX]
 ·intro k x hx;have hlt:=e7 hx;have a1:=Bw hlt;have a3:=Bv hlt;simp[zo,rX,a1,a3,kB,hx]
 ·intro k x hx;have hlt:=e7 hx;have a1:=Bx hlt;simp[zo,rX,a1,mw,hx]
theorem Cq (c:Case) (n lo hi:Int) (hG:o4 G) (hN:E2 G) (hS:u5 G) (hR:w0 G) (hk:KC c) (objs:List DObj):DCall prog G 27 [l7 c,iv n,E1 lo hi] objs (λd objs'=>d=.tup [l7 (GH c n lo hi),iv (qu c n lo hi)]/\objs'=objs):=by
 by_cases h:qu c n lo hi=0
 ·obtain⟨he,k,x,rfl,hx0,hin⟩:=DX h;rw[DW h hx0,h];refine DCall.frame ?_ (by simp) (by simp) objs;refine(Co (G:=G) c k x lo hi hx0 he hin hG hN hS hR hk).mono ?_;rintro d o ⟨m,_,rfl,rfl⟩;have:=EA m (Ea c k x lo hi) lo hi;simp only[fZ,fzVL,this];rfl
 ·rw[GG h];exact Cp (G:=G) c n lo hi h hG hN hS hR hk objs
theorem yq:km boltP:=by
 refine⟨?_,?_⟩
 ·exact⟨by decide,by decide⟩
 ·intro x hx;simp only[boltP,List.mem_cons,List.not_mem_nil,or_false] at hx;rcases hx with rfl|rfl|rfl|rfl<;>exact⟨by decide,by decide⟩
theorem uK:cz boltC=true:=by decide +kernel
theorem uL:v7 boltP.n=0:=by decide +kernel
theorem yp:nums boltP.n.reg=[1,2,3]:=by decide +kernel
theorem ss:PrintsOk boltP:=by
 refine⟨by decide,by decide,λi x hx=>?_,λi x hx=>?_⟩
 ·rw[yp];have h:=List.getElem?_eq_some_iff.1 hx;obtain⟨h1,h2⟩:=h;have h1':i<2:=h1;rcases i with _|_|i
  ·cases hx;refine⟨by unfold JY;simp,λk d hd=>?_⟩;rcases k with _|_|k
   ·cases hd;exact⟨by decide,by simp⟩
   ·cases hd;exact⟨by decide,λ_ e he=>by cases he;decide⟩
   ·exact absurd hd (by simp)
  ·cases hx;refine⟨?_,λk d hd=>?_⟩
   ·refine⟨by decide,λ_ y hy=>?_,by decide,by decide,by decide,by decide⟩;cases hy;decide
   ·rcases k with _|k
    ·cases hd;exact⟨by decide,by simp⟩
    ·exact absurd hd (by simp)
  ·omega
 ·obtain⟨h1,h2⟩:=List.getElem?_eq_some_iff.1 hx;have h1':i<4:=h1;rcases i with _|_|_|_|i
  ·cases hx;exact⟨by simp,λc hc=>by rcases c with _|_|_|_|_|c<;>first|decide +kernel|omega⟩
  ·cases hx;exact⟨λ_ y hy=>by cases hy;decide,λc hc=>by rcases c with _|_|_|_|_|c<;>first|decide +kernel|omega⟩
  ·cases hx;exact⟨λ_ y hy=>by cases hy;decide,λc hc=>by rcases c with _|_|_|_|_|c<;>first|decide +kernel|omega⟩
  ·cases hx;exact⟨λ_ y hy=>by cases hy;decide,λc hc=>by rcases c with _|_|_|_|_|c<;>first|decide +kernel|omega⟩
  ·omega
theorem iQ:u4 boltP=0:=by
 unfold u4;rw[if_neg (by rw[uL];decide),if_pos (dO ss)]
theorem W0:q8 boltC=0:=by
 unfold q8;rw[if_neg (by rw[show boltC.p=boltP from rfl,iQ];decide),if_pos (by decide +kernel)]
theorem bolt_k:uV boltC/\KC boltC:=CT yq uK
theorem sr:bJ boltC=(15,17):=by
 unfold bJ;rw[if_pos W0];decide +kernel
theorem oY:da boltC=0:=by
 unfold da;rw[if_pos W0,sr];decide +kernel
theorem N5:J4 boltC=0:=by
 unfold J4;rw[if_neg (by rw[W0];decide),if_neg (by rw[oY];decide)]
theorem mM (d i w:Int) (hd:uA d 1=true) (h:(boltP.holders.any λy=>decide (y.id=i))=true/\w∈nums boltP.n.reg):O1 boltP d 1 i w=0:=by
 unfold O1 J3;rw[if_neg,if_pos h];rw[if_neg (by rw[iQ];decide),if_pos hd];decide
theorem vN {l r:List Int} (hp:l.Perm r) (hs:r.Pairwise (·<=·)):j8 l=r:=
 List.Perm.eq_of_pairwise (λa b _ _ h1 h2=>by omega) (pM l) hs (((List.mergeSort_perm l _)).trans hp)
theorem mL:C7 boltC 0=[1,2]:=by
 show P5 boltP 20 2 2=_;unfold P5;rw[if_pos (mM 20 2 2 (by decide) (by decide +kernel))];unfold bl;have e:j8 (aq 20 2 2 boltP.prints++[bI 20 2 2 boltP.prints])=[1,2]:=vN (by decide +kernel) (by decide +kernel);rw[e];decide +kernel
theorem mK:C7 boltC 1=[1]:=by
 show P5 boltP 20 1 3=_;unfold P5;rw[if_pos (mM 20 1 3 (by decide) (by decide +kernel))];unfold bl;have e:j8 (aq 20 1 3 boltP.prints++[bI 20 1 3 boltP.prints])=[1]:=vN (by decide +kernel) (by decide +kernel);rw[e];decide +kernel
theorem oX:j8 (j7 boltP.n.notes)=[]:=by decide +kernel
theorem EY:nm boltC []=false:=by decide +kernel
theorem Fa:jr boltC [] 0=[(true,false),(false,true)]:=by
 show (C7 boltC 0).foldl (H5 boltC ⟨2,0,false⟩ ⟨2,20,106,107⟩ (Y6 boltC [] 2)) []=_;rw[mL];decide +kernel
theorem EZ:jr boltC [] 1=[(false,false)]:=by
 show (C7 boltC 1).foldl (H5 boltC ⟨3,0,true⟩ ⟨1,20,90,91⟩ (Y6 boltC [] 3)) []=_;rw[mK];decide +kernel
def iR:Desk:=⟨boltC,false,[[(true,false),(false,true)],[(false,false)]]⟩
theorem oZ:A7 boltC []=iR:=by
 unfold A7 iR;rw[EY,show (List.range boltC.pieces.length).map (jr boltC [])=[jr boltC [] 0,jr boltC [] 1] from rfl,Fa,EZ]
theorem aO:n8 boltC=[iR]:=by
 unfold n8;rw[show boltC.p=boltP from rfl,oX,show H9 ([]:List Int)=[[]] by decide +kernel];simp[oZ]
theorem bolt_sus:dq boltC 2=[]/\dq boltC 1=[⟨2,0⟩,⟨3,0⟩]:=by
 unfold dq FP Ej;rw[if_pos N5,if_pos N5,aO];decide +kernel
theorem Ce:qm boltC=[⟨2,0⟩,⟨3,0⟩]:=by
 unfold qm Cz;rw[if_pos N5,aO];decide +kernel
theorem Cc:pS boltC=[⟨2,0⟩]:=by
 unfold pS;rw[if_pos N5,aO];decide +kernel
theorem Cd:jD boltC=(1,1):=by
 unfold jD;rw[if_pos N5,aO];decide +kernel
theorem eA (k:Nat) (h:k<2):Z9 boltC k=0/\kA boltC k=C7 boltC k:=by
 have e:Z9 boltC k=0:=by
  unfold Z9;rw[if_neg (by rw[W0];decide),if_pos ⟨by omega,by show (k:Int)<((2:Nat):Int);omega⟩]
 exact⟨e,by unfold kA;rw[if_pos e];rfl⟩
theorem bolt_clr:nC boltC 1=0/\qh boltC 1=(90,91):=by
 have e0:=(eA 1 (by decide)).1;have e:mJ boltC 1=(90,91):=by
  show (kA boltC ((1:Nat):Int)).foldl (K7 boltC ⟨3,0,true⟩) (90,91)=_;rw[(eA 1 (by decide)).2,mK];decide +kernel
 have e1:nC boltC 1=0:=by
  unfold nC;rw[if_neg (by rw[show (1:Int)=((1:Nat):Int) from rfl,e0];decide),e];decide
 exact⟨e1,by unfold qh;rw[if_pos e1,e]⟩
theorem V9 (s:Susp) (h:qv 2 s=true):mq boltC s=0/\mo boltC s=C1 [iR] s:=by
 have e:mq boltC s=0:=by
  unfold mq;rw[if_neg (by rw[N5];decide),if_pos (show qv boltC.pieces.length s=true from h)]
 exact⟨e,by unfold mo;rw[if_pos e,aO]⟩
theorem sv (s:Susp) (h:qv 2 s=true):gX boltC [] s=0/\fk boltC [] s=C1 [iR] s:=by
 have e:gX boltC [] s=0:=by
  unfold gX;rw[if_neg (by rw[N5];decide),if_neg (by rw[show boltC.p=boltP from rfl,oX];decide),if_pos (show qv boltC.pieces.length s=true from h)]
 exact⟨e,by unfold fk;rw[if_pos e,oZ]⟩
def FK:Case:={ boltC with pieces:=[⟨2,20,107,107⟩,⟨1,20,90,91⟩] }
theorem bolt_ms:qu boltC 0 107 107=0/\GH boltC 0 107 107=FK:=by
 have e0:=(eA 0 (by decide)).1;have e1:qu boltC 0 107 107=0:=by
  unfold qu;rw[if_neg (by rw[show (0:Int)=((0:Nat):Int) from rfl,e0];decide)];rfl
 exact⟨e1,by unfold GH;rw[if_pos e1];rfl⟩
@[simp] abbrev WU:List Nat:=[0,1,2,3,4,5,6,7,8,9,10,11,12,13,14,15,16,17,18,19,20,21,22,148]
set_option maxRecDepth 10000 in
theorem Fe (hG:o4 G) (hN:E2 G) (hS:u5 G) (hU:W9 G) (hR:w0 G) (hC:J2 G) (hK:cH G) (hF:kD G):zP prog G 8 [] (bv true):=by
 refine zf func8 ntmps8 ?_;try simp only[iv]
 have hk:=bolt_k.2;have c0:=HD (G:=G);have c1:=Cn (G:=G) boltC hG hN hS hR hk;have c2:=wd (G:=G) boltC hG hN hS hR hk;have c3:=mQ (G:=G) boltC 0 hG hN hS hR hk;have c4:=ki (G:=G) boltC hG hN hS hU hR hC hK hk;have c5:=Cu (G:=G) boltC hG hN hS hU hR hC hF hk;have c6:=yu (G:=G) boltC hG hN hS hU hR hC hF hk;have c7:=sA (G:=G) boltC hG hN hS hU hR hC hF hk;have c8:=Ct (G:=G) boltC 1 hG hN hS hR hk;have c9:=Cq (G:=G) boltC 0 107 107 hG hN hS hR hk;have c10:=Cr (G:=G) boltC [] ⟨2,0⟩ (by decide) (by decide) hG hN hS hR hC hK hk;rw[sr,W0] at c1;rw[oY,W0] at c2;rw[show (0:Int)=((0:Nat):Int) from rfl,(eA 0 (by decide)).1,(eA 0 (by decide)).2,mL] at c3;rw[bolt_sus.1,bolt_sus.2,N5] at c4;rw[Ce,N5] at c5;rw[Cc,N5] at c6;rw[Cd,N5] at c7;rw[bolt_clr.1,bolt_clr.2] at c8;rw[bolt_ms.1,bolt_ms.2] at c9;rw[(sv ⟨2,0⟩ (by decide)).1,(sv ⟨2,0⟩ (by decide)).2,show C1 [iR] ⟨2,0⟩=1 by decide] at c10;have d1:=pI (G:=G) boltC ⟨1,0⟩ 0 (by decide) hG hN hS hR hC hK hk;have d2:=pI (G:=G) boltC ⟨3,0⟩ 1 (by decide) hG hN hS hR hC hK hk;have d3:=pI (G:=G) boltC ⟨2,1⟩ 0 (by decide) hG hN hS hR hC hK hk;rw[(V9 ⟨1,0⟩ (by decide)).1,(V9 ⟨1,0⟩ (by decide)).2,show C1 [iR] ⟨1,0⟩=0 by decide] at d1;rw[(V9 ⟨3,0⟩ (by decide)).1,(V9 ⟨3,0⟩ (by decide)).2,show C1 [iR] ⟨3,0⟩=1 by decide] at d2;rw[(V9 ⟨2,1⟩ (by decide)).1,(V9 ⟨2,1⟩ (by decide)).2,show C1 [iR] ⟨2,1⟩=0 by decide] at d3;simp only[decide_true,Bool.and_self] at d1 d2 d3;have s0:=zI (G:=G);have s1:=pm (G:=G) 0;have s2:=pm (G:=G) 1;have s3:=td (G:=G) 0;have p1:=fJ (G:=G) 15 17;have p2:=fJ (G:=G) 90 91;have p3:=fJ (G:=G) 107 107;have p4:=fJ (G:=G) 1 1;have q1:=tp (G:=G) [1,2] [1,2] (by simp);simp only[decide_true] at q1;have q2:=nU (G:=G) [⟨2,0⟩,⟨3,0⟩] (by simp);have q3:=nU (G:=G) [⟨2,0⟩] (by simp);simp only[l7,E0,j4,C0,E1,sY,r5,Ab.encI,rI,List.map_cons,List.map_nil,Int.natCast_zero] at *;obtain⟨m1,m2,m3,m4,m5,m6,m7,m8,m9,hM⟩:∃ m1 m2 m3 m4 m5 m6 m7 m8 m9,(j0 FK).map DC.im=[.im m1,.im m2,.im m3,.im m4,.im m5,.im m6,.im m7,.im m8,.im m9,.im (.sl ([⟨2,20,107,107⟩,⟨1,20,90,91⟩].map w9))]:=⟨_,_,_,_,_,_,_,_,_,rfl⟩
 rw[hM] at c9;obtain⟨X,hX⟩:∃ X,j0 boltC=X:=⟨_,rfl⟩
 have hXf:∃ a b c d e f g h i j,X=[a,b,c,d,e,f,g,h,i,j]:=⟨_,_,_,_,_,_,_,_,_,_,hX.symm⟩
 obtain⟨x1,x2,x3,x4,x5,x6,x7,x8,x9,x10,rfl⟩:=hXf;rw[hX] at c0 c1 c2 c3 c4 c5 c6 c7 c8 c9 c10 d1 d2 d3;simp only[w9,rI,List.map_cons,List.map_nil] at *;repeat' first|(with_reducible first|refine zz ?_|refine zx ?_)|simp -dsimp|refine zp c0 ?_|refine zp c1 ?_|refine zp c2 ?_|refine zp c3 ?_|refine zp c4 ?_|refine zp c5 ?_|refine zp c6 ?_|refine zp c7 ?_|refine zp c8 ?_|refine zp c9 ?_|refine zp c10 ?_|refine zp s1 ?_|refine zp s3 ?_|refine zp p3 ?_|refine zq q1 ?_|refine zq d1 ?_|refine zq d2 ?_|refine zq d3 ?_|refine zq p1 ?_|refine zq p2 ?_|refine zq p3 ?_|refine zq p4 ?_|refine zq s0 ?_|refine zq s2 ?_|refine zq s3 ?_|refine zq c0 ?_|refine QCall.thaw (q2) ?_ ?_ ?_;(focus simp;done);(focus simp;done)|refine QCall.thaw (q3) ?_ ?_ ?_;(focus simp;done);(focus simp;done)|refine zM 12 198 70 WU ?_|refine zM 14 198 50 WU ?_|with_reducible refine zE WU ?_|refine i8 ?_ ?_<;>intro h<;>try exact h.elim
end Go.Proofs
namespace Go.Proofs
open Go Go.Ab
def bN (b:Bool):Nat:=if b=true then 1 else 0
def de (f:E3):Nat:=bN f.1+bN f.2
theorem pa {L:List E3} {f:E3} (h:f∈L):de (R1 L)<=de f:=by
 have h1:=jI L f h;generalize R1 L=g at *;obtain⟨a,b⟩:=f;obtain⟨x,y⟩:=g;revert h1;cases a<;>cases b<;>cases x<;>cases y<;>decide
theorem xc {L:List E3} {f:E3} (h:f∈L):(de f:Int)<=bV L:=by
 unfold bV;obtain⟨a,b⟩:=f;cases a<;>cases b
 ·have:=dT L;unfold bV at this;exact this.1
 ·split
  ·decide
  ·rw[if_pos (.inr h)];decide
 ·split
  ·decide
  ·rw[if_pos (.inl h)];decide
 ·rw[if_pos h];decide
def dc (f:Nat->E3):Nat->Nat
 | 0=>0
 | n+1=>dc f n+de (f n)
def O2 (b:Bool) (f:Nat->E3) (n:Nat):List Susp:=cZ b (λi=>(f i).1) (λi=>(f i).2) n
theorem vH (b:Bool) (f:Nat->E3):∀ n,(X5 b (λi=>(f i).1) (λi=>(f i).2) n).length=bN b+dc f n
 | 0=>by unfold X5 bN;cases b<;>rfl
 | n+1=>by
   rw[eP,List.length_append,vH b f n,List.length_append,cL,cL];show _=bN b+(dc f n+(bN _+bN _));unfold bN;omega
theorem dH (b:Bool) (f:Nat->E3) (n:Nat):(O2 b f n).length=bN b+dc f n:=by
 rw[O2,(J0 _ _ _ _).length_eq,vH]
theorem gk {f g:Nat->E3}:∀ {n},(∀ i,i<n->de (f i)<=de (g i))->dc f n<=dc g n
 | 0,_=>Nat.le_refl _
 | n+1,h=>Nat.add_le_add (gk λi hi=>h i (Nat.lt_succ_of_lt hi)) (h n (Nat.lt_succ_self n))
theorem rY {f g:Nat->E3}:∀ {n},(∀ i,i<n->de (f i)<=de (g i))->dc f n=dc g n->∀ i,i<n->de (f i)=de (g i)
 | n+1,h,he,i,hi=>by
   have h1:=gk (n:=n) λi hi=>h i (Nat.lt_succ_of_lt hi);have h2:=h n (Nat.lt_succ_self n);simp only[dc] at he;rcases Nat.lt_succ_iff_lt_or_eq.1 hi with h3|rfl
   ·exact rY (λi hi=>h i (Nat.lt_succ_of_lt hi)) (by omega) i h3
   ·omega
def zB (d:Desk) (f:Nat->E3):Prop:=∀ i,i<d.faults.length->f i∈d.faults.getD i []
theorem qF {F:List (List E3)} {f:Nat->E3} (h:∀ i,i<F.length->f i∈F.getD i []):∀ k,k<=F.length->(dc f k:Int)<=dt F k
 | 0,_=>by simp[dc,dt]
 | k+1,hk=>by
   have h1:=qF h k (by omega);have h2:=xc (h k (by omega));rw[iY (by omega)];have h3:F.getD k []=F[k]:=by simp[List.getD,List.getElem?_eq_getElem (show k<F.length by omega)]
   rw[h3] at h2;simp only[dc];omega
theorem zS {d:Desk} {f:Nat->E3} (h:zB d f):((O2 d.notes f d.faults.length).length:Int)<=ba d:=by
 rw[dH];have h1:=qF h d.faults.length (Nat.le_refl _);unfold dt at h1;rw[List.take_length] at h1;unfold ba;have h2:((bN d.notes:Nat):Int)=if d.notes=true then 1 else 0:=by unfold bN;split<;>rfl
 omega
def pb (d:Desk) (i:Nat):E3:=R1 (d.faults.getD i [])
theorem rK (d:Desk):L0 d=O2 d.notes (pb d) d.faults.length:=rfl
theorem xR {d:Desk} {f:Nat->E3} (h:zB d f):(L0 d).length<=(O2 d.notes f d.faults.length).length:=by
 rw[rK,dH,dH];have:=gk (f:=pb d) (g:=f) (n:=d.faults.length) λi hi=>pa (h i hi);omega
theorem selS_mem {b:Bool} {f:Nat->E3} {n:Nat} {s:Susp}:s∈O2 b f n↔(b=true/\s=⟨1,0⟩)\/(∃ i,i<n/\(f i).1=true/\s=Z7 i)\/(∃ i,i<n/\(f i).2=true/\s=aE i):=listS_mem
theorem lM (b:Bool) (f:Nat->E3) (n:Nat):(O2 b f n).Pairwise T8:=Z8 _ _ _ _
theorem pr {d:Desk} {f:Nat->E3} (h:zB d f) {s:Susp} (hs:s∈Y2 d.faults.length):jn d s (decide (s∈O2 d.notes f d.faults.length))=true:=by
 unfold jn;rcases listS_mem.1 hs with⟨_,rfl⟩|⟨i,hi,_,rfl⟩|⟨i,hi,_,rfl⟩
 ·rw[if_pos rfl];have:((⟨1,0⟩:Susp)∈O2 d.notes f d.faults.length)↔d.notes=true:=by
   rw[selS_mem];constructor
   ·rintro (⟨h,_⟩|⟨i,_,_,h⟩|⟨i,_,_,h⟩)
    ·exact h
    ·cases h
    ·cases h
   ·exact λh=>.inl ⟨h,rfl⟩
  cases hd:d.notes
  ·rw[hd] at this;simp[this]
  ·rw[hd] at this;simp[this]
 ·rw[if_neg (by simp[Z7]),if_pos (show (Z7 i).kind=2 from rfl),show (Z7 i).index.toNat=i from rfl];have:(Z7 i∈O2 d.notes f d.faults.length)↔(f i).1=true:=by
   rw[selS_mem];constructor
   ·rintro (⟨_,h⟩|⟨j,_,h1,h⟩|⟨j,_,_,h⟩)
    ·cases h
    ·have:i=j:=by simp only[Z7,Susp.mk.injEq,true_and] at h;omega
     subst this;exact h1
    ·cases h
   ·exact λh=>.inr (.inl ⟨i,hi,h,rfl⟩)
  rw[List.any_eq_true];refine⟨f i,h i hi,?_⟩;cases hd:(f i).1<;>simp[this,hd]
 ·rw[if_neg (by simp[aE]),if_neg (by simp[aE]),show (aE i).index.toNat=i from rfl];have:(aE i∈O2 d.notes f d.faults.length)↔(f i).2=true:=by
   rw[selS_mem];constructor
   ·rintro (⟨_,h⟩|⟨j,_,h1,h⟩|⟨j,_,h1,h⟩)
    ·cases h
    ·cases h
    ·have:i=j:=by simp only[aE,Susp.mk.injEq,true_and] at h;omega
     subst this;exact h1
   ·exact λh=>.inr (.inr ⟨i,hi,h,rfl⟩)
  rw[List.any_eq_true];refine⟨f i,h i hi,?_⟩;cases hd:(f i).2<;>simp[this,hd]
theorem gH {b:Bool} {f:Nat->E3} {n:Nat} {s:Susp} (h:s∈O2 b f n):s∈Y2 n:=by
 rcases selS_mem.1 h with⟨_,rfl⟩|⟨i,hi,_,rfl⟩|⟨i,hi,_,rfl⟩
 ·exact listS_mem.2 (.inl ⟨rfl,rfl⟩)
 ·exact listS_mem.2 (.inr (.inl ⟨i,hi,rfl,rfl⟩))
 ·exact listS_mem.2 (.inr (.inr ⟨i,hi,rfl,rfl⟩))
theorem AU {D:List Desk} {s:Susp} (h:C1 D s=0):∀ d∈D,jn d s true=false:=by
 intro d hd;unfold C1 at h;split at h
 ·rename_i h1;rw[List.any_eq_false] at h1;simpa using h1 d hd
 ·split at h<;>exact absurd h (by decide)
theorem ow {D:List Desk} {s:Susp} (h:C1 D s=2):∀ d∈D,jn d s false=false:=by
 intro d hd;unfold C1 at h;split at h
 ·exact absurd h (by decide)
 ·split at h
  ·rename_i h1;rw[List.any_eq_false] at h1;simpa using h1 d hd
  ·exact absurd h (by decide)
theorem xr {D:List Desk} {s:Susp} {d:Desk} (hd:d∈D) (h:jn d s true=true):C1 D s≠0:=λe=>by
 have:=AU e d hd;rw[h] at this;exact absurd this (by decide)
theorem rm (D:List Desk) (s:Susp):C1 D s=0\/C1 D s=1\/C1 D s=2:=by
 unfold C1;split<;>(try split)<;>simp
theorem zR {D:List Desk} {d:Desk} (hd:d∈D) {f:Nat->E3} (h:zB d f) {s:Susp} (hs:s∈Y2 d.faults.length) (hk:C1 D s=2):s∈O2 d.notes f d.faults.length:=by
 have h1:=pr h hs;have h2:=ow hk d hd;by_cases hin:s∈O2 d.notes f d.faults.length
 ·exact hin
 ·rw[decide_eq_false hin] at h1;rw[h1] at h2;exact absurd h2 (by decide)
theorem nR {D:List Desk} {d:Desk} (hd:d∈D) {f:Nat->E3} (h:zB d f) {s:Susp} (hs:s∈O2 d.notes f d.faults.length):C1 D s≠0:=by
 have h1:=pr h (gH hs);rw[decide_eq_true hs] at h1;exact xr hd h1
theorem nZ (a b:Susp):M8 a b=-(M8 b a):=by
 unfold M8 V2 V2 V2;repeat' split
 all_goals omega
theorem DH {a b c:Susp} (h1:M8 a b<=0) (h2:M8 b c<=0):M8 a c<=0/\(M8 a c=0->M8 a b=0/\M8 b c=0):=by
 unfold M8 V2 V2 V2 at *;repeat' split at h1
 all_goals repeat' split at h2
 all_goals repeat' split
 all_goals omega
theorem mH:∀ a b:List Susp,I4 a b=-(I4 b a)
 | [],[]=>rfl
 | [],_ :: _=>rfl
 | _ :: _,[]=>rfl
 | a :: x,b :: y=>by
   have h1:=nZ a b;simp only[I4];by_cases h:M8 a b=0
   ·have h':M8 b a=0:=by omega
    rw[if_neg (by simp[h]),if_neg (by simp[h'])];exact mH x y
   ·have h':¬ M8 b a=0:=by omega
    rw[if_pos h,if_pos h'];exact h1
theorem sd:∀ {a b c:List Susp},I4 a b<=0->I4 b c<=0->I4 a c<=0
 | [],_,[],_,_=>by simp[I4]
 | [],_,_ :: _,_,_=>by simp[I4]
 | _ :: _,[],_,h,_=>by simp[I4] at h
 | _ :: _,_ :: _,[],_,h=>by simp[I4] at h
 | a :: x,b :: y,d :: z,h1,h2=>by
   simp only[I4] at h1 h2 ⊢;have hp:=@DH a b d;by_cases e1:M8 a b=0
   ·rw[if_neg (by simp[e1])] at h1;by_cases e2:M8 b d=0
    ·rw[if_neg (by simp[e2])] at h2;obtain⟨p1,p2⟩:=hp (by omega) (by omega);have e3:M8 a d=0:=by rw[nY] at *;rw[e1,e2]
     rw[if_neg (by simp[e3])];exact sd h1 h2
    ·rw[if_pos e2] at h2;obtain⟨p1,p2⟩:=hp (by omega) h2;have:M8 a d≠0:=λe=>e2 (p2 e).2;rw[if_pos this];exact p1
   ·rw[if_pos e1] at h1;have h2':M8 b d<=0:=by
     by_cases e2:M8 b d=0
     ·omega
     ·rwa [if_pos e2] at h2
    obtain⟨p1,p2⟩:=hp h1 h2';have:M8 a d≠0:=λe=>e1 (p2 e).1;rw[if_pos this];exact p1
theorem oQ (a b:List Susp):bC a b=-(bC b a):=by
 have:=mH a b;unfold bC V2 V2 V2;repeat' split
 all_goals omega
theorem bh {a b:List Susp}:bC a b<=0↔a.length<b.length\/(a.length=b.length/\I4 a b<=0):=by
 unfold bC V2 V2 V2;repeat' split
 all_goals omega
theorem qg {a b c:List Susp} (h1:bC a b<=0) (h2:bC b c<=0):bC a c<=0:=by
 rw[bh] at *;rcases h1 with h1|⟨h1,g1⟩<;>rcases h2 with h2|⟨h2,g2⟩
 ·exact .inl (by omega)
 ·exact .inl (by omega)
 ·exact .inl (by omega)
 ·exact .inr ⟨by omega,sd g1 g2⟩
theorem jE (a:List Susp):bC a a<=0:=by have:=oQ a a;omega
theorem rb:∀ (r:List (List Susp)) (x:List Susp),(r.foldl P6 x=x\/r.foldl P6 x∈r)/\bC (r.foldl P6 x) x<=0/\∀ y∈r,bC (r.foldl P6 x) y<=0
 | [],x=>⟨.inl rfl,jE x,by simp⟩
 | z :: r,x=>by
   rw[List.foldl_cons];obtain⟨h1,h2,h3⟩:=rb r (P6 x z);have ha:=oQ z x;have hs:(P6 x z=x\/P6 x z=z)/\bC (P6 x z) x<=0/\bC (P6 x z) z<=0:=by
    unfold P6;split
    ·exact⟨.inr rfl,by omega,jE z⟩
    ·exact⟨.inl rfl,jE x,by omega⟩
   refine⟨?_,qg h2 hs.2.1,λy hy=>?_⟩
   ·rcases h1 with h1|h1
    ·rcases hs.1 with e|e
     ·exact .inl (h1.trans e)
     ·exact .inr (by rw[h1,e];exact List.mem_cons_self)
    ·exact .inr (List.mem_cons_of_mem _ h1)
   ·rcases List.mem_cons.1 hy with rfl|hy
    ·exact qg h2 hs.2.2
    ·exact h3 y hy
theorem jl {L:List (List Susp)} (h:L≠[]):kx L∈L/\∀ y∈L,bC (kx L) y<=0:=by
 cases L with
 | nil=>exact absurd rfl h
 | cons x r =>
   obtain⟨h1,h2,h3⟩:=rb r x;refine⟨?_,λy hy=>?_⟩
   ·rcases h1 with h1|h1
    ·show r.foldl P6 x∈_;rw[h1];exact List.mem_cons_self
    ·exact List.mem_cons_of_mem _ h1
   ·rcases List.mem_cons.1 hy with rfl|hy
    ·exact h2
    ·exact h3 y hy
theorem og:∀ (r:List Int) (x:Int),(r.foldl min x=x\/r.foldl min x∈r)/\r.foldl min x<=x/\∀ y∈r,r.foldl min x<=y
 | [],x=>by simp
 | z :: r,x=>by
   rw[List.foldl_cons];obtain⟨h1,h2,h3⟩:=og r (min x z);refine⟨?_,by omega,λy hy=>?_⟩
   ·rcases h1 with h1|h1
    ·rw[h1];rcases Int.le_total x z with e|e
     ·exact .inl (Int.min_eq_left e)
     ·exact .inr (by rw[Int.min_eq_right e];exact List.mem_cons_self)
    ·exact .inr (List.mem_cons_of_mem _ h1)
   ·rcases List.mem_cons.1 hy with rfl|hy
    ·omega
    ·exact h3 y hy
theorem om:∀ (r:List Int) (x:Int),(r.foldl max x=x\/r.foldl max x∈r)/\x<=r.foldl max x/\∀ y∈r,y<=r.foldl max x
 | [],x=>by simp
 | z :: r,x=>by
   rw[List.foldl_cons];obtain⟨h1,h2,h3⟩:=om r (max x z);refine⟨?_,by omega,λy hy=>?_⟩
   ·rcases h1 with h1|h1
    ·rw[h1];rcases Int.le_total x z with e|e
     ·exact .inr (by rw[Int.max_eq_right e];exact List.mem_cons_self)
     ·exact .inl (Int.max_eq_left e)
    ·exact .inr (List.mem_cons_of_mem _ h1)
   ·rcases List.mem_cons.1 hy with rfl|hy
    ·omega
    ·exact h3 y hy
theorem xf {L:List Int} (h:L≠[]):pB L∈L/\∀ y∈L,pB L<=y:=by
 cases L with
 | nil=>exact absurd rfl h
 | cons x r =>
   obtain⟨h1,h2,h3⟩:=og r x;refine⟨?_,λy hy=>?_⟩
   ·rcases h1 with h1|h1
    ·show r.foldl min x∈_;rw[h1];exact List.mem_cons_self
    ·exact List.mem_cons_of_mem _ h1
   ·rcases List.mem_cons.1 hy with rfl|hy
    ·exact h2
    ·exact h3 y hy
theorem xg {L:List Int} (h:L≠[]):pD L∈L/\∀ y∈L,y<=pD L:=by
 cases L with
 | nil=>exact absurd rfl h
 | cons x r =>
   obtain⟨h1,h2,h3⟩:=om r x;refine⟨?_,λy hy=>?_⟩
   ·rcases h1 with h1|h1
    ·show r.foldl max x∈_;rw[h1];exact List.mem_cons_self
    ·exact List.mem_cons_of_mem _ h1
   ·rcases List.mem_cons.1 hy with rfl|hy
    ·exact h2
    ·exact h3 y hy
theorem oq:∀ {A B:List Susp},A.Pairwise T8->B.Pairwise T8->A.length=B.length->(∀ x∈B,x∉A->∃ y∈A,y∉B/\T8 y x)->I4 A B<=0
 | [],[],_,_,_,_=>by simp[I4]
 | [],_ :: _,_,_,h,_=>by simp at h
 | _ :: _,[],_,_,h,_=>by simp at h
 | a :: A,b :: B,hA,hB,hl,h=>by
   rw[List.pairwise_cons] at hA hB;simp only[I4];by_cases e:M8 a b=0
   ·rw[if_neg (by simp[e])];rw[nY] at e;subst e;refine oq hA.2 hB.2 (by simpa using hl) λx hx hn=>?_;have hax:=hB.1 x hx;have hne:x≠a:=λe=>by subst e;unfold T8 at hax;omega
    obtain⟨y,h1,h2,h3⟩:=h x (List.mem_cons_of_mem _ hx) (by simp[hne,hn]);rcases List.mem_cons.1 h1 with rfl|h1
    ·simp at h2
    ·exact⟨y,h1,λh=>h2 (List.mem_cons_of_mem _ h),h3⟩
   ·rw[if_pos e];apply Int.not_lt.1
    intro hgt;have hba:T8 b a:=(eM b a).1 (by have:=nZ a b;omega);have hbn:b∉a :: A:=by
     intro hm;rcases List.mem_cons.1 hm with rfl|hm
     ·unfold T8 at hba;omega
     ·have:=hA.1 b hm;unfold T8 at *;omega
    obtain⟨y,h1,_,h3⟩:=h b List.mem_cons_self hbn;rcases List.mem_cons.1 h1 with rfl|h1
    ·unfold T8 at *;omega
    ·have:=hA.1 y h1;unfold T8 at *;omega
theorem mO {L:List E3} {f:E3} (h:f∈L) (hc:de f=de (R1 L)):f=R1 L\/(f=(false,true)/\R1 L=(true,false)):=by
 have h1:=jI L f h;generalize R1 L=g at *;obtain⟨a,b⟩:=f;obtain⟨x,y⟩:=g;revert h1 hc;cases a<;>cases b<;>cases x<;>cases y<;>decide
theorem xS {d:Desk} {f:Nat->E3} (h:zB d f):bC (L0 d) (O2 d.notes f d.faults.length)<=0:=by
 have hl:=xR h;rw[bh];rcases Nat.lt_or_eq_of_le hl with hl|hl
 ·exact .inl hl
 ·refine .inr ⟨hl,?_⟩;rw[rK] at hl ⊢;have hl2:=hl;rw[dH,dH] at hl2;have hc:=rY (f:=pb d) (g:=f) (n:=d.faults.length) (λi hi=>pa (h i hi)) (by omega);refine oq (lM _ _ _) (lM _ _ _) hl λx hx hn=>?_;rcases selS_mem.1 hx with⟨hd,rfl⟩|⟨i,hi,hf,rfl⟩|⟨i,hi,hf,rfl⟩
  ·exact absurd (selS_mem.2 (.inl ⟨hd,rfl⟩)) hn
  ·rcases mO (h i hi) (hc i hi).symm with e|⟨e,_⟩
   ·exact absurd (selS_mem.2 (.inr (.inl ⟨i,hi,by rw[show pb d i=f i from e.symm];exact hf,rfl⟩))) hn
   ·rw[e] at hf;exact absurd hf (by decide)
  ·rcases mO (h i hi) (hc i hi).symm with e|⟨e,e2⟩
   ·exact absurd (selS_mem.2 (.inr (.inr ⟨i,hi,by rw[show pb d i=f i from e.symm];exact hf,rfl⟩))) hn
   ·refine⟨Z7 i,selS_mem.2 (.inr (.inl ⟨i,hi,by rw[show pb d i=(true,false) from e2],rfl⟩)),λhm=>?_,.inl (by simp[Z7,aE])⟩;rcases selS_mem.1 hm with⟨_,h⟩|⟨j,_,h1,h⟩|⟨j,_,_,h⟩
    ·cases h
    ·have:i=j:=by simp only[Z7,Susp.mk.injEq,true_and] at h;omega
     subst this;rw[e] at h1;exact absurd h1 (by decide)
    ·cases h
structure DkG (n:Nat) (D:List Desk):Prop where
 ne:D≠[]
 len:∀ d∈D,d.faults.length=n
 f:∀ d∈D,∀ x∈d.faults,x≠[]
 cause:∀ d∈D,∀ g,zB d g->O2 d.notes g n≠[]
def tf (n:Nat) (D:List Desk) (k:Int):List Susp:=(Y2 n).filter λs=>decide (C1 D s=k)
def KL (n:Nat) (D:List Desk):List Susp:=(Y2 n).filter λs=>D.any λd=>aQ d s
def BB (D:List Desk):List Susp:=kx (D.map L0)
def JU (D:List Desk):Int:=pB (D.map λd=>((L0 d).length:Int))
def KB (D:List Desk):Int:=pD (D.map ba)
variable {n:Nat} {D:List Desk}
theorem Hn (h:DkG n D):∃ d∈D,BB D=L0 d:=by
 have h1:=(jl (L:=D.map L0) (by simpa using h.ne)).1;obtain⟨d,hd,e⟩:=List.mem_map.1 h1;exact⟨d,hd,e.symm⟩
theorem Hm (h:DkG n D) {d:Desk} (hd:d∈D) {g:Nat->E3} (hg:zB d g):bC (BB D) (O2 d.notes g n)<=0:=by
 have h1:=(jl (L:=D.map L0) (by simpa using h.ne)).2 _ (List.mem_map_of_mem hd);have h2:=xS hg;rw[h.len d hd] at h2;exact qg h1 h2
theorem EI (h:DkG n D):((BB D).length:Int)=JU D:=by
 obtain⟨h1,h2⟩:=xf (L:=D.map λd=>((L0 d).length:Int)) (by simpa using h.ne);obtain⟨d,hd,e⟩:=Hn h;have h3:=h2 _ (List.mem_map_of_mem hd);obtain⟨d',hd',e'⟩:=List.mem_map.1 h1;have h4:=(jl (L:=D.map L0) (by simpa using h.ne)).2 _ (List.mem_map_of_mem hd');rw[bh] at h4;unfold JU;rw[<- e'] at h3 ⊢;have e2:BB D=kx (D.map L0):=rfl;rw[<- e2] at h4;rw[e] at h4 ⊢;omega
theorem FX (h:DkG n D) {d:Desk} (hd:d∈D) {g:Nat->E3} (hg:zB d g):JU D<=(O2 d.notes g n).length/\((O2 d.notes g n).length:Int)<=KB D:=by
 have h1:=EI h;have h2:=Hm h hd hg;rw[bh] at h2;have h3:=zS hg;rw[h.len d hd] at h3;have h4:=(xg (L:=D.map ba) (by simpa using h.ne)).2 _ (List.mem_map_of_mem hd);unfold KB;omega
theorem sus_mem {s:Susp} {k:Int}:s∈tf n D k↔s∈Y2 n/\C1 D s=k:=by
 unfold tf;rw[List.mem_filter,decide_eq_true_eq]
theorem Dn (h:DkG n D) {d:Desk} (hd:d∈D) {g:Nat->E3} (hg:zB d g) {s:Susp} (hs:s∈O2 d.notes g n):s∈tf n D 2\/s∈tf n D 1:=by
 have h3:=nR hd hg (by rw[h.len d hd];exact hs);have h4:=gH hs;rw[sus_mem,sus_mem];rcases rm D s with e|e|e
 ·exact absurd e h3
 ·exact .inr ⟨h4,e⟩
 ·exact .inl ⟨h4,e⟩
theorem np {s:Susp} (hs:s∈tf n D 2):s∉tf n D 1:=λh=>by
 have:=(sus_mem.1 hs).2.symm.trans (sus_mem.1 h).2;exact absurd this (by decide)
end Go.Proofs
namespace Go.Proofs
open Go Go.Ab
variable {n:Nat} {D D':List Desk}
end Go.Proofs
namespace Go.Proofs
open Go Go.Ab
theorem Dl {c:Case} {t:List Int} (hl:E7 (aV c t) 0=0) {y:Link} (hy:y∈c.loop.links):nO c y (Y6 c t y.drawing)=some (V0 (aV c t) y):=by
 have hok:=Ki (dU hl).1;have hx:c.loop∈(aV c t).loops:=by simp[aV]
 have hd:=(mC hok hx hy).2;obtain⟨hm,_,_⟩:=hok.link _ hx y hy;obtain⟨i,hi⟩:=List.mem_iff_getElem?.1 hm;have hnd:(nums c.p.n.reg).Nodup:=(D5 hok.reg).1.imp λh e=>by omega
 have hix:idx (nums c.p.n.reg) y.drawing=i:=fY hnd hi;have hl2:(u7 c.p.n t c.machine)[i]?=some (Y6 c t y.drawing):=by
  unfold u7 Y6;rw[List.getElem?_map,show (nums c.p.n.reg)[i]?=some y.drawing from hi];rfl
 have e:u6 (aV c t).reg (aV c t).lets y.drawing=(n9 c.p.n.reg y.drawing (Y6 c t y.drawing)).getD I8:=by
  unfold u6;rw[show (aV c t).reg=c.p.n.reg from rfl,show (aV c t).lets=u7 c.p.n t c.machine from rfl,hix,Int.toNat_natCast,hl2];rfl
 rw[e] at hd;unfold nO;cases hf:n9 c.p.n.reg y.drawing (Y6 c t y.drawing) with
 | none=>rw[hf] at hd;simp[I8] at hd
 | some z=>rw[hf] at hd;simpa using hd
theorem oh (D:Link->Dim):∀ (q:List (Link×Piece)) (s:Int×Int) (a b:Int),(∀ p∈q,p.2.lo<=(D p.1).upper/\(D p.1).lower<=p.2.hi)->s.1<=b->a<=s.2 ->
 (q.foldl E5 s).1<=q.foldl (λs p=>s+nj p.1 (P9 true p.1 (D p.1))) b/\q.foldl (λs p=>s+nj p.1 (P9 false p.1 (D p.1))) a<=(q.foldl E5 s).2
 | [],s,a,b,_,h1,h2=>⟨h1,h2⟩
 | p :: q,s,a,b,h,h1,h2=>by
   rw[List.foldl_cons,List.foldl_cons,List.foldl_cons];have hp:=h p List.mem_cons_self;refine oh D q _ _ _ (λp hp=>h p (List.mem_cons_of_mem _ hp)) ?_ ?_
   ·unfold E5 nj P9;cases p.1.back<;>simp<;>omega
   ·unfold E5 nj P9;cases p.1.back<;>simp<;>omega
theorem qy {l:List Link} {P:List Piece} (h:P.length=l.length) (D:Link->Dim) (hi:Bool):dw l (l.map D) hi=(l.zip P).foldl (λs p=>s+nj p.1 (P9 hi p.1 (D p.1))) 0:=by
 have e:l.zip (l.map D)=(l.zip P).map λp=>(p.1,D p.1):=by
  refine List.ext_getElem? λi=>?_;by_cases hi:i<l.length
  ·rw[List.getElem?_eq_getElem (by simp[hi]),List.getElem?_eq_getElem (by simp[hi];omega)];simp
  ·rw[List.getElem?_eq_none (by simp;omega),List.getElem?_eq_none (by simp;omega)]
 unfold dw;rw[e,List.foldl_map]
theorem addF_mem {L:List E3} {so:Bool} {f g:E3}:g∈aT L so f↔g∈L\/(so=true/\g=f):=by
 unfold aT;split
 ·rename_i h;rw[List.mem_append,List.mem_singleton];simp[h.1]
 ·rename_i h;constructor
  ·exact .inl
  ·rintro (h1|⟨h1,rfl⟩)
   ·exact h1
   ·exact Classical.byContradiction λh2=>h ⟨h1,h2⟩
theorem uf {c:Case} {y:Link} {x:Piece} {o:Int} {L:List E3} {l:Int} {g:E3}:g∈H5 c y x o L l↔g∈L\/(sU c y x l=true/\g=(!decide (l=o),false))\/(xM c y x l=true/\g=(!decide (l=o),true)):=by
 unfold H5;rw[addF_mem,addF_mem,or_assoc]
theorem my {c:Case} {y:Link} {x:Piece} {o:Int} {g:E3}:∀ {l:List Int} {L:List E3},g∈l.foldl (H5 c y x o) L↔g∈L\/∃ a∈l,(sU c y x a=true/\g=(!decide (a=o),false))\/(xM c y x a=true/\g=(!decide (a=o),true))
 | [],L=>by simp
 | a :: l,L=>by
   rw[List.foldl_cons,my,uf,or_assoc];simp only[List.mem_cons,exists_eq_or_imp]
theorem vQ {c:Case} {t:List Int} {k:Nat} {x:Piece} {y:Link} (hx:c.pieces[k]?=some x) (hy:c.loop.links[k]?=some y) {g:E3}:g∈jr c t k↔∃ a∈C7 c k,(sU c y x a=true/\g=(!decide (a=Y6 c t y.drawing),false))\/(xM c y x a=true/\g=(!decide (a=Y6 c t y.drawing),true)):=by
 unfold jr;rw[hx,hy];simp only;rw[my];simp
theorem BL {c:Case} {t:List Int} {k:Nat} (hk:k<c.pieces.length):(A7 c t).faults.getD k []=jr c t k:=by
 simp[A7,List.getD,hk]
theorem BX {c:Case} (h0:J4 c=0) {t:List Int} (hn:nm c t=false) (hf:∀ k,k<c.pieces.length->(false,false)∈jr c t k):False:=by
 obtain⟨he,hft⟩:=K1 h0;have hok:=I5 (A2 he).2;have hlen:=hok.e;unfold nm at hn;simp only[Bool.or_eq_false_iff,Bool.not_eq_false',decide_eq_true_eq] at hn;obtain⟨hl,hc⟩:=hn;have hmeet:∀ p∈c.loop.links.zip c.pieces,p.2.lo<=(V0 (aV c t) p.1).upper/\(V0 (aV c t) p.1).lower<=p.2.hi:=λp hp=>by
  obtain⟨k,hk⟩:=List.mem_iff_getElem?.1 hp;rw[List.getElem?_zip_eq_some] at hk;obtain⟨hy,hx⟩:=hk;have h1:=hf k (e7 hx);rw[vQ hx hy] at h1;obtain⟨a,ha,h2|h2⟩:=h1
  ·have e:a=Y6 c t p.1.drawing:=by have:=h2.2;simp at this;exact this
   subst e;have h3:=h2.1;unfold sU at h3;rw[Dl hl (List.mem_of_getElem? hy)] at h3;simpa using h3
  ·exact absurd h2.2 (by simp)
 have hs:=oh (V0 (aV c t)) (c.loop.links.zip c.pieces) (0,0) 0 0 hmeet (Int.le_refl _) (Int.le_refl _);rw[<- qy hlen,<- qy hlen] at hs;have hlp:(aV c t).loops[(0:Int).toNat]?=some c.loop:=rfl;have hLo:wK (aV c t) 0=dw c.loop.links (c.loop.links.map (V0 (aV c t))) false:=by
  rw[wK,if_pos hl,Jb,hlp];rfl
 have hHi:wL (aV c t) 0=dw c.loop.links (c.loop.links.map (V0 (aV c t))) true:=by
  rw[wL,if_pos hl,Jt,hlp];rfl
 rw[<- hLo,<- hHi] at hs;rw[K8,if_pos hl,KG,hlp] at hc;simp only at hc;have hg:c.loop.lo<=wK (aV c t) 0/\wL (aV c t) 0<=c.loop.hi:=by
  split at hc
  ·assumption
  ·split at hc<;>exact absurd hc (by decide)
 unfold da bJ rF at hft;rw[if_pos he,if_pos he] at hft;have hs2:R7 (c.loop.links.zip c.pieces)=(c.loop.links.zip c.pieces).foldl E5 (0,0):=rfl;rw[hs2] at hft;split at hft
 ·omega
 ·split at hft<;>exact absurd hft (by decide)
theorem EN {c:Case} (h0:J4 c=0):DkG c.pieces.length (n8 c):=by
 obtain⟨he,_⟩:=K1 h0;refine⟨λe=>?_,λd hd=>?_,mD he,λd hd g hg e=>?_⟩
 ·have:=(ak he).1;rw[e] at this;exact absurd this (by decide)
 ·obtain⟨t,_,rfl⟩:=List.mem_map.1 hd;simp[A7]
 ·obtain⟨t,_,rfl⟩:=List.mem_map.1 hd;have hl:(A7 c t).faults.length=c.pieces.length:=by simp[A7]
  refine BX h0 (t:=t) ?_ λk hk=>?_
  ·cases hn:nm c t
   ·rfl
   ·have:(⟨1,0⟩:Susp)∈O2 (A7 c t).notes g c.pieces.length:=selS_mem.2 (.inl ⟨hn,rfl⟩);rw[e] at this;simp at this
  ·have h1:=hg k (by omega);rw[BL hk] at h1;have e2:g k=(false,false):=by
    refine Prod.ext ?_ ?_
    ·cases hb:(g k).1
     ·rfl
     ·have:Z7 k∈O2 (A7 c t).notes g c.pieces.length:=selS_mem.2 (.inr (.inl ⟨k,hk,hb,rfl⟩));rw[e] at this;simp at this
    ·cases hb:(g k).2
     ·rfl
     ·have:aE k∈O2 (A7 c t).notes g c.pieces.length:=selS_mem.2 (.inr (.inr ⟨k,hk,hb,rfl⟩));rw[e] at this;simp at this
   rw[e2] at h1;exact h1
theorem lC {c:Case} (h0:J4 c=0):pS c=BB (n8 c)/\qm c=KL c.pieces.length (n8 c)/\(∀ k,dq c k=tf c.pieces.length (n8 c) k)/\jD c=(JU (n8 c),KB (n8 c)):=by
 refine⟨?_,?_,λk=>?_,?_⟩
 ·unfold pS;rw[if_pos h0];rfl
 ·unfold qm;rw[if_pos h0];rfl
 ·unfold dq;rw[if_pos h0];rfl
 ·unfold jD;rw[if_pos h0];rfl
variable {G:LS}
attribute [simp] s6 du O6 jy w5 B6 nilV K9 ZK
theorem CA {n:Nat} {s:Susp} (h:s∈Y2 n):qv n s=true:=by
 unfold qv;rcases listS_mem.1 h with⟨_,rfl⟩|⟨i,hi,_,rfl⟩|⟨i,hi,_,rfl⟩
 ·simp
 ·rw[if_neg (by simp[Z7])];show (((decide _&&decide _)&&(decide (0<=(i:Int))&&decide ((i:Int)<=(n:Int)-1)))=true);simp[Z7];omega
 ·rw[if_neg (by simp[aE])];show (((decide _&&decide _)&&(decide (0<=(i:Int))&&decide ((i:Int)<=(n:Int)-1)))=true);simp[aE];omega
structure CauseOk (n:Nat) (lo hi:Int) (l a su op:List Susp):Prop where
 b1:1<=lo
 b2:lo<=hi
 b3:hi<=1+2*n
 b4:(l.length:Int)=lo
 b5:a≠[]↔lo=1
 b6:∀ s r,a=s :: r->∃ r',l=s :: r'
 b7:(su.length:Int)<=lo
 b8:hi<=(su.length:Int)+op.length
 lm:∀ s∈l,qv n s=true/\(s∈su\/s∈op)
 am:∀ s∈a,qv n s=true/\(s∈su\/s∈op)
 ls:l.Pairwise T8
 aS':a.Pairwise T8
 sm:∀ s∈su,s∈l/\(a=[]\/a=[s])
structure Hid (P:Prop):Prop where
 out:P
open Go Go.Ab Tryz
attribute [simp] s6 du O6 jy w5 B6 nilV K9 ZK
theorem ri {n:Notes} (h0:l4 n.reg=0) (hok:dm n) {d:Int} (hd:d∈nums n.reg) (s:List Int) (m:Int):(n9 n.reg d (GN n s d m)).isSome=true:=by
 obtain⟨z,hz,hzd⟩:=jQ _ _ _ hd;have hd0:d≠0:=by
  intro e;have:=yn h0 hz;omega
 have h1:1<=T2 n.reg d:=by
  have:=(X8 h0 d z.letter).1 ((rG n.reg d z.letter).2 ⟨z,hz,hzd,rfl⟩);omega
 unfold GN ie;split
 ·exact(X8 h0 d 1).2 ⟨by omega,h1⟩
 ·rename_i hk;obtain⟨x,h1,h2⟩:=sn n.notes (T3 s [] m n.notes) d (T3 s [] m n.notes).length (by omega);rw[h1];have h:=hok _ x h1;simp only[tH,Bool.and_eq_true] at h;have h4:=h.1.1.1.1.2;unfold DR at h4;split at h4
  ·omega
  ·rw[decide_eq_true_eq] at h4;unfold zA at h4;rw[if_neg (show ¬ l4 n.reg≠0 by simp[h0])] at h4;split at h4
   ·rename_i hf;rw[h2] at hf;exact hf
   ·omega
theorem tR {n:Notes} (h0:l4 n.reg=0) (hok:dm n) (t:List Int) (m:Int):s7 n.reg (u7 n t m)=true:=by
 refine qx h0 (by simp[u7]) λk h1 h2=>?_;have hd:(nums n.reg)[k]?=some (nums n.reg)[k]:=List.getElem?_eq_getElem h1;have he:(u7 n t m)[k]?=some (GN n t (nums n.reg)[k] m):=by unfold u7;rw[List.getElem?_map,hd];rfl
 obtain⟨h3,h4⟩:=List.getElem?_eq_some_iff.1 he;rw[h4];exact ri h0 hok (List.getElem_mem h1) t m
theorem oV {c:Case} (h:q8 c=0):1<=c.machine/\c.machine<=999:=by
 have hcb:=(A2 h).2;rw[N4,Bool.and_eq_true] at hcb;have:=hcb.1;simp only[ew,Bool.and_eq_true,decide_eq_true_eq] at this;exact this.2.1
theorem BQ (c:Case) (s:List Int) (he:q8 c=0) (ht:F7 (j8 (j7 c.p.n.notes)) s=true) (hsl:s.length<1000) (hG:o4 G) (hN:E2 G) (hS:u5 G) (hC:J2 G) (hk:KC c):zP prog G 44 [l7 c,r5 s] (.tup [bv (!nm c s),bv true]):=by
 refine zf func44 ntmps44 ?_;try simp only[r5]
 obtain⟨hp0,hcb⟩:=A2 he;obtain⟨hn0,hpb,hr0⟩:=A9 hp0;have hmc:=oV he;have hok:=(ar hn0).2.2.1;have hA:D6 c.p.n s c.machine=0:=by
  unfold D6;rw[if_neg (by simp[hn0]),if_neg (by rw[ht];decide),if_pos hmc]
 have c1:=fQ (G:=G) c.p.n s c.machine hG hN hS hk.p.n hsl;rw[hA,if_pos rfl,fT] at c1;have hnl:=s8 c.p.n.reg c.p.n.reg.length;have hr80:=hk.p.n.1.1;have hq16:=(I5 hcb).l;have hown:(u7 c.p.n s c.machine).length=(nums c.p.n.reg).length:=by unfold u7;rw[List.length_map]
 have hll:(u7 c.p.n s c.machine).length<=80:=by rw[hown,nums];omega
 have hsc:jK (aV c s):=⟨hk.p.n.1,by show (u7 c.p.n s c.machine).length<=80;omega,by simp[aV],λx hx=>by simp[aV] at hx;subst hx;omega⟩
 have c2:=xl (G:=G) c.p.n.reg (u7 c.p.n s c.machine) (by omega) (by omega);rw[tR hr0 hok] at c2;have c3:=nX (G:=G) (aV c s) 0 hG hC hsc Ki;have hnb:nm c s=(!decide (E7 (aV c s) 0=0) || !decide (K8 (aV c s) 0=2)):=rfl;rw[hnb];generalize E7 (aV c s) 0=le at *;generalize K8 (aV c s) 0=ck at *;simp only[BS,aV,N8,G9,G1,o6,p8,l7,j0,List.map_cons,List.map_nil] at c1 c2 c3 ⊢;generalize u7 c.p.n s c.machine=LT at *;clear hnb;have hs:True:=trivial;by_cases g1:le=0<;>by_cases g2:ck=2
 all_goals
  have hs:=za g1 g2;repeat' first|(with_reducible first|refine zz ?_|refine zr ?_|refine zE [0,1,2,4,5,6,7,8,9,30] ?_)|simp -dsimp[hs]|refine zp c1 ?_|refine zp c2 ?_|refine zt c3 ?_ ?_ ?_;(focus simp;done);focus (simp;done)|refine i8 ?_ ?_<;>intro h<;>try exact h.elim
  all_goals try clear hs
theorem Gm {c:Case} {s:List Int} {d:Int} (hr0:l4 c.p.n.reg=0) (hd:d∈nums c.p.n.reg):∃ i:Nat,idx (nums c.p.n.reg) d=i/\(u7 c.p.n s c.machine)[i]?=some (Y6 c s d):=by
 obtain⟨i,hi⟩:=List.mem_iff_getElem?.1 hd;have hnd:(nums c.p.n.reg).Nodup:=(D5 hr0).1.imp λh e=>by omega
 refine⟨i,fY hnd hi,?_⟩;unfold u7 Y6;rw[List.getElem?_map,hi];rfl
theorem Fz (c:Case) (s:List Int) (k:Nat) (y:Link) (hy0:c.loop.links[k]?=some y) (hkp:k<c.pieces.length) (he:q8 c=0) (ht:F7 (j8 (j7 c.p.n.notes)) s=true) (hsl:s.length<1000) (hG:o4 G) (hN:E2 G) (hS:u5 G) (hk:KC c):zP prog G 46 [l7 c,r5 s,iv (k:Int)] (.tup [iv (Y6 c s y.drawing),bv true]):=by
 refine zf func46 ntmps46 ?_;try simp only[r5,iv]
 obtain⟨hp0,hcb⟩:=A2 he;obtain⟨hn0,hpb,hr0⟩:=A9 hp0;have hmc:=oV he;have hlt:k<c.loop.links.length:=e7 hy0;have hy:c.loop.links[k]=y:=(List.getElem?_eq_some_iff.1 hy0).2;have hdm:=fd hr0 hcb hkp hlt;rw[hy] at hdm;obtain⟨j,hj,hj2⟩:=Gm (s:=s) hr0 hdm;have hA:D6 c.p.n s c.machine=0:=by
  unfold D6;rw[if_neg (by simp[hn0]),if_neg (by rw[ht];decide),if_pos hmc]
 have c1:=fQ (G:=G) c.p.n s c.machine hG hN hS hk.p.n hsl;rw[hA,if_pos rfl,fT] at c1;have hnl:=s8 c.p.n.reg c.p.n.reg.length;have hr80:=hk.p.n.1.1;have c2:=bT (G:=G) c.p.n.reg (by omega);have c3:=kT (G:=G) (nums c.p.n.reg) y.drawing (by unfold nums;omega);rw[hj] at c3;have hjl:j<(u7 c.p.n s c.machine).length:=e7 hj2;generalize Y6 c s y.drawing=o at *;simp only[G1,o6,p8,l7,j0,List.map_cons,List.map_nil] at c1 c2 c3 ⊢;generalize u7 c.p.n s c.machine=LT at *;have hjn:¬ (LT.length:Int)<=(j:Int):=by omega
 have hjx:∀ h,LT[j]'h=o:=λh=>by rw[List.getElem?_eq_getElem h] at hj2;exact Option.some.inj hj2
 have hs:=za hy (za hlt (za hjl (za hjn (za hjx hj2))));repeat' first|(with_reducible first|refine zz ?_|refine zr ?_)|simp -dsimp[hs]|refine zp c1 ?_|refine zq c2 ?_|refine zq c3 ?_|refine zM 2 46 14 [0,1,2,3,6,7,8,9,10,41] ?_|with_reducible refine zE [0,1,2,3,6,7,8,9,10,41] ?_|refine i8 ?_ ?_<;>intro h<;>try exact h.elim
@[simp] abbrev QS:List Nat:=[0,1,2,3,6,7,8,9,10,38]
theorem vI (c:Case) (k:Nat) (y:Link) (lt:Int) (hy0:c.loop.links[k]?=some y) (hd:0<=y.dim) (h0:l4 c.p.n.reg=0) (hG:o4 G) (hk:KC c):zP prog G 47 [l7 c,iv (k:Int),iv lt] (.tup [gg ((nO c y lt).getD Db),bv (nO c y lt).isSome]):=by
 refine zf func47 ntmps47 ?_;try simp only[iv,iv]
 have hlt:k<c.loop.links.length:=e7 hy0;have hy:c.loop.links[k]=y:=(List.getElem?_eq_some_iff.1 hy0).2;have c1:=Cv (G:=G) c.p.n.reg y.drawing lt hG hk.p.n.1;obtain⟨j,hj⟩:=Int.eq_ofNat_of_zero_le hd;simp only[G1,E1] at c1;unfold nO;unfold atR zA at c1;rw[if_pos h0,if_neg (by simp[h0])] at c1;have hdn:y.dim.toNat=j:=by rw[hj];simp
 cases hfi:n9 c.p.n.reg y.drawing lt with
 | none =>
   rw[hfi] at c1;simp only[Option.isSome_none,Option.getD_none,Bool.false_eq_true,if_false,I8] at c1;have hs:=za hy hlt;repeat' first|(with_reducible first|refine zz ?_|refine zr ?_|refine zE QS ?_)|simp -dsimp[hs]|refine zp c1 ?_|refine i8 ?_ ?_<;>intro h<;>try exact h.elim
   all_goals exact⟨rfl,rfl,rfl⟩
 | some x =>
   rw[hfi] at c1;simp only[Option.isSome_some,Option.getD_some,if_true] at c1;simp only[Option.bind_some,hdn];by_cases hx:j<x.dims.length
   ·have hx1:x.dims[j]?=some x.dims[j]:=by simp[hx]
    have hxi:¬ ((x.dims.length:Int)<=(j:Int)):=by omega
    rw[hx1];generalize hz:x.dims[j]=z at *;simp only[Option.isSome_some,Option.getD_some];have hs:=za hy (za hlt (za hj (za hx (za hxi (za hz hx1)))));repeat' first|(with_reducible first|refine zz ?_|refine zr ?_|refine zE QS ?_)|simp -dsimp[hs]|refine zp c1 ?_|refine i8 ?_ ?_<;>intro h<;>try exact h.elim
   ·have hxi:(x.dims.length:Int)<=(j:Int):=by omega
    rw[List.getElem?_eq_none (by omega)];simp only[Option.isSome_none,Option.getD_none];have hs:=za hy (za hlt (za hj hxi));repeat' first|(with_reducible first|refine zz ?_|refine zr ?_|refine zE QS ?_)|simp -dsimp[hs]|refine zp c1 ?_|refine i8 ?_ ?_<;>intro h<;>try exact h.elim
    all_goals exact⟨rfl,rfl,rfl⟩
def Y5 (c:Case) (n:Nat):List Int:=((H9 (j8 (j7 c.p.n.notes)))[n % (H9 (j8 (j7 c.p.n.notes))).length]?).getD []
theorem lu (c:Case):0<(H9 (j8 (j7 c.p.n.notes))).length:=by rw[aW];exact Nat.pos_of_ne_zero (by simp)
theorem ta (c:Case) (n:Nat):Y5 c n∈H9 (j8 (j7 c.p.n.notes)):=by
 unfold Y5;rw[List.getElem?_eq_getElem (Nat.mod_lt _ (lu c))];exact List.getElem_mem _
theorem wr (c:Case) (n:Nat) (hn:n<=255) (he:q8 c=0) (hk:KC c):zP prog G 10 [l7 c,sY (n:Int)] (r5 (Y5 c n)):=by
 refine zf func10 ntmps10 ?_;try simp only[sY]
 obtain⟨hp0,hcb⟩:=A2 he;obtain⟨hn0,hpb,hr0⟩:=A9 hp0;obtain⟨_,_,hok,h5⟩:=ar hn0;have c1:=wH (G:=G) c.p.n hk.p.n hok h5;have hT:=lu c;have hlt:n % (H9 (j8 (j7 c.p.n.notes))).length<(H9 (j8 (j7 c.p.n.notes))).length:=Nat.mod_lt _ hT;unfold Y5;rw[List.getElem?_eq_getElem hlt];simp only[o6,p8,l7,j0,Kw,List.map_cons,List.map_nil] at c1 ⊢;generalize H9 (j8 (j7 c.p.n.notes))=T at *;have hm:((n:Int).tmod (T.length:Int))=((n % T.length:Nat):Int):=by
  rw[Int.tmod_eq_emod_of_nonneg (by omega)];omega
 have h0i:¬ (T.length:Int)=0:=by omega
 have hTn:¬ T=[]:=λe=>by rw[e] at hT;exact absurd hT (by decide)
 have hji:n % T.length<=n:=Nat.mod_le _ _;generalize hj:n % T.length=j at *;generalize hx:T[j]=x at *;have hxx:T[j]?=some x:=by rw[List.getElem?_eq_getElem hlt,hx]
 have w1:IntKind.i64.wrap (n:Int)=(n:Int):=n4 (by omega) (by omega);have w2:IntKind.i64.wrap (j:Int)=(j:Int):=n4 (by omega) (by omega);simp only[Option.getD_some];have hs:=za h0i (za hTn (za hm (za hlt (za hx (za hxx (za w1 w2))))));repeat' first|(with_reducible first|refine zz ?_|refine zr ?_|refine zE [0,1,2,4,5] ?_)|simp -dsimp[hs]|refine zp c1 ?_
end Go.Proofs
