/- Part 23 of the proofs. -/
import Derived.Shelf.Sort.Plain
import Derived.Shelf.Slices.In.SortNone
import Derived.Test.YtlmlkkoapahmjaaGreatDoorT14
import Derived.Test.YtlmlkkoapahmjaaGreatDoorE02
import Derived.Test.YtlmlkkoapahmjaaGreatDoorE05
set_option linter.all false
set_option maxHeartbeats 100000000
namespace Go.Ab
open Go
abbrev Gp:=Nat×Bool
def rJ (b:Nat->Nat×Nat) (m:Nat->Gp×Gp) (i k:Nat) (x:Issue):List DC:=if k<i then [.im (rI x.drawing),.im (rI x.letter),.im (.raw (.int .u8 x.kind)),.vec (b k).1 (m k).1.1 0 x.items.length,.vec (b k).2 (m k).2.1 0 x.dims.length] else (h9 x).map .im
def aT (b:Nat->Nat×Nat) (m:Nat->Gp×Gp) (i:Nat) (l:List Issue):List (List DC):=l.mapIdx (rJ b m i)
def jf (l:List Issue) (m:Nat->Gp×Gp) (k:Nat):Q4:=match l[k]? with
 | some x=>(.vec 2 [] 0 true,.vec 2 (l6 (x.items.map v6)) (m k).1.1 (m k).1.2,.vec 3 [] 0 true,.vec 3 (l6 (x.dims.map B9)) (m k).2.1 (m k).2.2)
 | none=>(.gone,.gone,.gone,.gone)
def rN (b:Nat->Nat) (m:Nat->Gp) (i k:Nat) (x:Holder):List DC:=if k<i then [.im (rI x.id),.im (rI x.frm),.im (rI x.to),.vec (b k) (m k).1 0 x.draws.length] else (n7 x).map .im
def aW (b:Nat->Nat) (m:Nat->Gp) (i:Nat) (l:List Holder):List (List DC):=l.mapIdx (rN b m i)
def kC (l:List Holder) (m:Nat->Gp) (k:Nat):Q2:=match l[k]? with
 | some x=>(.vec 1 [] 0 true,.vec 1 (l6 (x.draws.map Ab.encI)) (m k).1 (m k).2)
 | none=>(.gone,.gone)
@[simp] theorem Gc (b:Nat->Nat×Nat) (m:Nat->Gp×Gp) (i:Nat) (l:List Issue):(aT b m i l).length=l.length:=by simp[aT]
@[simp] theorem Gm (b:Nat->Nat) (m:Nat->Gp) (i:Nat) (l:List Holder):(aW b m i l).length=l.length:=by simp[aW]
theorem uY (b:Nat->Nat×Nat) (m:Nat->Gp×Gp) (l:List Issue):aT b m 0 l=l6 (l.map h9):=by
 unfold aT l6;apply List.ext_getElem?
 intro k;simp[List.getElem?_mapIdx,rJ];rfl
theorem vk (b:Nat->Nat) (m:Nat->Gp) (l:List Holder):aW b m 0 l=l6 (l.map n7):=by
 unfold aW l6;apply List.ext_getElem?
 intro k;simp[List.getElem?_mapIdx,rN];rfl
theorem Bq {b:Nat->Nat×Nat} {m:Nat->Gp×Gp} {i:Nat} {l:List Issue} {x:Issue} (h:l[i]?=some x):(aT b m i l)[i]?=some ((h9 x).map .im):=by
 simp[aT,List.getElem?_mapIdx,h,rJ]
theorem By {b:Nat->Nat} {m:Nat->Gp} {i:Nat} {l:List Holder} {x:Holder} (h:l[i]?=some x):(aW b m i l)[i]?=some ((n7 x).map .im):=by
 simp[aW,List.getElem?_mapIdx,h,rN]
def fo {α:Type} (m:Nat->α) (i:Nat) (g:α) (k:Nat):α:=if k=i then g else m k
theorem yg {b:Nat->Nat×Nat} {m:Nat->Gp×Gp} {i:Nat} {l:List Issue} {x:Issue} (h:l[i]?=some x) (g:Gp×Gp):(aT b m i l).set i [.im (rI x.drawing),.im (rI x.letter),.im (.raw (.int .u8 x.kind)),.vec (b i).1 g.1.1 0 x.items.length,.vec (b i).2 g.2.1 0 x.dims.length]=aT b (fo m i g) (i+1) l:=by
 apply List.ext_getElem?
 intro k;rw[List.getElem?_set];by_cases e:i=k
 ·subst e;have hlt:=e7 h;rw[if_pos rfl,if_pos (by simpa using hlt)];simp only[aT,List.getElem?_mapIdx,h,Option.map_some,rJ,fo,if_true,Nat.lt_succ_self]
 ·rw[if_neg e];simp only[aT,List.getElem?_mapIdx];have h1:¬ k=i:=λh=>e h.symm;cases hk:l[k]? with
  | none=>rfl
  | some y =>
    simp only[Option.map_some,rJ,fo,if_neg h1];by_cases h2:k<i
    ·rw[if_pos h2,if_pos (by omega)]
    ·rw[if_neg h2,if_neg (by omega)]
theorem yt {b:Nat->Nat} {m:Nat->Gp} {i:Nat} {l:List Holder} {x:Holder} (h:l[i]?=some x) (g:Gp):(aW b m i l).set i [.im (rI x.id),.im (rI x.frm),.im (rI x.to),.vec (b i) g.1 0 x.draws.length]=aW b (fo m i g) (i+1) l:=by
 apply List.ext_getElem?
 intro k;rw[List.getElem?_set];by_cases e:i=k
 ·subst e;have hlt:=e7 h;rw[if_pos rfl,if_pos (by simpa using hlt)];simp only[aW,List.getElem?_mapIdx,h,Option.map_some,rN,fo,if_true,Nat.lt_succ_self]
 ·rw[if_neg e];simp only[aW,List.getElem?_mapIdx];have h1:¬ k=i:=λh=>e h.symm;cases hk:l[k]? with
  | none=>rfl
  | some y =>
    simp only[Option.map_some,rN,fo,if_neg h1];by_cases h2:k<i
    ·rw[if_pos h2,if_pos (by omega)]
    ·rw[if_neg h2,if_neg (by omega)]
theorem uX {l:List Issue} {m:Nat->Gp×Gp} {i:Nat} {x:Issue} (h:l[i]?=some x) (g:Gp×Gp):D9 (jf l (fo m i g)) (i+1)=D9 (jf l m) i++[.vec 2 [] 0 true,.vec 2 (l6 (x.items.map v6)) g.1.1 g.1.2,.vec 3 [] 0 true,.vec 3 (l6 (x.dims.map B9)) g.2.1 g.2.2]:=by
 rw[D9,cU (H:=jf l m) λk hk=>by unfold jf fo;rw[if_neg (by omega)]];simp[jf,h,fo]
theorem vj {l:List Holder} {m:Nat->Gp} {i:Nat} {x:Holder} (h:l[i]?=some x) (g:Gp):G4 (kC l (fo m i g)) (i+1)=G4 (kC l m) i++[.vec 1 [] 0 true,.vec 1 (l6 (x.draws.map Ab.encI)) g.1 g.2]:=by
 rw[G4,cV (H:=kC l m) λk hk=>by unfold kC fo;rw[if_neg (by omega)]];simp[kC,h,fo]
abbrev Aq:=(Gp×Gp)×(Nat->Gp×Gp)×(Gp×Gp)×(Nat->Gp)×(Gp×Gp)
def sr (s k:Nat):Nat×Nat:=(4*k+(13+s),4*k+(15+s))
def ss (N s k:Nat):Nat:=4*N+2*k+(17+s)
def nX (s:Nat) (m:Aq) (c:Case):List DC:=[.vec (9+s) m.1.1.1 0 c.p.n.reg.length,.vec (11+s) m.1.2.1 0 c.p.n.notes.length,.vec (4*c.p.n.reg.length+(13+s)) m.2.2.1.1.1 0 c.p.holders.length,.vec (4*c.p.n.reg.length+(15+s)) m.2.2.1.2.1 0 c.p.prints.length,.im (rI c.machine),.im (rI c.of),.vec (4*c.p.n.reg.length+2*c.p.holders.length+(17+s)) m.2.2.2.2.1.1 0 c.loop.links.length,.im (rI c.loop.lo),.im (rI c.loop.hi),.vec (4*c.p.n.reg.length+2*c.p.holders.length+(19+s)) m.2.2.2.2.2.1 0 c.pieces.length]
def pP (s:Nat) (m:Aq) (c:Case):List DObj:=.row (nX s m c) :: .vec 0 [] 0 true :: .vec 0 [] 0 true :: .vec 0 [] 0 true :: .vec 0 [] 0 true :: .vec 0 [] 0 true :: .vec 0 [] 0 true :: .row (nX s m c) :: .vec 5 [] 0 true :: .vec 5 (aT (sr s) m.2.1 c.p.n.reg.length c.p.n.reg) m.1.1.1 m.1.1.2 :: .vec 10 [] 0 true :: .vec 10 (l6 (c.p.n.notes.map j8)) m.1.2.1 m.1.2.2 :: (D9 (jf c.p.n.reg m.2.1) c.p.n.reg.length ++ .vec 4 [] 0 true :: .vec 4 (aW (ss c.p.n.reg.length s) m.2.2.2.1 c.p.holders.length c.p.holders) m.2.2.1.1.1 m.2.2.1.1.2 :: .vec 7 [] 0 true :: .vec 7 (l6 (c.p.prints.map p6)) m.2.2.1.2.1 m.2.2.1.2.2 :: (G4 (kC c.p.holders m.2.2.2.1) c.p.holders.length++[.vec 3 [] 0 true,.vec 3 (l6 (c.loop.links.map D6)) m.2.2.2.2.1.1 m.2.2.2.2.1.2,.vec 4 [] 0 true,.vec 4 (l6 (c.pieces.map u7)) m.2.2.2.2.2.1 m.2.2.2.2.2.2]))
theorem nn (e:Nat->Nat) (l:List (List IC)):(l6 l).map (rnL e)=l6 l:=by
 unfold l6;rw[List.map_map];exact List.map_congr_left λx _=>eI e x
theorem AK (a s:Nat) (m:Nat->Gp×Gp) (i:Nat) (l:List Issue):(aT (sr a) m i l).map (rnL λo=>s+o)=aT (sr (a+s)) m i l:=by
 apply List.ext_getElem?
 intro k;simp only[aT,List.getElem?_map,List.getElem?_mapIdx];cases l[k]? with
 | none=>rfl
 | some x =>
   simp only[Option.map_some,rJ];by_cases h:k<i
   ·rw[if_pos h,if_pos h];simp only[rnL,gI,sr];rw[show s+(4*k+(13+a))=4*k+(13+(a+s)) by omega,show s+(4*k+(15+a))=4*k+(15+(a+s)) by omega]
   ·rw[if_neg h,if_neg h,eI]
theorem AL (N a s:Nat) (m:Nat->Gp) (i:Nat) (l:List Holder):(aW (ss N a) m i l).map (rnL λo=>s+o)=aW (ss N (a+s)) m i l:=by
 apply List.ext_getElem?
 intro k;simp only[aW,List.getElem?_map,List.getElem?_mapIdx];cases l[k]? with
 | none=>rfl
 | some x =>
   simp only[Option.map_some,rN];by_cases h:k<i
   ·rw[if_pos h,if_pos h];simp only[rnL,gI,ss];rw[show s+(4*N+2*k+(17+a))=4*N+2*k+(17+(a+s)) by omega]
   ·rw[if_neg h,if_neg h,eI]
theorem xq (a s:Nat) (m:Aq) (c:Case):rnL (λo=>s+o) (nX a m c)=nX (a+s) m c:=by
 simp only[nX,rnL,gI];simp only[List.cons.injEq,DC.vec.injEq,and_true,true_and];omega
theorem Da (a s:Nat) (m:Aq) (c:Case):(pP a m c).map (cb λo=>s+o)=pP (a+s) m c:=by
 have h4:(D9 (jf c.p.n.reg m.2.1) c.p.n.reg.length).map (cb λo=>s+o)=D9 (jf c.p.n.reg m.2.1) c.p.n.reg.length:=by
  rw[mt];refine cU λk hk=>?_;unfold jf;rw[List.getElem?_eq_getElem hk];simp only[cb,nn,List.map_nil]
 have h2:(G4 (kC c.p.holders m.2.2.2.1) c.p.holders.length).map (cb λo=>s+o)=G4 (kC c.p.holders m.2.2.2.1) c.p.holders.length:=by
  rw[mw];refine cV λk hk=>?_;unfold kC;rw[List.getElem?_eq_getElem hk];simp only[cb,nn,List.map_nil]
 simp only[pP,List.map_cons,List.map_append,List.map_nil,cb,xq,AK,AL,nn,h4,h2]
theorem pH (n:Nat):p7 [] n=λo=>n+o:=by
 funext o;simp[p7]
theorem rt (objs o:List DObj):n3 [] objs o=objs++o.map (cb λk=>objs.length+k):=by
 unfold n3;rw[pH];simp[fG]
end Go.Ab
namespace Go.Proofs
open Go Go.Ab
variable {G:IK}
attribute [simp] p5 cr K4 ic s6 w0 nilV H9 ZK
@[simp] abbrev Lp:List Nat:=[0,1,2,3,4,5,6,36,37,38,85,86,87]
@[simp] abbrev KM:List Nat:=[0,1,2,3,4,5,7,8,9,10,12,13,15,16,6,11,14,17]
theorem wa (c:Case) (hk:KC c):DCall Tryz.prog G 78 [n5 c] [] (λd o=>∃ m:Aq,True/\d=.agg (nX 0 m c)/\o=pP 0 m c):=by
 generalize hQ:(λ(d:DV) (o:List DObj)=>∃ m:Aq,True/\d=.agg (nX 0 m c)/\o=pP 0 m c)=Q;refine g9 Tryz.func78 rfl Tryz.ntmps78 (by simp) rfl ?_;have c1:=Gy (G:=G) c.p.n.reg (by have:=hk.p.n.1.1;omega);have c2:=Ei (G:=G) c.p.n.notes (by have:=hk.p.n.2.1;omega);unfold D5 at c1 c2;simp only[List.length_map] at c1 c2;simp only[n5];have hs:=trivial;repeat' first|with_reducible refine zz ?_|simp -dsimp[hs]|refine CallE.embed_ex [] (c1) ?_ ?_ ?_ ?_ ?_ ?_;(focus simp[p7];done);(focus simp;done);(focus simp;done);(focus simp;done);(focus refine n4 ?_;simp[p7,o6];done);intro mmA hmmA;try simp -dsimp[n3,p7,hs]|refine CallE.embed_ex [] (c2) ?_ ?_ ?_ ?_ ?_ ?_;(focus simp[p7];done);(focus simp;done);(focus simp;done);(focus simp;done);(focus refine n4 ?_;simp[p7,o6];done);intro mmB hmmB;try simp -dsimp[n3,p7,hs]|refine U7 (id:=2) (nt:=117) [none,none,none,none,none,none,none,none,none,none,none,none,none,none,none,some [0],some [15],some [16],some [17],none,some [1],some [20],some [21],none] [0,1,2,3,4,5,6,7,9,10,11,12,13,15,16,17,18,20,21,22,8,14,19,23] 20 [([0,1,8,9,10,11,12,13,14,15,16,17,18,19],[0,1,2,3,4,5,6,15,36,37,38,85,86,87]),([0,1,13,14,15,16,17,18,19],[0,1,2,3,4,5,6,16,21,36,37,38,85,86,87]),([1,17,18,19],[0,1,2,3,4,5,6,16,22,26,36,37,38,85,86,87])] Lp mixed rfl (by kernel_rfl) (by kernel_rfl) (by kernel_rfl) ?_|with_reducible refine zE Lp ?_
 all_goals try clear hs
 refine i7 (ι:={ q:Nat×(Nat->Gp×Gp) // q.1<=c.p.n.reg.length }) (λq=>⟨117,[(1,.one (.ptr 0 0)),(2,.one (.ptr 7 0)),(3,.one (.ptr 0 0)),(36,iv (c.p.n.reg.length:Int)),(37,iv (q.1.1:Int))],.row [.vec 9 mmA.1 0 c.p.n.reg.length,.vec 11 mmB.1 0 c.p.n.notes.length,.im (.sl (c.p.holders.map n7)),.im (.sl (c.p.prints.map p6)),.im (rI c.machine),.im (rI c.of),.im (.sl (c.loop.links.map D6)),.im (rI c.loop.lo),.im (rI c.loop.hi),.im (.sl (c.pieces.map u7))] :: .vec 0 [] 0 true :: .vec 0 [] 0 true :: .vec 0 [] 0 true :: .vec 0 [] 0 true :: .vec 0 [] 0 true :: .vec 0 [] 0 true :: .row [.vec 1 0 0 0,.vec 2 0 0 0,.vec 3 0 0 0,.vec 4 0 0 0,.im (rI 0),.im (rI 0),.vec 5 0 0 0,.im (rI 0),.im (rI 0),.vec 6 0 0 0] :: .vec 5 [] 0 true :: .vec 5 (aT (λk=>(4*k+13,4*k+15)) q.1.2 q.1.1 c.p.n.reg) mmA.1 mmA.2 :: .vec 10 [] 0 true :: .vec 10 (l6 (c.p.n.notes.map j8)) mmB.1 mmB.2 :: D9 (jf c.p.n.reg q.1.2) q.1.1⟩) (λq=>c.p.n.reg.length-q.1.1) ⟨(0,λ_=>((0,false),(0,false))),by simp⟩ (zv [1,2,3,36,37] (by simp[uY,D9])) ?_;rintro⟨⟨i,m⟩,hi⟩;simp only at hi;simp only[iv,rI];by_cases hlt:i<c.p.n.reg.length
 ·have hw:IntKind.i64.wrap ((i:Int)+1)=((i+1:Nat):Int):=r9 (by omega) (by have:=hk.p.n.1.1;omega);have hx0:c.p.n.reg[i]?=some c.p.n.reg[i]:=by simp[hlt]
  have hxm:=hk.p.n.1.2 _ (List.mem_of_getElem? hx0);generalize c.p.n.reg[i]=x at *;have c3:=Gx (G:=G) x.items (by omega);have c4:=GA (G:=G) x.dims (by omega);unfold D5 at c3 c4;simp only[List.length_map] at c3 c4;have hat:∀ h,(aT (λk=>(4*k+13,4*k+15)) m i c.p.n.reg)[i]'h=(h9 x).map .im:=λh=>by
   have:=Bq (b:=λk=>(4*k+13,4*k+15)) (m:=m) hx0;rw[List.getElem?_eq_getElem h] at this;exact Option.some.inj this
  simp only[h9,rI,List.map_cons,List.map_nil] at hat;have hset:=λg=>yg (b:=λk=>(4*k+13,4*k+15)) (m:=m) hx0 g;have hsuc:=λg=>uX (m:=m) hx0 g;have hs:=za hlt (za hw hat);repeat' first|with_reducible refine zz ?_|simp -dsimp[hs]|refine CallE.embed_ex [] (c3) ?_ ?_ ?_ ?_ ?_ ?_;(focus simp[p7];done);(focus simp;done);(focus simp;done);(focus simp;done);(focus refine n4 ?_;simp[p7,o6];done);intro mmC hmmC;try simp -dsimp[n3,p7,hs]|refine CallE.embed_ex [] (c4) ?_ ?_ ?_ ?_ ?_ ?_;(focus simp[p7];done);(focus simp;done);(focus simp;done);(focus simp;done);(focus refine n4 ?_;simp[p7,o6];done);intro mmD hmmD;try simp -dsimp[n3,p7,hs]|refine U7 (id:=7) (nt:=117) [none,none,none,none,none,none,none,none,none,none,none,none,some [0],some [12],none,some [1],some [15],none] KM 14 [([0,1,6,7,8,9,10,11,12,13],[0,1,2,3,4,5,6,36,37,38,53,85,86,87]),([0,1,10,11,12,13],[0,1,2,3,4,5,6,36,37,38,54,58,85,86,87]),([1,12,13],[0,1,2,3,4,5,6,36,37,38,54,59,61,85,86,87])] Lp mixed rfl (by kernel_rfl) (by kernel_rfl) (by kernel_rfl) ?_|with_reducible refine zE Lp ?_|refine j4 ?_ ?_<;>intro h<;>try exact h.elim
  all_goals try clear hs
  refine At.round ⟨(i+1,fo m i (mmC,mmD)),by simp only;omega⟩ (by simp only;omega) (Weak.of_keep [1,2,3,36,37] ?_);rw[<- hset (mmC,mmD),hsuc (mmC,mmD)];simp
 ·obtain rfl:i=c.p.n.reg.length:=by omega
  have c5:=Ek (G:=G) c.p.holders (by have:=hk.p.p.h;omega);have c6:=BR (G:=G) c.p.prints (by have:=hk.p.p.q;omega);unfold D5 at c5 c6;simp only[List.length_map] at c5 c6;have hs:=hlt;repeat' first|with_reducible refine zz ?_|simp -dsimp[hs]|refine CallE.embed_ex [] (c5) ?_ ?_ ?_ ?_ ?_ ?_;(focus simp[p7];done);(focus simp;done);(focus simp;done);(focus simp;done);(focus refine n4 ?_;simp[p7,o6];done);intro mmE hmmE;try simp -dsimp[n3,p7,hs]|refine CallE.embed_ex [] (c6) ?_ ?_ ?_ ?_ ?_ ?_;(focus simp[p7];done);(focus simp;done);(focus simp;done);(focus simp;done);(focus refine n4 ?_;simp[p7,o6];done);intro mmF hmmF;try simp -dsimp[n3,p7,hs]|refine U7 (id:=9) (nt:=117) [none,none,none,none,none,none,none,none,none,none,none,none,some [0],some [12],none,some [1],some [15],none] KM 14 [([0,1,6,7,8,9,10,11,12,13],[0,1,2,3,4,5,6,36,37,38,70,85,86,87]),([0,1,10,11,12,13],[0,1,2,3,4,5,6,36,37,38,71,75,85,86,87]),([1,12,13],[0,1,2,3,4,5,6,36,37,38,71,76,78,85,86,87])] Lp mixed rfl (by kernel_rfl) (by kernel_rfl) (by kernel_rfl) ?_|with_reducible refine zE Lp ?_|refine j4 ?_ ?_<;>intro h<;>try exact h.elim
  all_goals try clear hs
  clear hlt hi;generalize hN:c.p.n.reg.length=N at *;refine i7 (ι:={ q:Nat×(Nat->Gp) // q.1<=c.p.holders.length }) (λq=>⟨117,[(1,.one (.ptr 0 0)),(2,.one (.ptr 7 0)),(3,.one (.ptr 0 0)),(85,iv (c.p.holders.length:Int)),(86,iv (q.1.1:Int))],.row [.vec 9 mmA.1 0 N,.vec 11 mmB.1 0 c.p.n.notes.length,.vec (4*N+13) mmE.1 0 c.p.holders.length,.vec (4*N+15) mmF.1 0 c.p.prints.length,.im (rI c.machine),.im (rI c.of),.im (.sl (c.loop.links.map D6)),.im (rI c.loop.lo),.im (rI c.loop.hi),.im (.sl (c.pieces.map u7))] :: .vec 0 [] 0 true :: .vec 0 [] 0 true :: .vec 0 [] 0 true :: .vec 0 [] 0 true :: .vec 0 [] 0 true :: .vec 0 [] 0 true :: .row [.vec 1 0 0 0,.vec 2 0 0 0,.vec 3 0 0 0,.vec 4 0 0 0,.im (rI 0),.im (rI 0),.vec 5 0 0 0,.im (rI 0),.im (rI 0),.vec 6 0 0 0] :: .vec 5 [] 0 true :: .vec 5 (aT (λk=>(4*k+13,4*k+15)) m N c.p.n.reg) mmA.1 mmA.2 :: .vec 10 [] 0 true :: .vec 10 (l6 (c.p.n.notes.map j8)) mmB.1 mmB.2 :: (D9 (jf c.p.n.reg m) N ++ .vec 4 [] 0 true :: .vec 4 (aW (λk=>4*N+2*k+17) q.1.2 q.1.1 c.p.holders) mmE.1 mmE.2 :: .vec 7 [] 0 true :: .vec 7 (l6 (c.p.prints.map p6)) mmF.1 mmF.2 :: G4 (kC c.p.holders q.1.2) q.1.1)⟩) (λq=>c.p.holders.length-q.1.1) ⟨(0,λ_=>(0,false)),by simp⟩ (zv [1,2,3,85,86] (by simp[vk,G4])) ?_;rintro⟨⟨i,m2⟩,hi⟩;simp only at hi;simp only[iv,rI];by_cases hlt:i<c.p.holders.length
  ·have hw:IntKind.i64.wrap ((i:Int)+1)=((i+1:Nat):Int):=r9 (by omega) (by have:=hk.p.p.h;omega);have hx0:c.p.holders[i]?=some c.p.holders[i]:=by simp[hlt]
   have hxm:=hk.p.p.d _ (List.mem_of_getElem? hx0);generalize c.p.holders[i]=x at *;have c3:=Gz (G:=G) x.draws (by omega);unfold D5 at c3;simp only[List.length_map] at c3;have hat:∀ h,(aW (λk=>4*N+2*k+17) m2 i c.p.holders)[i]'h=(n7 x).map .im:=λh=>by
    have:=By (b:=λk=>4*N+2*k+17) (m:=m2) hx0;rw[List.getElem?_eq_getElem h] at this;exact Option.some.inj this
   simp only[n7,rI,List.map_cons,List.map_nil] at hat;have hset:=λg=>yt (b:=λk=>4*N+2*k+17) (m:=m2) hx0 g;have hsuc:=λg=>vj (m:=m2) hx0 g;have hs:=za hlt (za hw hat);repeat' first|with_reducible refine zz ?_|simp -dsimp[hs]|refine CallE.embed_ex [] (c3) ?_ ?_ ?_ ?_ ?_ ?_;(focus simp[p7];done);(focus simp;done);(focus simp;done);(focus simp;done);(focus refine n4 ?_;simp[p7,o6];done);intro mmC hmmC;try simp -dsimp[n3,p7,hs]|refine U7 (id:=13) (nt:=117) [none,none,none,none,none,none,none,none,none,none,none,none,none,none,some [3,4],some [14],none] [0,1,2,3,4,5,6,7,8,9,10,11,12,14,15,13,16] 15 [([0,1,2,3,4,13,14],[0,1,2,3,4,5,6,36,37,38,85,86,87,101])] Lp mixed rfl (by kernel_rfl) (by kernel_rfl) (by kernel_rfl) ?_|with_reducible refine zE Lp ?_|refine j4 ?_ ?_<;>intro h<;>try exact h.elim
   all_goals try clear hs
   refine At.round ⟨(i+1,fo m2 i mmC),by simp only;omega⟩ (by simp only;omega) (Weak.of_keep [1,2,3,85,86] ?_);rw[<- hset mmC,hsuc mmC];simp;refine congrArg (λa=>(aW (λk=>4*N+2*k+17) m2 i c.p.holders).set i [_,_,_,DC.vec a _ _ _]) ?_;omega
  ·obtain rfl:i=c.p.holders.length:=by omega
   have c7:=Ej (G:=G) c.loop.links (by have:=hk.l;omega);have c8:=BS (G:=G) c.pieces (by have:=hk.q;omega);unfold D5 at c7 c8;simp only[List.length_map] at c7 c8;have hs:=hlt;repeat' first|(with_reducible first|refine zz ?_|refine zr ?_)|simp -dsimp[hs]|refine CallE.embed_ex [] (c7) ?_ ?_ ?_ ?_ ?_ ?_;(focus simp[p7];done);(focus simp;done);(focus simp;done);(focus simp;done);(focus refine n4 ?_;simp[p7,o6];done);intro mmG hmmG;try simp -dsimp[n3,p7,hs]|refine CallE.embed_ex [] (c8) ?_ ?_ ?_ ?_ ?_ ?_;(focus simp[p7];done);(focus simp;done);(focus simp;done);(focus simp;done);(focus refine n4 ?_;simp[p7,o6];done);intro mmH hmmH;try simp -dsimp[n3,p7,hs]|refine U7 (id:=15) (nt:=117) [none,none,none,none,none,none,none,some [],some [7],none,some [],none] [0,1,2,4,5,7,8,10,3,6,9,11] 8 [([3,4,5,6,7],[0,1,2,3,4,5,6,36,37,38,85,86,87,108]),([5,6,7],[0,1,2,3,4,5,6,36,37,38,85,86,87,109,111]),([7],[0,1,2,3,4,5,6,36,37,38,85,86,87,109,112,114])] Lp mixed rfl (by kernel_rfl) (by kernel_rfl) (by kernel_rfl) ?_|with_reducible refine zE Lp ?_|refine j4 ?_ ?_<;>intro h<;>try exact h.elim
   all_goals try clear hs
   subst hQ;refine⟨((mmA,mmB),m,(mmE,mmF),m2,(mmG,mmH)),trivial,?_,?_⟩
   ·simp only[nX,hN,DV.agg.injEq,List.cons.injEq,DC.vec.injEq,and_true,true_and,Nat.add_zero];exact⟨rfl,rfl,by omega,rfl,rfl,by omega⟩
   ·simp only[pP,nX,hN,List.cons.injEq,DObj.row.injEq,DC.vec.injEq,and_true,true_and,Nat.add_zero];exact⟨⟨rfl,rfl,by omega,rfl,rfl,by omega⟩,⟨rfl,rfl,by omega,rfl,rfl,by omega⟩,rfl,rfl⟩
end Go.Proofs
namespace Go.Proofs
open Go Go.Ab Tryz
variable {G:IK}
def HR (x:Piece) (lo hi:Int):Piece:=⟨x.holder,x.day,lo,hi⟩
def Bh (c:Case) (k:Nat) (x:Piece) (lo hi:Int):Case:={ c with pieces:=c.pieces.set k (HR x lo hi) }
noncomputable def mb (c:Case) (n lo hi:Int):Int:=if T8 c n≠0 then T8 c n else match c.pieces[n.toNat]? with
 | some x=>if W8 lo hi x.lo x.hi=true then 0 else 2
 | none=>2
theorem Be {c:Case} {n lo hi:Int} (h:mb c n lo hi=0):q9 c=0/\∃ (k:Nat) (x:Piece),n=(k:Int)/\c.pieces[k]?=some x/\W8 lo hi x.lo x.hi=true:=by
 unfold mb at h;by_cases h0:T8 c n=0
 ·rw[if_neg (by simp[h0])] at h;obtain⟨he,hn0,hn1⟩:=pm h0;obtain⟨k,rfl⟩:=Int.eq_ofNat_of_zero_le hn0;rw[Int.toNat_natCast] at h;cases hx:c.pieces[k]? with
  | none=>rw[hx] at h;simp at h
  | some x =>
    rw[hx] at h;simp only at h;by_cases hi':W8 lo hi x.lo x.hi=true
    ·exact⟨he,k,x,rfl,hx,hi'⟩
    ·rw[if_neg hi'] at h;exact absurd h (by decide)
 ·rw[if_pos (by exact h0)] at h;exact absurd h h0
def wL (s:Nat) (m:Aq) (c:Case) (lo hi:Int):List DObj:=.row (nX (9+s) m c) :: .row [.im (rI lo),.im (rI hi)] :: .vec 0 [] 0 true :: .vec 0 [] 0 true :: .vec 0 [] 0 true :: .vec 0 [] 0 true :: .vec 0 [] 0 true :: .vec 0 [] 0 true :: .row (nX (9+s) m c) :: pP (9+s) m c
theorem Dx {l:List Piece} {k:Nat} {x:Piece} (lo hi:Int) (h:l[k]?=some x):(l6 (l.map u7)).set k [.im (.raw (.int .i64 x.holder)),.im (.raw (.int .i64 x.day)),.im (.raw (.int .i64 lo)),.im (.raw (.int .i64 hi))]=l6 ((l.set k (HR x lo hi)).map u7):=by
 rw[List.map_set];unfold l6;rw[List.map_set];rfl
@[simp] abbrev LB:List Nat:=[0,1,2,3,5,6,7,8,12,41]
theorem zN (c:Case) (k:Nat) (x:Piece) (lo hi:Int) (hx0:c.pieces[k]?=some x) (h0:q9 c=0) (hin:W8 lo hi x.lo x.hi=true) (hG:o4 G) (hN:C7 G) (hS:s8 G) (hR:u3 G) (hk:KC c):DCall prog G 27 [n5 c,iv (k:Int),D3 lo hi] [] (λd o=>∃ m:Aq,True/\d=.tup [.agg (nX 9 m (Bh c k x lo hi)),iv 0]/\o=wL 0 m (Bh c k x lo hi) lo hi):=by
 generalize hQ:(λ(d:DV) (o:List DObj)=>∃ m:Aq,True/\d=.tup [.agg (nX 9 m (Bh c k x lo hi)),iv 0]/\o=wL 0 m (Bh c k x lo hi) lo hi)=Q;refine g9 func27 rfl ntmps27 (by simp) rfl ?_;have hlt:k<c.pieces.length:=e7 hx0;have hx:c.pieces[k]=x:=(List.getElem?_eq_some_iff.1 hx0).2;have hq16:=hk.q;have c1:=gz (G:=G) c hG hN hS hR hk;rw[h0] at c1;have c2:=K1 (G:=G) 0 ((c.pieces.length:Int)-1) [(k:Int)] (by simp);rw[show ([(k:Int)].all λy=>decide (0<=y)&&decide (y<=(c.pieces.length:Int)-1))=true by simp;omega] at c2;have c3:=aU (G:=G) lo hi x.lo x.hi;rw[hin] at c3;have hw:IntKind.i64.wrap ((c.pieces.length:Int)-1)=(c.pieces.length:Int)-1:=r9 (by omega) (by omega);have c4:=wa (G:=G) c hk;simp only[n5,i9,D3] at c1 c3 c4 ⊢;have hs:=za hx (za hlt hw);repeat' first|(with_reducible first|refine zz ?_|refine zr ?_)|simp -dsimp[hs]|refine zp c1 ?_|refine zq c2 ?_|refine zq c3 ?_|refine CallE.embed_ex [] c4 ?_ ?_ ?_ ?_ ?_ ?_;(focus simp[p7];done);(focus simp;done);(focus simp;done);(focus simp;done);(focus refine n4 ?_;simp[p7,o6];done);intro mmA hmmA;(try simp only[rt,pH,ja,xq,Da,Nat.zero_add]);try simp -dsimp[nX,pP]|refine zM 4 52 27 LB ?_|with_reducible refine zE LB ?_|refine j4 ?_ ?_<;>intro h<;>try exact h.elim
 subst hQ;have hst:=Dx lo hi hx0;refine⟨mmA,trivial,?_,?_⟩
 ·simp[nX,Bh]
 ·simp[wL,pP,nX,Bh,hst]
def iz:Case:=⟨⟨⟨[],[]⟩,[],[]⟩,0,0,⟨[],0,0⟩,[]⟩
noncomputable def Dy (c:Case) (n lo hi:Int):Case:=if mb c n lo hi=0 then (match c.pieces[n.toNat]? with|some x=>Bh c n.toNat x lo hi|none=>iz) else iz
theorem Bd {c:Case} {k:Nat} {x:Piece} {lo hi:Int} (h:mb c (k:Int) lo hi=0) (hx:c.pieces[k]?=some x):Dy c (k:Int) lo hi=Bh c k x lo hi:=by
 unfold Dy;rw[if_pos h,Int.toNat_natCast,hx]
theorem xT {c:Case} {n lo hi:Int} (h:¬ mb c n lo hi=0):Dy c n lo hi=iz:=by
 unfold Dy;rw[if_neg h]
theorem Dz {c:Case} {k:Nat} {x:Piece} (lo hi:Int) (h0:q9 c=0) (hx:c.pieces[k]?=some x):mb c (k:Int) lo hi=if W8 lo hi x.lo x.hi=true then 0 else 2:=by
 have hlt:=e7 hx;have h1:T8 c (k:Int)=0:=by unfold T8;rw[if_neg (by simp[h0]),if_pos (by omega)]
 unfold mb;rw[if_neg (by simp[h1]),Int.toNat_natCast,hx]
theorem Bf {c:Case} {n:Int} (lo hi:Int) (h0:q9 c=0) (hn:¬ (0<=n/\n<c.pieces.length)):mb c n lo hi=2:=by
 have h1:T8 c n=2:=by unfold T8;rw[if_neg (by simp[h0]),if_neg hn]
 unfold mb;rw[if_pos (by rw[h1];decide),h1]
theorem Bg {c:Case} (n lo hi:Int) (h0:¬ q9 c=0):mb c n lo hi=q9 c:=by
 have h1:T8 c n=q9 c:=by unfold T8;rw[if_pos h0]
 unfold mb;rw[if_pos (by rw[h1];exact h0),h1]
theorem zO (c:Case) (n lo hi:Int) (h:¬ mb c n lo hi=0) (hG:o4 G) (hN:C7 G) (hS:s8 G) (hR:u3 G) (hk:KC c):zP prog G 27 [n5 c,iv n,D3 lo hi] (.tup [n5 iz,iv (mb c n lo hi)]):=by
 refine zf func27 ntmps27 ?_;try simp only[iv,D3]
 have c1:=gz (G:=G) c hG hN hS hR hk;have hq16:=hk.q;simp only[n5,i9,D3] at c1 ⊢;by_cases h0:q9 c=0
 ·rw[h0] at c1;have hw:IntKind.i64.wrap ((c.pieces.length:Int)-1)=(c.pieces.length:Int)-1:=r9 (by omega) (by omega);have c2:=K1 (G:=G) 0 ((c.pieces.length:Int)-1) [n] (by simp);by_cases hn:0<=n/\n<c.pieces.length
  ·obtain⟨k,rfl⟩:=Int.eq_ofNat_of_zero_le hn.1;have hlt:k<c.pieces.length:=by omega
   have hx0:c.pieces[k]?=some c.pieces[k]:=by simp[hlt]
   have hE:=Dz lo hi h0 hx0;generalize hx:c.pieces[k]=x at *;have c3:=aU (G:=G) lo hi x.lo x.hi;rw[show ([(k:Int)].all λy=>decide (0<=y)&&decide (y<=(c.pieces.length:Int)-1))=true by simp;omega] at c2;have hin:W8 lo hi x.lo x.hi=false:=by
    cases hb:W8 lo hi x.lo x.hi
    ·rfl
    ·rw[hb,if_pos rfl] at hE;exact absurd hE h
   rw[hin,if_neg (by decide)] at hE;rw[hin] at c3;rw[hE];simp only[D3] at c3;have hs:=za hx (za hlt hw);repeat' first|(with_reducible first|refine zz ?_|refine zr ?_)|simp -dsimp[hs]|refine zp c1 ?_|refine zq c2 ?_|refine zq c3 ?_|refine zM 4 52 27 LB ?_|with_reducible refine zE LB ?_|refine j4 ?_ ?_<;>intro h<;>try exact h.elim
   all_goals simp[iz]
  ·have hE:=Bf lo hi h0 hn;rw[show ([n].all λy=>decide (0<=y)&&decide (y<=(c.pieces.length:Int)-1))=false by simp;omega] at c2;rw[hE];have hs:=hw;repeat' first|(with_reducible first|refine zz ?_|refine zr ?_)|simp -dsimp[hs]|refine zp c1 ?_|refine zq c2 ?_|refine zM 4 52 27 LB ?_|with_reducible refine zE LB ?_|refine j4 ?_ ?_<;>intro h<;>try exact h.elim
   all_goals simp[iz]
 ·have hE:=Bg n lo hi h0;rw[hE];have hs:=h0;repeat' first|(with_reducible first|refine zz ?_|refine zr ?_|refine zE LB ?_)|simp -dsimp[hs]|refine zp c1 ?_|refine j4 ?_ ?_<;>intro h<;>try exact h.elim
  all_goals simp[iz]
end Go.Proofs
namespace Go.Ab
open Go
theorem yI {i n:Nat} (h:i<n) (F:Nat->Q4) (R:List DObj):(D9 F n++R)[4*i+1]?=some (F i).2.1:=by
 rw[List.getElem?_append_left (by simp;omega),gV F (by omega) h];rfl
theorem yH {i n:Nat} (h:i<n) (F:Nat->Q4) (R:List DObj):(D9 F n++R)[4*i+3]?=some (F i).2.2.2:=by
 rw[List.getElem?_append_left (by simp;omega),gV F (by omega) h];rfl
theorem yJ {i n:Nat} (h:i<n) (F:Nat->Q2) (R:List DObj):(G4 F n++R)[2*i+1]?=some (F i).2:=by
 rw[List.getElem?_append_left (by simp;omega),my F (by omega) h];rfl
theorem nz {α β:Type} {f:α->Option β}:∀ {l:List α} {r:List β},l.length=r.length->(∀ (i:Nat) (x:α),l[i]?=some x->f x=r[i]?)->C3 f l=some r
 | [],[],_,_=>rfl
 | [],_ :: _,h,_=>by simp at h
 | _ :: _,[],h,_=>by simp at h
 | x :: l,y :: r,h,h2=>by
   have h0:=h2 0 x rfl;have h1:=nz (f:=f) (l:=l) (r:=r) (by simpa using h) (λi z hz=>by simpa using h2 (i+1) z (by simpa using hz));simp only[List.getElem?_cons_zero] at h0;simp only[C3,h0,h1]
theorem fW {k o g len sz:Nat} {nl:Bool} {objs:List DObj} {es:List (List DC)} {L:List (List IC)} (ho:objs[o]?=some (.vec sz es g nl)) (hl:es.length=len) (h:C3 (C3 (frz k 0 objs)) es=some L):frz (k+1) 0 objs (.vec o g 0 len)=some (.sl L):=by
 subst hl;simp only[frz,ho,Nat.zero_le,if_true,Nat.zero_add,Nat.le_refl,and_self,List.drop_zero,List.take_length,h,Option.map_some]
theorem dH {o g len sz:Nat} {nl:Bool} {objs:List DObj} {es:List (List DC)} {L:List (List IC)} (ho:objs[o]?=some (.vec sz es g nl)) (hl:es.length=len) (h:C3 (C3 (frz 19 0 objs)) es=some L):fz 0 objs (.vec o g 0 len)=.im (.sl L):=by
 simp only[fz,DC.lt,fW ho hl h];simp
theorem DW {s:Nat} {m:Aq} {c:Case} {objs:List DObj} (h1:objs[9+s]?=some (.vec 5 (aT (sr s) m.2.1 c.p.n.reg.length c.p.n.reg) m.1.1.1 m.1.1.2)) (h2:objs[11+s]?=some (.vec 10 (l6 (c.p.n.notes.map j8)) m.1.2.1 m.1.2.2))
 (h3:objs[4*c.p.n.reg.length+(13+s)]?=some (.vec 4 (aW (ss c.p.n.reg.length s) m.2.2.2.1 c.p.holders.length c.p.holders) m.2.2.1.1.1 m.2.2.1.1.2)) (h4:objs[4*c.p.n.reg.length+(15+s)]?=some (.vec 7 (l6 (c.p.prints.map p6)) m.2.2.1.2.1 m.2.2.1.2.2))
 (h5:objs[4*c.p.n.reg.length+2*c.p.holders.length+(17+s)]?=some (.vec 3 (l6 (c.loop.links.map D6)) m.2.2.2.2.1.1 m.2.2.2.2.1.2)) (h6:objs[4*c.p.n.reg.length+2*c.p.holders.length+(19+s)]?=some (.vec 4 (l6 (c.pieces.map u7)) m.2.2.2.2.2.1 m.2.2.2.2.2.2))
 (hA:∀ (k:Nat) (x:Issue),c.p.n.reg[k]?=some x->objs[4*k+(13+s)]?=some (.vec 2 (l6 (x.items.map v6)) (m.2.1 k).1.1 (m.2.1 k).1.2)/\objs[4*k+(15+s)]?=some (.vec 3 (l6 (x.dims.map B9)) (m.2.1 k).2.1 (m.2.1 k).2.2))
 (hB:∀ (k:Nat) (x:Holder),c.p.holders[k]?=some x->objs[4*c.p.n.reg.length+2*k+(17+s)]?=some (.vec 1 (l6 (x.draws.map Ab.encI)) (m.2.2.2.1 k).1 (m.2.2.2.1 k).2)):(nX s m c).map (fz 0 objs)=(i9 c).map .im:=by
 have e1:C3 (C3 (frz 19 0 objs)) (aT (sr s) m.2.1 c.p.n.reg.length c.p.n.reg)=some (c.p.n.reg.map h9):=by
  refine nz (by simp) λi r hr=>?_;simp only[aT,List.getElem?_mapIdx,Option.map_eq_some_iff] at hr;obtain⟨x,hx,rfl⟩:=hr;rw[List.getElem?_map,hx];obtain⟨a1,a2⟩:=hA i x hx;have b1:=fW (k:=18) (len:=x.items.length) a1 (by simp[l6]) (O9 _ _ _ _);have b2:=fW (k:=18) (len:=x.dims.length) a2 (by simp[l6]) (O9 _ _ _ _);have hlt:=e7 hx;have f1:∀ c:IC,frz 19 0 objs (.im c)=some c:=λ_=>rfl;simp only[rJ,if_pos hlt,C3,f1,sr,b1,b2,Option.map_some,h9]
 have e2:C3 (C3 (frz 19 0 objs)) (aW (ss c.p.n.reg.length s) m.2.2.2.1 c.p.holders.length c.p.holders)=some (c.p.holders.map n7):=by
  refine nz (by simp) λi r hr=>?_;simp only[aW,List.getElem?_mapIdx,Option.map_eq_some_iff] at hr;obtain⟨x,hx,rfl⟩:=hr;rw[List.getElem?_map,hx];have b1:=fW (k:=18) (len:=x.draws.length) (hB i x hx) (by simp[l6]) (O9 _ _ _ _);have hlt:=e7 hx;have f1:∀ c:IC,frz 19 0 objs (.im c)=some c:=λ_=>rfl;simp only[rN,if_pos hlt,C3,f1,ss,b1,Option.map_some,n7]
 simp only[nX,List.map_cons,List.map_nil,i9];rw[dH h1 (by simp) e1,dH h2 (by simp[l6]) (O9 _ _ _ _),dH h3 (by simp) e2,dH h4 (by simp[l6]) (O9 _ _ _ _),dH h5 (by simp[l6]) (O9 _ _ _ _),dH h6 (by simp[l6]) (O9 _ _ _ _)];rfl
end Go.Ab
namespace Go.Proofs
open Go Go.Ab Tryz
variable {G:IK}
attribute [simp] p5 cr K4 ic s6 w0 nilV H9 ZK
theorem ac (c:Case) (s:Susp) (w:Int) (h1:0<=s.kind/\s.kind<=255) (hG:o4 G) (hN:C7 G) (hS:s8 G) (hR:u3 G) (hC:I9 G) (hK:bD G) (hk:KC c):zP prog G 30 [n5 c,D8 s,wJ w] (bv (decide (bB c s=0)&&decide (dW c s=w))):=by
 refine zf func30 ntmps30 ?_;try simp only[wJ]
 have c1:=qg (G:=G) c s h1 hG hN hS hR hC hK hk;generalize dW c s=A at *;generalize bB c s=B at *;simp only[n5,i9,D8,j6,rI,List.map_cons,List.map_nil] at c1 ⊢;have hs:=trivial;repeat' first|(with_reducible first|refine zz ?_|refine zr ?_|refine zE [0,1,2,3,4,6,7,8] ?_)|simp -dsimp[hs]|refine zp c1 ?_|with_reducible refine j7 ?_ ?_<;>intro h<;>have h0:=h<;>(try simp only[i8] at h)<;>have h2:=h<;>(try simp at h2)<;>replace hs:=za h0 (za h (za h2 hs))
 all_goals simp
theorem BB (m:Aq) (c:Case) (lo hi:Int):(nX 9 m c).map (fz 0 (wL 0 m c lo hi))=(i9 c).map .im:=by
 refine DW (s:=9) (m:=m) (c:=c) ?_ ?_ ?_ ?_ ?_ ?_ ?_ ?_
 ·simp[wL,pP]
 ·simp[wL,pP]
 ·simp[wL,pP]
 ·simp[wL,pP]
 ·simp[wL,pP]
 ·simp[wL,pP]
 ·intro k x hx;have hlt:=e7 hx;have a1:=yI hlt;have a3:=yH hlt;simp[wL,pP,a1,a3,jf,hx]
 ·intro k x hx;have hlt:=e7 hx;have a1:=yJ hlt;simp[wL,pP,a1,kC,hx]
theorem qf (c:Case) (n lo hi:Int) (hG:o4 G) (hN:C7 G) (hS:s8 G) (hR:u3 G) (hk:KC c) (objs:List DObj):DCall prog G 27 [n5 c,iv n,D3 lo hi] objs (λd objs'=>d=.tup [n5 (Dy c n lo hi),iv (mb c n lo hi)]/\objs'=objs):=by
 by_cases h:mb c n lo hi=0
 ·obtain⟨he,k,x,rfl,hx0,hin⟩:=Be h;rw[Bd h hx0,h];refine DCall.frame ?_ (by simp) (by simp) objs;refine(zN (G:=G) c k x lo hi hx0 he hin hG hN hS hR hk).mono ?_;rintro d o ⟨m,_,rfl,rfl⟩;have:=BB m (Bh c k x lo hi) lo hi;simp only[eU,fzVL,this];rfl
 ·rw[xT h];exact zO (G:=G) c n lo hi h hG hN hS hR hk objs
theorem dQ:mT boltP:=by
 refine⟨?_,?_⟩
 ·exact⟨by decide,by decide⟩
 ·intro x hx;simp only[boltP,List.mem_cons,List.not_mem_nil,or_false] at hx;rcases hx with rfl|rfl|rfl|rfl<;>exact⟨by decide,by decide⟩
theorem sE:nj boltC=true:=by decide +kernel
theorem kO:A5 boltP.n=0:=by decide +kernel
theorem mN:nums boltP.n.reg=[1,2,3]:=by decide +kernel
theorem qb:PrintsOk boltP:=by
 refine⟨by decide,by decide,λi x hx=>?_,λi x hx=>?_⟩
 ·rw[mN];have h:=List.getElem?_eq_some_iff.1 hx;obtain⟨h1,h2⟩:=h;have h1':i<2:=h1;rcases i with _|_|i
  ·cases hx;refine⟨by unfold GX;simp,λk d hd=>?_⟩;rcases k with _|_|k
   ·cases hd;exact⟨by decide,by simp⟩
   ·cases hd;exact⟨by decide,λ_ e he=>by cases he;decide⟩
   ·exact absurd hd (by simp)
  ·cases hx;refine⟨?_,λk d hd=>?_⟩
   ·refine⟨by decide,λ_ y hy=>?_,by decide,by decide,by decide,by decide⟩;cases hy;decide
   ·rcases k with _|k
    ·cases hd;exact⟨by decide,by simp⟩
    ·exact absurd hd (by simp)
  ·omega
 ·obtain⟨h1,h2⟩:=List.getElem?_eq_some_iff.1 hx;have h1':i<4:=h1;rcases i with _|_|_|_|i
  ·cases hx;exact⟨by simp,λc hc=>by rcases c with _|_|_|_|_|c<;>first|decide +kernel|omega⟩
  ·cases hx;exact⟨λ_ y hy=>by cases hy;decide,λc hc=>by rcases c with _|_|_|_|_|c<;>first|decide +kernel|omega⟩
  ·cases hx;exact⟨λ_ y hy=>by cases hy;decide,λc hc=>by rcases c with _|_|_|_|_|c<;>first|decide +kernel|omega⟩
  ·cases hx;exact⟨λ_ y hy=>by cases hy;decide,λc hc=>by rcases c with _|_|_|_|_|c<;>first|decide +kernel|omega⟩
  ·omega
theorem P6:u9 boltP=0:=by
 unfold u9;rw[if_neg (by rw[kO];decide),if_pos (cJ qb)]
theorem L8:q9 boltC=0:=by
 unfold q9;rw[if_neg (by rw[show boltC.p=boltP from rfl,P6];decide),if_pos (by decide +kernel)]
theorem bolt_k:ir boltC/\KC boltC:=qx dQ sE
theorem qa:V0 boltC=(15,17):=by
 unfold V0;rw[if_pos L8];decide +kernel
theorem mP:W0 boltC=0:=by
 unfold W0;rw[if_pos L8,qa];decide +kernel
theorem F8:G9 boltC=0:=by
 unfold G9;rw[if_neg (by rw[L8];decide),if_neg (by rw[mP];decide)]
theorem kQ (d i w:Int) (hd:sn d 1=true) (h:(boltP.holders.any λy=>decide (y.id=i))=true/\w∈nums boltP.n.reg):J9 boltP d 1 i w=0:=by
 unfold J9 G3;rw[if_neg,if_pos h];rw[if_neg (by rw[P6];decide),if_pos hd];decide
theorem ju {l r:List Int} (hp:l.Perm r) (hs:r.Pairwise (·<=·)):j9 l=r:=
 List.Perm.eq_of_pairwise (λa b _ _ h1 h2=>by omega) (nG l) hs (((List.mergeSort_perm l _)).trans hp)
theorem fg:H7 boltC 0=[1,2]:=by
 show G0 boltP 20 2 2=_;unfold G0;rw[if_pos (kQ 20 2 2 (by decide) (by decide +kernel))];unfold U8;have e:j9 (V2 20 2 2 boltP.prints++[Z6 20 2 2 boltP.prints])=[1,2]:=ju (by decide +kernel) (by decide +kernel);rw[e];decide +kernel
theorem ff:H7 boltC 1=[1]:=by
 show G0 boltP 20 1 3=_;unfold G0;rw[if_pos (kQ 20 1 3 (by decide) (by decide +kernel))];unfold U8;have e:j9 (V2 20 1 3 boltP.prints++[Z6 20 1 3 boltP.prints])=[1]:=ju (by decide +kernel) (by decide +kernel);rw[e];decide +kernel
theorem bg:j9 (l8 boltP.n.notes)=[]:=by decide +kernel
theorem BY:xM boltC []=false:=by decide +kernel
theorem Ca:gD boltC [] 0=[(true,false),(false,true)]:=by
 show (H7 boltC 0).foldl (F6 boltC ⟨2,0,false⟩ ⟨2,20,106,107⟩ (kg boltC [] 2)) []=_;rw[fg];decide +kernel
theorem BZ:gD boltC [] 1=[(false,false)]:=by
 show (H7 boltC 1).foldl (F6 boltC ⟨3,0,true⟩ ⟨1,20,90,91⟩ (kg boltC [] 3)) []=_;rw[ff];decide +kernel
def dl:Desk:=⟨boltC,false,[[(true,false),(false,true)],[(false,false)]]⟩
theorem mQ:G1 boltC []=dl:=by
 unfold G1 dl;rw[BY,show (List.range boltC.pieces.length).map (gD boltC [])=[gD boltC [] 0,gD boltC [] 1] from rfl,Ca,BZ]
theorem Z1:n8 boltC=[dl]:=by
 unfold n8;rw[show boltC.p=boltP from rfl,bg,show fp ([]:List Int)=[[]] by decide +kernel];simp[mQ]
theorem bolt_sus:nc boltC 2=[]/\nc boltC 1=[⟨2,0⟩,⟨3,0⟩]:=by
 unfold nc Fb CE;rw[if_pos F8,if_pos F8,Z1];decide +kernel
theorem zG:sR boltC=[⟨2,0⟩,⟨3,0⟩]:=by
 unfold sR zU;rw[if_pos F8,Z1];decide +kernel
theorem zC:rU boltC=[⟨2,0⟩]:=by
 unfold rU;rw[if_pos F8,Z1];decide +kernel
theorem zD:nY boltC=(1,1):=by
 unfold nY;rw[if_pos F8,Z1];decide +kernel
theorem K5 (k:Nat) (h:k<2):T8 boltC k=0/\fR boltC k=H7 boltC k:=by
 have e:T8 boltC k=0:=by
  unfold T8;rw[if_neg (by rw[L8];decide),if_pos ⟨by omega,by show (k:Int)<((2:Nat):Int);omega⟩]
 exact⟨e,by unfold fR;rw[if_pos e];rfl⟩
theorem bolt_clr:gv boltC 1=0/\kL boltC 1=(90,91):=by
 have e0:=(K5 1 (by decide)).1;have e:jj boltC 1=(90,91):=by
  show (fR boltC ((1:Nat):Int)).foldl (G2 boltC ⟨3,0,true⟩) (90,91)=_;rw[(K5 1 (by decide)).2,ff];decide +kernel
 have e1:gv boltC 1=0:=by
  unfold gv;rw[if_neg (by rw[show (1:Int)=((1:Nat):Int) from rfl,e0];decide),e];decide
 exact⟨e1,by unfold kL;rw[if_pos e1,e]⟩
theorem F0 (s:Susp) (h:qC 2 s=true):bB boltC s=0/\dW boltC s=E8 [dl] s:=by
 have e:bB boltC s=0:=by
  unfold bB;rw[if_neg (by rw[F8];decide),if_pos (show qC boltC.pieces.length s=true from h)]
 exact⟨e,by unfold dW;rw[if_pos e,Z1]⟩
theorem qd (s:Susp) (h:qC 2 s=true):km boltC [] s=0/\je boltC [] s=E8 [dl] s:=by
 have e:km boltC [] s=0:=by
  unfold km;rw[if_neg (by rw[F8];decide),if_neg (by rw[show boltC.p=boltP from rfl,bg];decide),if_pos (show qC boltC.pieces.length s=true from h)]
 exact⟨e,by unfold je;rw[if_pos e,mQ]⟩
def CO:Case:={ boltC with pieces:=[⟨2,20,107,107⟩,⟨1,20,90,91⟩] }
theorem bolt_ms:mb boltC 0 107 107=0/\Dy boltC 0 107 107=CO:=by
 have e0:=(K5 0 (by decide)).1;have e1:mb boltC 0 107 107=0:=by
  unfold mb;rw[if_neg (by rw[show (0:Int)=((0:Nat):Int) from rfl,e0];decide)];rfl
 exact⟨e1,by unfold Dy;rw[if_pos e1];rfl⟩
@[simp] abbrev KI:List Nat:=[0,1,2,3,4,5,6,7,8,9,10,11,12,13,14,15,16,17,18,19,20,21,22,148]
set_option maxRecDepth 10000 in
theorem Cj (hG:o4 G) (hN:C7 G) (hS:s8 G) (hU:S8 G) (hR:u3 G) (hC:I9 G) (hK:bD G) (hF:jh G):zP prog G 8 [] (bv true):=by
 refine zf func8 ntmps8 ?_;try simp only[iv]
 have hk:=bolt_k.2;have c0:=zF (G:=G);have c1:=sN (G:=G) boltC hG hN hS hR hk;have c2:=od (G:=G) boltC hG hN hS hR hk;have c3:=bQ (G:=G) boltC 0 hG hN hS hR hk;have c4:=qe (G:=G) boltC hG hN hS hU hR hC hK hk;have c5:=zR (G:=G) boltC hG hN hS hU hR hC hF hk;have c6:=vZ (G:=G) boltC hG hN hS hU hR hC hF hk;have c7:=qh (G:=G) boltC hG hN hS hU hR hC hF hk;have c8:=kV (G:=G) boltC 1 hG hN hS hR hk;have c9:=qf (G:=G) boltC 0 107 107 hG hN hS hR hk;have c10:=zQ (G:=G) boltC [] ⟨2,0⟩ (by decide) (by decide) hG hN hS hR hC hK hk;rw[qa,L8] at c1;rw[mP,L8] at c2;rw[show (0:Int)=((0:Nat):Int) from rfl,(K5 0 (by decide)).1,(K5 0 (by decide)).2,fg] at c3;rw[bolt_sus.1,bolt_sus.2,F8] at c4;rw[zG,F8] at c5;rw[zC,F8] at c6;rw[zD,F8] at c7;rw[bolt_clr.1,bolt_clr.2] at c8;rw[bolt_ms.1,bolt_ms.2] at c9;rw[(qd ⟨2,0⟩ (by decide)).1,(qd ⟨2,0⟩ (by decide)).2,show E8 [dl] ⟨2,0⟩=1 by decide] at c10;have d1:=ac (G:=G) boltC ⟨1,0⟩ 0 (by decide) hG hN hS hR hC hK hk;have d2:=ac (G:=G) boltC ⟨3,0⟩ 1 (by decide) hG hN hS hR hC hK hk;have d3:=ac (G:=G) boltC ⟨2,1⟩ 0 (by decide) hG hN hS hR hC hK hk;rw[(F0 ⟨1,0⟩ (by decide)).1,(F0 ⟨1,0⟩ (by decide)).2,show E8 [dl] ⟨1,0⟩=0 by decide] at d1;rw[(F0 ⟨3,0⟩ (by decide)).1,(F0 ⟨3,0⟩ (by decide)).2,show E8 [dl] ⟨3,0⟩=1 by decide] at d2;rw[(F0 ⟨2,1⟩ (by decide)).1,(F0 ⟨2,1⟩ (by decide)).2,show E8 [dl] ⟨2,1⟩=0 by decide] at d3;simp only[decide_true,Bool.and_self] at d1 d2 d3;have s0:=wY (G:=G);have s1:=nf (G:=G) 0;have s2:=nf (G:=G) 1;have s3:=qO (G:=G) 0;have p1:=L6 (G:=G) 15 17;have p2:=L6 (G:=G) 90 91;have p3:=L6 (G:=G) 107 107;have p4:=L6 (G:=G) 1 1;have q1:=jV (G:=G) [1,2] [1,2] (by simp);simp only[decide_true] at q1;have q2:=lY (G:=G) [⟨2,0⟩,⟨3,0⟩] (by simp);have q3:=lY (G:=G) [⟨2,0⟩] (by simp);simp only[n5,D8,j6,B4,D3,wJ,A4,Ab.encI,rI,List.map_cons,List.map_nil,Int.natCast_zero] at *;obtain⟨m1,m2,m3,m4,m5,m6,m7,m8,m9,hM⟩:∃ m1 m2 m3 m4 m5 m6 m7 m8 m9,(i9 CO).map DC.im=[.im m1,.im m2,.im m3,.im m4,.im m5,.im m6,.im m7,.im m8,.im m9,.im (.sl ([⟨2,20,107,107⟩,⟨1,20,90,91⟩].map u7))]:=⟨_,_,_,_,_,_,_,_,_,rfl⟩
 rw[hM] at c9;obtain⟨X,hX⟩:∃ X,i9 boltC=X:=⟨_,rfl⟩
 have hXf:∃ a b c d e f g h i j,X=[a,b,c,d,e,f,g,h,i,j]:=⟨_,_,_,_,_,_,_,_,_,_,hX.symm⟩
 obtain⟨x1,x2,x3,x4,x5,x6,x7,x8,x9,x10,rfl⟩:=hXf;rw[hX] at c0 c1 c2 c3 c4 c5 c6 c7 c8 c9 c10 d1 d2 d3;simp only[u7,rI,List.map_cons,List.map_nil] at *;repeat' first|(with_reducible first|refine zz ?_|refine zx ?_)|simp -dsimp|refine zp c0 ?_|refine zp c1 ?_|refine zp c2 ?_|refine zp c3 ?_|refine zp c4 ?_|refine zp c5 ?_|refine zp c6 ?_|refine zp c7 ?_|refine zp c8 ?_|refine zp c9 ?_|refine zp c10 ?_|refine zp s1 ?_|refine zp s3 ?_|refine zp p3 ?_|refine zq q1 ?_|refine zq d1 ?_|refine zq d2 ?_|refine zq d3 ?_|refine zq p1 ?_|refine zq p2 ?_|refine zq p3 ?_|refine zq p4 ?_|refine zq s0 ?_|refine zq s2 ?_|refine zq s3 ?_|refine zq c0 ?_|refine QCall.thaw (q2) ?_ ?_ ?_;(focus simp;done);(focus simp;done)|refine QCall.thaw (q3) ?_ ?_ ?_;(focus simp;done);(focus simp;done)|refine zM 12 198 70 KI ?_|refine zM 14 198 50 KI ?_|with_reducible refine zE KI ?_|refine j4 ?_ ?_<;>intro h<;>try exact h.elim
open Go Go.Ab
attribute [simp] p5 cr K4 ic s6 w0 nilV H9 ZK
def thereP:Prints:={ boltP with prints:=[⟨1,1,1,2,1,-1,0⟩,⟨2,1,1,3,1,-1,0⟩,⟨3,1,2,2,1,-1,0⟩,⟨4,12,2,2,2,-1,0⟩] }
def thereC:Case:={ boltC with p:=thereP }
def wideC:Case:={ boltC with loop:={ links:=[⟨2,0,false⟩,⟨3,0,true⟩],lo:=0,hi:=20 } }
def earlyC:Case:={ boltC with machine:=6 }
def oddC:Case:={ boltC with loop:={ links:=[⟨2,4,false⟩,⟨3,0,true⟩],lo:=0,hi:=14 } }
theorem qK:mT thereP:=by
 refine⟨?_,?_⟩
 ·exact⟨by decide,by decide⟩
 ·intro x hx;simp only[thereP,List.mem_cons,List.not_mem_nil,or_false] at hx;rcases hx with rfl|rfl|rfl|rfl<;>exact⟨by decide,by decide⟩
theorem there_k:ir thereC/\KC thereC:=qx qK (by decide +kernel)
theorem wide_k:ir wideC/\KC wideC:=qx dQ (by decide +kernel)
theorem early_k:ir earlyC/\KC earlyC:=qx dQ (by decide +kernel)
theorem odd_k:ir oddC/\KC oddC:=qx dQ (by decide +kernel)
theorem mZ:PrintsOk thereP:=by
 refine⟨by decide,by decide,λi x hx=>?_,λi x hx=>?_⟩
 ·rw[show nums thereP.n.reg=[1,2,3] from mN];have h:=List.getElem?_eq_some_iff.1 hx;obtain⟨h1,h2⟩:=h;have h1':i<2:=h1;rcases i with _|_|i
  ·cases hx;refine⟨by unfold GX;simp,λk d hd=>?_⟩;rcases k with _|_|k
   ·cases hd;exact⟨by decide,by simp⟩
   ·cases hd;exact⟨by decide,λ_ e he=>by cases he;decide⟩
   ·exact absurd hd (by simp)
  ·cases hx;refine⟨?_,λk d hd=>?_⟩
   ·refine⟨by decide,λ_ y hy=>?_,by decide,by decide,by decide,by decide⟩;cases hy;decide
   ·rcases k with _|k
    ·cases hd;exact⟨by decide,by simp⟩
    ·exact absurd hd (by simp)
  ·omega
 ·obtain⟨h1,h2⟩:=List.getElem?_eq_some_iff.1 hx;have h1':i<4:=h1;rcases i with _|_|_|_|i
  ·cases hx;exact⟨by simp,λc hc=>by rcases c with _|_|_|_|_|c<;>first|decide +kernel|omega⟩
  ·cases hx;exact⟨λ_ y hy=>by cases hy;decide,λc hc=>by rcases c with _|_|_|_|_|c<;>first|decide +kernel|omega⟩
  ·cases hx;exact⟨λ_ y hy=>by cases hy;decide,λc hc=>by rcases c with _|_|_|_|_|c<;>first|decide +kernel|omega⟩
  ·cases hx;exact⟨λ_ y hy=>by cases hy;decide,λc hc=>by rcases c with _|_|_|_|_|c<;>first|decide +kernel|omega⟩
  ·omega
theorem ef:u9 thereP=0:=by
 unfold u9;rw[if_neg (by rw[show thereP.n=boltP.n from rfl,kO];decide),if_pos (cJ mZ)]
theorem cv:q9 thereC=0:=by
 unfold q9;rw[if_neg (by rw[show thereC.p=thereP from rfl,ef];decide),if_pos (by decide +kernel)]
theorem bo:q9 wideC=0:=by
 unfold q9;rw[if_neg (by rw[show wideC.p=boltP from rfl,P6];decide),if_pos (by decide +kernel)]
theorem db:q9 earlyC=0:=by
 unfold q9;rw[if_neg (by rw[show earlyC.p=boltP from rfl,P6];decide),if_pos (by decide +kernel)]
theorem uH:q9 oddC=100:=by
 unfold q9;rw[if_neg (by rw[show oddC.p=boltP from rfl,P6];decide),if_neg (by decide +kernel)]
theorem uf:V0 thereC=(15,17):=by
 unfold V0;rw[if_pos cv];decide +kernel
theorem wQ:V0 wideC=(15,17):=by
 unfold V0;rw[if_pos bo];decide +kernel
theorem vD:V0 earlyC=(15,17):=by
 unfold V0;rw[if_pos db];decide +kernel
theorem qL:W0 thereC=0:=by
 unfold W0;rw[if_pos cv,uf];decide +kernel
theorem lO:W0 wideC=2:=by
 unfold W0;rw[if_pos bo,wQ];decide +kernel
theorem sd:W0 earlyC=0:=by
 unfold W0;rw[if_pos db,vD];decide +kernel
theorem ug:G9 thereC=0:=by
 unfold G9;rw[if_neg (by rw[cv];decide),if_neg (by rw[qL];decide)]
theorem wR:G9 wideC=101:=by
 unfold G9;rw[if_neg (by rw[bo];decide),if_pos (by rw[lO];decide)]
theorem vE:G9 earlyC=0:=by
 unfold G9;rw[if_neg (by rw[db];decide),if_neg (by rw[sd];decide)]
theorem iA (d i w:Int) (hd:sn d 1=true) (h:(thereP.holders.any λy=>decide (y.id=i))=true/\w∈nums thereP.n.reg):J9 thereP d 1 i w=0:=by
 unfold J9 G3;rw[if_neg,if_pos h];rw[if_neg (by rw[ef];decide),if_pos hd];decide
theorem oE:H7 thereC 0=[2]:=by
 show G0 thereP 20 2 2=_;unfold G0;rw[if_pos (iA 20 2 2 (by decide) (by decide +kernel))];unfold U8;have e:j9 (V2 20 2 2 thereP.prints++[Z6 20 2 2 thereP.prints])=[2]:=ju (by decide +kernel) (by decide +kernel);rw[e];decide +kernel
theorem oD:H7 thereC 1=[1]:=by
 show G0 thereP 20 1 3=_;unfold G0;rw[if_pos (iA 20 1 3 (by decide) (by decide +kernel))];unfold U8;have e:j9 (V2 20 1 3 thereP.prints++[Z6 20 1 3 thereP.prints])=[1]:=ju (by decide +kernel) (by decide +kernel);rw[e];decide +kernel
theorem wT:xM thereC []=false:=by decide +kernel
theorem wV:gD thereC [] 0=[(false,true)]:=by
 show (H7 thereC 0).foldl (F6 thereC ⟨2,0,false⟩ ⟨2,20,106,107⟩ (kg thereC [] 2)) []=_;rw[oE];decide +kernel
theorem wU:gD thereC [] 1=[(false,false)]:=by
 show (H7 thereC 1).foldl (F6 thereC ⟨3,0,true⟩ ⟨1,20,90,91⟩ (kg thereC [] 3)) []=_;rw[oD];decide +kernel
def jL:Desk:=⟨thereC,false,[[(false,true)],[(false,false)]]⟩
theorem oF:n8 thereC=[jL]:=by
 unfold n8;rw[show thereC.p=thereP from rfl,show j9 (l8 thereP.n.notes)=[] from bg,show fp ([]:List Int)=[[]] by decide +kernel];simp only[List.map_cons,List.map_nil];unfold G1 jL;rw[wT,show (List.range thereC.pieces.length).map (gD thereC [])=[gD thereC [] 0,gD thereC [] 1] from rfl,wV,wU]
theorem Z8 (s:Susp) (h:qC 2 s=true):bB thereC s=0/\dW thereC s=E8 [jL] s:=by
 have e:bB thereC s=0:=by
  unfold bB;rw[if_neg (by rw[ug];decide),if_pos (show qC thereC.pieces.length s=true from h)]
 exact⟨e,by unfold dW;rw[if_pos e,oF]⟩
theorem yS:xM earlyC []=true:=by decide +kernel
theorem early_notes:bB earlyC ⟨1,0⟩=0/\dW earlyC ⟨1,0⟩=2:=by
 have e:bB earlyC ⟨1,0⟩=0:=by
  unfold bB;rw[if_neg (by rw[vE];decide),if_pos (by decide)]
 refine⟨e,?_⟩;unfold dW;rw[if_pos e];unfold n8;rw[show earlyC.p=boltP from rfl,bg,show fp ([]:List Int)=[[]] by decide +kernel];simp only[List.map_cons,List.map_nil];unfold G1;rw[yS];rfl
theorem mO:T8 boltC 2=2:=by
 unfold T8;rw[if_neg (by rw[L8];decide),if_neg (by show ¬ ((0:Int)<=2/\(2:Int)<((2:Nat):Int));omega)]
theorem vU:gv boltC 2=2:=by
 unfold gv;rw[mO];rfl
theorem vV:gv boltC 0=6:=by
 have e0:=(K5 0 (by decide)).1;have e:jj boltC 0=(fR boltC ((0:Nat):Int)).foldl (G2 boltC ⟨2,0,false⟩) (106,107):=rfl;rw[(K5 0 (by decide)).2,fg] at e;unfold gv;rw[if_neg (by rw[show (0:Int)=((0:Nat):Int) from rfl,e0];decide),e];decide +kernel
theorem qc:mb boltC 0 105 107=2:=by
 have e0:=(K5 0 (by decide)).1;unfold mb;rw[if_neg (by rw[show (0:Int)=((0:Nat):Int) from rfl,e0];decide)];rfl
theorem vS:km boltC [5] ⟨2,0⟩=31:=by
 unfold km;rw[if_neg (by rw[F8];decide),if_pos (by rw[show boltC.p=boltP from rfl,bg];decide)]
theorem vT:bB boltC ⟨2,2⟩=6:=by
 unfold bB;rw[if_neg (by rw[F8];decide),if_neg (by decide)]
attribute [simp] p5 cr K4 ic s6 w0 nilV H9 ZK
def bN:IC:=.sl (boltP.n.notes.map j8)
def bH:IC:=.sl (boltP.holders.map n7)
def bP:IC:=.sl (boltP.prints.map p6)
def bL:IC:=.sl (boltC.loop.links.map D6)
def bS:IC:=.sl (boltC.pieces.map u7)
def sG:DV:=.agg [.vec 8 0 0 4,.im bN,.im bH,.vec 11 0 0 4,.im (rI 8),.im (rI 1),.im bL,.im (rI 0),.im (rI 14),.im bS]
def sF:List DObj:=[.vec 0 [] 0 true,.vec 0 [] 0 true,.vec 0 [] 0 true,.vec 0 [] 0 true,.vec 0 [] 0 true,.vec 0 [] 0 true,.row [.vec 8 0 0 4,.im bN,.im bH,.vec 11 0 0 4,.im (rI 8),.im (rI 1),.im bL,.im (rI 0),.im (rI 14),.im bS],.vec 2 [[.im (rI 2),.im (rI 1)],[.im (rI 3),.im (rI 1)]] 0 false,.vec 5 [[.im (rI 1),.im (rI 1),.im (.raw (.int .u8 1)),.vec 7 0 0 2,.im (.sl [])],[.im (rI 2),.im (rI 1),.im (.raw (.int .u8 2)),.im (.sl []),.im (.sl [[rI 105,rI 100,rI 110]])],[.im (rI 2),.im (rI 2),.im (.raw (.int .u8 2)),.im (.sl []),.im (.sl [[rI 102,rI 100,rI 104]])],[.im (rI 3),.im (rI 1),.im (.raw (.int .u8 2)),.im (.sl []),.im (.sl [[rI 94,rI 90,rI 98]])]] 0 false,.vec 0 [] 0 true,.row [.vec 8 0 0 4],.vec 7 [[.im (rI 1),.im (rI 1),.im (rI 1),.im (rI 2),.im (rI 1),.im (rI (-1)),.im (.raw (.int .u8 0))],[.im (rI 2),.im (rI 1),.im (rI 1),.im (rI 3),.im (rI 1),.im (rI (-1)),.im (.raw (.int .u8 0))],[.im (rI 3),.im (rI 1),.im (rI 2),.im (rI 2),.im (rI 1),.im (rI (-1)),.im (.raw (.int .u8 0))],[.im (rI 4),.im (rI 12),.im (rI 2),.im (rI 2),.im (rI 2),.im (rI (-1)),.im (.raw (.int .u8 1))]] 0 false]
def Eu (d:DV) (o:List DObj):Prop:=d=sG/\o=sF
theorem Cb:DCall prog G 31 [] [] Eu:=by
 refine g9 func31 rfl ntmps31 (by simp) rfl ?_;have c1:=W6 (G:=G) 2 1 ⟨105,100,110⟩;have c2:=W6 (G:=G) 2 2 ⟨102,100,104⟩;have c3:=W6 (G:=G) 3 1 ⟨94,90,98⟩;have d1:=V1 (G:=G) 1 1 1 2 1 0;have d2:=V1 (G:=G) 2 1 1 3 1 0;have d3:=V1 (G:=G) 3 1 2 2 1 0;have d4:=V1 (G:=G) 4 12 2 2 2 1;have e1:=L6 (G:=G) 0 14;have e2:=L6 (G:=G) 106 107;have e3:=L6 (G:=G) 90 91;simp only[gk,B9,Q3,h9,aB,p6,D3,rI,List.map_cons,List.map_nil] at c1 c2 c3 d1 d2 d3 d4 e1 e2 e3;repeat' first|(with_reducible first|refine zz ?_|refine zx ?_)|simp -dsimp|refine zp c1 ?_|refine zp c2 ?_|refine zp c3 ?_|refine zq d1 ?_|refine zq d2 ?_|refine zq d3 ?_|refine zq d4 ?_|refine zq e1 ?_|refine zq e2 ?_|refine zq e3 ?_|refine fk (id:=3) (nt:=45) [0,1,2,3,4,5,6,7,8,9,10,11,12,13,14,15,16,19,20,21,22,23,24,25,26,27,28,17,18,29,30] 27 [([0,1,2,3,4,5,6,7,8,17,18,19,20,21,22,23,24,25,26],[0,1,2,25,27,29,31]),([17,18,19,20,21,22,23,24,25,26],[0,1,2,18,23,32])] [0,1,2] mixed rfl (by kernel_rfl) (by kernel_rfl) ?_|with_reducible refine zE [0,1,2] ?_
 all_goals exact⟨rfl,rfl⟩
theorem Cc:DCall prog G 31 [] [] (λd o=>d=sG/\o=sF):=Cb
attribute [simp] p5 cr K4 ic s6 w0 nilV H9 ZK
def sI:DV:=.agg [.vec 8 0 0 4,.im bN,.im bH,.im bP,.im (rI 8),.im (rI 1),.vec 11 0 0 2,.im (rI 0),.im (rI 14),.im bS]
def sH:List DObj:=[.vec 0 [] 0 true,.vec 0 [] 0 true,.vec 0 [] 0 true,.vec 0 [] 0 true,.vec 0 [] 0 true,.vec 0 [] 0 true,.row [.vec 8 0 0 4,.im bN,.im bH,.im bP,.im (rI 8),.im (rI 1),.vec 11 0 0 2,.im (rI 0),.im (rI 14),.im bS],.vec 2 [[.im (rI 2),.im (rI 1)],[.im (rI 3),.im (rI 1)]] 0 false,.vec 5 [[.im (rI 1),.im (rI 1),.im (.raw (.int .u8 1)),.vec 7 0 0 2,.im (.sl [])],[.im (rI 2),.im (rI 1),.im (.raw (.int .u8 2)),.im (.sl []),.im (.sl [[rI 105,rI 100,rI 110]])],[.im (rI 2),.im (rI 2),.im (.raw (.int .u8 2)),.im (.sl []),.im (.sl [[rI 102,rI 100,rI 104]])],[.im (rI 3),.im (rI 1),.im (.raw (.int .u8 2)),.im (.sl []),.im (.sl [[rI 94,rI 90,rI 98]])]] 0 false,.vec 0 [] 0 true,.row [.vec 8 0 0 4],.vec 3 [[.im (rI 2),.im (rI 0),.im (rB false)],[.im (rI 3),.im (rI 0),.im (rB true)]] 0 false]
def Ev (d:DV) (o:List DObj):Prop:=d=sI/\o=sH
theorem Cd:DCall prog G 31 [] [] Ev:=by
 refine g9 func31 rfl ntmps31 (by simp) rfl ?_;have c1:=W6 (G:=G) 2 1 ⟨105,100,110⟩;have c2:=W6 (G:=G) 2 2 ⟨102,100,104⟩;have c3:=W6 (G:=G) 3 1 ⟨94,90,98⟩;have d1:=V1 (G:=G) 1 1 1 2 1 0;have d2:=V1 (G:=G) 2 1 1 3 1 0;have d3:=V1 (G:=G) 3 1 2 2 1 0;have d4:=V1 (G:=G) 4 12 2 2 2 1;have e1:=L6 (G:=G) 0 14;have e2:=L6 (G:=G) 106 107;have e3:=L6 (G:=G) 90 91;simp only[gk,B9,Q3,h9,aB,p6,D3,rI,List.map_cons,List.map_nil] at c1 c2 c3 d1 d2 d3 d4 e1 e2 e3;repeat' first|(with_reducible first|refine zz ?_|refine zx ?_)|simp -dsimp|refine zp c1 ?_|refine zp c2 ?_|refine zp c3 ?_|refine zq d1 ?_|refine zq d2 ?_|refine zq d3 ?_|refine zq d4 ?_|refine zq e1 ?_|refine zq e2 ?_|refine zq e3 ?_|refine fk (id:=3) (nt:=45) [0,1,2,3,4,5,6,7,8,9,10,11,12,13,14,15,16,17,18,19,20,22,24,25,26,27,28,21,23,29,30] 27 [([0,1,2,3,4,5,6,7,8,9,10,11,12,13,14,15,16,17,18,21,22,23,24,25,26],[0,1,2,34,35]),([0,1,2,3,4,5,6,7,8,17,18,22,23,24,25,26],[0,1,2,25,27,29,31,36,37])] [0,1,2] mixed rfl (by kernel_rfl) (by kernel_rfl) ?_|with_reducible refine zE [0,1,2] ?_
 all_goals exact⟨rfl,rfl⟩
theorem Ce:DCall prog G 31 [] [] (λd o=>d=sI/\o=sH):=Cd
theorem AE:i9 thereC=[.sl [[rI 1,rI 1,.raw (.int .u8 1),.sl [[rI 2,rI 1],[rI 3,rI 1]],.sl []],[rI 2,rI 1,.raw (.int .u8 2),.sl [],.sl [[rI 105,rI 100,rI 110]]],[rI 2,rI 2,.raw (.int .u8 2),.sl [],.sl [[rI 102,rI 100,rI 104]]],[rI 3,rI 1,.raw (.int .u8 2),.sl [],.sl [[rI 94,rI 90,rI 98]]]],bN,bH,.sl [[rI 1,rI 1,rI 1,rI 2,rI 1,rI (-1),.raw (.int .u8 0)],[rI 2,rI 1,rI 1,rI 3,rI 1,rI (-1),.raw (.int .u8 0)],[rI 3,rI 1,rI 2,rI 2,rI 1,rI (-1),.raw (.int .u8 0)],[rI 4,rI 12,rI 2,rI 2,rI 2,rI (-1),.raw (.int .u8 0)]],rI 8,rI 1,bL,rI 0,rI 14,bS]:=rfl
theorem Fs:i9 oddC=[.sl [[rI 1,rI 1,.raw (.int .u8 1),.sl [[rI 2,rI 1],[rI 3,rI 1]],.sl []],[rI 2,rI 1,.raw (.int .u8 2),.sl [],.sl [[rI 105,rI 100,rI 110]]],[rI 2,rI 2,.raw (.int .u8 2),.sl [],.sl [[rI 102,rI 100,rI 104]]],[rI 3,rI 1,.raw (.int .u8 2),.sl [],.sl [[rI 94,rI 90,rI 98]]]],bN,bH,bP,rI 8,rI 1,.sl [[rI 2,rI 4,rB false],[rI 3,rI 0,rB true]],rI 0,rI 14,bS]:=rfl
theorem Et:i9 boltC=[.sl (boltR.map h9),bN,bH,bP,rI 8,rI 1,bL,rI 0,rI 14,bS]:=rfl
theorem CS:i9 wideC=[.sl (boltR.map h9),bN,bH,bP,rI 8,rI 1,bL,rI 0,rI 20,bS]:=rfl
theorem BN:i9 earlyC=[.sl (boltR.map h9),bN,bH,bP,rI 6,rI 1,bL,rI 0,rI 14,bS]:=rfl
attribute [simp] p5 cr K4 ic s6 w0 nilV H9 ZK
theorem tn (i:Nat) {P:Program} {nt:Nat} {tmps:List (Nat×DV)} {o:DObj} {os:List DObj} {ops:Array Oper} {b:Bool} {Q:Exit->DS->Prop} (h:DT P G ⟨0,none⟩ (Code.region i ops b) (DS.drop ⟨nt,tmps,o :: os⟩ 0) Q):DT P G ⟨0,none⟩ (Code.region i ops b) ⟨nt,tmps,o :: os⟩ Q:=
 oo (Weak.drop (Nat.zero_le _) (Nat.zero_le _)) h
@[simp] abbrev Km:List Nat:=[0,1,2,3,4,5,6,8,10,12,14,16,18,20,22,23,24,40,74]
set_option maxRecDepth 100000 in
theorem jk (hG:o4 G) (hN:C7 G) (hS:s8 G) (hU:S8 G) (hR:u3 G) (hC:I9 G) (hK:bD G) (hF:jh G):zP prog G 7 [] (bv true):=by
 refine zf func7 ntmps7 ?_;try simp only[iv]
 have cA:=Cj (G:=G) hG hN hS hU hR hC hK hF;have c0:=zF (G:=G);have cP:=Cc (G:=G);have cL:=Ce (G:=G);have k1:=ac (G:=G) boltC ⟨2,0⟩ 1 (by decide) hG hN hS hR hC hK bolt_k.2;have k2:=ac (G:=G) boltC ⟨3,1⟩ 0 (by decide) hG hN hS hR hC hK bolt_k.2;have k3:=ac (G:=G) thereC ⟨2,0⟩ 0 (by decide) hG hN hS hR hC hK there_k.2;have k4:=ac (G:=G) thereC ⟨3,0⟩ 2 (by decide) hG hN hS hR hC hK there_k.2;have k5:=ac (G:=G) earlyC ⟨1,0⟩ 2 (by decide) hG hN hS hR hC hK early_k.2;rw[(F0 ⟨2,0⟩ (by decide)).1,(F0 ⟨2,0⟩ (by decide)).2,show E8 [dl] ⟨2,0⟩=1 by decide] at k1;rw[(F0 ⟨3,1⟩ (by decide)).1,(F0 ⟨3,1⟩ (by decide)).2,show E8 [dl] ⟨3,1⟩=0 by decide] at k2;rw[(Z8 ⟨2,0⟩ (by decide)).1,(Z8 ⟨2,0⟩ (by decide)).2,show E8 [jL] ⟨2,0⟩=0 by decide] at k3;rw[(Z8 ⟨3,0⟩ (by decide)).1,(Z8 ⟨3,0⟩ (by decide)).2,show E8 [jL] ⟨3,0⟩=2 by decide] at k4;rw[early_notes.1,early_notes.2] at k5;simp only[decide_true,Bool.and_self] at k1 k2 k3 k4 k5;have m1:=bQ (G:=G) boltC 1 hG hN hS hR bolt_k.2;have m2:=kV (G:=G) boltC 0 hG hN hS hR bolt_k.2;have m3:=qh (G:=G) wideC hG hN hS hU hR hC hF wide_k.2;have m4:=qg (G:=G) boltC ⟨2,2⟩ (by decide) hG hN hS hR hC hK bolt_k.2;have m5:=zQ (G:=G) boltC [5] ⟨2,0⟩ (by decide) (by decide) hG hN hS hR hC hK bolt_k.2;have m6:=bQ (G:=G) boltC 2 hG hN hS hR bolt_k.2;have m7:=qf (G:=G) boltC 0 105 107 hG hN hS hR bolt_k.2;have m8:=sN (G:=G) oddC hG hN hS hR odd_k.2;have m9:=kV (G:=G) boltC 2 hG hN hS hR bolt_k.2;have m10:=od (G:=G) wideC hG hN hS hR wide_k.2;rw[show (1:Int)=((1:Nat):Int) from rfl,(K5 1 (by decide)).1,(K5 1 (by decide)).2,ff] at m1;rw[vV] at m2;rw[wR] at m3;rw[vT] at m4;rw[vS] at m5;rw[mO] at m6;rw[qc,xT (by rw[qc];decide)] at m7;rw[uH] at m8;rw[vU] at m9;rw[lO,bo] at m10;generalize kL boltC 0=z2 at *;generalize nY wideC=z3 at *;generalize dW boltC ⟨2,2⟩=z4 at *;generalize je boltC [5] ⟨2,0⟩=z5 at *;generalize fR boltC 2=z6 at *;generalize V0 oddC=z8 at *;generalize kL boltC 2=z9 at *;have s0:=wY (G:=G);have s1:=nf (G:=G) 0;have s2:=nf (G:=G) 2;have s3:=qO (G:=G) 0;have s4:=qO (G:=G) 1;have p1:=L6 (G:=G) 0 20;have p2:=L6 (G:=G) 105 107;have q1:=jV (G:=G) [1] [1] (by simp);simp only[decide_true] at q1;simp only[n5,Et,AE,CS,BN,Fs,sG,sF,sI,sH,iz,D8,j6,B4,D3,wJ,A4,Ab.encI,rI,rB,i9,List.map_cons,List.map_nil,Int.natCast_zero] at *;generalize boltR.map h9=bR at *;have hs:=trivial;repeat' first|(with_reducible first|refine zz ?_|refine zE Km ?_)|simp -dsimp[hs]|refine zp cA ?_
 refine CallE.pure c0 ?_;simp -dsimp;have hs:=trivial;repeat' first|simp -dsimp[hs]|refine zp k1 ?_|refine zp s1 ?_
 refine CallE.pure c0 ?_;simp -dsimp;have hs:=trivial;repeat' first|(with_reducible first|refine zz ?_|refine zE Km ?_)|simp -dsimp[hs]|refine zp k2 ?_|refine zp s4 ?_|refine j4 ?_ ?_<;>intro h<;>try exact h.elim
 refine CallE.embed [] (cP) ?_ ?_ ?_ ?_ ?_ ?_;(focus simp[p7];done);(focus simp;done);(focus simp;done);(focus simp;done);(focus refine n4 ?_;simp[p7,o6];done);try simp -dsimp[n3,p7]
 have hs:True:=trivial;all_goals try simp -dsimp[hs]
 all_goals try clear hs
 refine CallE.pure c0 ?_;simp -dsimp;have hs:True:=trivial;all_goals try simp -dsimp[hs]
 all_goals try clear hs
 refine CallE.pure c0 ?_;simp -dsimp;have hs:True:=trivial;all_goals try simp -dsimp[hs]
 all_goals try clear hs
 refine CallE.embed [] (cL) ?_ ?_ ?_ ?_ ?_ ?_;(focus simp[p7];done);(focus simp;done);(focus simp;done);(focus simp;done);(focus refine n4 ?_;simp[p7,o6];done);try simp -dsimp[n3,p7]
 have hs:=trivial;repeat' first|(with_reducible first|refine zz ?_|refine zr ?_)|simp -dsimp[hs]|refine zp p1 ?_|refine tn 8 ?_|refine zq s1 ?_|refine zq s3 ?_|refine zq s0 ?_|refine zq k3 ?_|refine zq k4 ?_|refine zq k5 ?_|refine zp c0 ?_|refine zp s2 ?_|refine zp s1 ?_|refine zp p2 ?_|refine zp m1 ?_|refine zp m2 ?_|refine zp m3 ?_|refine zp m4 ?_|refine zt m5 ?_ ?_ ?_;(focus simp;done);focus (simp;done)|refine zp m6 ?_|refine zp m7 ?_|refine zp m8 ?_|refine zp m9 ?_|refine zp m10 ?_|refine zt q1 ?_ ?_ ?_;(focus simp;done);focus (simp;done)|refine zM 8 176 16 Km ?_|with_reducible refine zE Km ?_|refine j4 ?_ ?_<;>intro h<;>try exact h.elim
end Go.Proofs
namespace Go.Ab
open Go Go.Sort
theorem RelM.grownS {G:IK} {M:MS} {w':World} {os:Array Obj} (h:RelM G M) (hw:w'.heap=M.w.heap++os) (hio:SameIo M.w w'):RelM G { M with w:=w' }/\Ext M.objs.length M { M with w:=w' }:=by
 have hold:∀ {b:Nat},b<M.w.heap.size->w'.heap[b]?=M.w.heap[b]?:=λ{b} hb=>by rw[hw];simp[Array.getElem?_append,hb]
 have hsz:M.w.heap.size<=w'.heap.size:=by rw[hw];simp
 have he:Ext M.objs.length M { M with w:=w' }:=
  ⟨Nat.le_refl _,λb hb=>⟨⟨Nat.lt_of_lt_of_le hb.1 hsz,hb.2⟩,hold hb.1⟩,cq M,hsz,λp _ c' hc=>⟨⟨c',hc⟩,rfl⟩,
   λp _ sz es g nl hv=>⟨sz,es,g,nl,hv,Nat.le_refl _,λ_=>⟨rfl,rfl,λhn=>⟨rfl,by simp only[F7];rw[hold (h.lt p _ hv (by simp[DObj.blk,hn]))]⟩⟩⟩,λp _ ks es hm=>⟨⟨ks,es,hm⟩,rfl⟩,
   λp _ r hm=>⟨⟨r,hm⟩,rfl⟩,λp _ d hm hi=>⟨⟨d,hm,hi⟩,rfl⟩,λp _ r hm=>⟨⟨r,hm⟩,rfl⟩,hio⟩
 exact⟨⟨λo d ho=>(h.objs o d ho).ext he (λ_=>rfl) (λhb=>hold (h.lt o d ho hb)),λo d ho hb=>Nat.lt_of_lt_of_le (h.lt o d ho hb) hsz,h.inj,λg l hg=>(h.glob g l hg).mono he.ok,λb hF=>Nat.lt_of_lt_of_le (h.fl b hF) hsz,h.own⟩,he⟩
theorem nu {l:List Int} {c:Array Value} {i:Nat} (hi:i<l.length) (hc:i<c.size):(putCells (Value.int .i64) 0 l.toArray c)[i]?=some (.int .i64 l[i]):=by
 simp only[putCells,Array.getElem?_mapIdx,Array.getElem?_eq_getElem hc,Option.map_some];rw[if_pos ⟨Nat.zero_le _,by simpa using hi⟩];simp[hi]
theorem DCall.sort {P:Program} {G:IK} {f:FuncId}
 (hS:∀ (blk cap:Nat) (zs:List Int) (w:World),Holds (Value.int .i64) w blk 0 zs.toArray->blk<w.heap.size->zs.length<4611686018427387904 ->
  Calls P f #[.slice (some ⟨blk,0,none⟩) zs.length cap] w λe w'=>e=.returned (.tuple #[])/\∃ n os,w'=grow (putRow (Value.int .i64) (Sort.ahead w n) blk 0 (zs.mergeSort λx y=>decide (x<=y)).toArray) os)
 (h0:∀ (a:Option Addr) (cap:Nat) (w:World),Calls P f #[.slice a 0 cap] w λe w'=>e=.returned (.tuple #[])/\w'=w)
 (l:List Int) (g sz:Nat) (nl:Bool) (hz:sz=1\/nl=true/\l=[]) (hl:l.length<1000000) :
 DCall P G f [.one (.vec 0 g 0 l.length)] [.vec sz (l6 (l.map Ab.encI)) g nl] (λd o=>d=.tup []/\o=[.vec sz (l6 ((j9 l).map Ab.encI)) g nl]):=by
 intro M vs hM ho hsz hr;obtain⟨v,rfl⟩:∃ v,vs=#[v]:=by
  obtain⟨vl⟩:=vs;match vl,hsz with
  | [v],_=>exact⟨v,rfl⟩
 have hv:=hr 0 _ v rfl rfl;have h1:M.objs[0]?=some (.vec sz (l6 (l.map Ab.encI)) g nl):=by rw[ho];rfl
 have hO:=hM.objs 0 _ h1;cases hv with
 | one _ _ hv =>
 cases hv with
 | vec _ _ _ _ _ _ _ hv =>
 obtain⟨_,hv⟩:=hv _ _ _ _ h1;obtain⟨hvt,hvf⟩:=hv rfl;have hnil:∀ (a:Option Addr) (cap:Nat),l=[]->Calls P f #[.slice a 0 cap] M.w λe w'=>∃ v d M',e=.returned v/\M'.w=w'/\RelM G M'/\RepV M' d v/\Ext 1 M M'/\d=.tup []/\M'.objs=[.vec sz (l6 ((j9 l).map Ab.encI)) g nl]:=λa cap hle=>by
  refine(h0 a cap M.w).mono λe w' ⟨he,hw⟩=>?_;subst hw;refine⟨_,.tup [],M,he,rfl,hM,.tup _ _ rfl (λj d v h=>by simp at h),(Ext.refl M).weaken (by simp[ho]),rfl,?_⟩;rw[ho,hle,show j9 []=[] from List.mergeSort_nil]
 cases nl with
 | true =>
   obtain⟨_,e,hv⟩:=hvt rfl;have e:l=[]:=List.eq_nil_of_length_eq_zero e;have:=hnil none 0 e;rw[hv];simpa using this
 | false =>
   obtain rfl:sz=1:=hz.resolve_right λh=>Bool.noConfusion h.1;obtain⟨x,cap,hv,hc,hx,hb⟩:=hvf rfl;by_cases e:l=[]
   ·have:=hnil (some ⟨M.β 0,x,none⟩) cap e;rw[hv];subst e;simpa using this
   have hlp:0<l.length:=List.length_pos_iff.2 e;have hx0:x=0:=by rcases hx with hx|hx<;>omega
   subst hx0;obtain⟨_,hO⟩:=hO;obtain⟨_,c,T,hh,hcs,hes,hrep⟩:=hO rfl;have hcl:l.length<=c.size:=by simpa[o7] using hcs
   have hcell:∀ j (hj:j<l.length),c[j]?=some (.int .i64 l[j]):=λj hj=>by
    have hjc:j<c.size:=by omega
    have:=hrep j [DC.im (.raw (.int .i64 l[j]))] 0 (.im (.raw (.int .i64 l[j]))) c[j] (by simp[l6,hj]) rfl (by simp[hjc]);have hcj:c[j]?=some c[j]:=by simp[hjc]
    generalize c[j]=y at this hcj;cases this with
    | im _ _ hi =>
      cases hi;exact hcj
   have hH:Holds (Value.int .i64) M.w (M.β 0) 0 l.toArray:=λj hj=>by
    have hj:j<l.length:=by simpa using hj
    refine⟨?_,?_⟩
    ·simp only[World.cell?,hh];simp[hcell j hj,hj]
    ·simp[World.frozen?,hh]
   have hlt:M.β 0<M.w.heap.size:=hM.lt 0 _ h1 rfl;rw[hv];refine(hS (M.β 0) cap l M.w hH hlt (by omega)).mono λe' w' ⟨he,n,os,hw⟩=>?_;have hmod:M.w.heap.modify (M.β 0) (onCells (putCells (Value.int .i64) 0 (j9 l).toArray))=M.w.heap.setIfInBounds (M.β 0) (.cells (putCells (Value.int .i64) 0 (j9 l).toArray c) T (0,0)):=by
    apply Array.ext_getElem?
    intro k;simp only[Array.getElem?_modify,Array.getElem?_setIfInBounds];by_cases hk:M.β 0=k
    ·subst hk;rw[if_pos rfl,if_pos rfl,if_pos hlt,hh];rfl
    ·simp[hk]
   have ha:(DObj.vec 1 (l6 (l.map Ab.encI)) g false).alike (.vec 1 (l6 ((j9 l).map Ab.encI)) g false):=⟨rfl,.inl ⟨rfl,rfl⟩⟩
   have hs:I5 (.cells (putCells (Value.int .i64) 0 (j9 l).toArray c) T (0,0))=I5 (.cells c T (0,0)):=by simp[I5,putCells]
   have hE:=Ext.turn (d':=.vec 1 (l6 ((j9 l).map Ab.encI)) g false) h1 rfl ha hh hs;have hR:=RelM.turn (d':=.vec 1 (l6 ((j9 l).map Ab.encI)) g false) hM h1 rfl ha hh hs (by
    refine⟨λh=>Bool.noConfusion h,λ_=>⟨by omega,putCells (Value.int .i64) 0 (j9 l).toArray c,T,by simp[MS.turn,Array.getElem?_setIfInBounds_self_of_lt hlt],by simpa[o7,J3,putCells] using hcl,λi x hx=>?_,λi x j d v hx hj hv=>?_⟩⟩
    ·simp only[l6,List.getElem?_map,Option.map_map] at hx;obtain⟨y,_,rfl⟩:=Option.map_eq_some_iff.1 hx;rfl
    ·simp only[l6,List.getElem?_map,Option.map_map] at hx;obtain⟨y,hy,rfl⟩:=Option.map_eq_some_iff.1 hx;have hil:i<(j9 l).length:=e7 hy;match j,hj with
     | 0,hj =>
       cases hj;have hic:i<c.size:=by rw[J3] at hil;omega
       rw[Nat.mul_one,Nat.add_zero,nu hil hic] at hv;have e:(j9 l)[i]'hil=y:=(List.getElem?_eq_some_iff.1 hy).2;cases hv;rw[e];exact .im _ _ (.raw _ rfl))
   have hg:=RelM.grownS (w':=w') (os:=os) hR (by rw[hw];simp only[grow,putRow,mapBlock,Sort.ahead,MS.turn];rw[show (l.mergeSort λx y=>decide (x<=y))=j9 l from rfl,hmod]) (by rw[hw];exact⟨rfl,rfl,rfl,Nat.le_add_right _ _⟩);refine⟨_,.tup [],_,he,?_,hg.1,.tup _ _ rfl (λj d v h=>by simp at h),?_,rfl,?_⟩
   ·rfl
   ·have hl1:M.objs.length=1:=by rw[ho];rfl
    have h2:=hg.2;rw[show (M.turn 0 (.cells (putCells (Value.int .i64) 0 (j9 l).toArray c) T (0,0)) (.vec 1 (l6 ((j9 l).map Ab.encI)) g false)).objs.length=1 by simp[MS.turn,ho]] at h2;rw[hl1] at hE;exact hE.trans h2
   ·simp[MS.turn,ho]
end Go.Ab
