/- Part 25 of the proofs. -/
import Derived.Test.YtjodaihiogfkbaaGreatDoorU12
import Derived.Test.YtjodaihiogfkbaaGreatDoorU13
import Derived.Test.YtjodaihiogfkbaaGreatDoorU15
import Derived.Test.YtjodaihiogfkbaaGreatDoorU16
import Derived.Test.YtjodaihiogfkbaaGreatDoorU18
import Derived.Test.YtjodaihiogfkbaaGreatDoorI02
import Derived.Test.YtjodaihiogfkbaaGreatDoorI03
import Derived.Test.YtjodaihiogfkbaaGreatDoorI06
set_option linter.all false
set_option maxHeartbeats 100000000
namespace Go.Ab
open Go
abbrev Gp:=Nat×Bool
def uu (b:Nat->Nat×Nat) (m:Nat->Gp×Gp) (i k:Nat) (x:Issue):List DC:=if k<i then [.im (rI x.drawing),.im (rI x.letter),.im (.raw (.int .u8 x.kind)),.vec (b k).1 (m k).1.1 0 x.items.length,.vec (b k).2 (m k).2.1 0 x.dims.length] else (e8 x).map .im
def cz (b:Nat->Nat×Nat) (m:Nat->Gp×Gp) (i:Nat) (l:List Issue):List (List DC):=l.mapIdx (uu b m i)
def kV (l:List Issue) (m:Nat->Gp×Gp) (k:Nat):Q4:=match l[k]? with
 | some x=>(.vec 2 [] 0 true,.vec 2 (l7 (x.items.map A1)) (m k).1.1 (m k).1.2,.vec 3 [] 0 true,.vec 3 (l7 (x.dims.map D3)) (m k).2.1 (m k).2.2)
 | none=>(.gone,.gone,.gone,.gone)
def uy (b:Nat->Nat) (m:Nat->Gp) (i k:Nat) (x:Holder):List DC:=if k<i then [.im (rI x.id),.im (rI x.frm),.im (rI x.to),.vec (b k) (m k).1 0 x.draws.length] else (n4 x).map .im
def cD (b:Nat->Nat) (m:Nat->Gp) (i:Nat) (l:List Holder):List (List DC):=l.mapIdx (uy b m i)
def mG (l:List Holder) (m:Nat->Gp) (k:Nat):Q2:=match l[k]? with
 | some x=>(.vec 1 [] 0 true,.vec 1 (l7 (x.draws.map Ab.encI)) (m k).1 (m k).2)
 | none=>(.gone,.gone)
@[simp] theorem JR (b:Nat->Nat×Nat) (m:Nat->Gp×Gp) (i:Nat) (l:List Issue):(cz b m i l).length=l.length:=by simp[cz]
@[simp] theorem Kb (b:Nat->Nat) (m:Nat->Gp) (i:Nat) (l:List Holder):(cD b m i l).length=l.length:=by simp[cD]
theorem ya (b:Nat->Nat×Nat) (m:Nat->Gp×Gp) (l:List Issue):cz b m 0 l=l7 (l.map e8):=by
 unfold cz l7;apply List.ext_getElem?
 intro k;simp[List.getElem?_mapIdx,uu];rfl
theorem yi (b:Nat->Nat) (m:Nat->Gp) (l:List Holder):cD b m 0 l=l7 (l.map n4):=by
 unfold cD l7;apply List.ext_getElem?
 intro k;simp[List.getElem?_mapIdx,uy];rfl
theorem EX {b:Nat->Nat×Nat} {m:Nat->Gp×Gp} {i:Nat} {l:List Issue} {x:Issue} (h:l[i]?=some x):(cz b m i l)[i]?=some ((e8 x).map .im):=by
 simp[cz,List.getElem?_mapIdx,h,uu]
theorem Fg {b:Nat->Nat} {m:Nat->Gp} {i:Nat} {l:List Holder} {x:Holder} (h:l[i]?=some x):(cD b m i l)[i]?=some ((n4 x).map .im):=by
 simp[cD,List.getElem?_mapIdx,h,uy]
def gX {α:Type} (m:Nat->α) (i:Nat) (g:α) (k:Nat):α:=if k=i then g else m k
theorem BI {b:Nat->Nat×Nat} {m:Nat->Gp×Gp} {i:Nat} {l:List Issue} {x:Issue} (h:l[i]?=some x) (g:Gp×Gp):(cz b m i l).set i [.im (rI x.drawing),.im (rI x.letter),.im (.raw (.int .u8 x.kind)),.vec (b i).1 g.1.1 0 x.items.length,.vec (b i).2 g.2.1 0 x.dims.length]=cz b (gX m i g) (i+1) l:=by
 apply List.ext_getElem?
 intro k;rw[List.getElem?_set];by_cases e:i=k
 ·subst e;have hlt:=e7 h;rw[if_pos rfl,if_pos (by simpa using hlt)];simp only[cz,List.getElem?_mapIdx,h,Option.map_some,uu,gX,if_true,Nat.lt_succ_self]
 ·rw[if_neg e];simp only[cz,List.getElem?_mapIdx];have h1:¬ k=i:=λh=>e h.symm;cases hk:l[k]? with
  | none=>rfl
  | some y =>
    simp only[Option.map_some,uu,gX,if_neg h1];by_cases h2:k<i
    ·rw[if_pos h2,if_pos (by omega)]
    ·rw[if_neg h2,if_neg (by omega)]
theorem BU {b:Nat->Nat} {m:Nat->Gp} {i:Nat} {l:List Holder} {x:Holder} (h:l[i]?=some x) (g:Gp):(cD b m i l).set i [.im (rI x.id),.im (rI x.frm),.im (rI x.to),.vec (b i) g.1 0 x.draws.length]=cD b (gX m i g) (i+1) l:=by
 apply List.ext_getElem?
 intro k;rw[List.getElem?_set];by_cases e:i=k
 ·subst e;have hlt:=e7 h;rw[if_pos rfl,if_pos (by simpa using hlt)];simp only[cD,List.getElem?_mapIdx,h,Option.map_some,uy,gX,if_true,Nat.lt_succ_self]
 ·rw[if_neg e];simp only[cD,List.getElem?_mapIdx];have h1:¬ k=i:=λh=>e h.symm;cases hk:l[k]? with
  | none=>rfl
  | some y =>
    simp only[Option.map_some,uy,gX,if_neg h1];by_cases h2:k<i
    ·rw[if_pos h2,if_pos (by omega)]
    ·rw[if_neg h2,if_neg (by omega)]
theorem xZ {l:List Issue} {m:Nat->Gp×Gp} {i:Nat} {x:Issue} (h:l[i]?=some x) (g:Gp×Gp):G5 (kV l (gX m i g)) (i+1)=G5 (kV l m) i++[.vec 2 [] 0 true,.vec 2 (l7 (x.items.map A1)) g.1.1 g.1.2,.vec 3 [] 0 true,.vec 3 (l7 (x.dims.map D3)) g.2.1 g.2.2]:=by
 rw[G5,eA (H:=kV l m) λk hk=>by unfold kV gX;rw[if_neg (by omega)]];simp[kV,h,gX]
theorem yh {l:List Holder} {m:Nat->Gp} {i:Nat} {x:Holder} (h:l[i]?=some x) (g:Gp):J6 (mG l (gX m i g)) (i+1)=J6 (mG l m) i++[.vec 1 [] 0 true,.vec 1 (l7 (x.draws.map Ab.encI)) g.1 g.2]:=by
 rw[J6,eB (H:=mG l m) λk hk=>by unfold mG gX;rw[if_neg (by omega)]];simp[mG,h,gX]
abbrev DA:=(Gp×Gp)×(Nat->Gp×Gp)×(Gp×Gp)×(Nat->Gp)×(Gp×Gp)
def uZ (s k:Nat):Nat×Nat:=(4*k+(13+s),4*k+(15+s))
def vb (N s k:Nat):Nat:=4*N+2*k+(17+s)
def qx (s:Nat) (m:DA) (c:Case):List DC:=[.vec (9+s) m.1.1.1 0 c.p.n.reg.length,.vec (11+s) m.1.2.1 0 c.p.n.notes.length,.vec (4*c.p.n.reg.length+(13+s)) m.2.2.1.1.1 0 c.p.holders.length,.vec (4*c.p.n.reg.length+(15+s)) m.2.2.1.2.1 0 c.p.prints.length,.im (rI c.machine),.im (rI c.of),.vec (4*c.p.n.reg.length+2*c.p.holders.length+(17+s)) m.2.2.2.2.1.1 0 c.loop.links.length,.im (rI c.loop.lo),.im (rI c.loop.hi),.vec (4*c.p.n.reg.length+2*c.p.holders.length+(19+s)) m.2.2.2.2.2.1 0 c.pieces.length]
def sw (s:Nat) (m:DA) (c:Case):List DObj:=.row (qx s m c) :: .vec 0 [] 0 true :: .vec 0 [] 0 true :: .vec 0 [] 0 true :: .vec 0 [] 0 true :: .vec 0 [] 0 true :: .vec 0 [] 0 true :: .row (qx s m c) :: .vec 5 [] 0 true :: .vec 5 (cz (uZ s) m.2.1 c.p.n.reg.length c.p.n.reg) m.1.1.1 m.1.1.2 :: .vec 10 [] 0 true :: .vec 10 (l7 (c.p.n.notes.map j9)) m.1.2.1 m.1.2.2 :: (G5 (kV c.p.n.reg m.2.1) c.p.n.reg.length ++ .vec 4 [] 0 true :: .vec 4 (cD (vb c.p.n.reg.length s) m.2.2.2.1 c.p.holders.length c.p.holders) m.2.2.1.1.1 m.2.2.1.1.2 :: .vec 7 [] 0 true :: .vec 7 (l7 (c.p.prints.map A0)) m.2.2.1.2.1 m.2.2.1.2.2 :: (J6 (mG c.p.holders m.2.2.2.1) c.p.holders.length++[.vec 3 [] 0 true,.vec 3 (l7 (c.loop.links.map H3)) m.2.2.2.2.1.1 m.2.2.2.2.1.2,.vec 4 [] 0 true,.vec 4 (l7 (c.pieces.map A8)) m.2.2.2.2.2.1 m.2.2.2.2.2.2]))
theorem pK (e:Nat->Nat) (l:List (List IC)):(l7 l).map (rnL e)=l7 l:=by
 unfold l7;rw[List.map_map];exact List.map_congr_left λx _=>gp e x
theorem Ed (a s:Nat) (m:Nat->Gp×Gp) (i:Nat) (l:List Issue):(cz (uZ a) m i l).map (rnL λo=>s+o)=cz (uZ (a+s)) m i l:=by
 apply List.ext_getElem?
 intro k;simp only[cz,List.getElem?_map,List.getElem?_mapIdx];cases l[k]? with
 | none=>rfl
 | some x =>
   simp only[Option.map_some,uu];by_cases h:k<i
   ·rw[if_pos h,if_pos h];simp only[rnL,jw,uZ];rw[show s+(4*k+(13+a))=4*k+(13+(a+s)) by omega,show s+(4*k+(15+a))=4*k+(15+(a+s)) by omega]
   ·rw[if_neg h,if_neg h,gp]
theorem Ee (N a s:Nat) (m:Nat->Gp) (i:Nat) (l:List Holder):(cD (vb N a) m i l).map (rnL λo=>s+o)=cD (vb N (a+s)) m i l:=by
 apply List.ext_getElem?
 intro k;simp only[cD,List.getElem?_map,List.getElem?_mapIdx];cases l[k]? with
 | none=>rfl
 | some x =>
   simp only[Option.map_some,uy];by_cases h:k<i
   ·rw[if_pos h,if_pos h];simp only[rnL,jw,vb];rw[show s+(4*N+2*k+(17+a))=4*N+2*k+(17+(a+s)) by omega]
   ·rw[if_neg h,if_neg h,gp]
theorem AI (a s:Nat) (m:DA) (c:Case):rnL (λo=>s+o) (qx a m c)=qx (a+s) m c:=by
 simp only[qx,rnL,jw];simp only[List.cons.injEq,DC.vec.injEq,and_true,true_and];omega
theorem GL (a s:Nat) (m:DA) (c:Case):(sw a m c).map (dC λo=>s+o)=sw (a+s) m c:=by
 have h4:(G5 (kV c.p.n.reg m.2.1) c.p.n.reg.length).map (dC λo=>s+o)=G5 (kV c.p.n.reg m.2.1) c.p.n.reg.length:=by
  rw[oP];refine eA λk hk=>?_;unfold kV;rw[List.getElem?_eq_getElem hk];simp only[dC,pK,List.map_nil]
 have h2:(J6 (mG c.p.holders m.2.2.2.1) c.p.holders.length).map (dC λo=>s+o)=J6 (mG c.p.holders m.2.2.2.1) c.p.holders.length:=by
  rw[oR];refine eB λk hk=>?_;unfold mG;rw[List.getElem?_eq_getElem hk];simp only[dC,pK,List.map_nil]
 simp only[sw,List.map_cons,List.map_append,List.map_nil,dC,AI,Ed,Ee,pK,h4,h2]
theorem sj (n:Nat):v6 [] n=λo=>n+o:=by
 funext o;simp[v6]
theorem uh (objs o:List DObj):o6 [] objs o=objs++o.map (dC λk=>objs.length+k):=by
 unfold o6;rw[sj];simp[iA]
end Go.Ab
namespace Go.Proofs
open Go Go.Ab
variable {G:MF}
attribute [simp] s7 cN O1 fI u9 A4 nilV J1 ZK
@[simp] abbrev Qr:List Nat:=[0,1,2,3,4,5,6,36,37,38,85,86,87]
@[simp] abbrev Yd:List Nat:=[0,1,2,3,4,5,7,8,9,10,12,13,15,16,6,11,14,17]
theorem yU (c:Case) (hk:KC c):DCall Tryz.prog G 98 [n5 c] [] (λd o=>∃ m:DA,True/\d=.agg (qx 0 m c)/\o=sw 0 m c):=by
 generalize hQ:(λ(d:DV) (o:List DObj)=>∃ m:DA,True/\d=.agg (qx 0 m c)/\o=sw 0 m c)=Q;refine g9 Tryz.func98 rfl Tryz.ntmps98 (by simp) rfl ?_;have c1:=Km (G:=G) c.p.n.reg (by have:=hk.p.n.1.1;omega);have c2:=HZ (G:=G) c.p.n.notes (by have:=hk.p.n.2.1;omega);unfold G0 at c1 c2;simp only[List.length_map] at c1 c2;simp only[n5];have hs:=trivial;repeat' first|with_reducible refine zz ?_|simp -dsimp[hs]|refine CallE.embed_ex [] (c1) ?_ ?_ ?_ ?_ ?_ ?_;(focus simp[v6];done);(focus simp;done);(focus simp;done);(focus simp;done);(focus refine o9 ?_;simp[v6,s8];done);intro mmA hmmA;try simp -dsimp[o6,v6,hs]|refine CallE.embed_ex [] (c2) ?_ ?_ ?_ ?_ ?_ ?_;(focus simp[v6];done);(focus simp;done);(focus simp;done);(focus simp;done);(focus refine o9 ?_;simp[v6,s8];done);intro mmB hmmB;try simp -dsimp[o6,v6,hs]|refine Z7 (id:=2) (nt:=117) [none,none,none,none,none,none,none,none,none,none,none,none,none,none,none,some [0],some [15],some [16],some [17],none,some [1],some [20],some [21],none] [0,1,2,3,4,5,6,7,9,10,11,12,13,15,16,17,18,20,21,22,8,14,19,23] 20 [([0,1,8,9,10,11,12,13,14,15,16,17,18,19],[0,1,2,3,4,5,6,15,36,37,38,85,86,87]),([0,1,13,14,15,16,17,18,19],[0,1,2,3,4,5,6,16,21,36,37,38,85,86,87]),([1,17,18,19],[0,1,2,3,4,5,6,16,22,26,36,37,38,85,86,87])] Qr mixed rfl (by kernel_rfl) (by kernel_rfl) (by kernel_rfl) ?_|with_reducible refine zE Qr ?_
 all_goals try clear hs
 refine i6 (ι:={ q:Nat×(Nat->Gp×Gp) // q.1<=c.p.n.reg.length }) (λq=>⟨117,[(1,.one (.ptr 0 0)),(2,.one (.ptr 7 0)),(3,.one (.ptr 0 0)),(36,iv (c.p.n.reg.length:Int)),(37,iv (q.1.1:Int))],.row [.vec 9 mmA.1 0 c.p.n.reg.length,.vec 11 mmB.1 0 c.p.n.notes.length,.im (.sl (c.p.holders.map n4)),.im (.sl (c.p.prints.map A0)),.im (rI c.machine),.im (rI c.of),.im (.sl (c.loop.links.map H3)),.im (rI c.loop.lo),.im (rI c.loop.hi),.im (.sl (c.pieces.map A8))] :: .vec 0 [] 0 true :: .vec 0 [] 0 true :: .vec 0 [] 0 true :: .vec 0 [] 0 true :: .vec 0 [] 0 true :: .vec 0 [] 0 true :: .row [.vec 1 0 0 0,.vec 2 0 0 0,.vec 3 0 0 0,.vec 4 0 0 0,.im (rI 0),.im (rI 0),.vec 5 0 0 0,.im (rI 0),.im (rI 0),.vec 6 0 0 0] :: .vec 5 [] 0 true :: .vec 5 (cz (λk=>(4*k+13,4*k+15)) q.1.2 q.1.1 c.p.n.reg) mmA.1 mmA.2 :: .vec 10 [] 0 true :: .vec 10 (l7 (c.p.n.notes.map j9)) mmB.1 mmB.2 :: G5 (kV c.p.n.reg q.1.2) q.1.1⟩) (λq=>c.p.n.reg.length-q.1.1) ⟨(0,λ_=>((0,false),(0,false))),by simp⟩ (zv [1,2,3,36,37] (by simp[ya,G5])) ?_;rintro⟨⟨i,m⟩,hi⟩;simp only at hi;simp only[iv,rI];by_cases hlt:i<c.p.n.reg.length
 ·have hw:IntKind.i64.wrap ((i:Int)+1)=((i+1:Nat):Int):=p9 (by omega) (by have:=hk.p.n.1.1;omega);have hx0:c.p.n.reg[i]?=some c.p.n.reg[i]:=by simp[hlt]
  have hxm:=hk.p.n.1.2 _ (List.mem_of_getElem? hx0);generalize c.p.n.reg[i]=x at *;have c3:=Kl (G:=G) x.items (by omega);have c4:=Ko (G:=G) x.dims (by omega);unfold G0 at c3 c4;simp only[List.length_map] at c3 c4;have hat:∀ h,(cz (λk=>(4*k+13,4*k+15)) m i c.p.n.reg)[i]'h=(e8 x).map .im:=λh=>by
   have:=EX (b:=λk=>(4*k+13,4*k+15)) (m:=m) hx0;rw[List.getElem?_eq_getElem h] at this;exact Option.some.inj this
  simp only[e8,rI,List.map_cons,List.map_nil] at hat;have hset:=λg=>BI (b:=λk=>(4*k+13,4*k+15)) (m:=m) hx0 g;have hsuc:=λg=>xZ (m:=m) hx0 g;have hs:=za hlt (za hw hat);repeat' first|with_reducible refine zz ?_|simp -dsimp[hs]|refine CallE.embed_ex [] (c3) ?_ ?_ ?_ ?_ ?_ ?_;(focus simp[v6];done);(focus simp;done);(focus simp;done);(focus simp;done);(focus refine o9 ?_;simp[v6,s8];done);intro mmC hmmC;try simp -dsimp[o6,v6,hs]|refine CallE.embed_ex [] (c4) ?_ ?_ ?_ ?_ ?_ ?_;(focus simp[v6];done);(focus simp;done);(focus simp;done);(focus simp;done);(focus refine o9 ?_;simp[v6,s8];done);intro mmD hmmD;try simp -dsimp[o6,v6,hs]|refine Z7 (id:=7) (nt:=117) [none,none,none,none,none,none,none,none,none,none,none,none,some [0],some [12],none,some [1],some [15],none] Yd 14 [([0,1,6,7,8,9,10,11,12,13],[0,1,2,3,4,5,6,36,37,38,53,85,86,87]),([0,1,10,11,12,13],[0,1,2,3,4,5,6,36,37,38,54,58,85,86,87]),([1,12,13],[0,1,2,3,4,5,6,36,37,38,54,59,61,85,86,87])] Qr mixed rfl (by kernel_rfl) (by kernel_rfl) (by kernel_rfl) ?_|with_reducible refine zE Qr ?_|refine i9 ?_ ?_<;>intro h<;>try exact h.elim
  all_goals try clear hs
  refine At.round ⟨(i+1,gX m i (mmC,mmD)),by simp only;omega⟩ (by simp only;omega) (Weak.of_keep [1,2,3,36,37] ?_);rw[<- hset (mmC,mmD),hsuc (mmC,mmD)];simp
 ·obtain rfl:i=c.p.n.reg.length:=by omega
  have c5:=Ib (G:=G) c.p.holders (by have:=hk.p.p.h;omega);have c6:=FB (G:=G) c.p.prints (by have:=hk.p.p.q;omega);unfold G0 at c5 c6;simp only[List.length_map] at c5 c6;have hs:=hlt;repeat' first|with_reducible refine zz ?_|simp -dsimp[hs]|refine CallE.embed_ex [] (c5) ?_ ?_ ?_ ?_ ?_ ?_;(focus simp[v6];done);(focus simp;done);(focus simp;done);(focus simp;done);(focus refine o9 ?_;simp[v6,s8];done);intro mmE hmmE;try simp -dsimp[o6,v6,hs]|refine CallE.embed_ex [] (c6) ?_ ?_ ?_ ?_ ?_ ?_;(focus simp[v6];done);(focus simp;done);(focus simp;done);(focus simp;done);(focus refine o9 ?_;simp[v6,s8];done);intro mmF hmmF;try simp -dsimp[o6,v6,hs]|refine Z7 (id:=9) (nt:=117) [none,none,none,none,none,none,none,none,none,none,none,none,some [0],some [12],none,some [1],some [15],none] Yd 14 [([0,1,6,7,8,9,10,11,12,13],[0,1,2,3,4,5,6,36,37,38,70,85,86,87]),([0,1,10,11,12,13],[0,1,2,3,4,5,6,36,37,38,71,75,85,86,87]),([1,12,13],[0,1,2,3,4,5,6,36,37,38,71,76,78,85,86,87])] Qr mixed rfl (by kernel_rfl) (by kernel_rfl) (by kernel_rfl) ?_|with_reducible refine zE Qr ?_|refine i9 ?_ ?_<;>intro h<;>try exact h.elim
  all_goals try clear hs
  clear hlt hi;generalize hN:c.p.n.reg.length=N at *;refine i6 (ι:={ q:Nat×(Nat->Gp) // q.1<=c.p.holders.length }) (λq=>⟨117,[(1,.one (.ptr 0 0)),(2,.one (.ptr 7 0)),(3,.one (.ptr 0 0)),(85,iv (c.p.holders.length:Int)),(86,iv (q.1.1:Int))],.row [.vec 9 mmA.1 0 N,.vec 11 mmB.1 0 c.p.n.notes.length,.vec (4*N+13) mmE.1 0 c.p.holders.length,.vec (4*N+15) mmF.1 0 c.p.prints.length,.im (rI c.machine),.im (rI c.of),.im (.sl (c.loop.links.map H3)),.im (rI c.loop.lo),.im (rI c.loop.hi),.im (.sl (c.pieces.map A8))] :: .vec 0 [] 0 true :: .vec 0 [] 0 true :: .vec 0 [] 0 true :: .vec 0 [] 0 true :: .vec 0 [] 0 true :: .vec 0 [] 0 true :: .row [.vec 1 0 0 0,.vec 2 0 0 0,.vec 3 0 0 0,.vec 4 0 0 0,.im (rI 0),.im (rI 0),.vec 5 0 0 0,.im (rI 0),.im (rI 0),.vec 6 0 0 0] :: .vec 5 [] 0 true :: .vec 5 (cz (λk=>(4*k+13,4*k+15)) m N c.p.n.reg) mmA.1 mmA.2 :: .vec 10 [] 0 true :: .vec 10 (l7 (c.p.n.notes.map j9)) mmB.1 mmB.2 :: (G5 (kV c.p.n.reg m) N ++ .vec 4 [] 0 true :: .vec 4 (cD (λk=>4*N+2*k+17) q.1.2 q.1.1 c.p.holders) mmE.1 mmE.2 :: .vec 7 [] 0 true :: .vec 7 (l7 (c.p.prints.map A0)) mmF.1 mmF.2 :: J6 (mG c.p.holders q.1.2) q.1.1)⟩) (λq=>c.p.holders.length-q.1.1) ⟨(0,λ_=>(0,false)),by simp⟩ (zv [1,2,3,85,86] (by simp[yi,J6])) ?_;rintro⟨⟨i,m2⟩,hi⟩;simp only at hi;simp only[iv,rI];by_cases hlt:i<c.p.holders.length
  ·have hw:IntKind.i64.wrap ((i:Int)+1)=((i+1:Nat):Int):=p9 (by omega) (by have:=hk.p.p.h;omega);have hx0:c.p.holders[i]?=some c.p.holders[i]:=by simp[hlt]
   have hxm:=hk.p.p.d _ (List.mem_of_getElem? hx0);generalize c.p.holders[i]=x at *;have c3:=Kn (G:=G) x.draws (by omega);unfold G0 at c3;simp only[List.length_map] at c3;have hat:∀ h,(cD (λk=>4*N+2*k+17) m2 i c.p.holders)[i]'h=(n4 x).map .im:=λh=>by
    have:=Fg (b:=λk=>4*N+2*k+17) (m:=m2) hx0;rw[List.getElem?_eq_getElem h] at this;exact Option.some.inj this
   simp only[n4,rI,List.map_cons,List.map_nil] at hat;have hset:=λg=>BU (b:=λk=>4*N+2*k+17) (m:=m2) hx0 g;have hsuc:=λg=>yh (m:=m2) hx0 g;have hs:=za hlt (za hw hat);repeat' first|with_reducible refine zz ?_|simp -dsimp[hs]|refine CallE.embed_ex [] (c3) ?_ ?_ ?_ ?_ ?_ ?_;(focus simp[v6];done);(focus simp;done);(focus simp;done);(focus simp;done);(focus refine o9 ?_;simp[v6,s8];done);intro mmC hmmC;try simp -dsimp[o6,v6,hs]|refine Z7 (id:=13) (nt:=117) [none,none,none,none,none,none,none,none,none,none,none,none,none,none,some [3,4],some [14],none] [0,1,2,3,4,5,6,7,8,9,10,11,12,14,15,13,16] 15 [([0,1,2,3,4,13,14],[0,1,2,3,4,5,6,36,37,38,85,86,87,101])] Qr mixed rfl (by kernel_rfl) (by kernel_rfl) (by kernel_rfl) ?_|with_reducible refine zE Qr ?_|refine i9 ?_ ?_<;>intro h<;>try exact h.elim
   all_goals try clear hs
   refine At.round ⟨(i+1,gX m2 i mmC),by simp only;omega⟩ (by simp only;omega) (Weak.of_keep [1,2,3,85,86] ?_);rw[<- hset mmC,hsuc mmC];simp;refine congrArg (λa=>(cD (λk=>4*N+2*k+17) m2 i c.p.holders).set i [_,_,_,DC.vec a _ _ _]) ?_;omega
  ·obtain rfl:i=c.p.holders.length:=by omega
   have c7:=Ia (G:=G) c.loop.links (by have:=hk.l;omega);have c8:=FC (G:=G) c.pieces (by have:=hk.q;omega);unfold G0 at c7 c8;simp only[List.length_map] at c7 c8;have hs:=hlt;repeat' first|(with_reducible first|refine zz ?_|refine zr ?_)|simp -dsimp[hs]|refine CallE.embed_ex [] (c7) ?_ ?_ ?_ ?_ ?_ ?_;(focus simp[v6];done);(focus simp;done);(focus simp;done);(focus simp;done);(focus refine o9 ?_;simp[v6,s8];done);intro mmG hmmG;try simp -dsimp[o6,v6,hs]|refine CallE.embed_ex [] (c8) ?_ ?_ ?_ ?_ ?_ ?_;(focus simp[v6];done);(focus simp;done);(focus simp;done);(focus simp;done);(focus refine o9 ?_;simp[v6,s8];done);intro mmH hmmH;try simp -dsimp[o6,v6,hs]|refine Z7 (id:=15) (nt:=117) [none,none,none,none,none,none,none,some [],some [7],none,some [],none] [0,1,2,4,5,7,8,10,3,6,9,11] 8 [([3,4,5,6,7],[0,1,2,3,4,5,6,36,37,38,85,86,87,108]),([5,6,7],[0,1,2,3,4,5,6,36,37,38,85,86,87,109,111]),([7],[0,1,2,3,4,5,6,36,37,38,85,86,87,109,112,114])] Qr mixed rfl (by kernel_rfl) (by kernel_rfl) (by kernel_rfl) ?_|with_reducible refine zE Qr ?_|refine i9 ?_ ?_<;>intro h<;>try exact h.elim
   all_goals try clear hs
   subst hQ;refine⟨((mmA,mmB),m,(mmE,mmF),m2,(mmG,mmH)),trivial,?_,?_⟩
   ·simp only[qx,hN,DV.agg.injEq,List.cons.injEq,DC.vec.injEq,and_true,true_and,Nat.add_zero];exact⟨rfl,rfl,by omega,rfl,rfl,by omega⟩
   ·simp only[sw,qx,hN,List.cons.injEq,DObj.row.injEq,DC.vec.injEq,and_true,true_and,Nat.add_zero];exact⟨⟨rfl,rfl,by omega,rfl,rfl,by omega⟩,⟨rfl,rfl,by omega,rfl,rfl,by omega⟩,rfl,rfl⟩
end Go.Proofs
namespace Go.Proofs
open Go Go.Ab Tryz
variable {G:MF}
def LF (x:Piece) (lo hi:Int):Piece:=⟨x.holder,x.day,lo,hi⟩
def ub (c:Case) (k:Nat) (x:Piece) (lo hi:Int):Case:={ c with pieces:=c.pieces.set k (LF x lo hi) }
noncomputable def pQ (c:Case) (n lo hi:Int):Int:=if az c n≠0 then az c n else match c.pieces[n.toNat]? with
 | some x=>if W7 lo hi x.lo x.hi=true then 0 else 2
 | none=>2
theorem EF {c:Case} {n lo hi:Int} (h:pQ c n lo hi=0):s6 c=0/\∃ (k:Nat) (x:Piece),n=(k:Int)/\c.pieces[k]?=some x/\W7 lo hi x.lo x.hi=true:=by
 unfold pQ at h;by_cases h0:az c n=0
 ·rw[if_neg (by simp[h0])] at h;obtain⟨he,hn0,hn1⟩:=rM h0;obtain⟨k,rfl⟩:=Int.eq_ofNat_of_zero_le hn0;rw[Int.toNat_natCast] at h;cases hx:c.pieces[k]? with
  | none=>rw[hx] at h;simp at h
  | some x =>
    rw[hx] at h;simp only at h;by_cases hi':W7 lo hi x.lo x.hi=true
    ·exact⟨he,k,x,rfl,hx,hi'⟩
    ·rw[if_neg hi'] at h;exact absurd h (by decide)
 ·rw[if_pos (by exact h0)] at h;exact absurd h h0
def zZ (s:Nat) (m:DA) (c:Case) (lo hi:Int):List DObj:=.row (qx (9+s) m c) :: .row [.im (rI lo),.im (rI hi)] :: .vec 0 [] 0 true :: .vec 0 [] 0 true :: .vec 0 [] 0 true :: .vec 0 [] 0 true :: .vec 0 [] 0 true :: .vec 0 [] 0 true :: .row (qx (9+s) m c) :: sw (9+s) m c
theorem Hm {l:List Piece} {k:Nat} {x:Piece} (lo hi:Int) (h:l[k]?=some x):(l7 (l.map A8)).set k [.im (.raw (.int .i64 x.holder)),.im (.raw (.int .i64 x.day)),.im (.raw (.int .i64 lo)),.im (.raw (.int .i64 hi))]=l7 ((l.set k (LF x lo hi)).map A8):=by
 rw[List.map_set];unfold l7;rw[List.map_set];rfl
@[simp] abbrev QJ:List Nat:=[0,1,2,3,5,6,7,8,12,41]
theorem CX (c:Case) (k:Nat) (x:Piece) (lo hi:Int) (hx0:c.pieces[k]?=some x) (h0:s6 c=0) (hin:W7 lo hi x.lo x.hi=true) (hG:p5 G) (hN:D5 G) (hS:u6 G) (hR:w8 G) (hk:KC c):DCall prog G 41 [n5 c,iv (k:Int),E0 lo hi] [] (λd o=>∃ m:DA,True/\d=.tup [.agg (qx 9 m (ub c k x lo hi)),iv 0]/\o=zZ 0 m (ub c k x lo hi) lo hi):=by
 generalize hQ:(λ(d:DV) (o:List DObj)=>∃ m:DA,True/\d=.tup [.agg (qx 9 m (ub c k x lo hi)),iv 0]/\o=zZ 0 m (ub c k x lo hi) lo hi)=Q;refine g9 func41 rfl ntmps41 (by simp) rfl ?_;have hlt:k<c.pieces.length:=e7 hx0;have hx:c.pieces[k]=x:=(List.getElem?_eq_some_iff.1 hx0).2;have hq16:=hk.q;have c1:=jm (G:=G) c hG hN hS hR hk;rw[h0] at c1;have c2:=P9 (G:=G) 0 ((c.pieces.length:Int)-1) [(k:Int)] (by simp);rw[show ([(k:Int)].all λy=>decide (0<=y)&&decide (y<=(c.pieces.length:Int)-1))=true by simp;omega] at c2;have c3:=cB (G:=G) lo hi x.lo x.hi;rw[hin] at c3;have hw:IntKind.i64.wrap ((c.pieces.length:Int)-1)=(c.pieces.length:Int)-1:=p9 (by omega) (by omega);have c4:=yU (G:=G) c hk;simp only[n5,j4,E0] at c1 c3 c4 ⊢;have hs:=za hx (za hlt hw);repeat' first|(with_reducible first|refine zz ?_|refine zr ?_)|simp -dsimp[hs]|refine zp c1 ?_|refine zq c2 ?_|refine zq c3 ?_|refine CallE.embed_ex [] c4 ?_ ?_ ?_ ?_ ?_ ?_;(focus simp[v6];done);(focus simp;done);(focus simp;done);(focus simp;done);(focus refine o9 ?_;simp[v6,s8];done);intro mmA hmmA;(try simp only[uh,sj,kM,AI,GL,Nat.zero_add]);try simp -dsimp[qx,sw]|refine zM 4 52 27 QJ ?_|with_reducible refine zE QJ ?_|refine i9 ?_ ?_<;>intro h<;>try exact h.elim
 subst hQ;have hst:=Hm lo hi hx0;refine⟨mmA,trivial,?_,?_⟩
 ·simp[qx,ub]
 ·simp[zZ,sw,qx,ub,hst]
def lE:Case:=⟨⟨⟨[],[]⟩,[],[]⟩,0,0,⟨[],0,0⟩,[]⟩
noncomputable def Gm (c:Case) (n lo hi:Int):Case:=if pQ c n lo hi=0 then (match c.pieces[n.toNat]? with|some x=>ub c n.toNat x lo hi|none=>lE) else lE
theorem EE {c:Case} {k:Nat} {x:Piece} {lo hi:Int} (h:pQ c (k:Int) lo hi=0) (hx:c.pieces[k]?=some x):Gm c (k:Int) lo hi=ub c k x lo hi:=by
 unfold Gm;rw[if_pos h,Int.toNat_natCast,hx]
theorem Hn {c:Case} {n lo hi:Int} (h:¬ pQ c n lo hi=0):Gm c n lo hi=lE:=by
 unfold Gm;rw[if_neg h]
theorem Ho {c:Case} {k:Nat} {x:Piece} (lo hi:Int) (h0:s6 c=0) (hx:c.pieces[k]?=some x):pQ c (k:Int) lo hi=if W7 lo hi x.lo x.hi=true then 0 else 2:=by
 have hlt:=e7 hx;have h1:az c (k:Int)=0:=by unfold az;rw[if_neg (by simp[h0]),if_pos (by omega)]
 unfold pQ;rw[if_neg (by simp[h1]),Int.toNat_natCast,hx]
theorem EG {c:Case} {n:Int} (lo hi:Int) (h0:s6 c=0) (hn:¬ (0<=n/\n<c.pieces.length)):pQ c n lo hi=2:=by
 have h1:az c n=2:=by unfold az;rw[if_neg (by simp[h0]),if_neg hn]
 unfold pQ;rw[if_pos (by rw[h1];decide),h1]
theorem EH {c:Case} (n lo hi:Int) (h0:¬ s6 c=0):pQ c n lo hi=s6 c:=by
 have h1:az c n=s6 c:=by unfold az;rw[if_pos h0]
 unfold pQ;rw[if_pos (by rw[h1];exact h0),h1]
theorem CY (c:Case) (n lo hi:Int) (h:¬ pQ c n lo hi=0) (hG:p5 G) (hN:D5 G) (hS:u6 G) (hR:w8 G) (hk:KC c):zP prog G 41 [n5 c,iv n,E0 lo hi] (.tup [n5 lE,iv (pQ c n lo hi)]):=by
 refine zf func41 ntmps41 ?_;try simp only[iv,E0]
 have c1:=jm (G:=G) c hG hN hS hR hk;have hq16:=hk.q;simp only[n5,j4,E0] at c1 ⊢;by_cases h0:s6 c=0
 ·rw[h0] at c1;have hw:IntKind.i64.wrap ((c.pieces.length:Int)-1)=(c.pieces.length:Int)-1:=p9 (by omega) (by omega);have c2:=P9 (G:=G) 0 ((c.pieces.length:Int)-1) [n] (by simp);by_cases hn:0<=n/\n<c.pieces.length
  ·obtain⟨k,rfl⟩:=Int.eq_ofNat_of_zero_le hn.1;have hlt:k<c.pieces.length:=by omega
   have hx0:c.pieces[k]?=some c.pieces[k]:=by simp[hlt]
   have hE:=Ho lo hi h0 hx0;generalize hx:c.pieces[k]=x at *;have c3:=cB (G:=G) lo hi x.lo x.hi;rw[show ([(k:Int)].all λy=>decide (0<=y)&&decide (y<=(c.pieces.length:Int)-1))=true by simp;omega] at c2;have hin:W7 lo hi x.lo x.hi=false:=by
    cases hb:W7 lo hi x.lo x.hi
    ·rfl
    ·rw[hb,if_pos rfl] at hE;exact absurd hE h
   rw[hin,if_neg (by decide)] at hE;rw[hin] at c3;rw[hE];simp only[E0] at c3;have hs:=za hx (za hlt hw);repeat' first|(with_reducible first|refine zz ?_|refine zr ?_)|simp -dsimp[hs]|refine zp c1 ?_|refine zq c2 ?_|refine zq c3 ?_|refine zM 4 52 27 QJ ?_|with_reducible refine zE QJ ?_|refine i9 ?_ ?_<;>intro h<;>try exact h.elim
   all_goals simp[lE]
  ·have hE:=EG lo hi h0 hn;rw[show ([n].all λy=>decide (0<=y)&&decide (y<=(c.pieces.length:Int)-1))=false by simp;omega] at c2;rw[hE];have hs:=hw;repeat' first|(with_reducible first|refine zz ?_|refine zr ?_)|simp -dsimp[hs]|refine zp c1 ?_|refine zq c2 ?_|refine zM 4 52 27 QJ ?_|with_reducible refine zE QJ ?_|refine i9 ?_ ?_<;>intro h<;>try exact h.elim
   all_goals simp[lE]
 ·have hE:=EH n lo hi h0;rw[hE];have hs:=h0;repeat' first|(with_reducible first|refine zz ?_|refine zr ?_|refine zE QJ ?_)|simp -dsimp[hs]|refine zp c1 ?_|refine i9 ?_ ?_<;>intro h<;>try exact h.elim
  all_goals simp[lE]
end Go.Proofs
namespace Go.Ab
open Go
theorem Ch {i n:Nat} (h:i<n) (F:Nat->Q4) (R:List DObj):(G5 F n++R)[4*i+1]?=some (F i).2.1:=by
 rw[List.getElem?_append_left (by simp;omega),jP F (by omega) h];rfl
theorem Cg {i n:Nat} (h:i<n) (F:Nat->Q4) (R:List DObj):(G5 F n++R)[4*i+3]?=some (F i).2.2.2:=by
 rw[List.getElem?_append_left (by simp;omega),jP F (by omega) h];rfl
theorem Ci {i n:Nat} (h:i<n) (F:Nat->Q2) (R:List DObj):(J6 F n++R)[2*i+1]?=some (F i).2:=by
 rw[List.getElem?_append_left (by simp;omega),oS F (by omega) h];rfl
theorem pU {α β:Type} {f:α->Option β}:∀ {l:List α} {r:List β},l.length=r.length->(∀ (i:Nat) (x:α),l[i]?=some x->f x=r[i]?)->E9 f l=some r
 | [],[],_,_=>rfl
 | [],_ :: _,h,_=>by simp at h
 | _ :: _,[],h,_=>by simp at h
 | x :: l,y :: r,h,h2=>by
   have h0:=h2 0 x rfl;have h1:=pU (f:=f) (l:=l) (r:=r) (by simpa using h) (λi z hz=>by simpa using h2 (i+1) z (by simpa using hz));simp only[List.getElem?_cons_zero] at h0;simp only[E9,h0,h1]
theorem iP {k o g len sz:Nat} {nl:Bool} {objs:List DObj} {es:List (List DC)} {L:List (List IC)} (ho:objs[o]?=some (.vec sz es g nl)) (hl:es.length=len) (h:E9 (E9 (frz k 0 objs)) es=some L):frz (k+1) 0 objs (.vec o g 0 len)=some (.sl L):=by
 subst hl;simp only[frz,ho,Nat.zero_le,if_true,Nat.zero_add,Nat.le_refl,and_self,List.drop_zero,List.take_length,h,Option.map_some]
theorem fp {o g len sz:Nat} {nl:Bool} {objs:List DObj} {es:List (List DC)} {L:List (List IC)} (ho:objs[o]?=some (.vec sz es g nl)) (hl:es.length=len) (h:E9 (E9 (frz 19 0 objs)) es=some L):fz 0 objs (.vec o g 0 len)=.im (.sl L):=by
 simp only[fz,DC.lt,iP ho hl h];simp
theorem HM {s:Nat} {m:DA} {c:Case} {objs:List DObj} (h1:objs[9+s]?=some (.vec 5 (cz (uZ s) m.2.1 c.p.n.reg.length c.p.n.reg) m.1.1.1 m.1.1.2)) (h2:objs[11+s]?=some (.vec 10 (l7 (c.p.n.notes.map j9)) m.1.2.1 m.1.2.2))
 (h3:objs[4*c.p.n.reg.length+(13+s)]?=some (.vec 4 (cD (vb c.p.n.reg.length s) m.2.2.2.1 c.p.holders.length c.p.holders) m.2.2.1.1.1 m.2.2.1.1.2)) (h4:objs[4*c.p.n.reg.length+(15+s)]?=some (.vec 7 (l7 (c.p.prints.map A0)) m.2.2.1.2.1 m.2.2.1.2.2))
 (h5:objs[4*c.p.n.reg.length+2*c.p.holders.length+(17+s)]?=some (.vec 3 (l7 (c.loop.links.map H3)) m.2.2.2.2.1.1 m.2.2.2.2.1.2)) (h6:objs[4*c.p.n.reg.length+2*c.p.holders.length+(19+s)]?=some (.vec 4 (l7 (c.pieces.map A8)) m.2.2.2.2.2.1 m.2.2.2.2.2.2))
 (hA:∀ (k:Nat) (x:Issue),c.p.n.reg[k]?=some x->objs[4*k+(13+s)]?=some (.vec 2 (l7 (x.items.map A1)) (m.2.1 k).1.1 (m.2.1 k).1.2)/\objs[4*k+(15+s)]?=some (.vec 3 (l7 (x.dims.map D3)) (m.2.1 k).2.1 (m.2.1 k).2.2))
 (hB:∀ (k:Nat) (x:Holder),c.p.holders[k]?=some x->objs[4*c.p.n.reg.length+2*k+(17+s)]?=some (.vec 1 (l7 (x.draws.map Ab.encI)) (m.2.2.2.1 k).1 (m.2.2.2.1 k).2)):(qx s m c).map (fz 0 objs)=(j4 c).map .im:=by
 have e1:E9 (E9 (frz 19 0 objs)) (cz (uZ s) m.2.1 c.p.n.reg.length c.p.n.reg)=some (c.p.n.reg.map e8):=by
  refine pU (by simp) λi r hr=>?_;simp only[cz,List.getElem?_mapIdx,Option.map_eq_some_iff] at hr;obtain⟨x,hx,rfl⟩:=hr;rw[List.getElem?_map,hx];obtain⟨a1,a2⟩:=hA i x hx;have b1:=iP (k:=18) (len:=x.items.length) a1 (by simp[l7]) (U3 _ _ _ _);have b2:=iP (k:=18) (len:=x.dims.length) a2 (by simp[l7]) (U3 _ _ _ _);have hlt:=e7 hx;have f1:∀ c:IC,frz 19 0 objs (.im c)=some c:=λ_=>rfl;simp only[uu,if_pos hlt,E9,f1,uZ,b1,b2,Option.map_some,e8]
 have e2:E9 (E9 (frz 19 0 objs)) (cD (vb c.p.n.reg.length s) m.2.2.2.1 c.p.holders.length c.p.holders)=some (c.p.holders.map n4):=by
  refine pU (by simp) λi r hr=>?_;simp only[cD,List.getElem?_mapIdx,Option.map_eq_some_iff] at hr;obtain⟨x,hx,rfl⟩:=hr;rw[List.getElem?_map,hx];have b1:=iP (k:=18) (len:=x.draws.length) (hB i x hx) (by simp[l7]) (U3 _ _ _ _);have hlt:=e7 hx;have f1:∀ c:IC,frz 19 0 objs (.im c)=some c:=λ_=>rfl;simp only[uy,if_pos hlt,E9,f1,vb,b1,Option.map_some,n4]
 simp only[qx,List.map_cons,List.map_nil,j4];rw[fp h1 (by simp) e1,fp h2 (by simp[l7]) (U3 _ _ _ _),fp h3 (by simp) e2,fp h4 (by simp[l7]) (U3 _ _ _ _),fp h5 (by simp[l7]) (U3 _ _ _ _),fp h6 (by simp[l7]) (U3 _ _ _ _)];rfl
end Go.Ab
namespace Go.Proofs
open Go Go.Ab Tryz
variable {G:MF}
attribute [simp] s7 cN O1 fI u9 A4 nilV J1 ZK
theorem pZ (c:Case) (s:Susp) (w:Int) (h1:0<=s.kind/\s.kind<=255) (hG:p5 G) (hN:D5 G) (hS:u6 G) (hR:w8 G) (hC:K7 G) (hK:bX G) (hk:KC c):zP prog G 45 [n5 c,F1 s,vU w] (bv (decide (kT c s=0)&&decide (kR c s=w))):=by
 refine zf func45 ntmps45 ?_;try simp only[vU]
 have c1:=Da (G:=G) c s h1 hG hN hS hR hC hK hk;generalize kR c s=A at *;generalize kT c s=B at *;simp only[n5,j4,F1,j6,rI,List.map_cons,List.map_nil] at c1 ⊢;have hs:=trivial;repeat' first|(with_reducible first|refine zz ?_|refine zr ?_|refine zE [0,1,2,3,4,6,7,8] ?_)|simp -dsimp[hs]|refine zp c1 ?_|with_reducible refine j0 ?_ ?_<;>intro h<;>have h0:=h<;>(try simp only[i7] at h)<;>have h2:=h<;>(try simp at h2)<;>replace hs:=za h0 (za h (za h2 hs))
 all_goals simp
theorem Fl (m:DA) (c:Case) (lo hi:Int):(qx 9 m c).map (fz 0 (zZ 0 m c lo hi))=(j4 c).map .im:=by
 refine HM (s:=9) (m:=m) (c:=c) ?_ ?_ ?_ ?_ ?_ ?_ ?_ ?_
 ·simp[zZ,sw]
 ·simp[zZ,sw]
 ·simp[zZ,sw]
 ·simp[zZ,sw]
 ·simp[zZ,sw]
 ·simp[zZ,sw]
 ·intro k x hx;have hlt:=e7 hx;have a1:=Ch hlt;have a3:=Cg hlt;simp[zZ,sw,a1,a3,kV,hx]
 ·intro k x hx;have hlt:=e7 hx;have a1:=Ci hlt;simp[zZ,sw,a1,mG,hx]
theorem CZ (c:Case) (n lo hi:Int) (hG:p5 G) (hN:D5 G) (hS:u6 G) (hR:w8 G) (hk:KC c) (objs:List DObj):DCall prog G 41 [n5 c,iv n,E0 lo hi] objs (λd objs'=>d=.tup [n5 (Gm c n lo hi),iv (pQ c n lo hi)]/\objs'=objs):=by
 by_cases h:pQ c n lo hi=0
 ·obtain⟨he,k,x,rfl,hx0,hin⟩:=EF h;rw[EE h hx0,h];refine DCall.frame ?_ (by simp) (by simp) objs;refine(CX (G:=G) c k x lo hi hx0 he hin hG hN hS hR hk).mono ?_;rintro d o ⟨m,_,rfl,rfl⟩;have:=Fl m (ub c k x lo hi) lo hi;simp only[gC,fzVL,this];rfl
 ·rw[Hn h];exact CY (G:=G) c n lo hi h hG hN hS hR hk objs
theorem yR:W0 boltP:=by
 refine⟨?_,?_⟩
 ·exact⟨by decide,by decide⟩
 ·intro x hx;simp only[boltP,List.mem_cons,List.not_mem_nil,or_false] at hx;rcases hx with rfl|rfl|rfl|rfl<;>exact⟨by decide,by decide⟩
theorem vj:Q5 boltC=true:=by decide +kernel
theorem vk:p7 boltP.n=0:=by decide +kernel
theorem yQ:nums boltP.n.reg=[1,2,3]:=by decide +kernel
theorem sN:PrintsOk boltP:=by
 refine⟨by decide,by decide,λi x hx=>?_,λi x hx=>?_⟩
 ·rw[yQ];have h:=List.getElem?_eq_some_iff.1 hx;obtain⟨h1,h2⟩:=h;have h1':i<2:=h1;rcases i with _|_|i
  ·cases hx;refine⟨by unfold KG;simp,λk d hd=>?_⟩;rcases k with _|_|k
   ·cases hd;exact⟨by decide,by simp⟩
   ·cases hd;exact⟨by decide,λ_ e he=>by cases he;decide⟩
   ·exact absurd hd (by simp)
  ·cases hx;refine⟨?_,λk d hd=>?_⟩
   ·refine⟨by decide,λ_ y hy=>?_,by decide,by decide,by decide,by decide⟩;cases hy;decide
   ·rcases k with _|k
    ·cases hd;exact⟨by decide,by simp⟩
    ·exact absurd hd (by simp)
  ·omega
 ·obtain⟨h1,h2⟩:=List.getElem?_eq_some_iff.1 hx;have h1':i<4:=h1;rcases i with _|_|_|_|i
  ·cases hx;exact⟨by simp,λc hc=>by rcases c with _|_|_|_|_|c<;>first|decide +kernel|omega⟩
  ·cases hx;exact⟨λ_ y hy=>by cases hy;decide,λc hc=>by rcases c with _|_|_|_|_|c<;>first|decide +kernel|omega⟩
  ·cases hx;exact⟨λ_ y hy=>by cases hy;decide,λc hc=>by rcases c with _|_|_|_|_|c<;>first|decide +kernel|omega⟩
  ·cases hx;exact⟨λ_ y hy=>by cases hy;decide,λc hc=>by rcases c with _|_|_|_|_|c<;>first|decide +kernel|omega⟩
  ·omega
theorem jj:u4 boltP=0:=by
 unfold u4;rw[if_neg (by rw[vk];decide),if_pos (ef sN)]
theorem X2:s6 boltC=0:=by
 unfold s6;rw[if_neg (by rw[show boltC.p=boltP from rfl,jj];decide),if_pos (by decide +kernel)]
theorem bolt_k:no boltC/\KC boltC:=Dx yR vj
theorem sM:bw boltC=(15,17):=by
 unfold bw;rw[if_pos X2];decide +kernel
theorem pp:Z2 boltC=0:=by
 unfold Z2;rw[if_pos X2,sM];decide +kernel
theorem O3:G4 boltC=0:=by
 unfold G4;rw[if_neg (by rw[X2];decide),if_neg (by rw[pp];decide)]
theorem mW (d i w:Int) (hd:uX d 1=true) (h:(boltP.holders.any λy=>decide (y.id=i))=true/\w∈nums boltP.n.reg):P4 boltP d 1 i w=0:=by
 unfold P4 J4;rw[if_neg,if_pos h];rw[if_neg (by rw[jj];decide),if_pos hd];decide
theorem wo {l r:List Int} (hp:l.Perm r) (hs:r.Pairwise (·<=·)):l5 l=r:=
 List.Perm.eq_of_pairwise (λa b _ _ h1 h2=>by omega) (qd l) hs (((List.mergeSort_perm l _)).trans hp)
theorem mV:N5 boltC 0=[1,2]:=by
 show P1 boltP 20 2 2=_;unfold P1;rw[if_pos (mW 20 2 2 (by decide) (by decide +kernel))];unfold bL;have e:l5 (aP 20 2 2 boltP.prints++[cj 20 2 2 boltP.prints])=[1,2]:=wo (by decide +kernel) (by decide +kernel);rw[e];decide +kernel
theorem mU:N5 boltC 1=[1]:=by
 show P1 boltP 20 1 3=_;unfold P1;rw[if_pos (mW 20 1 3 (by decide) (by decide +kernel))];unfold bL;have e:l5 (aP 20 1 3 boltP.prints++[cj 20 1 3 boltP.prints])=[1]:=wo (by decide +kernel) (by decide +kernel);rw[e];decide +kernel
theorem po:l5 (j7 boltP.n.notes)=[]:=by decide +kernel
theorem FI:tU boltC []=false:=by decide +kernel
theorem FK:jM boltC [] 0=[(true,false),(false,true)]:=by
 show (N5 boltC 0).foldl (H6 boltC ⟨2,0,false⟩ ⟨2,20,106,107⟩ (cZ boltC [] 2)) []=_;rw[mV];decide +kernel
theorem FJ:jM boltC [] 1=[(false,false)]:=by
 show (N5 boltC 1).foldl (H6 boltC ⟨3,0,true⟩ ⟨1,20,90,91⟩ (cZ boltC [] 3)) []=_;rw[mU];decide +kernel
def jk:Desk:=⟨boltC,false,[[(true,false),(false,true)],[(false,false)]]⟩
theorem pq:C4 boltC []=jk:=by
 unfold C4 jk;rw[FI,show (List.range boltC.pieces.length).map (jM boltC [])=[jM boltC [] 0,jM boltC [] 1] from rfl,FK,FJ]
theorem bl:n8 boltC=[jk]:=by
 unfold n8;rw[show boltC.p=boltP from rfl,po,show ap ([]:List Int)=[[]] by decide +kernel];simp[pq]
theorem bolt_sus:aK boltC 2=[]/\aK boltC 1=[⟨2,0⟩,⟨3,0⟩]:=by
 unfold aK GD EU;rw[if_pos O3,if_pos O3,bl];decide +kernel
theorem CO:qF boltC=[⟨2,0⟩,⟨3,0⟩]:=by
 unfold qF Df;rw[if_pos O3,bl];decide +kernel
theorem CM:ql boltC=[⟨2,0⟩]:=by
 unfold ql;rw[if_pos O3,bl];decide +kernel
theorem CN:fJ boltC=(1,1):=by
 unfold fJ;rw[if_pos O3,bl];decide +kernel
theorem eQ (k:Nat) (h:k<2):az boltC k=0/\kQ boltC k=N5 boltC k:=by
 have e:az boltC k=0:=by
  unfold az;rw[if_neg (by rw[X2];decide),if_pos ⟨by omega,by show (k:Int)<((2:Nat):Int);omega⟩]
 exact⟨e,by unfold kQ;rw[if_pos e];rfl⟩
theorem bolt_clr:nL boltC 1=0/\qA boltC 1=(90,91):=by
 have e0:=(eQ 1 (by decide)).1;have e:jX boltC 1=(90,91):=by
  show (kQ boltC ((1:Nat):Int)).foldl (L4 boltC ⟨3,0,true⟩) (90,91)=_;rw[(eQ 1 (by decide)).2,mU];decide +kernel
 have e1:nL boltC 1=0:=by
  unfold nL;rw[if_neg (by rw[show (1:Int)=((1:Nat):Int) from rfl,e0];decide),e];decide
 exact⟨e1,by unfold qA;rw[if_pos e1,e]⟩
theorem X1 (s:Susp) (h:tn 2 s=true):kT boltC s=0/\kR boltC s=C0 [jk] s:=by
 have e:kT boltC s=0:=by
  unfold kT;rw[if_neg (by rw[O3];decide),if_pos (show tn boltC.pieces.length s=true from h)]
 exact⟨e,by unfold kR;rw[if_pos e,bl]⟩
theorem sO (s:Susp) (h:tn 2 s=true):mr boltC [] s=0/\jG boltC [] s=C0 [jk] s:=by
 have e:mr boltC [] s=0:=by
  unfold mr;rw[if_neg (by rw[O3];decide),if_neg (by rw[show boltC.p=boltP from rfl,po];decide),if_pos (show tn boltC.pieces.length s=true from h)]
 exact⟨e,by unfold jG;rw[if_pos e,pq]⟩
def Gv:Case:={ boltC with pieces:=[⟨2,20,107,107⟩,⟨1,20,90,91⟩] }
theorem bolt_ms:pQ boltC 0 107 107=0/\Gm boltC 0 107 107=Gv:=by
 have e0:=(eQ 0 (by decide)).1;have e1:pQ boltC 0 107 107=0:=by
  unfold pQ;rw[if_neg (by rw[show (0:Int)=((0:Nat):Int) from rfl,e0];decide)];rfl
 exact⟨e1,by unfold Gm;rw[if_pos e1];rfl⟩
@[simp] abbrev WY:List Nat:=[0,1,2,3,4,5,6,7,8,9,10,11,12,13,14,15,16,17,18,19,20,21,22,148]
set_option maxRecDepth 10000 in
theorem FP (hG:p5 G) (hN:D5 G) (hS:u6 G) (hU:V3 G) (hR:w8 G) (hC:K7 G) (hK:bX G) (hF:jO G):zP prog G 32 [] (bv true):=by
 refine zf func32 ntmps32 ?_;try simp only[iv]
 have hk:=bolt_k.2;have c0:=Ij (G:=G);have c1:=CW (G:=G) boltC hG hN hS hR hk;have c2:=wD (G:=G) boltC hG hN hS hR hk;have c3:=nf (G:=G) boltC 0 hG hN hS hR hk;have c4:=eS (G:=G) boltC hG hN hS hU hR hC hK hk;have c5:=Dc (G:=G) boltC hG hN hS hU hR hC hF hk;have c6:=yT (G:=G) boltC hG hN hS hU hR hC hF hk;have c7:=ng (G:=G) boltC hG hN hS hU hR hC hF hk;have c8:=Db (G:=G) boltC 1 hG hN hS hR hk;have c9:=CZ (G:=G) boltC 0 107 107 hG hN hS hR hk;have c10:=Im (G:=G) boltC [] ⟨2,0⟩ (by decide) (by decide) hG hN hS hR hC hK hk;rw[sM,X2] at c1;rw[pp,X2] at c2;rw[show (0:Int)=((0:Nat):Int) from rfl,(eQ 0 (by decide)).1,(eQ 0 (by decide)).2,mV] at c3;rw[bolt_sus.1,bolt_sus.2,O3] at c4;rw[CO,O3] at c5;rw[CM,O3] at c6;rw[CN,O3] at c7;rw[bolt_clr.1,bolt_clr.2] at c8;rw[bolt_ms.1,bolt_ms.2] at c9;rw[(sO ⟨2,0⟩ (by decide)).1,(sO ⟨2,0⟩ (by decide)).2,show C0 [jk] ⟨2,0⟩=1 by decide] at c10;have d1:=pZ (G:=G) boltC ⟨1,0⟩ 0 (by decide) hG hN hS hR hC hK hk;have d2:=pZ (G:=G) boltC ⟨3,0⟩ 1 (by decide) hG hN hS hR hC hK hk;have d3:=pZ (G:=G) boltC ⟨2,1⟩ 0 (by decide) hG hN hS hR hC hK hk;rw[(X1 ⟨1,0⟩ (by decide)).1,(X1 ⟨1,0⟩ (by decide)).2,show C0 [jk] ⟨1,0⟩=0 by decide] at d1;rw[(X1 ⟨3,0⟩ (by decide)).1,(X1 ⟨3,0⟩ (by decide)).2,show C0 [jk] ⟨3,0⟩=1 by decide] at d2;rw[(X1 ⟨2,1⟩ (by decide)).1,(X1 ⟨2,1⟩ (by decide)).2,show C0 [jk] ⟨2,1⟩=0 by decide] at d3;simp only[decide_true,Bool.and_self] at d1 d2 d3;have s0:=GC (G:=G);have s1:=Aj (G:=G) 0;have s2:=Aj (G:=G) 1;have s3:=GE (G:=G) 0;have p1:=gl (G:=G) 15 17;have p2:=gl (G:=G) 90 91;have p3:=gl (G:=G) 107 107;have p4:=gl (G:=G) 1 1;have q1:=tI (G:=G) [1,2] [1,2] (by simp);simp only[decide_true] at q1;have q2:=oa (G:=G) [⟨2,0⟩,⟨3,0⟩] (by simp);have q3:=oa (G:=G) [⟨2,0⟩] (by simp);simp only[n5,F1,j6,C2,E0,vU,v8,Ab.encI,rI,List.map_cons,List.map_nil,Int.natCast_zero] at *;obtain⟨m1,m2,m3,m4,m5,m6,m7,m8,m9,hM⟩:∃ m1 m2 m3 m4 m5 m6 m7 m8 m9,(j4 Gv).map DC.im=[.im m1,.im m2,.im m3,.im m4,.im m5,.im m6,.im m7,.im m8,.im m9,.im (.sl ([⟨2,20,107,107⟩,⟨1,20,90,91⟩].map A8))]:=⟨_,_,_,_,_,_,_,_,_,rfl⟩
 rw[hM] at c9;obtain⟨X,hX⟩:∃ X,j4 boltC=X:=⟨_,rfl⟩
 have hXf:∃ a b c d e f g h i j,X=[a,b,c,d,e,f,g,h,i,j]:=⟨_,_,_,_,_,_,_,_,_,_,hX.symm⟩
 obtain⟨x1,x2,x3,x4,x5,x6,x7,x8,x9,x10,rfl⟩:=hXf;rw[hX] at c0 c1 c2 c3 c4 c5 c6 c7 c8 c9 c10 d1 d2 d3;simp only[A8,rI,List.map_cons,List.map_nil] at *;repeat' first|(with_reducible first|refine zz ?_|refine zx ?_)|simp -dsimp|refine zp c0 ?_|refine zp c1 ?_|refine zp c2 ?_|refine zp c3 ?_|refine zp c4 ?_|refine zp c5 ?_|refine zp c6 ?_|refine zp c7 ?_|refine zp c8 ?_|refine zp c9 ?_|refine zp c10 ?_|refine zp s1 ?_|refine zp s3 ?_|refine zp p3 ?_|refine zq q1 ?_|refine zq d1 ?_|refine zq d2 ?_|refine zq d3 ?_|refine zq p1 ?_|refine zq p2 ?_|refine zq p3 ?_|refine zq p4 ?_|refine zq s0 ?_|refine zq s2 ?_|refine zq s3 ?_|refine zq c0 ?_|refine QCall.thaw (q2) ?_ ?_ ?_;(focus simp;done);(focus simp;done)|refine QCall.thaw (q3) ?_ ?_ ?_;(focus simp;done);(focus simp;done)|refine zM 12 198 70 WY ?_|refine zM 14 198 50 WY ?_|with_reducible refine zE WY ?_|refine i9 ?_ ?_<;>intro h<;>try exact h.elim
end Go.Proofs
namespace Go.Proofs
open Go Go.Ab
def bN (b:Bool):Nat:=if b=true then 1 else 0
def cI (f:E8):Nat:=bN f.1+bN f.2
theorem pr {L:List E8} {f:E8} (h:f∈L):cI (T2 L)<=cI f:=by
 have h1:=ka L f h;generalize T2 L=g at *;obtain⟨a,b⟩:=f;obtain⟨x,y⟩:=g;revert h1;cases a<;>cases b<;>cases x<;>cases y<;>decide
theorem xJ {L:List E8} {f:E8} (h:f∈L):(cI f:Int)<=aT L:=by
 unfold aT;obtain⟨a,b⟩:=f;cases a<;>cases b
 ·have:=ej L;unfold aT at this;exact this.1
 ·split
  ·decide
  ·rw[if_pos (.inr h)];decide
 ·split
  ·decide
  ·rw[if_pos (.inl h)];decide
 ·rw[if_pos h];decide
theorem Br {L:List E8} (h:L≠[]):∃ f∈L,(cI f:Int)=aT L:=by
 unfold aT;split
 ·exact⟨_,‹_›,rfl⟩
 ·split
  ·rename_i h2;rcases h2 with h2|h2<;>exact⟨_,h2,rfl⟩
  ·rename_i h1 h2;obtain⟨⟨a,b⟩,r,rfl⟩:∃ f r,L=f :: r:=by
    cases L with
    | nil=>exact absurd rfl h
    | cons f r=>exact⟨f,r,rfl⟩
   cases a<;>cases b
   ·exact⟨_,List.mem_cons_self,rfl⟩
   ·exact absurd (.inr List.mem_cons_self) h2
   ·exact absurd (.inl List.mem_cons_self) h2
   ·exact absurd List.mem_cons_self h1
def V9 (f:Nat->E8):Nat->Nat
 | 0=>0
 | n+1=>V9 f n+cI (f n)
def bA (b:Bool) (f:Nat->E8) (n:Nat):List Susp:=iI b (λi=>(f i).1) (λi=>(f i).2) n
theorem wi (b:Bool) (f:Nat->E8):∀ n,(Y8 b (λi=>(f i).1) (λi=>(f i).2) n).length=bN b+V9 f n
 | 0=>by unfold Y8 bN;cases b<;>rfl
 | n+1=>by
   rw[fm,List.length_append,wi b f n,List.length_append,iO,iO];show _=bN b+(V9 f n+(bN _+bN _));unfold bN;omega
theorem cp (b:Bool) (f:Nat->E8) (n:Nat):(bA b f n).length=bN b+V9 f n:=by
 rw[bA,(N7 _ _ _ _).length_eq,wi]
theorem gK {f g:Nat->E8}:∀ {n},(∀ i,i<n->cI (f i)<=cI (g i))->V9 f n<=V9 g n
 | 0,_=>Nat.le_refl _
 | n+1,h=>Nat.add_le_add (gK λi hi=>h i (Nat.lt_succ_of_lt hi)) (h n (Nat.lt_succ_self n))
theorem sA {f g:Nat->E8}:∀ {n},(∀ i,i<n->cI (f i)<=cI (g i))->V9 f n=V9 g n->∀ i,i<n->cI (f i)=cI (g i)
 | n+1,h,he,i,hi=>by
   have h1:=gK (n:=n) λi hi=>h i (Nat.lt_succ_of_lt hi);have h2:=h n (Nat.lt_succ_self n);simp only[V9] at he;rcases Nat.lt_succ_iff_lt_or_eq.1 hi with h3|rfl
   ·exact sA (λi hi=>h i (Nat.lt_succ_of_lt hi)) (by omega) i h3
   ·omega
def Ac (d:Desk) (f:Nat->E8):Prop:=∀ i,i<d.faults.length->f i∈d.faults.getD i []
theorem qY {F:List (List E8)} {f:Nat->E8} (h:∀ i,i<F.length->f i∈F.getD i []):∀ k,k<=F.length->(V9 f k:Int)<=bS F k
 | 0,_=>by simp[V9,bS]
 | k+1,hk=>by
   have h1:=qY h k (by omega);have h2:=xJ (h k (by omega));rw[eY (by omega)];have h3:F.getD k []=F[k]:=by simp[List.getD,List.getElem?_eq_getElem (show k<F.length by omega)]
   rw[h3] at h2;simp only[V9];omega
theorem Aw {d:Desk} {f:Nat->E8} (h:Ac d f):((bA d.notes f d.faults.length).length:Int)<=Y7 d:=by
 rw[cp];have h1:=qY h d.faults.length (Nat.le_refl _);unfold bS at h1;rw[List.take_length] at h1;unfold Y7;have h2:((bN d.notes:Nat):Int)=if d.notes=true then 1 else 0:=by unfold bN;split<;>rfl
 omega
theorem vX {F:List (List E8)} (hne:∀ x∈F,x≠[]):∀ k,k<=F.length->∃ f:Nat->E8,(∀ i,i<k->f i∈F.getD i [])/\(V9 f k:Int)=bS F k
 | 0,_=>⟨λ_=>(false,false),by simp,by simp[V9,bS]⟩
 | k+1,hk=>by
   obtain⟨f,h1,h2⟩:=vX hne k (by omega);have h3:F.getD k []=F[k]:=by simp[List.getD,List.getElem?_eq_getElem (show k<F.length by omega)]
   obtain⟨g,hg,hc⟩:=Br (hne F[k] (List.getElem_mem _));refine⟨λi=>if i=k then g else f i,λi hi=>?_,?_⟩
   ·by_cases e:i=k
    ·subst e;simp only[if_true];rw[h3];exact hg
    ·simpa[e] using h1 i (by omega)
   ·rw[eY (by omega)];have h4:∀ m,m<=k->V9 (λi=>if i=k then g else f i) m=V9 f m:=by
     intro m;induction m with
     | zero=>intro _;rfl
     | succ m ih=>intro hm;simp only[V9];rw[ih (by omega),if_neg (by omega)]
    simp only[V9];rw[h4 k (Nat.le_refl _)];simp only[if_true];omega
theorem Bq {d:Desk} (hne:∀ x∈d.faults,x≠[]):∃ f,Ac d f/\((bA d.notes f d.faults.length).length:Int)=Y7 d:=by
 obtain⟨f,h1,h2⟩:=vX hne d.faults.length (Nat.le_refl _);refine⟨f,h1,?_⟩;rw[cp];unfold bS at h2;rw[List.take_length] at h2;unfold Y7;have h2:((bN d.notes:Nat):Int)=if d.notes=true then 1 else 0:=by unfold bN;split<;>rfl
 omega
def jl (d:Desk) (i:Nat):E8:=T2 (d.faults.getD i [])
theorem mK (d:Desk):L7 d=bA d.notes (jl d) d.faults.length:=rfl
theorem Ca {d:Desk} {i:Nat} (h:i<d.faults.length):d.faults.getD i []∈d.faults:=by
 have:d.faults.getD i []=d.faults[i]:=by simp[List.getD,List.getElem?_eq_getElem h]
 rw[this];exact List.getElem_mem _
theorem sP {d:Desk} (hne:∀ x∈d.faults,x≠[]):Ac d (jl d):=λi hi=>pt (hne _ (Ca hi))
theorem yr {d:Desk} {f:Nat->E8} (h:Ac d f):(L7 d).length<=(bA d.notes f d.faults.length).length:=by
 rw[mK,cp,cp];have:=gK (f:=jl d) (g:=f) (n:=d.faults.length) λi hi=>pr (h i hi);omega
theorem selS_mem {b:Bool} {f:Nat->E8} {n:Nat} {s:Susp}:s∈bA b f n↔(b=true/\s=⟨1,0⟩)\/(∃ i,i<n/\(f i).1=true/\s=km i)\/(∃ i,i<n/\(f i).2=true/\s=kx i):=listS_mem
theorem lW (b:Bool) (f:Nat->E8) (n:Nat):(bA b f n).Pairwise V0:=ay _ _ _ _
theorem Ea {d:Desk} {f:Nat->E8} (h:Ac d f) {s:Susp} (hs:s∈br d.faults.length):db d s (decide (s∈bA d.notes f d.faults.length))=true:=by
 unfold db;rcases listS_mem.1 hs with⟨_,rfl⟩|⟨i,hi,_,rfl⟩|⟨i,hi,_,rfl⟩
 ·rw[if_pos rfl];have:((⟨1,0⟩:Susp)∈bA d.notes f d.faults.length)↔d.notes=true:=by
   rw[selS_mem];constructor
   ·rintro (⟨h,_⟩|⟨i,_,_,h⟩|⟨i,_,_,h⟩)
    ·exact h
    ·cases h
    ·cases h
   ·exact λh=>.inl ⟨h,rfl⟩
  cases hd:d.notes
  ·rw[hd] at this;simp[this]
  ·rw[hd] at this;simp[this]
 ·rw[if_neg (by simp[km]),if_pos (show (km i).kind=2 from rfl),show (km i).index.toNat=i from rfl];have:(km i∈bA d.notes f d.faults.length)↔(f i).1=true:=by
   rw[selS_mem];constructor
   ·rintro (⟨_,h⟩|⟨j,_,h1,h⟩|⟨j,_,_,h⟩)
    ·cases h
    ·have:i=j:=by simp only[km,Susp.mk.injEq,true_and] at h;omega
     subst this;exact h1
    ·cases h
   ·exact λh=>.inr (.inl ⟨i,hi,h,rfl⟩)
  rw[List.any_eq_true];refine⟨f i,h i hi,?_⟩;cases hd:(f i).1<;>simp[this,hd]
 ·rw[if_neg (by simp[kx]),if_neg (by simp[kx]),show (kx i).index.toNat=i from rfl];have:(kx i∈bA d.notes f d.faults.length)↔(f i).2=true:=by
   rw[selS_mem];constructor
   ·rintro (⟨_,h⟩|⟨j,_,h1,h⟩|⟨j,_,h1,h⟩)
    ·cases h
    ·cases h
    ·have:i=j:=by simp only[kx,Susp.mk.injEq,true_and] at h;omega
     subst this;exact h1
   ·exact λh=>.inr (.inr ⟨i,hi,h,rfl⟩)
  rw[List.any_eq_true];refine⟨f i,h i hi,?_⟩;cases hd:(f i).2<;>simp[this,hd]
theorem BF {D:List Desk} {s:Susp} (h:C0 D s=0):∀ d∈D,db d s true=false:=by
 intro d hd;unfold C0 at h;split at h
 ·rename_i h1;rw[List.any_eq_false] at h1;simpa using h1 d hd
 ·split at h<;>exact absurd h (by decide)
theorem xU {D:List Desk} {s:Susp} (h:C0 D s=2):∀ d∈D,db d s false=false:=by
 intro d hd;unfold C0 at h;split at h
 ·exact absurd h (by decide)
 ·split at h
  ·rename_i h1;rw[List.any_eq_false] at h1;simpa using h1 d hd
  ·exact absurd h (by decide)
theorem xV {D:List Desk} {s:Susp} {d:Desk} (hd:d∈D) (h:db d s true=true):C0 D s≠0:=λe=>by
 have:=BF e d hd;rw[h] at this;exact absurd this (by decide)
theorem rO (D:List Desk) (s:Susp):C0 D s=0\/C0 D s=1\/C0 D s=2:=by
 unfold C0;split<;>(try split)<;>simp
theorem oh (a b:Susp):N3 a b=-(N3 b a):=by
 unfold N3 W3 W3 W3;repeat' split
 all_goals omega
theorem Es {a b c:Susp} (h1:N3 a b<=0) (h2:N3 b c<=0):N3 a c<=0/\(N3 a c=0->N3 a b=0/\N3 b c=0):=by
 unfold N3 W3 W3 W3 at *;repeat' split at h1
 all_goals repeat' split at h2
 all_goals repeat' split
 all_goals omega
theorem mS:∀ a b:List Susp,I4 a b=-(I4 b a)
 | [],[]=>rfl
 | [],_ :: _=>rfl
 | _ :: _,[]=>rfl
 | a :: x,b :: y=>by
   have h1:=oh a b;simp only[I4];by_cases h:N3 a b=0
   ·have h':N3 b a=0:=by omega
    rw[if_neg (by simp[h]),if_neg (by simp[h'])];exact mS x y
   ·have h':¬ N3 b a=0:=by omega
    rw[if_pos h,if_pos h'];exact h1
theorem sD:∀ {a b c:List Susp},I4 a b<=0->I4 b c<=0->I4 a c<=0
 | [],_,[],_,_=>by simp[I4]
 | [],_,_ :: _,_,_=>by simp[I4]
 | _ :: _,[],_,h,_=>by simp[I4] at h
 | _ :: _,_ :: _,[],_,h=>by simp[I4] at h
 | a :: x,b :: y,d :: z,h1,h2=>by
   simp only[I4] at h1 h2 ⊢;have hp:=@Es a b d;by_cases e1:N3 a b=0
   ·rw[if_neg (by simp[e1])] at h1;by_cases e2:N3 b d=0
    ·rw[if_neg (by simp[e2])] at h2;obtain⟨p1,p2⟩:=hp (by omega) (by omega);have e3:N3 a d=0:=by rw[og] at *;rw[e1,e2]
     rw[if_neg (by simp[e3])];exact sD h1 h2
    ·rw[if_pos e2] at h2;obtain⟨p1,p2⟩:=hp (by omega) h2;have:N3 a d≠0:=λe=>e2 (p2 e).2;rw[if_pos this];exact p1
   ·rw[if_pos e1] at h1;have h2':N3 b d<=0:=by
     by_cases e2:N3 b d=0
     ·omega
     ·rwa [if_pos e2] at h2
    obtain⟨p1,p2⟩:=hp h1 h2';have:N3 a d≠0:=λe=>e1 (p2 e).1;rw[if_pos this];exact p1
theorem pb (a b:List Susp):ce a b=-(ce b a):=by
 have:=mS a b;unfold ce W3 W3 W3;repeat' split
 all_goals omega
theorem bH {a b:List Susp}:ce a b<=0↔a.length<b.length\/(a.length=b.length/\I4 a b<=0):=by
 unfold ce W3 W3 W3;repeat' split
 all_goals omega
theorem qz {a b c:List Susp} (h1:ce a b<=0) (h2:ce b c<=0):ce a c<=0:=by
 rw[bH] at *;rcases h1 with h1|⟨h1,g1⟩<;>rcases h2 with h2|⟨h2,g2⟩
 ·exact .inl (by omega)
 ·exact .inl (by omega)
 ·exact .inl (by omega)
 ·exact .inr ⟨by omega,sD g1 g2⟩
theorem jW (a:List Susp):ce a a<=0:=by have:=pb a a;omega
theorem rF:∀ (r:List (List Susp)) (x:List Susp),(r.foldl R4 x=x\/r.foldl R4 x∈r)/\ce (r.foldl R4 x) x<=0/\∀ y∈r,ce (r.foldl R4 x) y<=0
 | [],x=>⟨.inl rfl,jW x,by simp⟩
 | z :: r,x=>by
   rw[List.foldl_cons];obtain⟨h1,h2,h3⟩:=rF r (R4 x z);have ha:=pb z x;have hs:(R4 x z=x\/R4 x z=z)/\ce (R4 x z) x<=0/\ce (R4 x z) z<=0:=by
    unfold R4;split
    ·exact⟨.inr rfl,by omega,jW z⟩
    ·exact⟨.inl rfl,jW x,by omega⟩
   refine⟨?_,qz h2 hs.2.1,λy hy=>?_⟩
   ·rcases h1 with h1|h1
    ·rcases hs.1 with e|e
     ·exact .inl (h1.trans e)
     ·exact .inr (by rw[h1,e];exact List.mem_cons_self)
    ·exact .inr (List.mem_cons_of_mem _ h1)
   ·rcases List.mem_cons.1 hy with rfl|hy
    ·exact qz h2 hs.2.2
    ·exact h3 y hy
theorem jE {L:List (List Susp)} (h:L≠[]):kN L∈L/\∀ y∈L,ce (kN L) y<=0:=by
 cases L with
 | nil=>exact absurd rfl h
 | cons x r =>
   obtain⟨h1,h2,h3⟩:=rF r x;refine⟨?_,λy hy=>?_⟩
   ·rcases h1 with h1|h1
    ·show r.foldl R4 x∈_;rw[h1];exact List.mem_cons_self
    ·exact List.mem_cons_of_mem _ h1
   ·rcases List.mem_cons.1 hy with rfl|hy
    ·exact h2
    ·exact h3 y hy
theorem ox:∀ (r:List Int) (x:Int),(r.foldl min x=x\/r.foldl min x∈r)/\r.foldl min x<=x/\∀ y∈r,r.foldl min x<=y
 | [],x=>by simp
 | z :: r,x=>by
   rw[List.foldl_cons];obtain⟨h1,h2,h3⟩:=ox r (min x z);refine⟨?_,by omega,λy hy=>?_⟩
   ·rcases h1 with h1|h1
    ·rw[h1];rcases Int.le_total x z with e|e
     ·exact .inl (Int.min_eq_left e)
     ·exact .inr (by rw[Int.min_eq_right e];exact List.mem_cons_self)
    ·exact .inr (List.mem_cons_of_mem _ h1)
   ·rcases List.mem_cons.1 hy with rfl|hy
    ·omega
    ·exact h3 y hy
theorem oA:∀ (r:List Int) (x:Int),(r.foldl max x=x\/r.foldl max x∈r)/\x<=r.foldl max x/\∀ y∈r,y<=r.foldl max x
 | [],x=>by simp
 | z :: r,x=>by
   rw[List.foldl_cons];obtain⟨h1,h2,h3⟩:=oA r (max x z);refine⟨?_,by omega,λy hy=>?_⟩
   ·rcases h1 with h1|h1
    ·rw[h1];rcases Int.le_total x z with e|e
     ·exact .inr (by rw[Int.max_eq_right e];exact List.mem_cons_self)
     ·exact .inl (Int.max_eq_left e)
    ·exact .inr (List.mem_cons_of_mem _ h1)
   ·rcases List.mem_cons.1 hy with rfl|hy
    ·omega
    ·exact h3 y hy
theorem xM {L:List Int} (h:L≠[]):pR L∈L/\∀ y∈L,pR L<=y:=by
 cases L with
 | nil=>exact absurd rfl h
 | cons x r =>
   obtain⟨h1,h2,h3⟩:=ox r x;refine⟨?_,λy hy=>?_⟩
   ·rcases h1 with h1|h1
    ·show r.foldl min x∈_;rw[h1];exact List.mem_cons_self
    ·exact List.mem_cons_of_mem _ h1
   ·rcases List.mem_cons.1 hy with rfl|hy
    ·exact h2
    ·exact h3 y hy
theorem oB {L:List Int} (h:L≠[]):pT L∈L/\∀ y∈L,y<=pT L:=by
 cases L with
 | nil=>exact absurd rfl h
 | cons x r =>
   obtain⟨h1,h2,h3⟩:=oA r x;refine⟨?_,λy hy=>?_⟩
   ·rcases h1 with h1|h1
    ·show r.foldl max x∈_;rw[h1];exact List.mem_cons_self
    ·exact List.mem_cons_of_mem _ h1
   ·rcases List.mem_cons.1 hy with rfl|hy
    ·exact h2
    ·exact h3 y hy
theorem oE:∀ {A B:List Susp},A.Pairwise V0->B.Pairwise V0->A.length=B.length->(∀ x∈B,x∉A->∃ y∈A,y∉B/\V0 y x)->I4 A B<=0
 | [],[],_,_,_,_=>by simp[I4]
 | [],_ :: _,_,_,h,_=>by simp at h
 | _ :: _,[],_,_,h,_=>by simp at h
 | a :: A,b :: B,hA,hB,hl,h=>by
   rw[List.pairwise_cons] at hA hB;simp only[I4];by_cases e:N3 a b=0
   ·rw[if_neg (by simp[e])];rw[og] at e;subst e;refine oE hA.2 hB.2 (by simpa using hl) λx hx hn=>?_;have hax:=hB.1 x hx;have hne:x≠a:=λe=>by subst e;unfold V0 at hax;omega
    obtain⟨y,h1,h2,h3⟩:=h x (List.mem_cons_of_mem _ hx) (by simp[hne,hn]);rcases List.mem_cons.1 h1 with rfl|h1
    ·simp at h2
    ·exact⟨y,h1,λh=>h2 (List.mem_cons_of_mem _ h),h3⟩
   ·rw[if_pos e];apply Int.not_lt.1
    intro hgt;have hba:V0 b a:=(fi b a).1 (by have:=oh a b;omega);have hbn:b∉a :: A:=by
     intro hm;rcases List.mem_cons.1 hm with rfl|hm
     ·unfold V0 at hba;omega
     ·have:=hA.1 b hm;unfold V0 at *;omega
    obtain⟨y,h1,_,h3⟩:=h b List.mem_cons_self hbn;rcases List.mem_cons.1 h1 with rfl|h1
    ·unfold V0 at *;omega
    ·have:=hA.1 y h1;unfold V0 at *;omega
theorem mZ {L:List E8} {f:E8} (h:f∈L) (hc:cI f=cI (T2 L)):f=T2 L\/(f=(false,true)/\T2 L=(true,false)):=by
 have h1:=ka L f h;generalize T2 L=g at *;obtain⟨a,b⟩:=f;obtain⟨x,y⟩:=g;revert h1 hc;cases a<;>cases b<;>cases x<;>cases y<;>decide
theorem yt {d:Desk} {f:Nat->E8} (h:Ac d f):ce (L7 d) (bA d.notes f d.faults.length)<=0:=by
 have hl:=yr h;rw[bH];rcases Nat.lt_or_eq_of_le hl with hl|hl
 ·exact .inl hl
 ·refine .inr ⟨hl,?_⟩;rw[mK] at hl ⊢;have hl2:=hl;rw[cp,cp] at hl2;have hc:=sA (f:=jl d) (g:=f) (n:=d.faults.length) (λi hi=>pr (h i hi)) (by omega);refine oE (lW _ _ _) (lW _ _ _) hl λx hx hn=>?_;rcases selS_mem.1 hx with⟨hd,rfl⟩|⟨i,hi,hf,rfl⟩|⟨i,hi,hf,rfl⟩
  ·exact absurd (selS_mem.2 (.inl ⟨hd,rfl⟩)) hn
  ·rcases mZ (h i hi) (hc i hi).symm with e|⟨e,_⟩
   ·exact absurd (selS_mem.2 (.inr (.inl ⟨i,hi,by rw[show jl d i=f i from e.symm];exact hf,rfl⟩))) hn
   ·rw[e] at hf;exact absurd hf (by decide)
  ·rcases mZ (h i hi) (hc i hi).symm with e|⟨e,e2⟩
   ·exact absurd (selS_mem.2 (.inr (.inr ⟨i,hi,by rw[show jl d i=f i from e.symm];exact hf,rfl⟩))) hn
   ·refine⟨km i,selS_mem.2 (.inr (.inl ⟨i,hi,by rw[show jl d i=(true,false) from e2],rfl⟩)),λhm=>?_,.inl (by simp[km,kx])⟩;rcases selS_mem.1 hm with⟨_,h⟩|⟨j,_,h1,h⟩|⟨j,_,_,h⟩
    ·cases h
    ·have:i=j:=by simp only[km,Susp.mk.injEq,true_and] at h;omega
     subst this;rw[e] at h1;exact absurd h1 (by decide)
    ·cases h
structure DkG (n:Nat) (D:List Desk):Prop where
 ne:D≠[]
 len:∀ d∈D,d.faults.length=n
 f:∀ d∈D,∀ x∈d.faults,x≠[]
 cause:∀ d∈D,∀ g,Ac d g->bA d.notes g n≠[]
def pE (n:Nat) (D:List Desk) (k:Int):List Susp:=(br n).filter λs=>decide (C0 D s=k)
def Ls (n:Nat) (D:List Desk):List Susp:=(br n).filter λs=>D.any λd=>bp d s
def Cn (D:List Desk):List Susp:=kN (D.map L7)
def Iz (D:List Desk):Int:=pR (D.map λd=>((L7 d).length:Int))
def HE (D:List Desk):Int:=pT (D.map Y7)
variable {n:Nat} {D:List Desk}
theorem uI (h:DkG n D):∃ d∈D,Cn D=L7 d:=by
 have h1:=(jE (L:=D.map L7) (by simpa using h.ne)).1;obtain⟨d,hd,e⟩:=List.mem_map.1 h1;exact⟨d,hd,e.symm⟩
theorem HV (h:DkG n D) {d:Desk} (hd:d∈D) {g:Nat->E8} (hg:Ac d g):ce (Cn D) (bA d.notes g n)<=0:=by
 have h1:=(jE (L:=D.map L7) (by simpa using h.ne)).2 _ (List.mem_map_of_mem hd);have h2:=yt hg;rw[h.len d hd] at h2;exact qz h1 h2
theorem wt (h:DkG n D):((Cn D).length:Int)=Iz D:=by
 obtain⟨h1,h2⟩:=xM (L:=D.map λd=>((L7 d).length:Int)) (by simpa using h.ne);obtain⟨d,hd,e⟩:=uI h;have h3:=h2 _ (List.mem_map_of_mem hd);obtain⟨d',hd',e'⟩:=List.mem_map.1 h1;have h4:=(jE (L:=D.map L7) (by simpa using h.ne)).2 _ (List.mem_map_of_mem hd');rw[bH] at h4;unfold Iz;rw[<- e'] at h3 ⊢;have e2:Cn D=kN (D.map L7):=rfl;rw[<- e2] at h4;rw[e] at h4 ⊢;omega
theorem Ax (h:DkG n D) {d:Desk} (hd:d∈D) {g:Nat->E8} (hg:Ac d g):Iz D<=(bA d.notes g n).length/\((bA d.notes g n).length:Int)<=HE D:=by
 have h1:=wt h;have h2:=HV h hd hg;rw[bH] at h2;have h3:=Aw hg;rw[h.len d hd] at h3;have h4:=(oB (L:=D.map Y7) (by simpa using h.ne)).2 _ (List.mem_map_of_mem hd);unfold HE;omega
theorem HD (h:DkG n D):∃ d∈D,∃ g,Ac d g/\((bA d.notes g n).length:Int)=HE D:=by
 obtain⟨d,hd,e⟩:=List.mem_map.1 (oB (L:=D.map Y7) (by simpa using h.ne)).1;obtain⟨g,h1,h2⟩:=Bq (h.f d hd);rw[h.len d hd] at h2;exact⟨d,hd,g,h1,by unfold HE;rw[<- e,h2]⟩
theorem sus_mem {s:Susp} {k:Int}:s∈pE n D k↔s∈br n/\C0 D s=k:=by
 unfold pE;rw[List.mem_filter,decide_eq_true_eq]
end Go.Proofs
namespace Go.Proofs
open Go Go.Ab
def tc (D' D:List Desk):Prop:=∀ d'∈D',∃ d∈D,d'.notes=d.notes/\d'.faults.length=d.faults.length/\∀ i,i<d.faults.length->∀ f∈d'.faults.getD i [],f∈d.faults.getD i []
variable {n:Nat} {D D':List Desk}
theorem Am (h:DkG n D) (h':DkG n D') (hs:tc D' D):Iz D<=Iz D'/\HE D'<=HE D:=by
 constructor
 ·obtain⟨d',hd',e⟩:=uI h';obtain⟨d,hd,e1,e2,e3⟩:=hs d' hd';have hb:=sP (h'.f d' hd');have hg:Ac d (jl d'):=λi hi=>e3 i hi _ (hb i (by omega));have h1:=(Ax h hd hg).1;rw[<- wt h',e,mK,e1,h'.len d' hd'];exact h1
 ·obtain⟨d',hd',g,hg',e⟩:=HD h';obtain⟨d,hd,e1,e2,e3⟩:=hs d' hd';have hg:Ac d g:=λi hi=>e3 i hi _ (hg' i (by omega));have h1:=(Ax h hd hg).2;rw[<- e,e1];exact h1
theorem rG {d d':Desk} (e1:d'.notes=d.notes) (e2:d'.faults.length=d.faults.length) (e3:∀ i,i<d.faults.length->∀ f∈d'.faults.getD i [],f∈d.faults.getD i []) {s:Susp} (hs:s∈br d.faults.length) {b:Bool} (h:db d' s b=true):db d s b=true:=by
 unfold db at *;rcases listS_mem.1 hs with⟨_,rfl⟩|⟨i,hi,_,rfl⟩|⟨i,hi,_,rfl⟩
 ·rw[if_pos rfl] at *;rw[<- e1];exact h
 ·rw[if_neg (by simp[km]),if_pos (show (km i).kind=2 from rfl),show (km i).index.toNat=i from rfl] at *;rw[List.any_eq_true] at *;obtain⟨f,hf,h⟩:=h;exact⟨f,e3 i hi f hf,h⟩
 ·rw[if_neg (by simp[kx]),if_neg (by simp[kx]),show (kx i).index.toNat=i from rfl] at *;rw[List.any_eq_true] at *;obtain⟨f,hf,h⟩:=h;exact⟨f,e3 i hi f hf,h⟩
theorem DW (h:DkG n D) (h':DkG n D') (hs:tc D' D) {s:Susp} (hm:s∈pE n D' 2\/s∈pE n D' 1):s∈pE n D 2\/s∈pE n D 1:=by
 have hA:s∈br n/\C0 D' s≠0:=by
  rcases hm with h|h
  ·have:=sus_mem.1 h;exact⟨this.1,by omega⟩
  ·have:=sus_mem.1 h;exact⟨this.1,by omega⟩
 have h1:∃ d'∈D',db d' s true=true:=by
  apply Classical.byContradiction
  intro hn;apply hA.2
  unfold C0;rw[if_pos];rw[List.any_eq_false];exact λd hd e=>hn ⟨d,hd,e⟩
 obtain⟨d',hd',h2⟩:=h1;obtain⟨d,hd,e1,e2,e3⟩:=hs d' hd';have h3:=xV hd (rG e1 e2 e3 (by rw[h.len d hd];exact hA.1) h2);rw[sus_mem,sus_mem];rcases rO D s with e|e|e
 ·exact absurd e h3
 ·exact .inr ⟨hA.1,e⟩
 ·exact .inl ⟨hA.1,e⟩
theorem Ak (h:DkG n D) (h':DkG n D') (hs:tc D' D) {s:Susp} (hm:s∈pE n D 2):s∈pE n D' 2:=by
 obtain⟨hA,hk⟩:=sus_mem.1 hm;have h1:∀ d'∈D',db d' s false=false:=λd' hd'=>by
  obtain⟨d,hd,e1,e2,e3⟩:=hs d' hd';cases hq:db d' s false
  ·rfl
  ·have h2:=rG e1 e2 e3 (by rw[h.len d hd];exact hA) hq;rw[xU hk d hd] at h2;exact absurd h2 (by decide)
 obtain⟨d',hd',_⟩:=uI h';have h2:=Ea (sP (h'.f d' hd')) (s:=s) (by rw[h'.len d' hd'];exact hA);refine sus_mem.2 ⟨hA,?_⟩;unfold C0;rw[if_neg,if_pos]
 ·rw[List.any_eq_false];exact λd hd e=>by rw[h1 d hd] at e;exact absurd e (by decide)
 ·intro e;rw[List.any_eq_false] at e;have h3:=e d' hd';cases hq:decide (s∈bA d'.notes (jl d') d'.faults.length)
  ·rw[hq,h1 d' hd'] at h2;exact absurd h2 (by decide)
  ·rw[hq] at h2;exact h3 h2
end Go.Proofs
namespace Go.Proofs
open Go Go.Ab
theorem DU {c:Case} {t:List Int} (hl:F6 (du c t) 0=0) {y:Link} (hy:y∈c.loop.links):zW c y (cZ c t y.drawing)=some (V8 (du c t) y):=by
 have hok:=LE (ek hl).1;have hx:c.loop∈(du c t).loops:=by simp[du]
 have hd:=(mN hok hx hy).2;obtain⟨hm,_,_⟩:=hok.link _ hx y hy;obtain⟨i,hi⟩:=List.mem_iff_getElem?.1 hm;have hnd:(nums c.p.n.reg).Nodup:=(E4 hok.reg).1.imp λh e=>by omega
 have hix:idx (nums c.p.n.reg) y.drawing=i:=jL hnd hi;have hl2:(F7 c.p.n t c.machine)[i]?=some (cZ c t y.drawing):=by
  unfold F7 cZ;rw[List.getElem?_map,show (nums c.p.n.reg)[i]?=some y.drawing from hi];rfl
 have e:v7 (du c t).reg (du c t).lets y.drawing=(p6 c.p.n.reg y.drawing (cZ c t y.drawing)).getD K4:=by
  unfold v7;rw[show (du c t).reg=c.p.n.reg from rfl,show (du c t).lets=F7 c.p.n t c.machine from rfl,hix,Int.toNat_natCast,hl2];rfl
 rw[e] at hd;unfold zW;cases hf:p6 c.p.n.reg y.drawing (cZ c t y.drawing) with
 | none=>rw[hf] at hd;simp[K4] at hd
 | some z=>rw[hf] at hd;simpa using hd
theorem oy (D:Link->Dim):∀ (q:List (Link×Piece)) (s:Int×Int) (a b:Int),(∀ p∈q,p.2.lo<=(D p.1).upper/\(D p.1).lower<=p.2.hi)->s.1<=b->a<=s.2 ->
 (q.foldl E1 s).1<=q.foldl (λs p=>s+nx p.1 (R5 true p.1 (D p.1))) b/\q.foldl (λs p=>s+nx p.1 (R5 false p.1 (D p.1))) a<=(q.foldl E1 s).2
 | [],s,a,b,_,h1,h2=>⟨h1,h2⟩
 | p :: q,s,a,b,h,h1,h2=>by
   rw[List.foldl_cons,List.foldl_cons,List.foldl_cons];have hp:=h p List.mem_cons_self;refine oy D q _ _ _ (λp hp=>h p (List.mem_cons_of_mem _ hp)) ?_ ?_
   ·unfold E1 nx R5;cases p.1.back<;>simp<;>omega
   ·unfold E1 nx R5;cases p.1.back<;>simp<;>omega
theorem qP {l:List Link} {P:List Piece} (h:P.length=l.length) (D:Link->Dim) (hi:Bool):dI l (l.map D) hi=(l.zip P).foldl (λs p=>s+nx p.1 (R5 hi p.1 (D p.1))) 0:=by
 have e:l.zip (l.map D)=(l.zip P).map λp=>(p.1,D p.1):=by
  refine List.ext_getElem? λi=>?_;by_cases hi:i<l.length
  ·rw[List.getElem?_eq_getElem (by simp[hi]),List.getElem?_eq_getElem (by simp[hi];omega)];simp
  ·rw[List.getElem?_eq_none (by simp;omega),List.getElem?_eq_none (by simp;omega)]
 unfold dI;rw[e,List.foldl_map]
theorem addF_mem {L:List E8} {so:Bool} {f g:E8}:g∈bt L so f↔g∈L\/(so=true/\g=f):=by
 unfold bt;split
 ·rename_i h;rw[List.mem_append,List.mem_singleton];simp[h.1]
 ·rename_i h;constructor
  ·exact .inl
  ·rintro (h1|⟨h1,rfl⟩)
   ·exact h1
   ·exact Classical.byContradiction λh2=>h ⟨h1,h2⟩
theorem uA {c:Case} {y:Link} {x:Piece} {o:Int} {L:List E8} {l:Int} {g:E8}:g∈H6 c y x o L l↔g∈L\/(uC c y x l=true/\g=(!decide (l=o),false))\/(Aa c y x l=true/\g=(!decide (l=o),true)):=by
 unfold H6;rw[addF_mem,addF_mem,or_assoc]
theorem mH {c:Case} {y:Link} {x:Piece} {o:Int} {g:E8}:∀ {l:List Int} {L:List E8},g∈l.foldl (H6 c y x o) L↔g∈L\/∃ a∈l,(uC c y x a=true/\g=(!decide (a=o),false))\/(Aa c y x a=true/\g=(!decide (a=o),true))
 | [],L=>by simp
 | a :: l,L=>by
   rw[List.foldl_cons,mH,uA,or_assoc];simp only[List.mem_cons,exists_eq_or_imp]
theorem qj {c:Case} {t:List Int} {k:Nat} {x:Piece} {y:Link} (hx:c.pieces[k]?=some x) (hy:c.loop.links[k]?=some y) {g:E8}:g∈jM c t k↔∃ a∈N5 c k,(uC c y x a=true/\g=(!decide (a=cZ c t y.drawing),false))\/(Aa c y x a=true/\g=(!decide (a=cZ c t y.drawing),true)):=by
 unfold jM;rw[hx,hy];simp only;rw[mH];simp
theorem uT {c:Case} {t:List Int} {k:Nat} (hk:k<c.pieces.length):(C4 c t).faults.getD k []=jM c t k:=by
 simp[C4,List.getD,hk]
theorem CG {c:Case} (h0:G4 c=0) {t:List Int} (hn:tU c t=false) (hf:∀ k,k<c.pieces.length->(false,false)∈jM c t k):False:=by
 obtain⟨he,hft⟩:=I6 h0;have hok:=K2 (B8 he).2;have hlen:=hok.e;unfold tU at hn;simp only[Bool.or_eq_false_iff,Bool.not_eq_false',decide_eq_true_eq] at hn;obtain⟨hl,hc⟩:=hn;have hmeet:∀ p∈c.loop.links.zip c.pieces,p.2.lo<=(V8 (du c t) p.1).upper/\(V8 (du c t) p.1).lower<=p.2.hi:=λp hp=>by
  obtain⟨k,hk⟩:=List.mem_iff_getElem?.1 hp;rw[List.getElem?_zip_eq_some] at hk;obtain⟨hy,hx⟩:=hk;have h1:=hf k (e7 hx);rw[qj hx hy] at h1;obtain⟨a,ha,h2|h2⟩:=h1
  ·have e:a=cZ c t p.1.drawing:=by have:=h2.2;simp at this;exact this
   subst e;have h3:=h2.1;unfold uC at h3;rw[DU hl (List.mem_of_getElem? hy)] at h3;simpa using h3
  ·exact absurd h2.2 (by simp)
 have hs:=oy (V8 (du c t)) (c.loop.links.zip c.pieces) (0,0) 0 0 hmeet (Int.le_refl _) (Int.le_refl _);rw[<- qP hlen,<- qP hlen] at hs;have hlp:(du c t).loops[(0:Int).toNat]?=some c.loop:=rfl;have hLo:xq (du c t) 0=dI c.loop.links (c.loop.links.map (V8 (du c t))) false:=by
  rw[xq,if_pos hl,JK,hlp];rfl
 have hHi:xr (du c t) 0=dI c.loop.links (c.loop.links.map (V8 (du c t))) true:=by
  rw[xr,if_pos hl,Kc,hlp];rfl
 rw[<- hLo,<- hHi] at hs;rw[R1,if_pos hl,Ln,hlp] at hc;simp only at hc;have hg:c.loop.lo<=xq (du c t) 0/\xr (du c t) 0<=c.loop.hi:=by
  split at hc
  ·assumption
  ·split at hc<;>exact absurd hc (by decide)
 unfold Z2 bw oT at hft;rw[if_pos he,if_pos he] at hft;have hs2:R3 (c.loop.links.zip c.pieces)=(c.loop.links.zip c.pieces).foldl E1 (0,0):=rfl;rw[hs2] at hft;split at hft
 ·omega
 ·split at hft<;>exact absurd hft (by decide)
theorem wy {c:Case} (h0:G4 c=0):DkG c.pieces.length (n8 c):=by
 obtain⟨he,_⟩:=I6 h0;refine⟨λe=>?_,λd hd=>?_,mO he,λd hd g hg e=>?_⟩
 ·have:=(aI he).1;rw[e] at this;exact absurd this (by decide)
 ·obtain⟨t,_,rfl⟩:=List.mem_map.1 hd;simp[C4]
 ·obtain⟨t,_,rfl⟩:=List.mem_map.1 hd;have hl:(C4 c t).faults.length=c.pieces.length:=by simp[C4]
  refine CG h0 (t:=t) ?_ λk hk=>?_
  ·cases hn:tU c t
   ·rfl
   ·have:(⟨1,0⟩:Susp)∈bA (C4 c t).notes g c.pieces.length:=selS_mem.2 (.inl ⟨hn,rfl⟩);rw[e] at this;simp at this
  ·have h1:=hg k (by omega);rw[uT hk] at h1;have e2:g k=(false,false):=by
    refine Prod.ext ?_ ?_
    ·cases hb:(g k).1
     ·rfl
     ·have:km k∈bA (C4 c t).notes g c.pieces.length:=selS_mem.2 (.inr (.inl ⟨k,hk,hb,rfl⟩));rw[e] at this;simp at this
    ·cases hb:(g k).2
     ·rfl
     ·have:kx k∈bA (C4 c t).notes g c.pieces.length:=selS_mem.2 (.inr (.inr ⟨k,hk,hb,rfl⟩));rw[e] at this;simp at this
   rw[e2] at h1;exact h1
theorem lO {c:Case} (h0:G4 c=0):ql c=Cn (n8 c)/\qF c=Ls c.pieces.length (n8 c)/\(∀ k,aK c k=pE c.pieces.length (n8 c) k)/\fJ c=(Iz (n8 c),HE (n8 c)):=by
 refine⟨?_,?_,λk=>?_,?_⟩
 ·unfold ql;rw[if_pos h0];rfl
 ·unfold qF;rw[if_pos h0];rfl
 ·unfold aK;rw[if_pos h0];rfl
 ·unfold fJ;rw[if_pos h0];rfl
variable {G:MF}
attribute [simp] s7 cN O1 fI u9 A4 nilV J1 ZK
structure CauseOk (n:Nat) (lo hi:Int) (l a su op:List Susp):Prop where
 b1:1<=lo
 b2:lo<=hi
 b3:hi<=1+2*n
 b4:(l.length:Int)=lo
 b5:a≠[]↔lo=1
 b6:∀ s r,a=s :: r->∃ r',l=s :: r'
 b7:(su.length:Int)<=lo
 b8:hi<=(su.length:Int)+op.length
 lm:∀ s∈l,tn n s=true/\(s∈su\/s∈op)
 am:∀ s∈a,tn n s=true/\(s∈su\/s∈op)
 ls:l.Pairwise V0
 aS':a.Pairwise V0
 sm:∀ s∈su,s∈l/\(a=[]\/a=[s])
structure Hid (P:Prop):Prop where
 out:P
attribute [simp] s7 cN O1 fI u9 A4 nilV J1 ZK
attribute [simp] s7 cN O1 fI u9 A4 nilV J1 ZK
theorem sS {c:Case} (he:s6 c=0) {k:Nat} (h1:k<c.pieces.length) (h2:k<c.loop.links.length):P4 c.p c.pieces[k].day 1 c.pieces[k].holder c.loop.links[k].drawing=0:=by
 obtain⟨hp0,hcb⟩:=B8 he;obtain⟨hn0,hpb,hr0⟩:=D9 hp0;have hdm:=jZ hr0 hcb h1 h2;have hq:=hcb;rw[Q1,Bool.and_eq_true,List.all_eq_true] at hq;have h3:k<(c.loop.links.zip c.pieces).length:=by rw[List.length_zip];omega
 have h4:=hq.2 _ (List.getElem_mem h3);rw[List.getElem_zip] at h4;simp only at h4;rw[jH hr0] at h4;obtain⟨_,_,_,hh,hd,_⟩:=h4;unfold P4 J4 uX;rw[if_neg,if_pos ⟨hh,hdm⟩];rw[if_neg (by simp[hp0]),if_pos]
 ·decide
 ·simp only[List.all_cons,List.all_nil,Bool.and_true,Bool.and_eq_true,decide_eq_true_eq] at hd ⊢;omega
attribute [simp] s7 cN O1 fI u9 A4 nilV J1 ZK
structure TrueOk (c:Case) (t:List Int) (l su op:List Susp) (lo hi:Int):Prop where
 b1:l≠[]
 b2:lo<=(l.length:Int)
 b3:(l.length:Int)<=hi
 b4:∀ s∈l,(s∈su\/s∈op)/\mr c t s=0/\¬ jG c t s=0
 b5:∀ s∈su,mr c t s=0/\jG c t s=2/\s∈l/\s∉op
end Go.Proofs
namespace Go.Proofs
open Go Go.Ab
variable {c:Case} {k:Nat} {x:Piece} {a b:Int}
structure MsOk (c:Case) (k:Nat) (x:Piece) (a b:Int):Prop where
 p1:c.pieces[k]?=some x
 p2:x.lo<=a/\a<=b/\b<=x.hi
 p3:G4 c=0
theorem Fv {c:Case} (h:Z2 c=0) (he:s6 c=0):(R3 (c.loop.links.zip c.pieces)).2<c.loop.lo\/(R3 (c.loop.links.zip c.pieces)).1 > c.loop.hi:=by
 unfold Z2 bw oT at h;rw[if_pos he,if_pos he] at h;split at h
 ·assumption
 ·split at h<;>exact absurd h (by decide)
end Go.Proofs
namespace Go.Proofs
open Go Go.Ab
variable {G:MF}
attribute [simp] s7 cN O1 fI u9 A4 nilV J1 ZK
theorem AL {c:Case} (hs:Q5 c=true) (h0:G4 c=0):aO c=true:=by
 obtain⟨he,hf⟩:=I6 h0;have hd:=Fv hf he;unfold aO IH;simp only[Bool.and_eq_true,Bool.or_eq_true,decide_eq_true_eq];exact⟨hs,he,by omega⟩
theorem rl {c:Case} (h:aO c=true):Q5 c=true:=by
 unfold aO at h;simp only[Bool.and_eq_true] at h;exact h.1
structure MsF (c:Case) (k:Nat) (x:Piece) (a b:Int):Prop where
 q1:pQ c (k:Int) a b=0
 q2:Gm c (k:Int) a b=ub c k x a b
 q3:aO (ub c k x a b)=true
 q4:W0 (ub c k x a b).p
 q5:KC (ub c k x a b)
 q6:kT (ub c k x a b) (kx k)=0
 q7:kR (ub c k x a b) (kx k)=0↔(jX c (k:Int)).1<=a/\b<=(jX c (k:Int)).2
open Go Go.Ab Tryz
attribute [simp] s7 cN O1 fI u9 A4 nilV J1 ZK
structure LessOk (c z:Case):Prop where
 q1:G4 c=0
 q2:G4 z=0
 q3:(fJ c).1<=(fJ z).1
 q4:(fJ z).2<=(fJ c).2
 q5:∀ s,(s∈aK z 2\/s∈aK z 1)->s∈aK c 2\/s∈aK c 1
 q6:∀ s∈aK c 2,s∈aK z 2
theorem Hu {c z:Case} (h0:G4 c=0) (h1:G4 z=0) (hn:z.pieces.length=c.pieces.length) (hs:tc (n8 z) (n8 c)):LessOk c z:=by
 have g:=wy h0;have g1:=wy h1;rw[hn] at g1;obtain⟨_,_,e3,e4⟩:=lO h0;obtain⟨_,_,f3,f4⟩:=lO h1;rw[hn] at f3;refine⟨h0,h1,?_,?_,λs h=>?_,λs h=>?_⟩
 ·rw[e4,f4];exact(Am g g1 hs).1
 ·rw[e4,f4];exact(Am g g1 hs).2
 ·rw[f3,f3] at h;rw[e3,e3];exact DW g g1 hs h
 ·rw[e3] at h;rw[f3];exact Ak g g1 hs h
@[simp] abbrev QW:List Nat:=[0,1,2,3,4,5,6,7,8,9,10,11,12,13,14,16,18,68,73,74,75,76,88,90,91,92,93,99]
theorem EO (c z:Case) (hG:p5 G) (hN:D5 G) (hS:u6 G) (hU:V3 G) (hR:w8 G) (hC:K7 G) (hK:bX G) (hF:jO G) (hk:KC c) (hkz:KC z) (hok:LessOk c z):zP prog G 43 [n5 c,n5 z] (bv true):=by
 refine zf func43 ntmps43 ?_;try simp only[iv]
 obtain⟨h0,h1,o1,o2,o3,o4⟩:=hok;have c1:=eS (G:=G) c hG hN hS hU hR hC hK hk;have c2:=eS (G:=G) z hG hN hS hU hR hC hK hkz;have c3:=ng (G:=G) c hG hN hS hU hR hC hF hk;have c4:=ng (G:=G) z hG hN hS hU hR hC hF hkz;rw[h0] at c1 c3;rw[h1] at c2 c4;have l1:=ia c 2 hk.q;have l2:=ia c 1 hk.q;have l3:=ia z 2 hkz.q;have l4:=ia z 1 hkz.q;generalize aK c 2=a at *;generalize aK c 1=b at *;generalize aK z 2=s at *;generalize aK z 1=o at *;generalize fJ c=N at *;generalize fJ z=M at *;obtain⟨n1,n2⟩:=N;obtain⟨m1,m2⟩:=M;simp only at o1 o2;have f1:¬ m1<n1:=by omega
 have f2:¬ n2<m2:=by omega
 have d1:=λx=>qE (G:=G) a x (by omega);have d2:=λx=>qE (G:=G) b x (by omega);have d3:=λx=>qE (G:=G) s x (by omega);simp only[n5,j4,F1,C2,j6,E0,rI,List.map_cons,List.map_nil] at c1 c2 c3 c4 d1 d2 d3 ⊢;have hs:=za f1 f2;repeat' first|(with_reducible first|refine zz ?_|refine And.intro (by omega) ?_|refine zE QW ?_)|simp -dsimp[hs]|refine zp c1 ?_|refine zp c2 ?_|refine zp c3 ?_|refine zp c4 ?_|refine i9 ?_ ?_<;>intro h<;>try exact h.elim
 all_goals try clear hs
 obtain⟨RES,hRES⟩:∃ r,r=s++o:=⟨_,rfl⟩
 have hap:l7 (s.map j6)++l7 (o.map j6)=l7 (RES.map j6):=by rw[hRES,List.map_append,W9]
 have hrl:s.length+o.length=RES.length:=by rw[hRES,List.length_append]
 have hri:(s.length:Int)+(o.length:Int)=(RES.length:Int):=by omega
 have hrm:∀ x∈RES,x∈a\/x∈b:=λx hx=>o3 x (by rw[hRES,List.mem_append] at hx;exact hx);have hrz:RES.length<1000000:=by omega
 clear c1 c2 c3 c4 hRES;refine i6 (ι:={ k:Nat // k<=RES.length }) (λk=>⟨101,[(5,.one (.im (.sl (a.map j6)))),(6,.one (.im (.sl (b.map j6)))),(8,.one (.im (.sl (s.map j6)))),(73,.one (.vec 4 2 0 RES.length)),(74,iv (RES.length:Int)),(75,iv (k.1:Int))],[.row ((j4 c).map .im),.row ((j4 z).map .im),.row [.im (rI n1),.im (rI n2)],.row [.im (rI m1),.im (rI m2)],.vec 2 (l7 (RES.map j6)) 2 false]⟩) (λk=>RES.length-k.1) ⟨0,by omega⟩ (zw [5,6,8,73,74,75] 5 (by simp[hap,hrl,hri])) ?_;rintro⟨k,hkl⟩;simp only[iv,rI,bv];by_cases hlt:k<RES.length
 ·have hw:=zk k;have hx0:RES[k]?=some RES[k]:=by simp[hlt]
  have e1:=hrm RES[k] (List.getElem_mem hlt);have d5:=d1 RES[k];have d6:=d2 RES[k];generalize hx:RES[k]=x at *;have hsx:(x∈a/\decide (x∈a)=true/\True)\/(x∉a/\decide (x∈a)=false/\decide (x∈b)=true):=by
   by_cases h:x∈a
   ·exact .inl ⟨h,by simp[h],trivial⟩
   ·exact .inr ⟨h,by simp[h],by rcases e1 with e1|e1<;>simp_all⟩
  clear e1;have hs:True:=trivial;rcases hsx with⟨_,h5,h6⟩|⟨_,h5,h6⟩
  ·rw[h5] at d5;have hs:=za hx (za hlt (za hw hx0));repeat' first|(with_reducible first|refine zz ?_|refine zE QW ?_)|simp -dsimp[hs]|refine zp d5 ?_|refine i9 ?_ ?_<;>intro h<;>try exact h.elim
   all_goals try clear hs
   all_goals exact zn ⟨k+1,by omega⟩ (zw [5,6,8,73,74,75] 5)
  ·rw[h5] at d5;rw[h6] at d6;have hs:=za hx (za hlt (za hw hx0));repeat' first|(with_reducible first|refine zz ?_|refine zE QW ?_)|simp -dsimp[hs]|refine zp d5 ?_|refine zp d6 ?_|refine i9 ?_ ?_<;>intro h<;>try exact h.elim
   all_goals try clear hs
   all_goals exact zn ⟨k+1,by omega⟩ (zw [5,6,8,73,74,75] 5)
 ·obtain rfl:k=RES.length:=by omega
  have hs:=hlt;repeat' first|(with_reducible first|refine zz ?_|refine zE QW ?_)|simp -dsimp[hs]|refine i9 ?_ ?_<;>intro h<;>try exact h.elim
  all_goals try clear hs
  refine i6 (ι:={ k:Nat // k<=a.length }) (λk=>⟨101,[(8,.one (.im (.sl (s.map j6)))),(90,.one (.im (.sl (a.map j6)))),(91,iv (a.length:Int)),(92,iv (k.1:Int))],[.row ((j4 c).map .im)]⟩) (λk=>a.length-k.1) ⟨0,by omega⟩ (zw [8,90,91,92] 1) ?_;rintro⟨k,hkl⟩;simp only[iv,rI,bv];by_cases hlt:k<a.length
  ·have hw:=zk k;have hx0:a[k]?=some a[k]:=by simp[hlt]
   have e1:=o4 a[k] (List.getElem_mem hlt);have d5:=d3 a[k];rw[decide_eq_true e1] at d5;generalize hx:a[k]=x at *;have hs:=za hx (za hlt (za hw hx0));repeat' first|(with_reducible first|refine zz ?_|refine zE QW ?_)|simp -dsimp[hs]|refine zp d5 ?_|refine i9 ?_ ?_<;>intro h<;>try exact h.elim
   all_goals try clear hs
   all_goals exact zn ⟨k+1,by omega⟩ (zw [8,90,91,92] 1)
  ·obtain rfl:k=a.length:=by omega
   have hs:=hlt;repeat' first|(with_reducible first|refine zz ?_|refine zr ?_|refine zE QW ?_)|simp -dsimp[hs]|refine i9 ?_ ?_<;>intro h<;>try exact h.elim
   all_goals try clear hs
def KJ (n:Int):DV:=.one (.im (.raw (.int .u16 n)))
def Me (n:Int):DV:=.one (.im (.raw (.int .u8 n)))
attribute [simp] KJ Me
theorem Ex {l:List Issue} (h:l6 l=0):nums l≠[]:=by
 have hl:r8 l=true:=by
  cases hc:r8 l
  ·simp[l6,hc] at h
  ·rfl
 simp only[r8,Bool.and_eq_true,decide_eq_true_eq] at hl;have h1:=hl.1.1.1.1;have:∀ k,0<k->k<=l.length->E3 l k≠[]:=by
  intro k;induction k with
  | zero=>intro h;omega
  | succ k ih =>
    intro _ hk;simp only[E3];by_cases e:k=0
    ·subst e;rw[List.getElem?_eq_getElem (show 0<l.length by omega)];simp
    ·intro h;exact ih (by omega) (by omega) (List.append_eq_nil_iff.1 h).1
 exact this _ (by omega) (Nat.le_refl _)
theorem BS (X:List (List IC)) (i:Nat) (e:List IC):l7 (X.set i e)=(l7 X).set i (e.map .im):=by simp[l7,List.map_set]
end Go.Proofs
namespace Go.Proofs
open Go Go.Ab
variable {G:MF}
end Go.Proofs
