/- Part 25 of the proofs. -/
import Derived.Test.YtlmlkkoapahmjaaGreatDoorR18
import Derived.Test.YtlmlkkoapahmjaaGreatDoorC02
import Derived.Test.YtlmlkkoapahmjaaGreatDoorC03
import Derived.Test.YtlmlkkoapahmjaaGreatDoorC06
set_option linter.all false
set_option maxHeartbeats 100000000
namespace Go.Ab
open Go
abbrev Gp:=Nat×Bool
def tW (b:Nat->Nat×Nat) (m:Nat->Gp×Gp) (i k:Nat) (x:Issue):List DC:=if k<i then [.im (rI x.drawing),.im (rI x.letter),.im (.raw (.int .u8 x.kind)),.vec (b k).1 (m k).1.1 0 x.items.length,.vec (b k).2 (m k).2.1 0 x.dims.length] else (e9 x).map .im
def bZ (b:Nat->Nat×Nat) (m:Nat->Gp×Gp) (i:Nat) (l:List Issue):List (List DC):=l.mapIdx (tW b m i)
def fZ (l:List Issue) (m:Nat->Gp×Gp) (k:Nat):Q4:=match l[k]? with
 | some x=>(.vec 2 [] 0 true,.vec 2 (n3 (x.items.map A2)) (m k).1.1 (m k).1.2,.vec 3 [] 0 true,.vec 3 (n3 (x.dims.map D5)) (m k).2.1 (m k).2.2)
 | none=>(.gone,.gone,.gone,.gone)
def ua (b:Nat->Nat) (m:Nat->Gp) (i k:Nat) (x:Holder):List DC:=if k<i then [.im (rI x.id),.im (rI x.frm),.im (rI x.to),.vec (b k) (m k).1 0 x.draws.length] else (p7 x).map .im
def ci (b:Nat->Nat) (m:Nat->Gp) (i:Nat) (l:List Holder):List (List DC):=l.mapIdx (ua b m i)
def iz (l:List Holder) (m:Nat->Gp) (k:Nat):Q2:=match l[k]? with
 | some x=>(.vec 1 [] 0 true,.vec 1 (n3 (x.draws.map Ab.encI)) (m k).1 (m k).2)
 | none=>(.gone,.gone)
@[simp] theorem Jo (b:Nat->Nat×Nat) (m:Nat->Gp×Gp) (i:Nat) (l:List Issue):(bZ b m i l).length=l.length:=by simp[bZ]
@[simp] theorem Jy (b:Nat->Nat) (m:Nat->Gp) (i:Nat) (l:List Holder):(ci b m i l).length=l.length:=by simp[ci]
theorem xu (b:Nat->Nat×Nat) (m:Nat->Gp×Gp) (l:List Issue):bZ b m 0 l=n3 (l.map e9):=by
 unfold bZ n3;apply List.ext_getElem?
 intro k;simp[List.getElem?_mapIdx,tW];rfl
theorem xF (b:Nat->Nat) (m:Nat->Gp) (l:List Holder):ci b m 0 l=n3 (l.map p7):=by
 unfold ci n3;apply List.ext_getElem?
 intro k;simp[List.getElem?_mapIdx,ua];rfl
theorem El {b:Nat->Nat×Nat} {m:Nat->Gp×Gp} {i:Nat} {l:List Issue} {x:Issue} (h:l[i]?=some x):(bZ b m i l)[i]?=some ((e9 x).map .im):=by
 simp[bZ,List.getElem?_mapIdx,h,tW]
theorem Ev {b:Nat->Nat} {m:Nat->Gp} {i:Nat} {l:List Holder} {x:Holder} (h:l[i]?=some x):(ci b m i l)[i]?=some ((p7 x).map .im):=by
 simp[ci,List.getElem?_mapIdx,h,ua]
def gE {α:Type} (m:Nat->α) (i:Nat) (g:α) (k:Nat):α:=if k=i then g else m k
theorem Ba {b:Nat->Nat×Nat} {m:Nat->Gp×Gp} {i:Nat} {l:List Issue} {x:Issue} (h:l[i]?=some x) (g:Gp×Gp):(bZ b m i l).set i [.im (rI x.drawing),.im (rI x.letter),.im (.raw (.int .u8 x.kind)),.vec (b i).1 g.1.1 0 x.items.length,.vec (b i).2 g.2.1 0 x.dims.length]=bZ b (gE m i g) (i+1) l:=by
 apply List.ext_getElem?
 intro k;rw[List.getElem?_set];by_cases e:i=k
 ·subst e;have hlt:=e7 h;rw[if_pos rfl,if_pos (by simpa using hlt)];simp only[bZ,List.getElem?_mapIdx,h,Option.map_some,tW,gE,if_true,Nat.lt_succ_self]
 ·rw[if_neg e];simp only[bZ,List.getElem?_mapIdx];have h1:¬ k=i:=λh=>e h.symm;cases hk:l[k]? with
  | none=>rfl
  | some y =>
    simp only[Option.map_some,tW,gE,if_neg h1];by_cases h2:k<i
    ·rw[if_pos h2,if_pos (by omega)]
    ·rw[if_neg h2,if_neg (by omega)]
theorem Bm {b:Nat->Nat} {m:Nat->Gp} {i:Nat} {l:List Holder} {x:Holder} (h:l[i]?=some x) (g:Gp):(ci b m i l).set i [.im (rI x.id),.im (rI x.frm),.im (rI x.to),.vec (b i) g.1 0 x.draws.length]=ci b (gE m i g) (i+1) l:=by
 apply List.ext_getElem?
 intro k;rw[List.getElem?_set];by_cases e:i=k
 ·subst e;have hlt:=e7 h;rw[if_pos rfl,if_pos (by simpa using hlt)];simp only[ci,List.getElem?_mapIdx,h,Option.map_some,ua,gE,if_true,Nat.lt_succ_self]
 ·rw[if_neg e];simp only[ci,List.getElem?_mapIdx];have h1:¬ k=i:=λh=>e h.symm;cases hk:l[k]? with
  | none=>rfl
  | some y =>
    simp only[Option.map_some,ua,gE,if_neg h1];by_cases h2:k<i
    ·rw[if_pos h2,if_pos (by omega)]
    ·rw[if_neg h2,if_neg (by omega)]
theorem xt {l:List Issue} {m:Nat->Gp×Gp} {i:Nat} {x:Issue} (h:l[i]?=some x) (g:Gp×Gp):G3 (fZ l (gE m i g)) (i+1)=G3 (fZ l m) i++[.vec 2 [] 0 true,.vec 2 (n3 (x.items.map A2)) g.1.1 g.1.2,.vec 3 [] 0 true,.vec 3 (n3 (x.dims.map D5)) g.2.1 g.2.2]:=by
 rw[G3,dZ (H:=fZ l m) λk hk=>by unfold fZ gE;rw[if_neg (by omega)]];simp[fZ,h,gE]
theorem xE {l:List Holder} {m:Nat->Gp} {i:Nat} {x:Holder} (h:l[i]?=some x) (g:Gp):J5 (iz l (gE m i g)) (i+1)=J5 (iz l m) i++[.vec 1 [] 0 true,.vec 1 (n3 (x.draws.map Ab.encI)) g.1 g.2]:=by
 rw[J5,ec (H:=iz l m) λk hk=>by unfold iz gE;rw[if_neg (by omega)]];simp[iz,h,gE]
abbrev zi:=(Gp×Gp)×(Nat->Gp×Gp)×(Gp×Gp)×(Nat->Gp)×(Gp×Gp)
def uy (s k:Nat):Nat×Nat:=(4*k+(13+s),4*k+(15+s))
def uz (N s k:Nat):Nat:=4*N+2*k+(17+s)
def oC (s:Nat) (m:zi) (c:Case):List DC:=[.vec (9+s) m.1.1.1 0 c.p.n.reg.length,.vec (11+s) m.1.2.1 0 c.p.n.notes.length,.vec (4*c.p.n.reg.length+(13+s)) m.2.2.1.1.1 0 c.p.holders.length,.vec (4*c.p.n.reg.length+(15+s)) m.2.2.1.2.1 0 c.p.prints.length,.im (rI c.machine),.im (rI c.of),.vec (4*c.p.n.reg.length+2*c.p.holders.length+(17+s)) m.2.2.2.2.1.1 0 c.loop.links.length,.im (rI c.loop.lo),.im (rI c.loop.hi),.vec (4*c.p.n.reg.length+2*c.p.holders.length+(19+s)) m.2.2.2.2.2.1 0 c.pieces.length]
def qv (s:Nat) (m:zi) (c:Case):List DObj:=.row (oC s m c) :: .vec 0 [] 0 true :: .vec 0 [] 0 true :: .vec 0 [] 0 true :: .vec 0 [] 0 true :: .vec 0 [] 0 true :: .vec 0 [] 0 true :: .row (oC s m c) :: .vec 5 [] 0 true :: .vec 5 (bZ (uy s) m.2.1 c.p.n.reg.length c.p.n.reg) m.1.1.1 m.1.1.2 :: .vec 10 [] 0 true :: .vec 10 (n3 (c.p.n.notes.map j9)) m.1.2.1 m.1.2.2 :: (G3 (fZ c.p.n.reg m.2.1) c.p.n.reg.length ++ .vec 4 [] 0 true :: .vec 4 (ci (uz c.p.n.reg.length s) m.2.2.2.1 c.p.holders.length c.p.holders) m.2.2.1.1.1 m.2.2.1.1.2 :: .vec 7 [] 0 true :: .vec 7 (n3 (c.p.prints.map A6)) m.2.2.1.2.1 m.2.2.1.2.2 :: (J5 (iz c.p.holders m.2.2.2.1) c.p.holders.length++[.vec 3 [] 0 true,.vec 3 (n3 (c.loop.links.map H2)) m.2.2.2.2.1.1 m.2.2.2.2.1.2,.vec 4 [] 0 true,.vec 4 (n3 (c.pieces.map B1)) m.2.2.2.2.2.1 m.2.2.2.2.2.2]))
theorem pm (e:Nat->Nat) (l:List (List IC)):(n3 l).map (rnL e)=n3 l:=by
 unfold n3;rw[List.map_map];exact List.map_congr_left λx _=>fO e x
theorem Dq (a s:Nat) (m:Nat->Gp×Gp) (i:Nat) (l:List Issue):(bZ (uy a) m i l).map (rnL λo=>s+o)=bZ (uy (a+s)) m i l:=by
 apply List.ext_getElem?
 intro k;simp only[bZ,List.getElem?_map,List.getElem?_mapIdx];cases l[k]? with
 | none=>rfl
 | some x =>
   simp only[Option.map_some,tW];by_cases h:k<i
   ·rw[if_pos h,if_pos h];simp only[rnL,gR,uy];rw[show s+(4*k+(13+a))=4*k+(13+(a+s)) by omega,show s+(4*k+(15+a))=4*k+(15+(a+s)) by omega]
   ·rw[if_neg h,if_neg h,fO]
theorem Dr (N a s:Nat) (m:Nat->Gp) (i:Nat) (l:List Holder):(ci (uz N a) m i l).map (rnL λo=>s+o)=ci (uz N (a+s)) m i l:=by
 apply List.ext_getElem?
 intro k;simp only[ci,List.getElem?_map,List.getElem?_mapIdx];cases l[k]? with
 | none=>rfl
 | some x =>
   simp only[Option.map_some,ua];by_cases h:k<i
   ·rw[if_pos h,if_pos h];simp only[rnL,gR,uz];rw[show s+(4*N+2*k+(17+a))=4*N+2*k+(17+(a+s)) by omega]
   ·rw[if_neg h,if_neg h,fO]
theorem pn (a s:Nat) (m:zi) (c:Case):rnL (λo=>s+o) (oC a m c)=oC (a+s) m c:=by
 simp only[oC,rnL,gR];simp only[List.cons.injEq,DC.vec.injEq,and_true,true_and];omega
theorem Aa (a s:Nat) (m:zi) (c:Case):(qv a m c).map (cv λo=>s+o)=qv (a+s) m c:=by
 have h4:(G3 (fZ c.p.n.reg m.2.1) c.p.n.reg.length).map (cv λo=>s+o)=G3 (fZ c.p.n.reg m.2.1) c.p.n.reg.length:=by
  rw[oo];refine dZ λk hk=>?_;unfold fZ;rw[List.getElem?_eq_getElem hk];simp only[cv,pm,List.map_nil]
 have h2:(J5 (iz c.p.holders m.2.2.2.1) c.p.holders.length).map (cv λo=>s+o)=J5 (iz c.p.holders m.2.2.2.1) c.p.holders.length:=by
  rw[ot];refine ec λk hk=>?_;unfold iz;rw[List.getElem?_eq_getElem hk];simp only[cv,pm,List.map_nil]
 simp only[qv,List.map_cons,List.map_append,List.map_nil,cv,pn,Dq,Dr,pm,h4,h2]
theorem mo (n:Nat):u7 [] n=λo=>n+o:=by
 funext o;simp[u7]
theorem lS (objs o:List DObj):o6 [] objs o=objs++o.map (cv λk=>objs.length+k):=by
 unfold o6;rw[mo];simp[gV]
end Go.Ab
namespace Go.Proofs
open Go Go.Ab
variable {G:LY}
attribute [simp] p5 cw N7 fm u6 A5 nilV J0 ZK
@[simp] abbrev Qr:List Nat:=[0,1,2,3,4,5,6,36,37,38,85,86,87]
@[simp] abbrev Ye:List Nat:=[0,1,2,3,4,5,7,8,9,10,12,13,15,16,6,11,14,17]
theorem yp (c:Case) (hk:KC c):DCall Tryz.prog G 78 [n4 c] [] (λd o=>∃ m:zi,True/\d=.agg (oC 0 m c)/\o=qv 0 m c):=by
 generalize hQ:(λ(d:DV) (o:List DObj)=>∃ m:zi,True/\d=.agg (oC 0 m c)/\o=qv 0 m c)=Q;refine g9 Tryz.func78 rfl Tryz.ntmps78 (by simp) rfl ?_;have c1:=JJ (G:=G) c.p.n.reg (by have:=hk.p.n.1.1;omega);have c2:=Hv (G:=G) c.p.n.notes (by have:=hk.p.n.2.1;omega);unfold F9 at c1 c2;simp only[List.length_map] at c1 c2;simp only[n4];have hs:=trivial;repeat' first|with_reducible refine zz ?_|simp -dsimp[hs]|refine CallE.embed_ex [] (c1) ?_ ?_ ?_ ?_ ?_ ?_;(focus simp[u7];done);(focus simp;done);(focus simp;done);(focus simp;done);(focus refine o9 ?_;simp[u7,r9];done);intro mmA hmmA;try simp -dsimp[o6,u7,hs]|refine CallE.embed_ex [] (c2) ?_ ?_ ?_ ?_ ?_ ?_;(focus simp[u7];done);(focus simp;done);(focus simp;done);(focus simp;done);(focus refine o9 ?_;simp[u7,r9];done);intro mmB hmmB;try simp -dsimp[o6,u7,hs]|refine Y5 (id:=2) (nt:=117) [none,none,none,none,none,none,none,none,none,none,none,none,none,none,none,some [0],some [15],some [16],some [17],none,some [1],some [20],some [21],none] [0,1,2,3,4,5,6,7,9,10,11,12,13,15,16,17,18,20,21,22,8,14,19,23] 20 [([0,1,8,9,10,11,12,13,14,15,16,17,18,19],[0,1,2,3,4,5,6,15,36,37,38,85,86,87]),([0,1,13,14,15,16,17,18,19],[0,1,2,3,4,5,6,16,21,36,37,38,85,86,87]),([1,17,18,19],[0,1,2,3,4,5,6,16,22,26,36,37,38,85,86,87])] Qr mixed rfl (by kernel_rfl) (by kernel_rfl) (by kernel_rfl) ?_|with_reducible refine zE Qr ?_
 all_goals try clear hs
 refine i6 (ι:={ q:Nat×(Nat->Gp×Gp) // q.1<=c.p.n.reg.length }) (λq=>⟨117,[(1,.one (.ptr 0 0)),(2,.one (.ptr 7 0)),(3,.one (.ptr 0 0)),(36,iv (c.p.n.reg.length:Int)),(37,iv (q.1.1:Int))],.row [.vec 9 mmA.1 0 c.p.n.reg.length,.vec 11 mmB.1 0 c.p.n.notes.length,.im (.sl (c.p.holders.map p7)),.im (.sl (c.p.prints.map A6)),.im (rI c.machine),.im (rI c.of),.im (.sl (c.loop.links.map H2)),.im (rI c.loop.lo),.im (rI c.loop.hi),.im (.sl (c.pieces.map B1))] :: .vec 0 [] 0 true :: .vec 0 [] 0 true :: .vec 0 [] 0 true :: .vec 0 [] 0 true :: .vec 0 [] 0 true :: .vec 0 [] 0 true :: .row [.vec 1 0 0 0,.vec 2 0 0 0,.vec 3 0 0 0,.vec 4 0 0 0,.im (rI 0),.im (rI 0),.vec 5 0 0 0,.im (rI 0),.im (rI 0),.vec 6 0 0 0] :: .vec 5 [] 0 true :: .vec 5 (bZ (λk=>(4*k+13,4*k+15)) q.1.2 q.1.1 c.p.n.reg) mmA.1 mmA.2 :: .vec 10 [] 0 true :: .vec 10 (n3 (c.p.n.notes.map j9)) mmB.1 mmB.2 :: G3 (fZ c.p.n.reg q.1.2) q.1.1⟩) (λq=>c.p.n.reg.length-q.1.1) ⟨(0,λ_=>((0,false),(0,false))),by simp⟩ (zv [1,2,3,36,37] (by simp[xu,G3])) ?_;rintro⟨⟨i,m⟩,hi⟩;simp only at hi;simp only[iv,rI];by_cases hlt:i<c.p.n.reg.length
 ·have hw:IntKind.i64.wrap ((i:Int)+1)=((i+1:Nat):Int):=o7 (by omega) (by have:=hk.p.n.1.1;omega);have hx0:c.p.n.reg[i]?=some c.p.n.reg[i]:=by simp[hlt]
  have hxm:=hk.p.n.1.2 _ (List.mem_of_getElem? hx0);generalize c.p.n.reg[i]=x at *;have c3:=JI (G:=G) x.items (by omega);have c4:=JL (G:=G) x.dims (by omega);unfold F9 at c3 c4;simp only[List.length_map] at c3 c4;have hat:∀ h,(bZ (λk=>(4*k+13,4*k+15)) m i c.p.n.reg)[i]'h=(e9 x).map .im:=λh=>by
   have:=El (b:=λk=>(4*k+13,4*k+15)) (m:=m) hx0;rw[List.getElem?_eq_getElem h] at this;exact Option.some.inj this
  simp only[e9,rI,List.map_cons,List.map_nil] at hat;have hset:=λg=>Ba (b:=λk=>(4*k+13,4*k+15)) (m:=m) hx0 g;have hsuc:=λg=>xt (m:=m) hx0 g;have hs:=za hlt (za hw hat);repeat' first|with_reducible refine zz ?_|simp -dsimp[hs]|refine CallE.embed_ex [] (c3) ?_ ?_ ?_ ?_ ?_ ?_;(focus simp[u7];done);(focus simp;done);(focus simp;done);(focus simp;done);(focus refine o9 ?_;simp[u7,r9];done);intro mmC hmmC;try simp -dsimp[o6,u7,hs]|refine CallE.embed_ex [] (c4) ?_ ?_ ?_ ?_ ?_ ?_;(focus simp[u7];done);(focus simp;done);(focus simp;done);(focus simp;done);(focus refine o9 ?_;simp[u7,r9];done);intro mmD hmmD;try simp -dsimp[o6,u7,hs]|refine Y5 (id:=7) (nt:=117) [none,none,none,none,none,none,none,none,none,none,none,none,some [0],some [12],none,some [1],some [15],none] Ye 14 [([0,1,6,7,8,9,10,11,12,13],[0,1,2,3,4,5,6,36,37,38,53,85,86,87]),([0,1,10,11,12,13],[0,1,2,3,4,5,6,36,37,38,54,58,85,86,87]),([1,12,13],[0,1,2,3,4,5,6,36,37,38,54,59,61,85,86,87])] Qr mixed rfl (by kernel_rfl) (by kernel_rfl) (by kernel_rfl) ?_|with_reducible refine zE Qr ?_|refine i8 ?_ ?_<;>intro h<;>try exact h.elim
  all_goals try clear hs
  refine At.round ⟨(i+1,gE m i (mmC,mmD)),by simp only;omega⟩ (by simp only;omega) (Weak.of_keep [1,2,3,36,37] ?_);rw[<- hset (mmC,mmD),hsuc (mmC,mmD)];simp
 ·obtain rfl:i=c.p.n.reg.length:=by omega
  have c5:=Hx (G:=G) c.p.holders (by have:=hk.p.p.h;omega);have c6:=EO (G:=G) c.p.prints (by have:=hk.p.p.q;omega);unfold F9 at c5 c6;simp only[List.length_map] at c5 c6;have hs:=hlt;repeat' first|with_reducible refine zz ?_|simp -dsimp[hs]|refine CallE.embed_ex [] (c5) ?_ ?_ ?_ ?_ ?_ ?_;(focus simp[u7];done);(focus simp;done);(focus simp;done);(focus simp;done);(focus refine o9 ?_;simp[u7,r9];done);intro mmE hmmE;try simp -dsimp[o6,u7,hs]|refine CallE.embed_ex [] (c6) ?_ ?_ ?_ ?_ ?_ ?_;(focus simp[u7];done);(focus simp;done);(focus simp;done);(focus simp;done);(focus refine o9 ?_;simp[u7,r9];done);intro mmF hmmF;try simp -dsimp[o6,u7,hs]|refine Y5 (id:=9) (nt:=117) [none,none,none,none,none,none,none,none,none,none,none,none,some [0],some [12],none,some [1],some [15],none] Ye 14 [([0,1,6,7,8,9,10,11,12,13],[0,1,2,3,4,5,6,36,37,38,70,85,86,87]),([0,1,10,11,12,13],[0,1,2,3,4,5,6,36,37,38,71,75,85,86,87]),([1,12,13],[0,1,2,3,4,5,6,36,37,38,71,76,78,85,86,87])] Qr mixed rfl (by kernel_rfl) (by kernel_rfl) (by kernel_rfl) ?_|with_reducible refine zE Qr ?_|refine i8 ?_ ?_<;>intro h<;>try exact h.elim
  all_goals try clear hs
  clear hlt hi;generalize hN:c.p.n.reg.length=N at *;refine i6 (ι:={ q:Nat×(Nat->Gp) // q.1<=c.p.holders.length }) (λq=>⟨117,[(1,.one (.ptr 0 0)),(2,.one (.ptr 7 0)),(3,.one (.ptr 0 0)),(85,iv (c.p.holders.length:Int)),(86,iv (q.1.1:Int))],.row [.vec 9 mmA.1 0 N,.vec 11 mmB.1 0 c.p.n.notes.length,.vec (4*N+13) mmE.1 0 c.p.holders.length,.vec (4*N+15) mmF.1 0 c.p.prints.length,.im (rI c.machine),.im (rI c.of),.im (.sl (c.loop.links.map H2)),.im (rI c.loop.lo),.im (rI c.loop.hi),.im (.sl (c.pieces.map B1))] :: .vec 0 [] 0 true :: .vec 0 [] 0 true :: .vec 0 [] 0 true :: .vec 0 [] 0 true :: .vec 0 [] 0 true :: .vec 0 [] 0 true :: .row [.vec 1 0 0 0,.vec 2 0 0 0,.vec 3 0 0 0,.vec 4 0 0 0,.im (rI 0),.im (rI 0),.vec 5 0 0 0,.im (rI 0),.im (rI 0),.vec 6 0 0 0] :: .vec 5 [] 0 true :: .vec 5 (bZ (λk=>(4*k+13,4*k+15)) m N c.p.n.reg) mmA.1 mmA.2 :: .vec 10 [] 0 true :: .vec 10 (n3 (c.p.n.notes.map j9)) mmB.1 mmB.2 :: (G3 (fZ c.p.n.reg m) N ++ .vec 4 [] 0 true :: .vec 4 (ci (λk=>4*N+2*k+17) q.1.2 q.1.1 c.p.holders) mmE.1 mmE.2 :: .vec 7 [] 0 true :: .vec 7 (n3 (c.p.prints.map A6)) mmF.1 mmF.2 :: J5 (iz c.p.holders q.1.2) q.1.1)⟩) (λq=>c.p.holders.length-q.1.1) ⟨(0,λ_=>(0,false)),by simp⟩ (zv [1,2,3,85,86] (by simp[xF,J5])) ?_;rintro⟨⟨i,m2⟩,hi⟩;simp only at hi;simp only[iv,rI];by_cases hlt:i<c.p.holders.length
  ·have hw:IntKind.i64.wrap ((i:Int)+1)=((i+1:Nat):Int):=o7 (by omega) (by have:=hk.p.p.h;omega);have hx0:c.p.holders[i]?=some c.p.holders[i]:=by simp[hlt]
   have hxm:=hk.p.p.d _ (List.mem_of_getElem? hx0);generalize c.p.holders[i]=x at *;have c3:=JK (G:=G) x.draws (by omega);unfold F9 at c3;simp only[List.length_map] at c3;have hat:∀ h,(ci (λk=>4*N+2*k+17) m2 i c.p.holders)[i]'h=(p7 x).map .im:=λh=>by
    have:=Ev (b:=λk=>4*N+2*k+17) (m:=m2) hx0;rw[List.getElem?_eq_getElem h] at this;exact Option.some.inj this
   simp only[p7,rI,List.map_cons,List.map_nil] at hat;have hset:=λg=>Bm (b:=λk=>4*N+2*k+17) (m:=m2) hx0 g;have hsuc:=λg=>xE (m:=m2) hx0 g;have hs:=za hlt (za hw hat);repeat' first|with_reducible refine zz ?_|simp -dsimp[hs]|refine CallE.embed_ex [] (c3) ?_ ?_ ?_ ?_ ?_ ?_;(focus simp[u7];done);(focus simp;done);(focus simp;done);(focus simp;done);(focus refine o9 ?_;simp[u7,r9];done);intro mmC hmmC;try simp -dsimp[o6,u7,hs]|refine Y5 (id:=13) (nt:=117) [none,none,none,none,none,none,none,none,none,none,none,none,none,none,some [3,4],some [14],none] [0,1,2,3,4,5,6,7,8,9,10,11,12,14,15,13,16] 15 [([0,1,2,3,4,13,14],[0,1,2,3,4,5,6,36,37,38,85,86,87,101])] Qr mixed rfl (by kernel_rfl) (by kernel_rfl) (by kernel_rfl) ?_|with_reducible refine zE Qr ?_|refine i8 ?_ ?_<;>intro h<;>try exact h.elim
   all_goals try clear hs
   refine At.round ⟨(i+1,gE m2 i mmC),by simp only;omega⟩ (by simp only;omega) (Weak.of_keep [1,2,3,85,86] ?_);rw[<- hset mmC,hsuc mmC];simp;refine congrArg (λa=>(ci (λk=>4*N+2*k+17) m2 i c.p.holders).set i [_,_,_,DC.vec a _ _ _]) ?_;omega
  ·obtain rfl:i=c.p.holders.length:=by omega
   have c7:=Hw (G:=G) c.loop.links (by have:=hk.l;omega);have c8:=EP (G:=G) c.pieces (by have:=hk.q;omega);unfold F9 at c7 c8;simp only[List.length_map] at c7 c8;have hs:=hlt;repeat' first|(with_reducible first|refine zz ?_|refine zr ?_)|simp -dsimp[hs]|refine CallE.embed_ex [] (c7) ?_ ?_ ?_ ?_ ?_ ?_;(focus simp[u7];done);(focus simp;done);(focus simp;done);(focus simp;done);(focus refine o9 ?_;simp[u7,r9];done);intro mmG hmmG;try simp -dsimp[o6,u7,hs]|refine CallE.embed_ex [] (c8) ?_ ?_ ?_ ?_ ?_ ?_;(focus simp[u7];done);(focus simp;done);(focus simp;done);(focus simp;done);(focus refine o9 ?_;simp[u7,r9];done);intro mmH hmmH;try simp -dsimp[o6,u7,hs]|refine Y5 (id:=15) (nt:=117) [none,none,none,none,none,none,none,some [],some [7],none,some [],none] [0,1,2,4,5,7,8,10,3,6,9,11] 8 [([3,4,5,6,7],[0,1,2,3,4,5,6,36,37,38,85,86,87,108]),([5,6,7],[0,1,2,3,4,5,6,36,37,38,85,86,87,109,111]),([7],[0,1,2,3,4,5,6,36,37,38,85,86,87,109,112,114])] Qr mixed rfl (by kernel_rfl) (by kernel_rfl) (by kernel_rfl) ?_|with_reducible refine zE Qr ?_|refine i8 ?_ ?_<;>intro h<;>try exact h.elim
   all_goals try clear hs
   subst hQ;refine⟨((mmA,mmB),m,(mmE,mmF),m2,(mmG,mmH)),trivial,?_,?_⟩
   ·simp only[oC,hN,DV.agg.injEq,List.cons.injEq,DC.vec.injEq,and_true,true_and,Nat.add_zero];exact⟨rfl,rfl,by omega,rfl,rfl,by omega⟩
   ·simp only[qv,oC,hN,List.cons.injEq,DObj.row.injEq,DC.vec.injEq,and_true,true_and,Nat.add_zero];exact⟨⟨rfl,rfl,by omega,rfl,rfl,by omega⟩,⟨rfl,rfl,by omega,rfl,rfl,by omega⟩,rfl,rfl⟩
end Go.Proofs
namespace Go.Proofs
open Go Go.Ab Tryz
variable {G:LY}
def qr (x:Piece) (lo hi:Int):Piece:=⟨x.holder,x.day,lo,hi⟩
def bB (c:Case) (k:Nat) (x:Piece) (lo hi:Int):Case:={ c with pieces:=c.pieces.set k (qr x lo hi) }
noncomputable def nN (c:Case) (n lo hi:Int):Int:=if V8 c n≠0 then V8 c n else match c.pieces[n.toNat]? with
 | some x=>if O6 lo hi x.lo x.hi=true then 0 else 2
 | none=>2
theorem DR {c:Case} {n lo hi:Int} (h:nN c n lo hi=0):s9 c=0/\∃ (k:Nat) (x:Piece),n=(k:Int)/\c.pieces[k]?=some x/\O6 lo hi x.lo x.hi=true:=by
 unfold nN at h;by_cases h0:V8 c n=0
 ·rw[if_neg (by simp[h0])] at h;obtain⟨he,hn0,hn1⟩:=ru h0;obtain⟨k,rfl⟩:=Int.eq_ofNat_of_zero_le hn0;rw[Int.toNat_natCast] at h;cases hx:c.pieces[k]? with
  | none=>rw[hx] at h;simp at h
  | some x =>
    rw[hx] at h;simp only at h;by_cases hi':O6 lo hi x.lo x.hi=true
    ·exact⟨he,k,x,rfl,hx,hi'⟩
    ·rw[if_neg hi'] at h;exact absurd h (by decide)
 ·rw[if_pos (by exact h0)] at h;exact absurd h h0
def sW (s:Nat) (m:zi) (c:Case) (lo hi:Int):List DObj:=.row (oC (9+s) m c) :: .row [.im (rI lo),.im (rI hi)] :: .vec 0 [] 0 true :: .vec 0 [] 0 true :: .vec 0 [] 0 true :: .vec 0 [] 0 true :: .vec 0 [] 0 true :: .vec 0 [] 0 true :: .row (oC (9+s) m c) :: qv (9+s) m c
theorem Gd (s:Nat) (m:zi) (c:Case) (lo hi:Int):(sW 0 m c lo hi).map (cv λo=>s+o)=sW s m c lo hi:=by
 simp only[sW,List.map_cons,cv,pn,Aa,rnL,gR,List.map_nil,Nat.add_zero]
theorem GK {l:List Piece} {k:Nat} {x:Piece} (lo hi:Int) (h:l[k]?=some x):(n3 (l.map B1)).set k [.im (.raw (.int .i64 x.holder)),.im (.raw (.int .i64 x.day)),.im (.raw (.int .i64 lo)),.im (.raw (.int .i64 hi))]=n3 ((l.set k (qr x lo hi)).map B1):=by
 rw[List.map_set];unfold n3;rw[List.map_set];rfl
@[simp] abbrev QJ:List Nat:=[0,1,2,3,5,6,7,8,12,41]
theorem sD (c:Case) (k:Nat) (x:Piece) (lo hi:Int) (hx0:c.pieces[k]?=some x) (h0:s9 c=0) (hin:O6 lo hi x.lo x.hi=true) (hG:p8 G) (hN:E5 G) (hS:v8 G) (hR:A0 G) (hk:KC c):DCall prog G 27 [n4 c,iv (k:Int),E0 lo hi] [] (λd o=>∃ m:zi,True/\d=.tup [.agg (oC 9 m (bB c k x lo hi)),iv 0]/\o=sW 0 m (bB c k x lo hi) lo hi):=by
 generalize hQ:(λ(d:DV) (o:List DObj)=>∃ m:zi,True/\d=.tup [.agg (oC 9 m (bB c k x lo hi)),iv 0]/\o=sW 0 m (bB c k x lo hi) lo hi)=Q;refine g9 func27 rfl ntmps27 (by simp) rfl ?_;have hlt:k<c.pieces.length:=e7 hx0;have hx:c.pieces[k]=x:=(List.getElem?_eq_some_iff.1 hx0).2;have hq16:=hk.q;have c1:=jb (G:=G) c hG hN hS hR hk;rw[h0] at c1;have c2:=P2 (G:=G) 0 ((c.pieces.length:Int)-1) [(k:Int)] (by simp);rw[show ([(k:Int)].all λy=>decide (0<=y)&&decide (y<=(c.pieces.length:Int)-1))=true by simp;omega] at c2;have c3:=ce (G:=G) lo hi x.lo x.hi;rw[hin] at c3;have hw:IntKind.i64.wrap ((c.pieces.length:Int)-1)=(c.pieces.length:Int)-1:=o7 (by omega) (by omega);have c4:=yp (G:=G) c hk;simp only[n4,j4,E0] at c1 c3 c4 ⊢;have hs:=za hx (za hlt hw);repeat' first|(with_reducible first|refine zz ?_|refine zr ?_)|simp -dsimp[hs]|refine zp c1 ?_|refine zq c2 ?_|refine zq c3 ?_|refine CallE.embed_ex [] c4 ?_ ?_ ?_ ?_ ?_ ?_;(focus simp[u7];done);(focus simp;done);(focus simp;done);(focus simp;done);(focus refine o9 ?_;simp[u7,r9];done);intro mmA hmmA;(try simp only[lS,mo,jS,pn,Aa,Nat.zero_add]);try simp -dsimp[oC,qv]|refine zM 4 52 27 QJ ?_|with_reducible refine zE QJ ?_|refine i8 ?_ ?_<;>intro h<;>try exact h.elim
 subst hQ;have hst:=GK lo hi hx0;refine⟨mmA,trivial,?_,?_⟩
 ·simp[oC,bB]
 ·simp[sW,qv,oC,bB,hst]
def kZ:Case:=⟨⟨⟨[],[]⟩,[],[]⟩,0,0,⟨[],0,0⟩,[]⟩
noncomputable def FG (c:Case) (n lo hi:Int):Case:=if nN c n lo hi=0 then (match c.pieces[n.toNat]? with|some x=>bB c n.toNat x lo hi|none=>kZ) else kZ
theorem vH {c:Case} {k:Nat} {x:Piece} {lo hi:Int} (h:nN c (k:Int) lo hi=0) (hx:c.pieces[k]?=some x):FG c (k:Int) lo hi=bB c k x lo hi:=by
 unfold FG;rw[if_pos h,Int.toNat_natCast,hx]
theorem GL {c:Case} {n lo hi:Int} (h:¬ nN c n lo hi=0):FG c n lo hi=kZ:=by
 unfold FG;rw[if_neg h]
theorem AJ {c:Case} {k:Nat} {x:Piece} (lo hi:Int) (h0:s9 c=0) (hx:c.pieces[k]?=some x):nN c (k:Int) lo hi=if O6 lo hi x.lo x.hi=true then 0 else 2:=by
 have hlt:=e7 hx;have h1:V8 c (k:Int)=0:=by unfold V8;rw[if_neg (by simp[h0]),if_pos (by omega)]
 unfold nN;rw[if_neg (by simp[h1]),Int.toNat_natCast,hx]
theorem DU {c:Case} {n:Int} (lo hi:Int) (h0:s9 c=0) (hn:¬ (0<=n/\n<c.pieces.length)):nN c n lo hi=2:=by
 have h1:V8 c n=2:=by unfold V8;rw[if_neg (by simp[h0]),if_neg hn]
 unfold nN;rw[if_pos (by rw[h1];decide),h1]
theorem DW {c:Case} (n lo hi:Int) (h0:¬ s9 c=0):nN c n lo hi=s9 c:=by
 have h1:V8 c n=s9 c:=by unfold V8;rw[if_pos h0]
 unfold nN;rw[if_pos (by rw[h1];exact h0),h1]
theorem Cm (c:Case) (n lo hi:Int) (h:¬ nN c n lo hi=0) (hG:p8 G) (hN:E5 G) (hS:v8 G) (hR:A0 G) (hk:KC c):zP prog G 27 [n4 c,iv n,E0 lo hi] (.tup [n4 kZ,iv (nN c n lo hi)]):=by
 refine zf func27 ntmps27 ?_;try simp only[iv,E0]
 have c1:=jb (G:=G) c hG hN hS hR hk;have hq16:=hk.q;simp only[n4,j4,E0] at c1 ⊢;by_cases h0:s9 c=0
 ·rw[h0] at c1;have hw:IntKind.i64.wrap ((c.pieces.length:Int)-1)=(c.pieces.length:Int)-1:=o7 (by omega) (by omega);have c2:=P2 (G:=G) 0 ((c.pieces.length:Int)-1) [n] (by simp);by_cases hn:0<=n/\n<c.pieces.length
  ·obtain⟨k,rfl⟩:=Int.eq_ofNat_of_zero_le hn.1;have hlt:k<c.pieces.length:=by omega
   have hx0:c.pieces[k]?=some c.pieces[k]:=by simp[hlt]
   have hE:=AJ lo hi h0 hx0;generalize hx:c.pieces[k]=x at *;have c3:=ce (G:=G) lo hi x.lo x.hi;rw[show ([(k:Int)].all λy=>decide (0<=y)&&decide (y<=(c.pieces.length:Int)-1))=true by simp;omega] at c2;have hin:O6 lo hi x.lo x.hi=false:=by
    cases hb:O6 lo hi x.lo x.hi
    ·rfl
    ·rw[hb,if_pos rfl] at hE;exact absurd hE h
   rw[hin,if_neg (by decide)] at hE;rw[hin] at c3;rw[hE];simp only[E0] at c3;have hs:=za hx (za hlt hw);repeat' first|(with_reducible first|refine zz ?_|refine zr ?_)|simp -dsimp[hs]|refine zp c1 ?_|refine zq c2 ?_|refine zq c3 ?_|refine zM 4 52 27 QJ ?_|with_reducible refine zE QJ ?_|refine i8 ?_ ?_<;>intro h<;>try exact h.elim
   all_goals simp[kZ]
  ·have hE:=DU lo hi h0 hn;rw[show ([n].all λy=>decide (0<=y)&&decide (y<=(c.pieces.length:Int)-1))=false by simp;omega] at c2;rw[hE];have hs:=hw;repeat' first|(with_reducible first|refine zz ?_|refine zr ?_)|simp -dsimp[hs]|refine zp c1 ?_|refine zq c2 ?_|refine zM 4 52 27 QJ ?_|with_reducible refine zE QJ ?_|refine i8 ?_ ?_<;>intro h<;>try exact h.elim
   all_goals simp[kZ]
 ·have hE:=DW n lo hi h0;rw[hE];have hs:=h0;repeat' first|(with_reducible first|refine zz ?_|refine zr ?_|refine zE QJ ?_)|simp -dsimp[hs]|refine zp c1 ?_|refine i8 ?_ ?_<;>intro h<;>try exact h.elim
  all_goals simp[kZ]
end Go.Proofs
namespace Go.Ab
open Go
theorem iC {i n:Nat} (h:i<n) (F:Nat->Q4) (R:List DObj):(G3 F n++R)[4*i+1]?=some (F i).2.1:=by
 rw[List.getElem?_append_left (by simp;omega),jE F (by omega) h];rfl
theorem iB {i n:Nat} (h:i<n) (F:Nat->Q4) (R:List DObj):(G3 F n++R)[4*i+3]?=some (F i).2.2.2:=by
 rw[List.getElem?_append_left (by simp;omega),jE F (by omega) h];rfl
theorem iD {i n:Nat} (h:i<n) (F:Nat->Q2) (R:List DObj):(J5 F n++R)[2*i+1]?=some (F i).2:=by
 rw[List.getElem?_append_left (by simp;omega),ou F (by omega) h];rfl
theorem pz {α β:Type} {f:α->Option β}:∀ {l:List α} {r:List β},l.length=r.length->(∀ (i:Nat) (x:α),l[i]?=some x->f x=r[i]?)->E7 f l=some r
 | [],[],_,_=>rfl
 | [],_ :: _,h,_=>by simp at h
 | _ :: _,[],h,_=>by simp at h
 | x :: l,y :: r,h,h2=>by
   have h0:=h2 0 x rfl;have h1:=pz (f:=f) (l:=l) (r:=r) (by simpa using h) (λi z hz=>by simpa using h2 (i+1) z (by simpa using hz));simp only[List.getElem?_cons_zero] at h0;simp only[E7,h0,h1]
theorem iA {k o g len sz:Nat} {nl:Bool} {objs:List DObj} {es:List (List DC)} {L:List (List IC)} (ho:objs[o]?=some (.vec sz es g nl)) (hl:es.length=len) (h:E7 (E7 (frz k 0 objs)) es=some L):frz (k+1) 0 objs (.vec o g 0 len)=some (.sl L):=by
 subst hl;simp only[frz,ho,Nat.zero_le,if_true,Nat.zero_add,Nat.le_refl,and_self,List.drop_zero,List.take_length,h,Option.map_some]
theorem eU {o g len sz:Nat} {nl:Bool} {objs:List DObj} {es:List (List DC)} {L:List (List IC)} (ho:objs[o]?=some (.vec sz es g nl)) (hl:es.length=len) (h:E7 (E7 (frz 19 0 objs)) es=some L):fz 0 objs (.vec o g 0 len)=.im (.sl L):=by
 simp only[fz,DC.lt,iA ho hl h];simp
theorem pO {s:Nat} {m:zi} {c:Case} {objs:List DObj} (h1:objs[9+s]?=some (.vec 5 (bZ (uy s) m.2.1 c.p.n.reg.length c.p.n.reg) m.1.1.1 m.1.1.2)) (h2:objs[11+s]?=some (.vec 10 (n3 (c.p.n.notes.map j9)) m.1.2.1 m.1.2.2))
 (h3:objs[4*c.p.n.reg.length+(13+s)]?=some (.vec 4 (ci (uz c.p.n.reg.length s) m.2.2.2.1 c.p.holders.length c.p.holders) m.2.2.1.1.1 m.2.2.1.1.2)) (h4:objs[4*c.p.n.reg.length+(15+s)]?=some (.vec 7 (n3 (c.p.prints.map A6)) m.2.2.1.2.1 m.2.2.1.2.2))
 (h5:objs[4*c.p.n.reg.length+2*c.p.holders.length+(17+s)]?=some (.vec 3 (n3 (c.loop.links.map H2)) m.2.2.2.2.1.1 m.2.2.2.2.1.2)) (h6:objs[4*c.p.n.reg.length+2*c.p.holders.length+(19+s)]?=some (.vec 4 (n3 (c.pieces.map B1)) m.2.2.2.2.2.1 m.2.2.2.2.2.2))
 (hA:∀ (k:Nat) (x:Issue),c.p.n.reg[k]?=some x->objs[4*k+(13+s)]?=some (.vec 2 (n3 (x.items.map A2)) (m.2.1 k).1.1 (m.2.1 k).1.2)/\objs[4*k+(15+s)]?=some (.vec 3 (n3 (x.dims.map D5)) (m.2.1 k).2.1 (m.2.1 k).2.2))
 (hB:∀ (k:Nat) (x:Holder),c.p.holders[k]?=some x->objs[4*c.p.n.reg.length+2*k+(17+s)]?=some (.vec 1 (n3 (x.draws.map Ab.encI)) (m.2.2.2.1 k).1 (m.2.2.2.1 k).2)):(oC s m c).map (fz 0 objs)=(j4 c).map .im:=by
 have e1:E7 (E7 (frz 19 0 objs)) (bZ (uy s) m.2.1 c.p.n.reg.length c.p.n.reg)=some (c.p.n.reg.map e9):=by
  refine pz (by simp) λi r hr=>?_;simp only[bZ,List.getElem?_mapIdx,Option.map_eq_some_iff] at hr;obtain⟨x,hx,rfl⟩:=hr;rw[List.getElem?_map,hx];obtain⟨a1,a2⟩:=hA i x hx;have b1:=iA (k:=18) (len:=x.items.length) a1 (by simp[n3]) (T3 _ _ _ _);have b2:=iA (k:=18) (len:=x.dims.length) a2 (by simp[n3]) (T3 _ _ _ _);have hlt:=e7 hx;have f1:∀ c:IC,frz 19 0 objs (.im c)=some c:=λ_=>rfl;simp only[tW,if_pos hlt,E7,f1,uy,b1,b2,Option.map_some,e9]
 have e2:E7 (E7 (frz 19 0 objs)) (ci (uz c.p.n.reg.length s) m.2.2.2.1 c.p.holders.length c.p.holders)=some (c.p.holders.map p7):=by
  refine pz (by simp) λi r hr=>?_;simp only[ci,List.getElem?_mapIdx,Option.map_eq_some_iff] at hr;obtain⟨x,hx,rfl⟩:=hr;rw[List.getElem?_map,hx];have b1:=iA (k:=18) (len:=x.draws.length) (hB i x hx) (by simp[n3]) (T3 _ _ _ _);have hlt:=e7 hx;have f1:∀ c:IC,frz 19 0 objs (.im c)=some c:=λ_=>rfl;simp only[ua,if_pos hlt,E7,f1,uz,b1,Option.map_some,p7]
 simp only[oC,List.map_cons,List.map_nil,j4];rw[eU h1 (by simp) e1,eU h2 (by simp[n3]) (T3 _ _ _ _),eU h3 (by simp) e2,eU h4 (by simp[n3]) (T3 _ _ _ _),eU h5 (by simp[n3]) (T3 _ _ _ _),eU h6 (by simp[n3]) (T3 _ _ _ _)];rfl
end Go.Ab
namespace Go.Proofs
open Go Go.Ab Tryz
variable {G:LY}
attribute [simp] p5 cw N7 fm u6 A5 nilV J0 ZK
theorem pE (c:Case) (s:Susp) (w:Int) (h1:0<=s.kind/\s.kind<=255) (hG:p8 G) (hN:E5 G) (hS:v8 G) (hR:A0 G) (hC:K5 G) (hK:bE G) (hk:KC c):zP prog G 30 [n4 c,E9 s,wq w] (bv (decide (fW c s=0)&&decide (iq c s=w))):=by
 refine zf func30 ntmps30 ?_;try simp only[wq]
 have c1:=Co (G:=G) c s h1 hG hN hS hR hC hK hk;generalize iq c s=A at *;generalize fW c s=B at *;simp only[n4,j4,E9,j6,rI,List.map_cons,List.map_nil] at c1 ⊢;have hs:=trivial;repeat' first|(with_reducible first|refine zz ?_|refine zr ?_|refine zE [0,1,2,3,4,6,7,8] ?_)|simp -dsimp[hs]|refine zp c1 ?_|with_reducible refine j0 ?_ ?_<;>intro h<;>have h0:=h<;>(try simp only[i7] at h)<;>have h2:=h<;>(try simp at h2)<;>replace hs:=za h0 (za h (za h2 hs))
 all_goals simp
theorem EB (m:zi) (c:Case) (lo hi:Int):(oC 9 m c).map (fz 0 (sW 0 m c lo hi))=(j4 c).map .im:=by
 refine pO (s:=9) (m:=m) (c:=c) ?_ ?_ ?_ ?_ ?_ ?_ ?_ ?_
 ·simp[sW,qv]
 ·simp[sW,qv]
 ·simp[sW,qv]
 ·simp[sW,qv]
 ·simp[sW,qv]
 ·simp[sW,qv]
 ·intro k x hx;have hlt:=e7 hx;have a1:=iC hlt;have a3:=iB hlt;simp[sW,qv,a1,a3,fZ,hx]
 ·intro k x hx;have hlt:=e7 hx;have a1:=iD hlt;simp[sW,qv,a1,iz,hx]
theorem Cn (c:Case) (n lo hi:Int) (hG:p8 G) (hN:E5 G) (hS:v8 G) (hR:A0 G) (hk:KC c) (objs:List DObj):DCall prog G 27 [n4 c,iv n,E0 lo hi] objs (λd objs'=>d=.tup [n4 (FG c n lo hi),iv (nN c n lo hi)]/\objs'=objs):=by
 by_cases h:nN c n lo hi=0
 ·obtain⟨he,k,x,rfl,hx0,hin⟩:=DR h;rw[vH h hx0,h];refine DCall.frame ?_ (by simp) (by simp) objs;refine(sD (G:=G) c k x lo hi hx0 he hin hG hN hS hR hk).mono ?_;rintro d o ⟨m,_,rfl,rfl⟩;have:=EB m (bB c k x lo hi) lo hi;simp only[gf,fzVL,this];rfl
 ·rw[GL h];exact Cm (G:=G) c n lo hi h hG hN hS hR hk objs
theorem ym:eF boltP:=by
 refine⟨?_,?_⟩
 ·exact⟨by decide,by decide⟩
 ·intro x hx;simp only[boltP,List.mem_cons,List.not_mem_nil,or_false] at hx;rcases hx with rfl|rfl|rfl|rfl<;>exact⟨by decide,by decide⟩
theorem uH:S7 boltC=true:=by decide +kernel
theorem uI:v7 boltP.n=0:=by decide +kernel
theorem yl:nums boltP.n.reg=[1,2,3]:=by decide +kernel
theorem sA:PrintsOk boltP:=by
 refine⟨by decide,by decide,λi x hx=>?_,λi x hx=>?_⟩
 ·rw[yl];have h:=List.getElem?_eq_some_iff.1 hx;obtain⟨h1,h2⟩:=h;have h1':i<2:=h1;rcases i with _|_|i
  ·cases hx;refine⟨by unfold Kf;simp,λk d hd=>?_⟩;rcases k with _|_|k
   ·cases hd;exact⟨by decide,by simp⟩
   ·cases hd;exact⟨by decide,λ_ e he=>by cases he;decide⟩
   ·exact absurd hd (by simp)
  ·cases hx;refine⟨?_,λk d hd=>?_⟩
   ·refine⟨by decide,λ_ y hy=>?_,by decide,by decide,by decide,by decide⟩;cases hy;decide
   ·rcases k with _|k
    ·cases hd;exact⟨by decide,by simp⟩
    ·exact absurd hd (by simp)
  ·omega
 ·obtain⟨h1,h2⟩:=List.getElem?_eq_some_iff.1 hx;have h1':i<4:=h1;rcases i with _|_|_|_|i
  ·cases hx;exact⟨by simp,λc hc=>by rcases c with _|_|_|_|_|c<;>first|decide +kernel|omega⟩
  ·cases hx;exact⟨λ_ y hy=>by cases hy;decide,λc hc=>by rcases c with _|_|_|_|_|c<;>first|decide +kernel|omega⟩
  ·cases hx;exact⟨λ_ y hy=>by cases hy;decide,λc hc=>by rcases c with _|_|_|_|_|c<;>first|decide +kernel|omega⟩
  ·cases hx;exact⟨λ_ y hy=>by cases hy;decide,λc hc=>by rcases c with _|_|_|_|_|c<;>first|decide +kernel|omega⟩
  ·omega
theorem iY:u3 boltP=0:=by
 unfold u3;rw[if_neg (by rw[uI];decide),if_pos (dP sA)]
theorem W2:s9 boltC=0:=by
 unfold s9;rw[if_neg (by rw[show boltC.p=boltP from rfl,iY];decide),if_pos (by decide +kernel)]
theorem bolt_k:ql boltC/\KC boltC:=CO ym uH
theorem sw:ba boltC=(15,17):=by
 unfold ba;rw[if_pos W2];decide +kernel
theorem oP:aJ boltC=0:=by
 unfold aJ;rw[if_pos W2,sw];decide +kernel
theorem N9:F7 boltC=0:=by
 unfold F7;rw[if_neg (by rw[W2];decide),if_neg (by rw[oP];decide)]
theorem mG (d i w:Int) (hd:ye d 1=true) (h:(boltP.holders.any λy=>decide (y.id=i))=true/\w∈nums boltP.n.reg):U2 boltP d 1 i w=0:=by
 unfold U2 K9;rw[if_neg,if_pos h];rw[if_neg (by rw[iY];decide),if_pos hd];decide
theorem vN {l r:List Int} (hp:l.Perm r) (hs:r.Pairwise (·<=·)):l6 l=r:=
 List.Perm.eq_of_pairwise (λa b _ _ h1 h2=>by omega) (pJ l) hs (((List.mergeSort_perm l _)).trans hp)
theorem mF:I6 boltC 0=[1,2]:=by
 show O4 boltP 20 2 2=_;unfold O4;rw[if_pos (mG 20 2 2 (by decide) (by decide +kernel))];unfold bp;have e:l6 (az 20 2 2 boltP.prints++[bP 20 2 2 boltP.prints])=[1,2]:=vN (by decide +kernel) (by decide +kernel);rw[e];decide +kernel
theorem mE:I6 boltC 1=[1]:=by
 show O4 boltP 20 1 3=_;unfold O4;rw[if_pos (mG 20 1 3 (by decide) (by decide +kernel))];unfold bp;have e:l6 (az 20 1 3 boltP.prints++[bP 20 1 3 boltP.prints])=[1]:=vN (by decide +kernel) (by decide +kernel);rw[e];decide +kernel
theorem oO:l6 (l7 boltP.n.notes)=[]:=by decide +kernel
theorem EX:zb boltC []=false:=by decide +kernel
theorem EZ:gz boltC [] 0=[(true,false),(false,true)]:=by
 show (I6 boltC 0).foldl (H8 boltC ⟨2,0,false⟩ ⟨2,20,106,107⟩ (dq boltC [] 2)) []=_;rw[mF];decide +kernel
theorem EY:gz boltC [] 1=[(false,false)]:=by
 show (I6 boltC 1).foldl (H8 boltC ⟨3,0,true⟩ ⟨1,20,90,91⟩ (dq boltC [] 3)) []=_;rw[mE];decide +kernel
def iZ:Desk:=⟨boltC,false,[[(true,false),(false,true)],[(false,false)]]⟩
theorem oQ:C7 boltC []=iZ:=by
 unfold C7 iZ;rw[EX,show (List.range boltC.pieces.length).map (gz boltC [])=[gz boltC [] 0,gz boltC [] 1] from rfl,EZ,EY]
theorem aU:n8 boltC=[iZ]:=by
 unfold n8;rw[show boltC.p=boltP from rfl,oO,show pc ([]:List Int)=[[]] by decide +kernel];simp[oQ]
theorem bolt_sus:aq boltC 2=[]/\aq boltC 1=[⟨2,0⟩,⟨3,0⟩]:=by
 unfold aq FU Eh;rw[if_pos N9,if_pos N9,aU];decide +kernel
theorem Cd:qj boltC=[⟨2,0⟩,⟨3,0⟩]:=by
 unfold qj Ct;rw[if_pos N9,aU];decide +kernel
theorem Cb:pS boltC=[⟨2,0⟩]:=by
 unfold pS;rw[if_pos N9,aU];decide +kernel
theorem Cc:fp boltC=(1,1):=by
 unfold fp;rw[if_pos N9,aU];decide +kernel
theorem ew (k:Nat) (h:k<2):V8 boltC k=0/\ij boltC k=I6 boltC k:=by
 have e:V8 boltC k=0:=by
  unfold V8;rw[if_neg (by rw[W2];decide),if_pos ⟨by omega,by show (k:Int)<((2:Nat):Int);omega⟩]
 exact⟨e,by unfold ij;rw[if_pos e];rfl⟩
theorem bolt_clr:nu boltC 1=0/\qf boltC 1=(90,91):=by
 have e0:=(ew 1 (by decide)).1;have e:gp boltC 1=(90,91):=by
  show (ij boltC ((1:Nat):Int)).foldl (G1 boltC ⟨3,0,true⟩) (90,91)=_;rw[(ew 1 (by decide)).2,mE];decide +kernel
 have e1:nu boltC 1=0:=by
  unfold nu;rw[if_neg (by rw[show (1:Int)=((1:Nat):Int) from rfl,e0];decide),e];decide
 exact⟨e1,by unfold qf;rw[if_pos e1,e]⟩
theorem W1 (s:Susp) (h:qt 2 s=true):fW boltC s=0/\iq boltC s=B4 [iZ] s:=by
 have e:fW boltC s=0:=by
  unfold fW;rw[if_neg (by rw[N9];decide),if_pos (show qt boltC.pieces.length s=true from h)]
 exact⟨e,by unfold iq;rw[if_pos e,aU]⟩
theorem sB (s:Susp) (h:qt 2 s=true):lU boltC [] s=0/\jz boltC [] s=B4 [iZ] s:=by
 have e:lU boltC [] s=0:=by
  unfold lU;rw[if_neg (by rw[N9];decide),if_neg (by rw[show boltC.p=boltP from rfl,oO];decide),if_pos (show qt boltC.pieces.length s=true from h)]
 exact⟨e,by unfold jz;rw[if_pos e,oQ]⟩
def FN:Case:={ boltC with pieces:=[⟨2,20,107,107⟩,⟨1,20,90,91⟩] }
theorem bolt_ms:nN boltC 0 107 107=0/\FG boltC 0 107 107=FN:=by
 have e0:=(ew 0 (by decide)).1;have e1:nN boltC 0 107 107=0:=by
  unfold nN;rw[if_neg (by rw[show (0:Int)=((0:Nat):Int) from rfl,e0];decide)];rfl
 exact⟨e1,by unfold FG;rw[if_pos e1];rfl⟩
@[simp] abbrev Ya:List Nat:=[0,1,2,3,4,5,6,7,8,9,10,11,12,13,14,15,16,17,18,19,20,21,22,148]
set_option maxRecDepth 10000 in
theorem Fe (hG:p8 G) (hN:E5 G) (hS:v8 G) (hU:U4 G) (hR:A0 G) (hC:K5 G) (hK:bE G) (hF:jD G):zP prog G 8 [] (bv true):=by
 refine zf func8 ntmps8 ?_;try simp only[iv]
 have hk:=bolt_k.2;have c0:=HF (G:=G);have c1:=Cl (G:=G) boltC hG hN hS hR hk;have c2:=wd (G:=G) boltC hG hN hS hR hk;have c3:=mK (G:=G) boltC 0 hG hN hS hR hk;have c4:=eD (G:=G) boltC hG hN hS hU hR hC hK hk;have c5:=Cq (G:=G) boltC hG hN hS hU hR hC hF hk;have c6:=yo (G:=G) boltC hG hN hS hU hR hC hF hk;have c7:=mL (G:=G) boltC hG hN hS hU hR hC hF hk;have c8:=Cp (G:=G) boltC 1 hG hN hS hR hk;have c9:=Cn (G:=G) boltC 0 107 107 hG hN hS hR hk;have c10:=HI (G:=G) boltC [] ⟨2,0⟩ (by decide) (by decide) hG hN hS hR hC hK hk;rw[sw,W2] at c1;rw[oP,W2] at c2;rw[show (0:Int)=((0:Nat):Int) from rfl,(ew 0 (by decide)).1,(ew 0 (by decide)).2,mF] at c3;rw[bolt_sus.1,bolt_sus.2,N9] at c4;rw[Cd,N9] at c5;rw[Cb,N9] at c6;rw[Cc,N9] at c7;rw[bolt_clr.1,bolt_clr.2] at c8;rw[bolt_ms.1,bolt_ms.2] at c9;rw[(sB ⟨2,0⟩ (by decide)).1,(sB ⟨2,0⟩ (by decide)).2,show B4 [iZ] ⟨2,0⟩=1 by decide] at c10;have d1:=pE (G:=G) boltC ⟨1,0⟩ 0 (by decide) hG hN hS hR hC hK hk;have d2:=pE (G:=G) boltC ⟨3,0⟩ 1 (by decide) hG hN hS hR hC hK hk;have d3:=pE (G:=G) boltC ⟨2,1⟩ 0 (by decide) hG hN hS hR hC hK hk;rw[(W1 ⟨1,0⟩ (by decide)).1,(W1 ⟨1,0⟩ (by decide)).2,show B4 [iZ] ⟨1,0⟩=0 by decide] at d1;rw[(W1 ⟨3,0⟩ (by decide)).1,(W1 ⟨3,0⟩ (by decide)).2,show B4 [iZ] ⟨3,0⟩=1 by decide] at d2;rw[(W1 ⟨2,1⟩ (by decide)).1,(W1 ⟨2,1⟩ (by decide)).2,show B4 [iZ] ⟨2,1⟩=0 by decide] at d3;simp only[decide_true,Bool.and_self] at d1 d2 d3;have s0:=FT (G:=G);have s1:=zC (G:=G) 0;have s2:=zC (G:=G) 1;have s3:=FV (G:=G) 0;have p1:=dG (G:=G) 15 17;have p2:=dG (G:=G) 90 91;have p3:=dG (G:=G) 107 107;have p4:=dG (G:=G) 1 1;have q1:=lE (G:=G) [1,2] [1,2] (by simp);simp only[decide_true] at q1;have q2:=nH (G:=G) [⟨2,0⟩,⟨3,0⟩] (by simp);have q3:=nH (G:=G) [⟨2,0⟩] (by simp);simp only[n4,E9,j6,C5,E0,wq,v6,Ab.encI,rI,List.map_cons,List.map_nil,Int.natCast_zero] at *;obtain⟨m1,m2,m3,m4,m5,m6,m7,m8,m9,hM⟩:∃ m1 m2 m3 m4 m5 m6 m7 m8 m9,(j4 FN).map DC.im=[.im m1,.im m2,.im m3,.im m4,.im m5,.im m6,.im m7,.im m8,.im m9,.im (.sl ([⟨2,20,107,107⟩,⟨1,20,90,91⟩].map B1))]:=⟨_,_,_,_,_,_,_,_,_,rfl⟩
 rw[hM] at c9;obtain⟨X,hX⟩:∃ X,j4 boltC=X:=⟨_,rfl⟩
 have hXf:∃ a b c d e f g h i j,X=[a,b,c,d,e,f,g,h,i,j]:=⟨_,_,_,_,_,_,_,_,_,_,hX.symm⟩
 obtain⟨x1,x2,x3,x4,x5,x6,x7,x8,x9,x10,rfl⟩:=hXf;rw[hX] at c0 c1 c2 c3 c4 c5 c6 c7 c8 c9 c10 d1 d2 d3;simp only[B1,rI,List.map_cons,List.map_nil] at *;repeat' first|(with_reducible first|refine zz ?_|refine zx ?_)|simp -dsimp|refine zp c0 ?_|refine zp c1 ?_|refine zp c2 ?_|refine zp c3 ?_|refine zp c4 ?_|refine zp c5 ?_|refine zp c6 ?_|refine zp c7 ?_|refine zp c8 ?_|refine zp c9 ?_|refine zp c10 ?_|refine zp s1 ?_|refine zp s3 ?_|refine zp p3 ?_|refine zq q1 ?_|refine zq d1 ?_|refine zq d2 ?_|refine zq d3 ?_|refine zq p1 ?_|refine zq p2 ?_|refine zq p3 ?_|refine zq p4 ?_|refine zq s0 ?_|refine zq s2 ?_|refine zq s3 ?_|refine zq c0 ?_|refine QCall.thaw (q2) ?_ ?_ ?_;(focus simp;done);(focus simp;done)|refine QCall.thaw (q3) ?_ ?_ ?_;(focus simp;done);(focus simp;done)|refine zM 12 198 70 Ya ?_|refine zM 14 198 50 Ya ?_|with_reducible refine zE Ya ?_|refine i8 ?_ ?_<;>intro h<;>try exact h.elim
end Go.Proofs
namespace Go.Proofs
open Go Go.Ab
def bN (b:Bool):Nat:=if b=true then 1 else 0
def cr (f:E3):Nat:=bN f.1+bN f.2
theorem oR {L:List E3} {f:E3} (h:f∈L):cr (R6 L)<=cr f:=by
 have h1:=jO L f h;generalize R6 L=g at *;obtain⟨a,b⟩:=f;obtain⟨x,y⟩:=g;revert h1;cases a<;>cases b<;>cases x<;>cases y<;>decide
theorem wZ {L:List E3} {f:E3} (h:f∈L):(cr f:Int)<=aC L:=by
 unfold aC;obtain⟨a,b⟩:=f;cases a<;>cases b
 ·have:=dS L;unfold aC at this;exact this.1
 ·split
  ·decide
  ·rw[if_pos (.inr h)];decide
 ·split
  ·decide
  ·rw[if_pos (.inl h)];decide
 ·rw[if_pos h];decide
theorem AL {L:List E3} (h:L≠[]):∃ f∈L,(cr f:Int)=aC L:=by
 unfold aC;split
 ·exact⟨_,‹_›,rfl⟩
 ·split
  ·rename_i h2;rcases h2 with h2|h2<;>exact⟨_,h2,rfl⟩
  ·rename_i h1 h2;obtain⟨⟨a,b⟩,r,rfl⟩:∃ f r,L=f :: r:=by
    cases L with
    | nil=>exact absurd rfl h
    | cons f r=>exact⟨f,r,rfl⟩
   cases a<;>cases b
   ·exact⟨_,List.mem_cons_self,rfl⟩
   ·exact absurd (.inr List.mem_cons_self) h2
   ·exact absurd (.inl List.mem_cons_self) h2
   ·exact absurd List.mem_cons_self h1
def V1 (f:Nat->E3):Nat->Nat
 | 0=>0
 | n+1=>V1 f n+cr (f n)
def bb (b:Bool) (f:Nat->E3) (n:Nat):List Susp:=ig b (λi=>(f i).1) (λi=>(f i).2) n
theorem vI (b:Bool) (f:Nat->E3):∀ n,(X7 b (λi=>(f i).1) (λi=>(f i).2) n).length=bN b+V1 f n
 | 0=>by unfold X7 bN;cases b<;>rfl
 | n+1=>by
   rw[eS,List.length_append,vI b f n,List.length_append,iy,iy];show _=bN b+(V1 f n+(bN _+bN _));unfold bN;omega
theorem bS (b:Bool) (f:Nat->E3) (n:Nat):(bb b f n).length=bN b+V1 f n:=by
 rw[bb,(N0 _ _ _ _).length_eq,vI]
theorem gl {f g:Nat->E3}:∀ {n},(∀ i,i<n->cr (f i)<=cr (g i))->V1 f n<=V1 g n
 | 0,_=>Nat.le_refl _
 | n+1,h=>Nat.add_le_add (gl λi hi=>h i (Nat.lt_succ_of_lt hi)) (h n (Nat.lt_succ_self n))
theorem rZ {f g:Nat->E3}:∀ {n},(∀ i,i<n->cr (f i)<=cr (g i))->V1 f n=V1 g n->∀ i,i<n->cr (f i)=cr (g i)
 | n+1,h,he,i,hi=>by
   have h1:=gl (n:=n) λi hi=>h i (Nat.lt_succ_of_lt hi);have h2:=h n (Nat.lt_succ_self n);simp only[V1] at he;rcases Nat.lt_succ_iff_lt_or_eq.1 hi with h3|rfl
   ·exact rZ (λi hi=>h i (Nat.lt_succ_of_lt hi)) (by omega) i h3
   ·omega
def zg (d:Desk) (f:Nat->E3):Prop:=∀ i,i<d.faults.length->f i∈d.faults.getD i []
theorem qF {F:List (List E3)} {f:Nat->E3} (h:∀ i,i<F.length->f i∈F.getD i []):∀ k,k<=F.length->(V1 f k:Int)<=bw F k
 | 0,_=>by simp[V1,bw]
 | k+1,hk=>by
   have h1:=qF h k (by omega);have h2:=wZ (h k (by omega));rw[eK (by omega)];have h3:F.getD k []=F[k]:=by simp[List.getD,List.getElem?_eq_getElem (show k<F.length by omega)]
   rw[h3] at h2;simp only[V1];omega
theorem zN {d:Desk} {f:Nat->E3} (h:zg d f):((bb d.notes f d.faults.length).length:Int)<=X6 d:=by
 rw[bS];have h1:=qF h d.faults.length (Nat.le_refl _);unfold bw at h1;rw[List.take_length] at h1;unfold X6;have h2:((bN d.notes:Nat):Int)=if d.notes=true then 1 else 0:=by unfold bN;split<;>rfl
 omega
theorem vt {F:List (List E3)} (hne:∀ x∈F,x≠[]):∀ k,k<=F.length->∃ f:Nat->E3,(∀ i,i<k->f i∈F.getD i [])/\(V1 f k:Int)=bw F k
 | 0,_=>⟨λ_=>(false,false),by simp,by simp[V1,bw]⟩
 | k+1,hk=>by
   obtain⟨f,h1,h2⟩:=vt hne k (by omega);have h3:F.getD k []=F[k]:=by simp[List.getD,List.getElem?_eq_getElem (show k<F.length by omega)]
   obtain⟨g,hg,hc⟩:=AL (hne F[k] (List.getElem_mem _));refine⟨λi=>if i=k then g else f i,λi hi=>?_,?_⟩
   ·by_cases e:i=k
    ·subst e;simp only[if_true];rw[h3];exact hg
    ·simpa[e] using h1 i (by omega)
   ·rw[eK (by omega)];have h4:∀ m,m<=k->V1 (λi=>if i=k then g else f i) m=V1 f m:=by
     intro m;induction m with
     | zero=>intro _;rfl
     | succ m ih=>intro hm;simp only[V1];rw[ih (by omega),if_neg (by omega)]
    simp only[V1];rw[h4 k (Nat.le_refl _)];simp only[if_true];omega
theorem AK {d:Desk} (hne:∀ x∈d.faults,x≠[]):∃ f,zg d f/\((bb d.notes f d.faults.length).length:Int)=X6 d:=by
 obtain⟨f,h1,h2⟩:=vt hne d.faults.length (Nat.le_refl _);refine⟨f,h1,?_⟩;rw[bS];unfold bw at h2;rw[List.take_length] at h2;unfold X6;have h2:((bN d.notes:Nat):Int)=if d.notes=true then 1 else 0:=by unfold bN;split<;>rfl
 omega
def ja (d:Desk) (i:Nat):E3:=R6 (d.faults.getD i [])
theorem ml (d:Desk):L0 d=bb d.notes (ja d) d.faults.length:=rfl
theorem Bs {d:Desk} {i:Nat} (h:i<d.faults.length):d.faults.getD i []∈d.faults:=by
 have:d.faults.getD i []=d.faults[i]:=by simp[List.getD,List.getElem?_eq_getElem h]
 rw[this];exact List.getElem_mem _
theorem sC {d:Desk} (hne:∀ x∈d.faults,x≠[]):zg d (ja d):=λi hi=>oS (hne _ (Bs hi))
theorem xN {d:Desk} {f:Nat->E3} (h:zg d f):(L0 d).length<=(bb d.notes f d.faults.length).length:=by
 rw[ml,bS,bS];have:=gl (f:=ja d) (g:=f) (n:=d.faults.length) λi hi=>oR (h i hi);omega
theorem selS_mem {b:Bool} {f:Nat->E3} {n:Nat} {s:Susp}:s∈bb b f n↔(b=true/\s=⟨1,0⟩)\/(∃ i,i<n/\(f i).1=true/\s=je i)\/(∃ i,i<n/\(f i).2=true/\s=dt i):=listS_mem
theorem lD (b:Bool) (f:Nat->E3) (n:Nat):(bb b f n).Pairwise U0:=Z9 _ _ _ _
theorem Dl {d:Desk} {f:Nat->E3} (h:zg d f) {s:Susp} (hs:s∈W3 d.faults.length):bC d s (decide (s∈bb d.notes f d.faults.length))=true:=by
 unfold bC;rcases listS_mem.1 hs with⟨_,rfl⟩|⟨i,hi,_,rfl⟩|⟨i,hi,_,rfl⟩
 ·rw[if_pos rfl];have:((⟨1,0⟩:Susp)∈bb d.notes f d.faults.length)↔d.notes=true:=by
   rw[selS_mem];constructor
   ·rintro (⟨h,_⟩|⟨i,_,_,h⟩|⟨i,_,_,h⟩)
    ·exact h
    ·cases h
    ·cases h
   ·exact λh=>.inl ⟨h,rfl⟩
  cases hd:d.notes
  ·rw[hd] at this;simp[this]
  ·rw[hd] at this;simp[this]
 ·rw[if_neg (by simp[je]),if_pos (show (je i).kind=2 from rfl),show (je i).index.toNat=i from rfl];have:(je i∈bb d.notes f d.faults.length)↔(f i).1=true:=by
   rw[selS_mem];constructor
   ·rintro (⟨_,h⟩|⟨j,_,h1,h⟩|⟨j,_,_,h⟩)
    ·cases h
    ·have:i=j:=by simp only[je,Susp.mk.injEq,true_and] at h;omega
     subst this;exact h1
    ·cases h
   ·exact λh=>.inr (.inl ⟨i,hi,h,rfl⟩)
  rw[List.any_eq_true];refine⟨f i,h i hi,?_⟩;cases hd:(f i).1<;>simp[this,hd]
 ·rw[if_neg (by simp[dt]),if_neg (by simp[dt]),show (dt i).index.toNat=i from rfl];have:(dt i∈bb d.notes f d.faults.length)↔(f i).2=true:=by
   rw[selS_mem];constructor
   ·rintro (⟨_,h⟩|⟨j,_,h1,h⟩|⟨j,_,h1,h⟩)
    ·cases h
    ·cases h
    ·have:i=j:=by simp only[dt,Susp.mk.injEq,true_and] at h;omega
     subst this;exact h1
   ·exact λh=>.inr (.inr ⟨i,hi,h,rfl⟩)
  rw[List.any_eq_true];refine⟨f i,h i hi,?_⟩;cases hd:(f i).2<;>simp[this,hd]
theorem rA {D:List Desk} {s:Susp} (h:B4 D s=0):∀ d∈D,bC d s true=false:=by
 intro d hd;unfold B4 at h;split at h
 ·rename_i h1;rw[List.any_eq_false] at h1;simpa using h1 d hd
 ·split at h<;>exact absurd h (by decide)
theorem xm {D:List Desk} {s:Susp} (h:B4 D s=2):∀ d∈D,bC d s false=false:=by
 intro d hd;unfold B4 at h;split at h
 ·exact absurd h (by decide)
 ·split at h
  ·rename_i h1;rw[List.any_eq_false] at h1;simpa using h1 d hd
  ·exact absurd h (by decide)
theorem xn {D:List Desk} {s:Susp} {d:Desk} (hd:d∈D) (h:bC d s true=true):B4 D s≠0:=λe=>by
 have:=rA e d hd;rw[h] at this;exact absurd this (by decide)
theorem rz (D:List Desk) (s:Susp):B4 D s=0\/B4 D s=1\/B4 D s=2:=by
 unfold B4;split<;>(try split)<;>simp
theorem nL (a b:Susp):M8 a b=-(M8 b a):=by
 unfold M8 V4 V4 V4;repeat' split
 all_goals omega
theorem DG {a b c:Susp} (h1:M8 a b<=0) (h2:M8 b c<=0):M8 a c<=0/\(M8 a c=0->M8 a b=0/\M8 b c=0):=by
 unfold M8 V4 V4 V4 at *;repeat' split at h1
 all_goals repeat' split at h2
 all_goals repeat' split
 all_goals omega
theorem mB:∀ a b:List Susp,I8 a b=-(I8 b a)
 | [],[]=>rfl
 | [],_ :: _=>rfl
 | _ :: _,[]=>rfl
 | a :: x,b :: y=>by
   have h1:=nL a b;simp only[I8];by_cases h:M8 a b=0
   ·have h':M8 b a=0:=by omega
    rw[if_neg (by simp[h]),if_neg (by simp[h'])];exact mB x y
   ·have h':¬ M8 b a=0:=by omega
    rw[if_pos h,if_pos h'];exact h1
theorem se:∀ {a b c:List Susp},I8 a b<=0->I8 b c<=0->I8 a c<=0
 | [],_,[],_,_=>by simp[I8]
 | [],_,_ :: _,_,_=>by simp[I8]
 | _ :: _,[],_,h,_=>by simp[I8] at h
 | _ :: _,_ :: _,[],_,h=>by simp[I8] at h
 | a :: x,b :: y,d :: z,h1,h2=>by
   simp only[I8] at h1 h2 ⊢;have hp:=@DG a b d;by_cases e1:M8 a b=0
   ·rw[if_neg (by simp[e1])] at h1;by_cases e2:M8 b d=0
    ·rw[if_neg (by simp[e2])] at h2;obtain⟨p1,p2⟩:=hp (by omega) (by omega);have e3:M8 a d=0:=by rw[nK] at *;rw[e1,e2]
     rw[if_neg (by simp[e3])];exact se h1 h2
    ·rw[if_pos e2] at h2;obtain⟨p1,p2⟩:=hp (by omega) h2;have:M8 a d≠0:=λe=>e2 (p2 e).2;rw[if_pos this];exact p1
   ·rw[if_pos e1] at h1;have h2':M8 b d<=0:=by
     by_cases e2:M8 b d=0
     ·omega
     ·rwa [if_pos e2] at h2
    obtain⟨p1,p2⟩:=hp h1 h2';have:M8 a d≠0:=λe=>e1 (p2 e).1;rw[if_pos this];exact p1
theorem oE (a b:List Susp):bJ a b=-(bJ b a):=by
 have:=mB a b;unfold bJ V4 V4 V4;repeat' split
 all_goals omega
theorem bk {a b:List Susp}:bJ a b<=0↔a.length<b.length\/(a.length=b.length/\I8 a b<=0):=by
 unfold bJ V4 V4 V4;repeat' split
 all_goals omega
theorem qe {a b c:List Susp} (h1:bJ a b<=0) (h2:bJ b c<=0):bJ a c<=0:=by
 rw[bk] at *;rcases h1 with h1|⟨h1,g1⟩<;>rcases h2 with h2|⟨h2,g2⟩
 ·exact .inl (by omega)
 ·exact .inl (by omega)
 ·exact .inl (by omega)
 ·exact .inr ⟨by omega,se g1 g2⟩
theorem jM (a:List Susp):bJ a a<=0:=by have:=oE a a;omega
theorem ri:∀ (r:List (List Susp)) (x:List Susp),(r.foldl Q3 x=x\/r.foldl Q3 x∈r)/\bJ (r.foldl Q3 x) x<=0/\∀ y∈r,bJ (r.foldl Q3 x) y<=0
 | [],x=>⟨.inl rfl,jM x,by simp⟩
 | z :: r,x=>by
   rw[List.foldl_cons];obtain⟨h1,h2,h3⟩:=ri r (Q3 x z);have ha:=oE z x;have hs:(Q3 x z=x\/Q3 x z=z)/\bJ (Q3 x z) x<=0/\bJ (Q3 x z) z<=0:=by
    unfold Q3;split
    ·exact⟨.inr rfl,by omega,jM z⟩
    ·exact⟨.inl rfl,jM x,by omega⟩
   refine⟨?_,qe h2 hs.2.1,λy hy=>?_⟩
   ·rcases h1 with h1|h1
    ·rcases hs.1 with e|e
     ·exact .inl (h1.trans e)
     ·exact .inr (by rw[h1,e];exact List.mem_cons_self)
    ·exact .inr (List.mem_cons_of_mem _ h1)
   ·rcases List.mem_cons.1 hy with rfl|hy
    ·exact qe h2 hs.2.2
    ·exact h3 y hy
theorem jx {L:List (List Susp)} (h:L≠[]):kw L∈L/\∀ y∈L,bJ (kw L) y<=0:=by
 cases L with
 | nil=>exact absurd rfl h
 | cons x r =>
   obtain⟨h1,h2,h3⟩:=ri r x;refine⟨?_,λy hy=>?_⟩
   ·rcases h1 with h1|h1
    ·show r.foldl Q3 x∈_;rw[h1];exact List.mem_cons_self
    ·exact List.mem_cons_of_mem _ h1
   ·rcases List.mem_cons.1 hy with rfl|hy
    ·exact h2
    ·exact h3 y hy
theorem nQ:∀ (r:List Int) (x:Int),(r.foldl min x=x\/r.foldl min x∈r)/\r.foldl min x<=x/\∀ y∈r,r.foldl min x<=y
 | [],x=>by simp
 | z :: r,x=>by
   rw[List.foldl_cons];obtain⟨h1,h2,h3⟩:=nQ r (min x z);refine⟨?_,by omega,λy hy=>?_⟩
   ·rcases h1 with h1|h1
    ·rw[h1];rcases Int.le_total x z with e|e
     ·exact .inl (Int.min_eq_left e)
     ·exact .inr (by rw[Int.min_eq_right e];exact List.mem_cons_self)
    ·exact .inr (List.mem_cons_of_mem _ h1)
   ·rcases List.mem_cons.1 hy with rfl|hy
    ·omega
    ·exact h3 y hy
theorem nT:∀ (r:List Int) (x:Int),(r.foldl max x=x\/r.foldl max x∈r)/\x<=r.foldl max x/\∀ y∈r,y<=r.foldl max x
 | [],x=>by simp
 | z :: r,x=>by
   rw[List.foldl_cons];obtain⟨h1,h2,h3⟩:=nT r (max x z);refine⟨?_,by omega,λy hy=>?_⟩
   ·rcases h1 with h1|h1
    ·rw[h1];rcases Int.le_total x z with e|e
     ·exact .inr (by rw[Int.max_eq_right e];exact List.mem_cons_self)
     ·exact .inl (Int.max_eq_left e)
    ·exact .inr (List.mem_cons_of_mem _ h1)
   ·rcases List.mem_cons.1 hy with rfl|hy
    ·omega
    ·exact h3 y hy
theorem xe {L:List Int} (h:L≠[]):pw L∈L/\∀ y∈L,pw L<=y:=by
 cases L with
 | nil=>exact absurd rfl h
 | cons x r =>
   obtain⟨h1,h2,h3⟩:=nQ r x;refine⟨?_,λy hy=>?_⟩
   ·rcases h1 with h1|h1
    ·show r.foldl min x∈_;rw[h1];exact List.mem_cons_self
    ·exact List.mem_cons_of_mem _ h1
   ·rcases List.mem_cons.1 hy with rfl|hy
    ·exact h2
    ·exact h3 y hy
theorem nU {L:List Int} (h:L≠[]):py L∈L/\∀ y∈L,y<=py L:=by
 cases L with
 | nil=>exact absurd rfl h
 | cons x r =>
   obtain⟨h1,h2,h3⟩:=nT r x;refine⟨?_,λy hy=>?_⟩
   ·rcases h1 with h1|h1
    ·show r.foldl max x∈_;rw[h1];exact List.mem_cons_self
    ·exact List.mem_cons_of_mem _ h1
   ·rcases List.mem_cons.1 hy with rfl|hy
    ·exact h2
    ·exact h3 y hy
theorem nY:∀ {A B:List Susp},A.Pairwise U0->B.Pairwise U0->A.length=B.length->(∀ x∈B,x∉A->∃ y∈A,y∉B/\U0 y x)->I8 A B<=0
 | [],[],_,_,_,_=>by simp[I8]
 | [],_ :: _,_,_,h,_=>by simp at h
 | _ :: _,[],_,_,h,_=>by simp at h
 | a :: A,b :: B,hA,hB,hl,h=>by
   rw[List.pairwise_cons] at hA hB;simp only[I8];by_cases e:M8 a b=0
   ·rw[if_neg (by simp[e])];rw[nK] at e;subst e;refine nY hA.2 hB.2 (by simpa using hl) λx hx hn=>?_;have hax:=hB.1 x hx;have hne:x≠a:=λe=>by subst e;unfold U0 at hax;omega
    obtain⟨y,h1,h2,h3⟩:=h x (List.mem_cons_of_mem _ hx) (by simp[hne,hn]);rcases List.mem_cons.1 h1 with rfl|h1
    ·simp at h2
    ·exact⟨y,h1,λh=>h2 (List.mem_cons_of_mem _ h),h3⟩
   ·rw[if_pos e];apply Int.not_lt.1
    intro hgt;have hba:U0 b a:=(eP b a).1 (by have:=nL a b;omega);have hbn:b∉a :: A:=by
     intro hm;rcases List.mem_cons.1 hm with rfl|hm
     ·unfold U0 at hba;omega
     ·have:=hA.1 b hm;unfold U0 at *;omega
    obtain⟨y,h1,_,h3⟩:=h b List.mem_cons_self hbn;rcases List.mem_cons.1 h1 with rfl|h1
    ·unfold U0 at *;omega
    ·have:=hA.1 y h1;unfold U0 at *;omega
theorem mI {L:List E3} {f:E3} (h:f∈L) (hc:cr f=cr (R6 L)):f=R6 L\/(f=(false,true)/\R6 L=(true,false)):=by
 have h1:=jO L f h;generalize R6 L=g at *;obtain⟨a,b⟩:=f;obtain⟨x,y⟩:=g;revert h1 hc;cases a<;>cases b<;>cases x<;>cases y<;>decide
theorem xO {d:Desk} {f:Nat->E3} (h:zg d f):bJ (L0 d) (bb d.notes f d.faults.length)<=0:=by
 have hl:=xN h;rw[bk];rcases Nat.lt_or_eq_of_le hl with hl|hl
 ·exact .inl hl
 ·refine .inr ⟨hl,?_⟩;rw[ml] at hl ⊢;have hl2:=hl;rw[bS,bS] at hl2;have hc:=rZ (f:=ja d) (g:=f) (n:=d.faults.length) (λi hi=>oR (h i hi)) (by omega);refine nY (lD _ _ _) (lD _ _ _) hl λx hx hn=>?_;rcases selS_mem.1 hx with⟨hd,rfl⟩|⟨i,hi,hf,rfl⟩|⟨i,hi,hf,rfl⟩
  ·exact absurd (selS_mem.2 (.inl ⟨hd,rfl⟩)) hn
  ·rcases mI (h i hi) (hc i hi).symm with e|⟨e,_⟩
   ·exact absurd (selS_mem.2 (.inr (.inl ⟨i,hi,by rw[show ja d i=f i from e.symm];exact hf,rfl⟩))) hn
   ·rw[e] at hf;exact absurd hf (by decide)
  ·rcases mI (h i hi) (hc i hi).symm with e|⟨e,e2⟩
   ·exact absurd (selS_mem.2 (.inr (.inr ⟨i,hi,by rw[show ja d i=f i from e.symm];exact hf,rfl⟩))) hn
   ·refine⟨je i,selS_mem.2 (.inr (.inl ⟨i,hi,by rw[show ja d i=(true,false) from e2],rfl⟩)),λhm=>?_,.inl (by simp[je,dt])⟩;rcases selS_mem.1 hm with⟨_,h⟩|⟨j,_,h1,h⟩|⟨j,_,_,h⟩
    ·cases h
    ·have:i=j:=by simp only[je,Susp.mk.injEq,true_and] at h;omega
     subst this;rw[e] at h1;exact absurd h1 (by decide)
    ·cases h
structure DkG (n:Nat) (D:List Desk):Prop where
 ne:D≠[]
 len:∀ d∈D,d.faults.length=n
 f:∀ d∈D,∀ x∈d.faults,x≠[]
 cause:∀ d∈D,∀ g,zg d g->bb d.notes g n≠[]
def pf (n:Nat) (D:List Desk) (k:Int):List Susp:=(W3 n).filter λs=>decide (B4 D s=k)
def KQ (n:Nat) (D:List Desk):List Susp:=(W3 n).filter λs=>D.any λd=>aW d s
def BD (D:List Desk):List Susp:=kw (D.map L0)
def HW (D:List Desk):Int:=pw (D.map λd=>((L0 d).length:Int))
def Ha (D:List Desk):Int:=py (D.map X6)
variable {n:Nat} {D:List Desk}
theorem pR (h:DkG n D):∃ d∈D,BD D=L0 d:=by
 have h1:=(jx (L:=D.map L0) (by simpa using h.ne)).1;obtain⟨d,hd,e⟩:=List.mem_map.1 h1;exact⟨d,hd,e.symm⟩
theorem Hq (h:DkG n D) {d:Desk} (hd:d∈D) {g:Nat->E3} (hg:zg d g):bJ (BD D) (bb d.notes g n)<=0:=by
 have h1:=(jx (L:=D.map L0) (by simpa using h.ne)).2 _ (List.mem_map_of_mem hd);have h2:=xO hg;rw[h.len d hd] at h2;exact qe h1 h2
theorem vT (h:DkG n D):((BD D).length:Int)=HW D:=by
 obtain⟨h1,h2⟩:=xe (L:=D.map λd=>((L0 d).length:Int)) (by simpa using h.ne);obtain⟨d,hd,e⟩:=pR h;have h3:=h2 _ (List.mem_map_of_mem hd);obtain⟨d',hd',e'⟩:=List.mem_map.1 h1;have h4:=(jx (L:=D.map L0) (by simpa using h.ne)).2 _ (List.mem_map_of_mem hd');rw[bk] at h4;unfold HW;rw[<- e'] at h3 ⊢;have e2:BD D=kw (D.map L0):=rfl;rw[<- e2] at h4;rw[e] at h4 ⊢;omega
theorem zO (h:DkG n D) {d:Desk} (hd:d∈D) {g:Nat->E3} (hg:zg d g):HW D<=(bb d.notes g n).length/\((bb d.notes g n).length:Int)<=Ha D:=by
 have h1:=vT h;have h2:=Hq h hd hg;rw[bk] at h2;have h3:=zN hg;rw[h.len d hd] at h3;have h4:=(nU (L:=D.map X6) (by simpa using h.ne)).2 _ (List.mem_map_of_mem hd);unfold Ha;omega
theorem GZ (h:DkG n D):∃ d∈D,∃ g,zg d g/\((bb d.notes g n).length:Int)=Ha D:=by
 obtain⟨d,hd,e⟩:=List.mem_map.1 (nU (L:=D.map X6) (by simpa using h.ne)).1;obtain⟨g,h1,h2⟩:=AK (h.f d hd);rw[h.len d hd] at h2;exact⟨d,hd,g,h1,by unfold Ha;rw[<- e,h2]⟩
theorem sus_mem {s:Susp} {k:Int}:s∈pf n D k↔s∈W3 n/\B4 D s=k:=by
 unfold pf;rw[List.mem_filter,decide_eq_true_eq]
end Go.Proofs
namespace Go.Proofs
open Go Go.Ab
def sP (D' D:List Desk):Prop:=∀ d'∈D',∃ d∈D,d'.notes=d.notes/\d'.faults.length=d.faults.length/\∀ i,i<d.faults.length->∀ f∈d'.faults.getD i [],f∈d.faults.getD i []
variable {n:Nat} {D D':List Desk}
theorem zF (h:DkG n D) (h':DkG n D') (hs:sP D' D):HW D<=HW D'/\Ha D'<=Ha D:=by
 constructor
 ·obtain⟨d',hd',e⟩:=pR h';obtain⟨d,hd,e1,e2,e3⟩:=hs d' hd';have hb:=sC (h'.f d' hd');have hg:zg d (ja d'):=λi hi=>e3 i hi _ (hb i (by omega));have h1:=(zO h hd hg).1;rw[<- vT h',e,ml,e1,h'.len d' hd'];exact h1
 ·obtain⟨d',hd',g,hg',e⟩:=GZ h';obtain⟨d,hd,e1,e2,e3⟩:=hs d' hd';have hg:zg d g:=λi hi=>e3 i hi _ (hg' i (by omega));have h1:=(zO h hd hg).2;rw[<- e,e1];exact h1
theorem rj {d d':Desk} (e1:d'.notes=d.notes) (e2:d'.faults.length=d.faults.length) (e3:∀ i,i<d.faults.length->∀ f∈d'.faults.getD i [],f∈d.faults.getD i []) {s:Susp} (hs:s∈W3 d.faults.length) {b:Bool} (h:bC d' s b=true):bC d s b=true:=by
 unfold bC at *;rcases listS_mem.1 hs with⟨_,rfl⟩|⟨i,hi,_,rfl⟩|⟨i,hi,_,rfl⟩
 ·rw[if_pos rfl] at *;rw[<- e1];exact h
 ·rw[if_neg (by simp[je]),if_pos (show (je i).kind=2 from rfl),show (je i).index.toNat=i from rfl] at *;rw[List.any_eq_true] at *;obtain⟨f,hf,h⟩:=h;exact⟨f,e3 i hi f hf,h⟩
 ·rw[if_neg (by simp[dt]),if_neg (by simp[dt]),show (dt i).index.toNat=i from rfl] at *;rw[List.any_eq_true] at *;obtain⟨f,hf,h⟩:=h;exact⟨f,e3 i hi f hf,h⟩
theorem Di (h:DkG n D) (h':DkG n D') (hs:sP D' D) {s:Susp} (hm:s∈pf n D' 2\/s∈pf n D' 1):s∈pf n D 2\/s∈pf n D 1:=by
 have hA:s∈W3 n/\B4 D' s≠0:=by
  rcases hm with h|h
  ·have:=sus_mem.1 h;exact⟨this.1,by omega⟩
  ·have:=sus_mem.1 h;exact⟨this.1,by omega⟩
 have h1:∃ d'∈D',bC d' s true=true:=by
  apply Classical.byContradiction
  intro hn;apply hA.2
  unfold B4;rw[if_pos];rw[List.any_eq_false];exact λd hd e=>hn ⟨d,hd,e⟩
 obtain⟨d',hd',h2⟩:=h1;obtain⟨d,hd,e1,e2,e3⟩:=hs d' hd';have h3:=xn hd (rj e1 e2 e3 (by rw[h.len d hd];exact hA.1) h2);rw[sus_mem,sus_mem];rcases rz D s with e|e|e
 ·exact absurd e h3
 ·exact .inr ⟨hA.1,e⟩
 ·exact .inl ⟨hA.1,e⟩
theorem zD (h:DkG n D) (h':DkG n D') (hs:sP D' D) {s:Susp} (hm:s∈pf n D 2):s∈pf n D' 2:=by
 obtain⟨hA,hk⟩:=sus_mem.1 hm;have h1:∀ d'∈D',bC d' s false=false:=λd' hd'=>by
  obtain⟨d,hd,e1,e2,e3⟩:=hs d' hd';cases hq:bC d' s false
  ·rfl
  ·have h2:=rj e1 e2 e3 (by rw[h.len d hd];exact hA) hq;rw[xm hk d hd] at h2;exact absurd h2 (by decide)
 obtain⟨d',hd',_⟩:=pR h';have h2:=Dl (sC (h'.f d' hd')) (s:=s) (by rw[h'.len d' hd'];exact hA);refine sus_mem.2 ⟨hA,?_⟩;unfold B4;rw[if_neg,if_pos]
 ·rw[List.any_eq_false];exact λd hd e=>by rw[h1 d hd] at e;exact absurd e (by decide)
 ·intro e;rw[List.any_eq_false] at e;have h3:=e d' hd';cases hq:decide (s∈bb d'.notes (ja d') d'.faults.length)
  ·rw[hq,h1 d' hd'] at h2;exact absurd h2 (by decide)
  ·rw[hq] at h2;exact h3 h2
end Go.Proofs
namespace Go.Proofs
open Go Go.Ab
theorem Dh {c:Case} {t:List Int} (hl:F3 (dx c t) 0=0) {y:Link} (hy:y∈c.loop.links):qp c y (dq c t y.drawing)=some (V0 (dx c t) y):=by
 have hok:=Lb (dT hl).1;have hx:c.loop∈(dx c t).loops:=by simp[dx]
 have hd:=(mt hok hx hy).2;obtain⟨hm,_,_⟩:=hok.link _ hx y hy;obtain⟨i,hi⟩:=List.mem_iff_getElem?.1 hm;have hnd:(nums c.p.n.reg).Nodup:=(E1 hok.reg).1.imp λh e=>by omega
 have hix:idx (nums c.p.n.reg) y.drawing=i:=jB hnd hi;have hl2:(N1 c.p.n t c.machine)[i]?=some (dq c t y.drawing):=by
  unfold N1 dq;rw[List.getElem?_map,show (nums c.p.n.reg)[i]?=some y.drawing from hi];rfl
 have e:u9 (dx c t).reg (dx c t).lets y.drawing=(p6 c.p.n.reg y.drawing (dq c t y.drawing)).getD K1:=by
  unfold u9;rw[show (dx c t).reg=c.p.n.reg from rfl,show (dx c t).lets=N1 c.p.n t c.machine from rfl,hix,Int.toNat_natCast,hl2];rfl
 rw[e] at hd;unfold qp;cases hf:p6 c.p.n.reg y.drawing (dq c t y.drawing) with
 | none=>rw[hf] at hd;simp[K1] at hd
 | some z=>rw[hf] at hd;simpa using hd
theorem nR (D:Link->Dim):∀ (q:List (Link×Piece)) (s:Int×Int) (a b:Int),(∀ p∈q,p.2.lo<=(D p.1).upper/\(D p.1).lower<=p.2.hi)->s.1<=b->a<=s.2 ->
 (q.foldl B5 s).1<=q.foldl (λs p=>s+mY p.1 (Q5 true p.1 (D p.1))) b/\q.foldl (λs p=>s+mY p.1 (Q5 false p.1 (D p.1))) a<=(q.foldl B5 s).2
 | [],s,a,b,_,h1,h2=>⟨h1,h2⟩
 | p :: q,s,a,b,h,h1,h2=>by
   rw[List.foldl_cons,List.foldl_cons,List.foldl_cons];have hp:=h p List.mem_cons_self;refine nR D q _ _ _ (λp hp=>h p (List.mem_cons_of_mem _ hp)) ?_ ?_
   ·unfold B5 mY Q5;cases p.1.back<;>simp<;>omega
   ·unfold B5 mY Q5;cases p.1.back<;>simp<;>omega
theorem qx {l:List Link} {P:List Piece} (h:P.length=l.length) (D:Link->Dim) (hi:Bool):du l (l.map D) hi=(l.zip P).foldl (λs p=>s+mY p.1 (Q5 hi p.1 (D p.1))) 0:=by
 have e:l.zip (l.map D)=(l.zip P).map λp=>(p.1,D p.1):=by
  refine List.ext_getElem? λi=>?_;by_cases hi:i<l.length
  ·rw[List.getElem?_eq_getElem (by simp[hi]),List.getElem?_eq_getElem (by simp[hi];omega)];simp
  ·rw[List.getElem?_eq_none (by simp;omega),List.getElem?_eq_none (by simp;omega)]
 unfold du;rw[e,List.foldl_map]
theorem addF_mem {L:List E3} {so:Bool} {f g:E3}:g∈aY L so f↔g∈L\/(so=true/\g=f):=by
 unfold aY;split
 ·rename_i h;rw[List.mem_append,List.mem_singleton];simp[h.1]
 ·rename_i h;constructor
  ·exact .inl
  ·rintro (h1|⟨h1,rfl⟩)
   ·exact h1
   ·exact Classical.byContradiction λh2=>h ⟨h1,h2⟩
theorem uc {c:Case} {y:Link} {x:Piece} {o:Int} {L:List E3} {l:Int} {g:E3}:g∈H8 c y x o L l↔g∈L\/(qu c y x l=true/\g=(!decide (l=o),false))\/(pP c y x l=true/\g=(!decide (l=o),true)):=by
 unfold H8;rw[addF_mem,addF_mem,or_assoc]
theorem mh {c:Case} {y:Link} {x:Piece} {o:Int} {g:E3}:∀ {l:List Int} {L:List E3},g∈l.foldl (H8 c y x o) L↔g∈L\/∃ a∈l,(qu c y x a=true/\g=(!decide (a=o),false))\/(pP c y x a=true/\g=(!decide (a=o),true))
 | [],L=>by simp
 | a :: l,L=>by
   rw[List.foldl_cons,mh,uc,or_assoc];simp only[List.mem_cons,exists_eq_or_imp]
theorem cS {c:Case} {t:List Int} {k:Nat} {x:Piece} {y:Link} (hx:c.pieces[k]?=some x) (hy:c.loop.links[k]?=some y) {g:E3}:g∈gz c t k↔∃ a∈I6 c k,(qu c y x a=true/\g=(!decide (a=dq c t y.drawing),false))\/(pP c y x a=true/\g=(!decide (a=dq c t y.drawing),true)):=by
 unfold gz;rw[hx,hy];simp only;rw[mh];simp
theorem mw {c:Case} {t:List Int} {k:Nat} (hk:k<c.pieces.length):(C7 c t).faults.getD k []=gz c t k:=by
 simp[C7,List.getD,hk]
theorem BW {c:Case} (h0:F7 c=0) {t:List Int} (hn:zb c t=false) (hf:∀ k,k<c.pieces.length->(false,false)∈gz c t k):False:=by
 obtain⟨he,hft⟩:=E6 h0;have hok:=F5 (C2 he).2;have hlen:=hok.e;unfold zb at hn;simp only[Bool.or_eq_false_iff,Bool.not_eq_false',decide_eq_true_eq] at hn;obtain⟨hl,hc⟩:=hn;have hmeet:∀ p∈c.loop.links.zip c.pieces,p.2.lo<=(V0 (dx c t) p.1).upper/\(V0 (dx c t) p.1).lower<=p.2.hi:=λp hp=>by
  obtain⟨k,hk⟩:=List.mem_iff_getElem?.1 hp;rw[List.getElem?_zip_eq_some] at hk;obtain⟨hy,hx⟩:=hk;have h1:=hf k (e7 hx);rw[cS hx hy] at h1;obtain⟨a,ha,h2|h2⟩:=h1
  ·have e:a=dq c t p.1.drawing:=by have:=h2.2;simp at this;exact this
   subst e;have h3:=h2.1;unfold qu at h3;rw[Dh hl (List.mem_of_getElem? hy)] at h3;simpa using h3
  ·exact absurd h2.2 (by simp)
 have hs:=nR (V0 (dx c t)) (c.loop.links.zip c.pieces) (0,0) 0 0 hmeet (Int.le_refl _) (Int.le_refl _);rw[<- qx hlen,<- qx hlen] at hs;have hlp:(dx c t).loops[(0:Int).toNat]?=some c.loop:=rfl;have hLo:wJ (dx c t) 0=du c.loop.links (c.loop.links.map (V0 (dx c t))) false:=by
  rw[wJ,if_pos hl,Jh,hlp];rfl
 have hHi:wK (dx c t) 0=du c.loop.links (c.loop.links.map (V0 (dx c t))) true:=by
  rw[wK,if_pos hl,Jz,hlp];rfl
 rw[<- hLo,<- hHi] at hs;rw[P8,if_pos hl,KL,hlp] at hc;simp only at hc;have hg:c.loop.lo<=wJ (dx c t) 0/\wK (dx c t) 0<=c.loop.hi:=by
  split at hc
  ·assumption
  ·split at hc<;>exact absurd hc (by decide)
 unfold aJ ba mi at hft;rw[if_pos he,if_pos he] at hft;have hs2:O9 (c.loop.links.zip c.pieces)=(c.loop.links.zip c.pieces).foldl B5 (0,0):=rfl;rw[hs2] at hft;split at hft
 ·omega
 ·split at hft<;>exact absurd hft (by decide)
theorem pZ {c:Case} (h0:F7 c=0):DkG c.pieces.length (n8 c):=by
 obtain⟨he,_⟩:=E6 h0;refine⟨λe=>?_,λd hd=>?_,mu he,λd hd g hg e=>?_⟩
 ·have:=(ao he).1;rw[e] at this;exact absurd this (by decide)
 ·obtain⟨t,_,rfl⟩:=List.mem_map.1 hd;simp[C7]
 ·obtain⟨t,_,rfl⟩:=List.mem_map.1 hd;have hl:(C7 c t).faults.length=c.pieces.length:=by simp[C7]
  refine BW h0 (t:=t) ?_ λk hk=>?_
  ·cases hn:zb c t
   ·rfl
   ·have:(⟨1,0⟩:Susp)∈bb (C7 c t).notes g c.pieces.length:=selS_mem.2 (.inl ⟨hn,rfl⟩);rw[e] at this;simp at this
  ·have h1:=hg k (by omega);rw[mw hk] at h1;have e2:g k=(false,false):=by
    refine Prod.ext ?_ ?_
    ·cases hb:(g k).1
     ·rfl
     ·have:je k∈bb (C7 c t).notes g c.pieces.length:=selS_mem.2 (.inr (.inl ⟨k,hk,hb,rfl⟩));rw[e] at this;simp at this
    ·cases hb:(g k).2
     ·rfl
     ·have:dt k∈bb (C7 c t).notes g c.pieces.length:=selS_mem.2 (.inr (.inr ⟨k,hk,hb,rfl⟩));rw[e] at this;simp at this
   rw[e2] at h1;exact h1
theorem lj {c:Case} (h0:F7 c=0):pS c=BD (n8 c)/\qj c=KQ c.pieces.length (n8 c)/\(∀ k,aq c k=pf c.pieces.length (n8 c) k)/\fp c=(HW (n8 c),Ha (n8 c)):=by
 refine⟨?_,?_,λk=>?_,?_⟩
 ·unfold pS;rw[if_pos h0];rfl
 ·unfold qj;rw[if_pos h0];rfl
 ·unfold aq;rw[if_pos h0];rfl
 ·unfold fp;rw[if_pos h0];rfl
variable {G:LY}
attribute [simp] p5 cw N7 fm u6 A5 nilV J0 ZK
theorem Cu {n:Nat} {s:Susp} (h:s∈W3 n):qt n s=true:=by
 unfold qt;rcases listS_mem.1 h with⟨_,rfl⟩|⟨i,hi,_,rfl⟩|⟨i,hi,_,rfl⟩
 ·simp
 ·rw[if_neg (by simp[je])];show (((decide _&&decide _)&&(decide (0<=(i:Int))&&decide ((i:Int)<=(n:Int)-1)))=true);simp[je];omega
 ·rw[if_neg (by simp[dt])];show (((decide _&&decide _)&&(decide (0<=(i:Int))&&decide ((i:Int)<=(n:Int)-1)))=true);simp[dt];omega
structure CauseOk (n:Nat) (lo hi:Int) (l a su op:List Susp):Prop where
 b1:1<=lo
 b2:lo<=hi
 b3:hi<=1+2*n
 b4:(l.length:Int)=lo
 b5:a≠[]↔lo=1
 b6:∀ s r,a=s :: r->∃ r',l=s :: r'
 b7:(su.length:Int)<=lo
 b8:hi<=(su.length:Int)+op.length
 lm:∀ s∈l,qt n s=true/\(s∈su\/s∈op)
 am:∀ s∈a,qt n s=true/\(s∈su\/s∈op)
 ls:l.Pairwise U0
 aS':a.Pairwise U0
 sm:∀ s∈su,s∈l/\(a=[]\/a=[s])
structure Hid (P:Prop):Prop where
 out:P
attribute [simp] p5 cw N7 fm u6 A5 nilV J0 ZK
attribute [simp] p5 cw N7 fm u6 A5 nilV J0 ZK
attribute [simp] p5 cw N7 fm u6 A5 nilV J0 ZK
structure TrueOk (c:Case) (t:List Int) (l su op:List Susp) (lo hi:Int):Prop where
 b1:l≠[]
 b2:lo<=(l.length:Int)
 b3:(l.length:Int)<=hi
 b4:∀ s∈l,(s∈su\/s∈op)/\lU c t s=0/\¬ jz c t s=0
 b5:∀ s∈su,lU c t s=0/\jz c t s=2/\s∈l/\s∉op
end Go.Proofs
namespace Go.Proofs
open Go Go.Ab
variable {c:Case} {k:Nat} {x:Piece} {a b:Int}
theorem fT {j:Nat}:(bB c k x a b).pieces[j]?=if j=k then (c.pieces[k]?).map (λ_=>qr x a b) else c.pieces[j]?:=by
 show (c.pieces.set k (qr x a b))[j]?=_;rw[List.getElem?_set];by_cases h:j=k
 ·subst h;rw[if_pos rfl,if_pos rfl];by_cases h2:j<c.pieces.length
  ·rw[if_pos h2,List.getElem?_eq_getElem h2];rfl
  ·rw[if_neg h2,List.getElem?_eq_none (by omega)];rfl
 ·rw[if_neg (Ne.symm h),if_neg h]
theorem fS:(bB c k x a b).pieces.length=c.pieces.length:=by simp[bB]
theorem qE:∀ (q q':List (Link×Piece)) (s s':Int×Int),q.length=q'.length->(∀ (i:Nat) p p',q[i]?=some p->q'[i]?=some p'->p'.1=p.1/\p.2.lo<=p'.2.lo/\p'.2.hi<=p.2.hi)->s.1<=s'.1->s'.2<=s.2->(q.foldl B5 s).1<=(q'.foldl B5 s').1/\(q'.foldl B5 s').2<=(q.foldl B5 s).2
 | [],[],_,_,_,_,h1,h2=>⟨h1,h2⟩
 | [],_ :: _,_,_,h,_,_,_=>by simp at h
 | _ :: _,[],_,_,h,_,_,_=>by simp at h
 | p :: q,p' :: q',s,s',hl,h,h1,h2=>by
   rw[List.foldl_cons,List.foldl_cons];obtain⟨g1,g2,g3⟩:=h 0 p p' rfl rfl;refine qE q q' _ _ (by simpa using hl) (λi p p' e e'=>h (i+1) p p' (by simpa using e) (by simpa using e')) ?_ ?_
   ·unfold B5;rw[g1];split<;>simp<;>omega
   ·unfold B5;rw[g1];split<;>simp<;>omega
structure MsOk (c:Case) (k:Nat) (x:Piece) (a b:Int):Prop where
 p1:c.pieces[k]?=some x
 p2:x.lo<=a/\a<=b/\b<=x.hi
 p3:F7 c=0
theorem DQ (h:MsOk c k x a b):s9 (bB c k x a b)=0:=by
 obtain⟨hx,⟨h1,h2,h3⟩,h0⟩:=h;obtain⟨he,_⟩:=E6 h0;obtain⟨hp,hcb⟩:=C2 he;have hok:=F5 hcb;have hlt:k<c.pieces.length:=e7 hx;have hpc:=kY hok hlt;rw[(List.getElem?_eq_some_iff.1 hx).2] at hpc;unfold U5 at hpc;unfold s9;rw[if_neg (by show ¬ u3 c.p≠0;simp[hp]),if_pos];unfold Z3 at hcb ⊢;simp only[Bool.and_eq_true,List.all_eq_true] at hcb ⊢;obtain⟨b1,b2,b3,b4,b5,b6⟩:=hcb;refine⟨b1,b2,b3,by rw[fS];exact b4,b5,λq hq=>?_⟩;obtain⟨i,hi⟩:=List.mem_iff_getElem?.1 hq;rw[List.getElem?_zip_eq_some] at hi;obtain⟨hy,hq2⟩:=hi;rw[fT] at hq2;by_cases e:i=k
 ·subst e;rw[if_pos rfl,hx] at hq2;have hq3:q.2=qr x a b:=(Option.some.inj hq2).symm;have hold:=b6 (q.1,x) (List.mem_iff_getElem?.2 ⟨i,by rw[List.getElem?_zip_eq_some];exact⟨hy,hx⟩⟩);rw[hq3];simp only[H7,Bool.and_eq_true,O6,decide_eq_true_eq] at hold ⊢;obtain⟨c1,c2,c3,c4,c5⟩:=hold;refine⟨c1,c2,c3,c4,?_⟩;show 0<=a/\a<=1000000000/\0<=b/\b<=1000000000/\a<=b;omega
 ·rw[if_neg e] at hq2;exact b6 q (List.mem_iff_getElem?.2 ⟨i,by rw[List.getElem?_zip_eq_some];exact⟨hy,hq2⟩⟩)
theorem vR {c:Case} (h:aJ c=0) (he:s9 c=0):(O9 (c.loop.links.zip c.pieces)).2<c.loop.lo\/(O9 (c.loop.links.zip c.pieces)).1 > c.loop.hi:=by
 unfold aJ ba mi at h;rw[if_pos he,if_pos he] at h;split at h
 ·assumption
 ·split at h<;>exact absurd h (by decide)
theorem AI (h:MsOk c k x a b):F7 (bB c k x a b)=0:=by
 have he:=DQ h;obtain⟨hx,⟨h1,h2,h3⟩,h0⟩:=h;obtain⟨he0,hf0⟩:=E6 h0;have hd:=vR hf0 he0;have hlen:=(F5 (C2 he0).2).e;have hm:=qE (c.loop.links.zip c.pieces) ((bB c k x a b).loop.links.zip (bB c k x a b).pieces) (0,0) (0,0) (by simp[bB]) (λi p p' e e'=>by
  rw[List.getElem?_zip_eq_some] at e e';have hl:p'.1=p.1:=Option.some.inj (e'.1.symm.trans e.1);refine⟨hl,?_⟩;have e2:=e'.2;rw[fT] at e2;by_cases g:i=k
  ·subst g;rw[if_pos rfl,hx] at e2;have e3:p'.2=qr x a b:=(Option.some.inj e2).symm;have e4:p.2=x:=Option.some.inj (e.2.symm.trans hx);rw[e3,e4];exact⟨h1,h3⟩
  ·rw[if_neg g] at e2;have e3:p'.2=p.2:=Option.some.inj (e2.symm.trans e.2);rw[e3];exact⟨Int.le_refl _,Int.le_refl _⟩) (Int.le_refl _) (Int.le_refl _)
 unfold F7;rw[if_neg (by simp[he]),if_neg];unfold aJ ba mi;rw[if_pos he,if_pos he,if_pos]
 ·simp
 ·unfold O9 at hd ⊢;show _<c.loop.lo\/_ > c.loop.hi;omega
theorem pu {j:Nat} (hx:c.pieces[k]?=some x):I6 (bB c k x a b) j=I6 c j:=by
 unfold I6;rw[fT];by_cases e:j=k
 ·subst e;rw[if_pos rfl,hx];show (match some (qr x a b),c.loop.links[j]? with|some x,some y=>O4 c.p x.day x.holder y.drawing|_,_=>[])=_;cases c.loop.links[j]?<;>rfl
 ·rw[if_neg e];rfl
theorem FF (y:Link) (l:Int):qp (bB c k x a b) y l=qp c y l:=rfl
theorem Hi {y:Link} {l:Int} {x':Piece} (h:x.lo<=x'.lo/\x'.lo<=x'.hi/\x'.hi<=x.hi):(qu c y x' l=true->qu c y x l=true)/\(pP c y x' l=true->pP c y x l=true):=by
 unfold qu pP;cases qp c y l with
 | none=>exact⟨id,id⟩
 | some d =>
   simp only[O6,Bool.and_eq_true,decide_eq_true_eq,Bool.not_eq_true',decide_eq_false_iff_not];omega
theorem IW {t:List Int} (h:MsOk c k x a b) {j:Nat} (hj:j<c.pieces.length) {f:E3} (hf:f∈gz (bB c k x a b) t j):f∈gz c t j:=by
 obtain⟨hx,h1,h0⟩:=h;have hlen:=(F5 (C2 (E6 h0).1).2).e;have hy:c.loop.links[j]?=some c.loop.links[j]:=List.getElem?_eq_getElem (by omega);have hj0:c.pieces[j]?=some c.pieces[j]:=List.getElem?_eq_getElem hj;by_cases e:j=k
 ·subst e;have hx':(bB c j x a b).pieces[j]?=some (qr x a b):=by rw[fT,if_pos rfl,hx];rfl
  rw[cS hx' hy,pu hx] at hf;rw[cS hx hy];obtain⟨l,hl,hf⟩:=hf;obtain⟨g1,g2⟩:=Hi (c:=c) (y:=c.loop.links[j]) (l:=l) (x:=x) (x':=qr x a b) h1;refine⟨l,hl,?_⟩;rcases hf with⟨f1,f2⟩|⟨f1,f2⟩
  ·exact .inl ⟨g1 f1,f2⟩
  ·exact .inr ⟨g2 f1,f2⟩
 ·have hx':(bB c k x a b).pieces[j]?=some c.pieces[j]:=by rw[fT,if_neg e,hj0]
  rw[cS hx' hy,pu hx] at hf;rw[cS hj0 hy];exact hf
theorem GJ (h:MsOk c k x a b):sP (n8 (bB c k x a b)) (n8 c):=by
 intro d' hd';obtain⟨t,ht,rfl⟩:=List.mem_map.1 hd';refine⟨C7 c t,List.mem_map_of_mem ht,rfl,by simp[C7,fS],λi hi f hf=>?_⟩;have hi':i<c.pieces.length:=by simpa[C7] using hi
 rw[mw (by rw[fS];exact hi')] at hf;rw[mw hi'];exact IW h hi' hf
theorem tS (h0:F7 c=0) {y:Link} (hx:c.pieces[k]?=some x) (hy:c.loop.links[k]?=some y):B4 (n8 c) (dt k)=0↔∀ l∈I6 c k,pP c y x l=false:=by
 have hk:k<c.pieces.length:=e7 hx;constructor
 ·intro h l hl;obtain⟨d,hd,_⟩:=pR (pZ h0);obtain⟨t,ht,rfl⟩:=List.mem_map.1 hd;have h1:=rA h _ hd;cases hf:pP c y x l
  ·rfl
  ·have hm:(!decide (l=dq c t y.drawing),true)∈gz c t k:=(cS hx hy).2 ⟨l,hl,.inr ⟨hf,rfl⟩⟩;unfold bC at h1;rw[if_neg (by simp[dt]),if_neg (by simp[dt]),show (dt k).index.toNat=k from rfl,mw hk,List.any_eq_false] at h1;exact absurd rfl (h1 _ hm)
 ·intro h;unfold B4;rw[if_pos];rw[List.any_eq_false];intro d hd;obtain⟨t,ht,rfl⟩:=List.mem_map.1 hd;unfold bC;rw[if_neg (by simp[dt]),if_neg (by simp[dt]),show (dt k).index.toNat=k from rfl,mw hk,List.any_eq_true];rintro⟨f,hf,hf2⟩;rw[cS hx hy] at hf;obtain⟨l,hl,⟨_,rfl⟩|⟨f1,rfl⟩⟩:=hf
  ·exact absurd hf2 (by simp)
  ·rw[h l hl] at f1;exact absurd f1 (by decide)
theorem sf (c:Case) (y:Link):∀ (L:List Int) (s:Int×Int) (p q:Int),(((L.foldl (G1 c y) s).1<=p/\q<=(L.foldl (G1 c y) s).2)↔(s.1<=p/\q<=s.2)/\∀ l∈L,∀ d,qp c y l=some d->d.lower<=p/\q<=d.upper)
 | [],s,p,q=>by simp
 | l :: L,s,p,q=>by
   rw[List.foldl_cons,sf c y L];unfold G1;cases hz:qp c y l with
   | none =>
     constructor
     ·rintro⟨h1,h2⟩;refine⟨h1,λm hm d hd=>?_⟩;rcases List.mem_cons.1 hm with rfl|hm
      ·rw[hz] at hd;cases hd
      ·exact h2 m hm d hd
     ·rintro⟨h1,h2⟩;exact⟨h1,λm hm=>h2 m (List.mem_cons_of_mem _ hm)⟩
   | some e =>
     constructor
     ·rintro⟨h1,h2⟩;simp only at h1;refine⟨by omega,λm hm d hd=>?_⟩;rcases List.mem_cons.1 hm with rfl|hm
      ·rw[hz] at hd;cases hd;omega
      ·exact h2 m hm d hd
     ·rintro⟨h1,h2⟩;have h3:=h2 l List.mem_cons_self e hz;exact⟨by simp only;omega,λm hm=>h2 m (List.mem_cons_of_mem _ hm)⟩
end Go.Proofs
