/- Part 25 of the proofs. -/
import Derived.Test.YtlmlkkoapahmjaaGreatDoorQ18
import Derived.Test.YtlmlkkoapahmjaaGreatDoorB02
import Derived.Test.YtlmlkkoapahmjaaGreatDoorB03
import Derived.Test.YtlmlkkoapahmjaaGreatDoorB06
set_option linter.all false
set_option maxHeartbeats 100000000
namespace Go.Ab
open Go
abbrev Gp:=Nat×Bool
def tR (b:Nat->Nat×Nat) (m:Nat->Gp×Gp) (i k:Nat) (x:Issue):List DC:=if k<i then [.im (rI x.drawing),.im (rI x.letter),.im (.raw (.int .u8 x.kind)),.vec (b k).1 (m k).1.1 0 x.items.length,.vec (b k).2 (m k).2.1 0 x.dims.length] else (e9 x).map .im
def bT (b:Nat->Nat×Nat) (m:Nat->Gp×Gp) (i:Nat) (l:List Issue):List (List DC):=l.mapIdx (tR b m i)
def kx (l:List Issue) (m:Nat->Gp×Gp) (k:Nat):Q4:=match l[k]? with
 | some x=>(.vec 2 [] 0 true,.vec 2 (l5 (x.items.map B1)) (m k).1.1 (m k).1.2,.vec 3 [] 0 true,.vec 3 (l5 (x.dims.map F0)) (m k).2.1 (m k).2.2)
 | none=>(.gone,.gone,.gone,.gone)
def tW (b:Nat->Nat) (m:Nat->Gp) (i k:Nat) (x:Holder):List DC:=if k<i then [.im (rI x.id),.im (rI x.frm),.im (rI x.to),.vec (b k) (m k).1 0 x.draws.length] else (o6 x).map .im
def bW (b:Nat->Nat) (m:Nat->Gp) (i:Nat) (l:List Holder):List (List DC):=l.mapIdx (tW b m i)
def mw (l:List Holder) (m:Nat->Gp) (k:Nat):Q2:=match l[k]? with
 | some x=>(.vec 1 [] 0 true,.vec 1 (l5 (x.draws.map Ab.encI)) (m k).1 (m k).2)
 | none=>(.gone,.gone)
@[simp] theorem IW (b:Nat->Nat×Nat) (m:Nat->Gp×Gp) (i:Nat) (l:List Issue):(bT b m i l).length=l.length:=by simp[bT]
@[simp] theorem Jg (b:Nat->Nat) (m:Nat->Gp) (i:Nat) (l:List Holder):(bW b m i l).length=l.length:=by simp[bW]
theorem xm (b:Nat->Nat×Nat) (m:Nat->Gp×Gp) (l:List Issue):bT b m 0 l=l5 (l.map e9):=by
 unfold bT l5;apply List.ext_getElem?
 intro k;simp[List.getElem?_mapIdx,tR];rfl
theorem xz (b:Nat->Nat) (m:Nat->Gp) (l:List Holder):bW b m 0 l=l5 (l.map o6):=by
 unfold bW l5;apply List.ext_getElem?
 intro k;simp[List.getElem?_mapIdx,tW];rfl
theorem DW {b:Nat->Nat×Nat} {m:Nat->Gp×Gp} {i:Nat} {l:List Issue} {x:Issue} (h:l[i]?=some x):(bT b m i l)[i]?=some ((e9 x).map .im):=by
 simp[bT,List.getElem?_mapIdx,h,tR]
theorem Ef {b:Nat->Nat} {m:Nat->Gp} {i:Nat} {l:List Holder} {x:Holder} (h:l[i]?=some x):(bW b m i l)[i]?=some ((o6 x).map .im):=by
 simp[bW,List.getElem?_mapIdx,h,tW]
def gu {α:Type} (m:Nat->α) (i:Nat) (g:α) (k:Nat):α:=if k=i then g else m k
theorem AL {b:Nat->Nat×Nat} {m:Nat->Gp×Gp} {i:Nat} {l:List Issue} {x:Issue} (h:l[i]?=some x) (g:Gp×Gp):(bT b m i l).set i [.im (rI x.drawing),.im (rI x.letter),.im (.raw (.int .u8 x.kind)),.vec (b i).1 g.1.1 0 x.items.length,.vec (b i).2 g.2.1 0 x.dims.length]=bT b (gu m i g) (i+1) l:=by
 apply List.ext_getElem?
 intro k;rw[List.getElem?_set];by_cases e:i=k
 ·subst e;have hlt:=e7 h;rw[if_pos rfl,if_pos (by simpa using hlt)];simp only[bT,List.getElem?_mapIdx,h,Option.map_some,tR,gu,if_true,Nat.lt_succ_self]
 ·rw[if_neg e];simp only[bT,List.getElem?_mapIdx];have h1:¬ k=i:=λh=>e h.symm;cases hk:l[k]? with
  | none=>rfl
  | some y =>
    simp only[Option.map_some,tR,gu,if_neg h1];by_cases h2:k<i
    ·rw[if_pos h2,if_pos (by omega)]
    ·rw[if_neg h2,if_neg (by omega)]
theorem AX {b:Nat->Nat} {m:Nat->Gp} {i:Nat} {l:List Holder} {x:Holder} (h:l[i]?=some x) (g:Gp):(bW b m i l).set i [.im (rI x.id),.im (rI x.frm),.im (rI x.to),.vec (b i) g.1 0 x.draws.length]=bW b (gu m i g) (i+1) l:=by
 apply List.ext_getElem?
 intro k;rw[List.getElem?_set];by_cases e:i=k
 ·subst e;have hlt:=e7 h;rw[if_pos rfl,if_pos (by simpa using hlt)];simp only[bW,List.getElem?_mapIdx,h,Option.map_some,tW,gu,if_true,Nat.lt_succ_self]
 ·rw[if_neg e];simp only[bW,List.getElem?_mapIdx];have h1:¬ k=i:=λh=>e h.symm;cases hk:l[k]? with
  | none=>rfl
  | some y =>
    simp only[Option.map_some,tW,gu,if_neg h1];by_cases h2:k<i
    ·rw[if_pos h2,if_pos (by omega)]
    ·rw[if_neg h2,if_neg (by omega)]
theorem xl {l:List Issue} {m:Nat->Gp×Gp} {i:Nat} {x:Issue} (h:l[i]?=some x) (g:Gp×Gp):G0 (kx l (gu m i g)) (i+1)=G0 (kx l m) i++[.vec 2 [] 0 true,.vec 2 (l5 (x.items.map B1)) g.1.1 g.1.2,.vec 3 [] 0 true,.vec 3 (l5 (x.dims.map F0)) g.2.1 g.2.2]:=by
 rw[G0,dR (H:=kx l m) λk hk=>by unfold kx gu;rw[if_neg (by omega)]];simp[kx,h,gu]
theorem xy {l:List Holder} {m:Nat->Gp} {i:Nat} {x:Holder} (h:l[i]?=some x) (g:Gp):J5 (mw l (gu m i g)) (i+1)=J5 (mw l m) i++[.vec 1 [] 0 true,.vec 1 (l5 (x.draws.map Ab.encI)) g.1 g.2]:=by
 rw[J5,dS (H:=mw l m) λk hk=>by unfold mw gu;rw[if_neg (by omega)]];simp[mw,h,gu]
abbrev CH:=(Gp×Gp)×(Nat->Gp×Gp)×(Gp×Gp)×(Nat->Gp)×(Gp×Gp)
def uv (s k:Nat):Nat×Nat:=(4*k+(13+s),4*k+(15+s))
def uw (N s k:Nat):Nat:=4*N+2*k+(17+s)
def pW (s:Nat) (m:CH) (c:Case):List DC:=[.vec (9+s) m.1.1.1 0 c.p.n.reg.length,.vec (11+s) m.1.2.1 0 c.p.n.notes.length,.vec (4*c.p.n.reg.length+(13+s)) m.2.2.1.1.1 0 c.p.holders.length,.vec (4*c.p.n.reg.length+(15+s)) m.2.2.1.2.1 0 c.p.prints.length,.im (rI c.machine),.im (rI c.of),.vec (4*c.p.n.reg.length+2*c.p.holders.length+(17+s)) m.2.2.2.2.1.1 0 c.loop.links.length,.im (rI c.loop.lo),.im (rI c.loop.hi),.vec (4*c.p.n.reg.length+2*c.p.holders.length+(19+s)) m.2.2.2.2.2.1 0 c.pieces.length]
def rL (s:Nat) (m:CH) (c:Case):List DObj:=.row (pW s m c) :: .vec 0 [] 0 true :: .vec 0 [] 0 true :: .vec 0 [] 0 true :: .vec 0 [] 0 true :: .vec 0 [] 0 true :: .vec 0 [] 0 true :: .row (pW s m c) :: .vec 5 [] 0 true :: .vec 5 (bT (uv s) m.2.1 c.p.n.reg.length c.p.n.reg) m.1.1.1 m.1.1.2 :: .vec 10 [] 0 true :: .vec 10 (l5 (c.p.n.notes.map l6)) m.1.2.1 m.1.2.2 :: (G0 (kx c.p.n.reg m.2.1) c.p.n.reg.length ++ .vec 4 [] 0 true :: .vec 4 (bW (uw c.p.n.reg.length s) m.2.2.2.1 c.p.holders.length c.p.holders) m.2.2.1.1.1 m.2.2.1.1.2 :: .vec 7 [] 0 true :: .vec 7 (l5 (c.p.prints.map A4)) m.2.2.1.2.1 m.2.2.1.2.2 :: (J5 (mw c.p.holders m.2.2.2.1) c.p.holders.length++[.vec 3 [] 0 true,.vec 3 (l5 (c.loop.links.map G9)) m.2.2.2.2.1.1 m.2.2.2.2.1.2,.vec 4 [] 0 true,.vec 4 (l5 (c.pieces.map w5)) m.2.2.2.2.2.1 m.2.2.2.2.2.2]))
theorem pn (e:Nat->Nat) (l:List (List IC)):(l5 l).map (rnL e)=l5 l:=by
 unfold l5;rw[List.map_map];exact List.map_congr_left λx _=>fH e x
theorem Dc (a s:Nat) (m:Nat->Gp×Gp) (i:Nat) (l:List Issue):(bT (uv a) m i l).map (rnL λo=>s+o)=bT (uv (a+s)) m i l:=by
 apply List.ext_getElem?
 intro k;simp only[bT,List.getElem?_map,List.getElem?_mapIdx];cases l[k]? with
 | none=>rfl
 | some x =>
   simp only[Option.map_some,tR];by_cases h:k<i
   ·rw[if_pos h,if_pos h];simp only[rnL,jc,uv];rw[show s+(4*k+(13+a))=4*k+(13+(a+s)) by omega,show s+(4*k+(15+a))=4*k+(15+(a+s)) by omega]
   ·rw[if_neg h,if_neg h,fH]
theorem Dd (N a s:Nat) (m:Nat->Gp) (i:Nat) (l:List Holder):(bW (uw N a) m i l).map (rnL λo=>s+o)=bW (uw N (a+s)) m i l:=by
 apply List.ext_getElem?
 intro k;simp only[bW,List.getElem?_map,List.getElem?_mapIdx];cases l[k]? with
 | none=>rfl
 | some x =>
   simp only[Option.map_some,tW];by_cases h:k<i
   ·rw[if_pos h,if_pos h];simp only[rnL,jc,uw];rw[show s+(4*N+2*k+(17+a))=4*N+2*k+(17+(a+s)) by omega]
   ·rw[if_neg h,if_neg h,fH]
theorem zR (a s:Nat) (m:CH) (c:Case):rnL (λo=>s+o) (pW a m c)=pW (a+s) m c:=by
 simp only[pW,rnL,jc];simp only[List.cons.injEq,DC.vec.injEq,and_true,true_and];omega
theorem FK (a s:Nat) (m:CH) (c:Case):(rL a m c).map (cW λo=>s+o)=rL (a+s) m c:=by
 have h4:(G0 (kx c.p.n.reg m.2.1) c.p.n.reg.length).map (cW λo=>s+o)=G0 (kx c.p.n.reg m.2.1) c.p.n.reg.length:=by
  rw[oy];refine dR λk hk=>?_;unfold kx;rw[List.getElem?_eq_getElem hk];simp only[cW,pn,List.map_nil]
 have h2:(J5 (mw c.p.holders m.2.2.2.1) c.p.holders.length).map (cW λo=>s+o)=J5 (mw c.p.holders m.2.2.2.1) c.p.holders.length:=by
  rw[oA];refine dS λk hk=>?_;unfold mw;rw[List.getElem?_eq_getElem hk];simp only[cW,pn,List.map_nil]
 simp only[rL,List.map_cons,List.map_append,List.map_nil,cW,zR,Dc,Dd,pn,h4,h2]
theorem rE (n:Nat):u9 [] n=λo=>n+o:=by
 funext o;simp[u9]
theorem tF (objs o:List DObj):n8 [] objs o=objs++o.map (cW λk=>objs.length+k):=by
 unfold n8;rw[rE];simp[gO]
end Go.Ab
namespace Go.Proofs
open Go Go.Ab
variable {G:LI}
attribute [simp] r9 cX O1 iG v6 A8 nilV K0 ZK
@[simp] abbrev Qb:List Nat:=[0,1,2,3,4,5,6,36,37,38,85,86,87]
@[simp] abbrev WP:List Nat:=[0,1,2,3,4,5,7,8,9,10,12,13,15,16,6,11,14,17]
theorem yj (c:Case) (hk:KC c):DCall Tryz.prog G 78 [l7 c] [] (λd o=>∃ m:CH,True/\d=.agg (pW 0 m c)/\o=rL 0 m c):=by
 generalize hQ:(λ(d:DV) (o:List DObj)=>∃ m:CH,True/\d=.agg (pW 0 m c)/\o=rL 0 m c)=Q;refine h9 Tryz.func78 rfl Tryz.ntmps78 (by simp) rfl ?_;have c1:=Jq (G:=G) c.p.n.reg (by have:=hk.p.n.1.1;omega);have c2:=Hf (G:=G) c.p.n.notes (by have:=hk.p.n.2.1;omega);unfold F6 at c1 c2;simp only[List.length_map] at c1 c2;simp only[l7];have hs:=trivial;repeat' first|with_reducible refine zz ?_|simp -dsimp[hs]|refine CallE.embed_ex [] (c1) ?_ ?_ ?_ ?_ ?_ ?_;(focus simp[u9];done);(focus simp;done);(focus simp;done);(focus simp;done);(focus refine o4 ?_;simp[u9,r5];done);intro mmA hmmA;try simp -dsimp[n8,u9,hs]|refine CallE.embed_ex [] (c2) ?_ ?_ ?_ ?_ ?_ ?_;(focus simp[u9];done);(focus simp;done);(focus simp;done);(focus simp;done);(focus refine o4 ?_;simp[u9,r5];done);intro mmB hmmB;try simp -dsimp[n8,u9,hs]|refine Y5 (id:=2) (nt:=117) [none,none,none,none,none,none,none,none,none,none,none,none,none,none,none,some [0],some [15],some [16],some [17],none,some [1],some [20],some [21],none] [0,1,2,3,4,5,6,7,9,10,11,12,13,15,16,17,18,20,21,22,8,14,19,23] 20 [([0,1,8,9,10,11,12,13,14,15,16,17,18,19],[0,1,2,3,4,5,6,15,36,37,38,85,86,87]),([0,1,13,14,15,16,17,18,19],[0,1,2,3,4,5,6,16,21,36,37,38,85,86,87]),([1,17,18,19],[0,1,2,3,4,5,6,16,22,26,36,37,38,85,86,87])] Qb mixed rfl (by kernel_rfl) (by kernel_rfl) (by kernel_rfl) ?_|with_reducible refine zE Qb ?_
 all_goals try clear hs
 refine i6 (ι:={ q:Nat×(Nat->Gp×Gp) // q.1<=c.p.n.reg.length }) (λq=>⟨117,[(1,.one (.ptr 0 0)),(2,.one (.ptr 7 0)),(3,.one (.ptr 0 0)),(36,iv (c.p.n.reg.length:Int)),(37,iv (q.1.1:Int))],.row [.vec 9 mmA.1 0 c.p.n.reg.length,.vec 11 mmB.1 0 c.p.n.notes.length,.im (.sl (c.p.holders.map o6)),.im (.sl (c.p.prints.map A4)),.im (rI c.machine),.im (rI c.of),.im (.sl (c.loop.links.map G9)),.im (rI c.loop.lo),.im (rI c.loop.hi),.im (.sl (c.pieces.map w5))] :: .vec 0 [] 0 true :: .vec 0 [] 0 true :: .vec 0 [] 0 true :: .vec 0 [] 0 true :: .vec 0 [] 0 true :: .vec 0 [] 0 true :: .row [.vec 1 0 0 0,.vec 2 0 0 0,.vec 3 0 0 0,.vec 4 0 0 0,.im (rI 0),.im (rI 0),.vec 5 0 0 0,.im (rI 0),.im (rI 0),.vec 6 0 0 0] :: .vec 5 [] 0 true :: .vec 5 (bT (λk=>(4*k+13,4*k+15)) q.1.2 q.1.1 c.p.n.reg) mmA.1 mmA.2 :: .vec 10 [] 0 true :: .vec 10 (l5 (c.p.n.notes.map l6)) mmB.1 mmB.2 :: G0 (kx c.p.n.reg q.1.2) q.1.1⟩) (λq=>c.p.n.reg.length-q.1.1) ⟨(0,λ_=>((0,false),(0,false))),by simp⟩ (zv [1,2,3,36,37] (by simp[xm,G0])) ?_;rintro⟨⟨i,m⟩,hi⟩;simp only at hi;simp only[iv,rI];by_cases hlt:i<c.p.n.reg.length
 ·have hw:IntKind.i64.wrap ((i:Int)+1)=((i+1:Nat):Int):=n4 (by omega) (by have:=hk.p.n.1.1;omega);have hx0:c.p.n.reg[i]?=some c.p.n.reg[i]:=by simp[hlt]
  have hxm:=hk.p.n.1.2 _ (List.mem_of_getElem? hx0);generalize c.p.n.reg[i]=x at *;have c3:=Jp (G:=G) x.items (by omega);have c4:=Js (G:=G) x.dims (by omega);unfold F6 at c3 c4;simp only[List.length_map] at c3 c4;have hat:∀ h,(bT (λk=>(4*k+13,4*k+15)) m i c.p.n.reg)[i]'h=(e9 x).map .im:=λh=>by
   have:=DW (b:=λk=>(4*k+13,4*k+15)) (m:=m) hx0;rw[List.getElem?_eq_getElem h] at this;exact Option.some.inj this
  simp only[e9,rI,List.map_cons,List.map_nil] at hat;have hset:=λg=>AL (b:=λk=>(4*k+13,4*k+15)) (m:=m) hx0 g;have hsuc:=λg=>xl (m:=m) hx0 g;have hs:=za hlt (za hw hat);repeat' first|with_reducible refine zz ?_|simp -dsimp[hs]|refine CallE.embed_ex [] (c3) ?_ ?_ ?_ ?_ ?_ ?_;(focus simp[u9];done);(focus simp;done);(focus simp;done);(focus simp;done);(focus refine o4 ?_;simp[u9,r5];done);intro mmC hmmC;try simp -dsimp[n8,u9,hs]|refine CallE.embed_ex [] (c4) ?_ ?_ ?_ ?_ ?_ ?_;(focus simp[u9];done);(focus simp;done);(focus simp;done);(focus simp;done);(focus refine o4 ?_;simp[u9,r5];done);intro mmD hmmD;try simp -dsimp[n8,u9,hs]|refine Y5 (id:=7) (nt:=117) [none,none,none,none,none,none,none,none,none,none,none,none,some [0],some [12],none,some [1],some [15],none] WP 14 [([0,1,6,7,8,9,10,11,12,13],[0,1,2,3,4,5,6,36,37,38,53,85,86,87]),([0,1,10,11,12,13],[0,1,2,3,4,5,6,36,37,38,54,58,85,86,87]),([1,12,13],[0,1,2,3,4,5,6,36,37,38,54,59,61,85,86,87])] Qb mixed rfl (by kernel_rfl) (by kernel_rfl) (by kernel_rfl) ?_|with_reducible refine zE Qb ?_|refine i8 ?_ ?_<;>intro h<;>try exact h.elim
  all_goals try clear hs
  refine At.round ⟨(i+1,gu m i (mmC,mmD)),by simp only;omega⟩ (by simp only;omega) (Weak.of_keep [1,2,3,36,37] ?_);rw[<- hset (mmC,mmD),hsuc (mmC,mmD)];simp
 ·obtain rfl:i=c.p.n.reg.length:=by omega
  have c5:=Hh (G:=G) c.p.holders (by have:=hk.p.p.h;omega);have c6:=EB (G:=G) c.p.prints (by have:=hk.p.p.q;omega);unfold F6 at c5 c6;simp only[List.length_map] at c5 c6;have hs:=hlt;repeat' first|with_reducible refine zz ?_|simp -dsimp[hs]|refine CallE.embed_ex [] (c5) ?_ ?_ ?_ ?_ ?_ ?_;(focus simp[u9];done);(focus simp;done);(focus simp;done);(focus simp;done);(focus refine o4 ?_;simp[u9,r5];done);intro mmE hmmE;try simp -dsimp[n8,u9,hs]|refine CallE.embed_ex [] (c6) ?_ ?_ ?_ ?_ ?_ ?_;(focus simp[u9];done);(focus simp;done);(focus simp;done);(focus simp;done);(focus refine o4 ?_;simp[u9,r5];done);intro mmF hmmF;try simp -dsimp[n8,u9,hs]|refine Y5 (id:=9) (nt:=117) [none,none,none,none,none,none,none,none,none,none,none,none,some [0],some [12],none,some [1],some [15],none] WP 14 [([0,1,6,7,8,9,10,11,12,13],[0,1,2,3,4,5,6,36,37,38,70,85,86,87]),([0,1,10,11,12,13],[0,1,2,3,4,5,6,36,37,38,71,75,85,86,87]),([1,12,13],[0,1,2,3,4,5,6,36,37,38,71,76,78,85,86,87])] Qb mixed rfl (by kernel_rfl) (by kernel_rfl) (by kernel_rfl) ?_|with_reducible refine zE Qb ?_|refine i8 ?_ ?_<;>intro h<;>try exact h.elim
  all_goals try clear hs
  clear hlt hi;generalize hN:c.p.n.reg.length=N at *;refine i6 (ι:={ q:Nat×(Nat->Gp) // q.1<=c.p.holders.length }) (λq=>⟨117,[(1,.one (.ptr 0 0)),(2,.one (.ptr 7 0)),(3,.one (.ptr 0 0)),(85,iv (c.p.holders.length:Int)),(86,iv (q.1.1:Int))],.row [.vec 9 mmA.1 0 N,.vec 11 mmB.1 0 c.p.n.notes.length,.vec (4*N+13) mmE.1 0 c.p.holders.length,.vec (4*N+15) mmF.1 0 c.p.prints.length,.im (rI c.machine),.im (rI c.of),.im (.sl (c.loop.links.map G9)),.im (rI c.loop.lo),.im (rI c.loop.hi),.im (.sl (c.pieces.map w5))] :: .vec 0 [] 0 true :: .vec 0 [] 0 true :: .vec 0 [] 0 true :: .vec 0 [] 0 true :: .vec 0 [] 0 true :: .vec 0 [] 0 true :: .row [.vec 1 0 0 0,.vec 2 0 0 0,.vec 3 0 0 0,.vec 4 0 0 0,.im (rI 0),.im (rI 0),.vec 5 0 0 0,.im (rI 0),.im (rI 0),.vec 6 0 0 0] :: .vec 5 [] 0 true :: .vec 5 (bT (λk=>(4*k+13,4*k+15)) m N c.p.n.reg) mmA.1 mmA.2 :: .vec 10 [] 0 true :: .vec 10 (l5 (c.p.n.notes.map l6)) mmB.1 mmB.2 :: (G0 (kx c.p.n.reg m) N ++ .vec 4 [] 0 true :: .vec 4 (bW (λk=>4*N+2*k+17) q.1.2 q.1.1 c.p.holders) mmE.1 mmE.2 :: .vec 7 [] 0 true :: .vec 7 (l5 (c.p.prints.map A4)) mmF.1 mmF.2 :: J5 (mw c.p.holders q.1.2) q.1.1)⟩) (λq=>c.p.holders.length-q.1.1) ⟨(0,λ_=>(0,false)),by simp⟩ (zv [1,2,3,85,86] (by simp[xz,J5])) ?_;rintro⟨⟨i,m2⟩,hi⟩;simp only at hi;simp only[iv,rI];by_cases hlt:i<c.p.holders.length
  ·have hw:IntKind.i64.wrap ((i:Int)+1)=((i+1:Nat):Int):=n4 (by omega) (by have:=hk.p.p.h;omega);have hx0:c.p.holders[i]?=some c.p.holders[i]:=by simp[hlt]
   have hxm:=hk.p.p.d _ (List.mem_of_getElem? hx0);generalize c.p.holders[i]=x at *;have c3:=Jr (G:=G) x.draws (by omega);unfold F6 at c3;simp only[List.length_map] at c3;have hat:∀ h,(bW (λk=>4*N+2*k+17) m2 i c.p.holders)[i]'h=(o6 x).map .im:=λh=>by
    have:=Ef (b:=λk=>4*N+2*k+17) (m:=m2) hx0;rw[List.getElem?_eq_getElem h] at this;exact Option.some.inj this
   simp only[o6,rI,List.map_cons,List.map_nil] at hat;have hset:=λg=>AX (b:=λk=>4*N+2*k+17) (m:=m2) hx0 g;have hsuc:=λg=>xy (m:=m2) hx0 g;have hs:=za hlt (za hw hat);repeat' first|with_reducible refine zz ?_|simp -dsimp[hs]|refine CallE.embed_ex [] (c3) ?_ ?_ ?_ ?_ ?_ ?_;(focus simp[u9];done);(focus simp;done);(focus simp;done);(focus simp;done);(focus refine o4 ?_;simp[u9,r5];done);intro mmC hmmC;try simp -dsimp[n8,u9,hs]|refine Y5 (id:=13) (nt:=117) [none,none,none,none,none,none,none,none,none,none,none,none,none,none,some [3,4],some [14],none] [0,1,2,3,4,5,6,7,8,9,10,11,12,14,15,13,16] 15 [([0,1,2,3,4,13,14],[0,1,2,3,4,5,6,36,37,38,85,86,87,101])] Qb mixed rfl (by kernel_rfl) (by kernel_rfl) (by kernel_rfl) ?_|with_reducible refine zE Qb ?_|refine i8 ?_ ?_<;>intro h<;>try exact h.elim
   all_goals try clear hs
   refine At.round ⟨(i+1,gu m2 i mmC),by simp only;omega⟩ (by simp only;omega) (Weak.of_keep [1,2,3,85,86] ?_);rw[<- hset mmC,hsuc mmC];simp;refine congrArg (λa=>(bW (λk=>4*N+2*k+17) m2 i c.p.holders).set i [_,_,_,DC.vec a _ _ _]) ?_;omega
  ·obtain rfl:i=c.p.holders.length:=by omega
   have c7:=Hg (G:=G) c.loop.links (by have:=hk.l;omega);have c8:=EC (G:=G) c.pieces (by have:=hk.q;omega);unfold F6 at c7 c8;simp only[List.length_map] at c7 c8;have hs:=hlt;repeat' first|(with_reducible first|refine zz ?_|refine zr ?_)|simp -dsimp[hs]|refine CallE.embed_ex [] (c7) ?_ ?_ ?_ ?_ ?_ ?_;(focus simp[u9];done);(focus simp;done);(focus simp;done);(focus simp;done);(focus refine o4 ?_;simp[u9,r5];done);intro mmG hmmG;try simp -dsimp[n8,u9,hs]|refine CallE.embed_ex [] (c8) ?_ ?_ ?_ ?_ ?_ ?_;(focus simp[u9];done);(focus simp;done);(focus simp;done);(focus simp;done);(focus refine o4 ?_;simp[u9,r5];done);intro mmH hmmH;try simp -dsimp[n8,u9,hs]|refine Y5 (id:=15) (nt:=117) [none,none,none,none,none,none,none,some [],some [7],none,some [],none] [0,1,2,4,5,7,8,10,3,6,9,11] 8 [([3,4,5,6,7],[0,1,2,3,4,5,6,36,37,38,85,86,87,108]),([5,6,7],[0,1,2,3,4,5,6,36,37,38,85,86,87,109,111]),([7],[0,1,2,3,4,5,6,36,37,38,85,86,87,109,112,114])] Qb mixed rfl (by kernel_rfl) (by kernel_rfl) (by kernel_rfl) ?_|with_reducible refine zE Qb ?_|refine i8 ?_ ?_<;>intro h<;>try exact h.elim
   all_goals try clear hs
   subst hQ;refine⟨((mmA,mmB),m,(mmE,mmF),m2,(mmG,mmH)),trivial,?_,?_⟩
   ·simp only[pW,hN,DV.agg.injEq,List.cons.injEq,DC.vec.injEq,and_true,true_and,Nat.add_zero];exact⟨rfl,rfl,by omega,rfl,rfl,by omega⟩
   ·simp only[rL,pW,hN,List.cons.injEq,DObj.row.injEq,DC.vec.injEq,and_true,true_and,Nat.add_zero];exact⟨⟨rfl,rfl,by omega,rfl,rfl,by omega⟩,⟨rfl,rfl,by omega,rfl,rfl,by omega⟩,rfl,rfl⟩
end Go.Proofs
namespace Go.Proofs
open Go Go.Ab Tryz
variable {G:LI}
def KJ (x:Piece) (lo hi:Int):Piece:=⟨x.holder,x.day,lo,hi⟩
def DJ (c:Case) (k:Nat) (x:Piece) (lo hi:Int):Case:={ c with pieces:=c.pieces.set k (KJ x lo hi) }
noncomputable def qj (c:Case) (n lo hi:Int):Int:=if Z9 c n≠0 then Z9 c n else match c.pieces[n.toNat]? with
 | some x=>if U6 lo hi x.lo x.hi=true then 0 else 2
 | none=>2
theorem DG {c:Case} {n lo hi:Int} (h:qj c n lo hi=0):p9 c=0/\∃ (k:Nat) (x:Piece),n=(k:Int)/\c.pieces[k]?=some x/\U6 lo hi x.lo x.hi=true:=by
 unfold qj at h;by_cases h0:Z9 c n=0
 ·rw[if_neg (by simp[h0])] at h;obtain⟨he,hn0,hn1⟩:=qV h0;obtain⟨k,rfl⟩:=Int.eq_ofNat_of_zero_le hn0;rw[Int.toNat_natCast] at h;cases hx:c.pieces[k]? with
  | none=>rw[hx] at h;simp at h
  | some x =>
    rw[hx] at h;simp only at h;by_cases hi':U6 lo hi x.lo x.hi=true
    ·exact⟨he,k,x,rfl,hx,hi'⟩
    ·rw[if_neg hi'] at h;exact absurd h (by decide)
 ·rw[if_pos (by exact h0)] at h;exact absurd h h0
def yX (s:Nat) (m:CH) (c:Case) (lo hi:Int):List DObj:=.row (pW (9+s) m c) :: .row [.im (rI lo),.im (rI hi)] :: .vec 0 [] 0 true :: .vec 0 [] 0 true :: .vec 0 [] 0 true :: .vec 0 [] 0 true :: .vec 0 [] 0 true :: .vec 0 [] 0 true :: .row (pW (9+s) m c) :: rL (9+s) m c
theorem Gs {l:List Piece} {k:Nat} {x:Piece} (lo hi:Int) (h:l[k]?=some x):(l5 (l.map w5)).set k [.im (.raw (.int .i64 x.holder)),.im (.raw (.int .i64 x.day)),.im (.raw (.int .i64 lo)),.im (.raw (.int .i64 hi))]=l5 ((l.set k (KJ x lo hi)).map w5):=by
 rw[List.map_set];unfold l5;rw[List.map_set];rfl
@[simp] abbrev Qx:List Nat:=[0,1,2,3,5,6,7,8,12,41]
theorem Cc (c:Case) (k:Nat) (x:Piece) (lo hi:Int) (hx0:c.pieces[k]?=some x) (h0:p9 c=0) (hin:U6 lo hi x.lo x.hi=true) (hG:o3 G) (hN:E0 G) (hS:u4 G) (hR:w0 G) (hk:KC c):DCall prog G 27 [l7 c,iv (k:Int),D9 lo hi] [] (λd o=>∃ m:CH,True/\d=.tup [.agg (pW 9 m (DJ c k x lo hi)),iv 0]/\o=yX 0 m (DJ c k x lo hi) lo hi):=by
 generalize hQ:(λ(d:DV) (o:List DObj)=>∃ m:CH,True/\d=.tup [.agg (pW 9 m (DJ c k x lo hi)),iv 0]/\o=yX 0 m (DJ c k x lo hi) lo hi)=Q;refine h9 func27 rfl ntmps27 (by simp) rfl ?_;have hlt:k<c.pieces.length:=e7 hx0;have hx:c.pieces[k]=x:=(List.getElem?_eq_some_iff.1 hx0).2;have hq16:=hk.q;have c1:=iR (G:=G) c hG hN hS hR hk;rw[h0] at c1;have c2:=O6 (G:=G) 0 ((c.pieces.length:Int)-1) [(k:Int)] (by simp);rw[show ([(k:Int)].all λy=>decide (0<=y)&&decide (y<=(c.pieces.length:Int)-1))=true by simp;omega] at c2;have c3:=bU (G:=G) lo hi x.lo x.hi;rw[hin] at c3;have hw:IntKind.i64.wrap ((c.pieces.length:Int)-1)=(c.pieces.length:Int)-1:=n4 (by omega) (by omega);have c4:=yj (G:=G) c hk;simp only[l7,j4,D9] at c1 c3 c4 ⊢;have hs:=za hx (za hlt hw);repeat' first|(with_reducible first|refine zz ?_|refine zr ?_)|simp -dsimp[hs]|refine zp c1 ?_|refine zq c2 ?_|refine zq c3 ?_|refine CallE.embed_ex [] c4 ?_ ?_ ?_ ?_ ?_ ?_;(focus simp[u9];done);(focus simp;done);(focus simp;done);(focus simp;done);(focus refine o4 ?_;simp[u9,r5];done);intro mmA hmmA;(try simp only[tF,rE,kq,zR,FK,Nat.zero_add]);try simp -dsimp[pW,rL]|refine zM 4 52 27 Qx ?_|with_reducible refine zE Qx ?_|refine i8 ?_ ?_<;>intro h<;>try exact h.elim
 subst hQ;have hst:=Gs lo hi hx0;refine⟨mmA,trivial,?_,?_⟩
 ·simp[pW,DJ]
 ·simp[yX,rL,pW,DJ,hst]
def ld:Case:=⟨⟨⟨[],[]⟩,[],[]⟩,0,0,⟨[],0,0⟩,[]⟩
noncomputable def Gu (c:Case) (n lo hi:Int):Case:=if qj c n lo hi=0 then (match c.pieces[n.toNat]? with|some x=>DJ c n.toNat x lo hi|none=>ld) else ld
theorem DF {c:Case} {k:Nat} {x:Piece} {lo hi:Int} (h:qj c (k:Int) lo hi=0) (hx:c.pieces[k]?=some x):Gu c (k:Int) lo hi=DJ c k x lo hi:=by
 unfold Gu;rw[if_pos h,Int.toNat_natCast,hx]
theorem Gt {c:Case} {n lo hi:Int} (h:¬ qj c n lo hi=0):Gu c n lo hi=ld:=by
 unfold Gu;rw[if_neg h]
theorem Gv {c:Case} {k:Nat} {x:Piece} (lo hi:Int) (h0:p9 c=0) (hx:c.pieces[k]?=some x):qj c (k:Int) lo hi=if U6 lo hi x.lo x.hi=true then 0 else 2:=by
 have hlt:=e7 hx;have h1:Z9 c (k:Int)=0:=by unfold Z9;rw[if_neg (by simp[h0]),if_pos (by omega)]
 unfold qj;rw[if_neg (by simp[h1]),Int.toNat_natCast,hx]
theorem DH {c:Case} {n:Int} (lo hi:Int) (h0:p9 c=0) (hn:¬ (0<=n/\n<c.pieces.length)):qj c n lo hi=2:=by
 have h1:Z9 c n=2:=by unfold Z9;rw[if_neg (by simp[h0]),if_neg hn]
 unfold qj;rw[if_pos (by rw[h1];decide),h1]
theorem DI {c:Case} (n lo hi:Int) (h0:¬ p9 c=0):qj c n lo hi=p9 c:=by
 have h1:Z9 c n=p9 c:=by unfold Z9;rw[if_pos h0]
 unfold qj;rw[if_pos (by rw[h1];exact h0),h1]
theorem Cd (c:Case) (n lo hi:Int) (h:¬ qj c n lo hi=0) (hG:o3 G) (hN:E0 G) (hS:u4 G) (hR:w0 G) (hk:KC c):zP prog G 27 [l7 c,iv n,D9 lo hi] (.tup [l7 ld,iv (qj c n lo hi)]):=by
 refine zf func27 ntmps27 ?_;try simp only[iv,D9]
 have c1:=iR (G:=G) c hG hN hS hR hk;have hq16:=hk.q;simp only[l7,j4,D9] at c1 ⊢;by_cases h0:p9 c=0
 ·rw[h0] at c1;have hw:IntKind.i64.wrap ((c.pieces.length:Int)-1)=(c.pieces.length:Int)-1:=n4 (by omega) (by omega);have c2:=O6 (G:=G) 0 ((c.pieces.length:Int)-1) [n] (by simp);by_cases hn:0<=n/\n<c.pieces.length
  ·obtain⟨k,rfl⟩:=Int.eq_ofNat_of_zero_le hn.1;have hlt:k<c.pieces.length:=by omega
   have hx0:c.pieces[k]?=some c.pieces[k]:=by simp[hlt]
   have hE:=Gv lo hi h0 hx0;generalize hx:c.pieces[k]=x at *;have c3:=bU (G:=G) lo hi x.lo x.hi;rw[show ([(k:Int)].all λy=>decide (0<=y)&&decide (y<=(c.pieces.length:Int)-1))=true by simp;omega] at c2;have hin:U6 lo hi x.lo x.hi=false:=by
    cases hb:U6 lo hi x.lo x.hi
    ·rfl
    ·rw[hb,if_pos rfl] at hE;exact absurd hE h
   rw[hin,if_neg (by decide)] at hE;rw[hin] at c3;rw[hE];simp only[D9] at c3;have hs:=za hx (za hlt hw);repeat' first|(with_reducible first|refine zz ?_|refine zr ?_)|simp -dsimp[hs]|refine zp c1 ?_|refine zq c2 ?_|refine zq c3 ?_|refine zM 4 52 27 Qx ?_|with_reducible refine zE Qx ?_|refine i8 ?_ ?_<;>intro h<;>try exact h.elim
   all_goals simp[ld]
  ·have hE:=DH lo hi h0 hn;rw[show ([n].all λy=>decide (0<=y)&&decide (y<=(c.pieces.length:Int)-1))=false by simp;omega] at c2;rw[hE];have hs:=hw;repeat' first|(with_reducible first|refine zz ?_|refine zr ?_)|simp -dsimp[hs]|refine zp c1 ?_|refine zq c2 ?_|refine zM 4 52 27 Qx ?_|with_reducible refine zE Qx ?_|refine i8 ?_ ?_<;>intro h<;>try exact h.elim
   all_goals simp[ld]
 ·have hE:=DI n lo hi h0;rw[hE];have hs:=h0;repeat' first|(with_reducible first|refine zz ?_|refine zr ?_|refine zE Qx ?_)|simp -dsimp[hs]|refine zp c1 ?_|refine i8 ?_ ?_<;>intro h<;>try exact h.elim
  all_goals simp[ld]
end Go.Proofs
namespace Go.Ab
open Go
theorem Bk {i n:Nat} (h:i<n) (F:Nat->Q4) (R:List DObj):(G0 F n++R)[4*i+1]?=some (F i).2.1:=by
 rw[List.getElem?_append_left (by simp;omega),js F (by omega) h];rfl
theorem Bj {i n:Nat} (h:i<n) (F:Nat->Q4) (R:List DObj):(G0 F n++R)[4*i+3]?=some (F i).2.2.2:=by
 rw[List.getElem?_append_left (by simp;omega),js F (by omega) h];rfl
theorem Bl {i n:Nat} (h:i<n) (F:Nat->Q2) (R:List DObj):(J5 F n++R)[2*i+1]?=some (F i).2:=by
 rw[List.getElem?_append_left (by simp;omega),oB F (by omega) h];rfl
theorem px {α β:Type} {f:α->Option β}:∀ {l:List α} {r:List β},l.length=r.length->(∀ (i:Nat) (x:α),l[i]?=some x->f x=r[i]?)->E9 f l=some r
 | [],[],_,_=>rfl
 | [],_ :: _,h,_=>by simp at h
 | _ :: _,[],h,_=>by simp at h
 | x :: l,y :: r,h,h2=>by
   have h0:=h2 0 x rfl;have h1:=px (f:=f) (l:=l) (r:=r) (by simpa using h) (λi z hz=>by simpa using h2 (i+1) z (by simpa using hz));simp only[List.getElem?_cons_zero] at h0;simp only[E9,h0,h1]
theorem ii {k o g len sz:Nat} {nl:Bool} {objs:List DObj} {es:List (List DC)} {L:List (List IC)} (ho:objs[o]?=some (.vec sz es g nl)) (hl:es.length=len) (h:E9 (E9 (frz k 0 objs)) es=some L):frz (k+1) 0 objs (.vec o g 0 len)=some (.sl L):=by
 subst hl;simp only[frz,ho,Nat.zero_le,if_true,Nat.zero_add,Nat.le_refl,and_self,List.drop_zero,List.take_length,h,Option.map_some]
theorem eN {o g len sz:Nat} {nl:Bool} {objs:List DObj} {es:List (List DC)} {L:List (List IC)} (ho:objs[o]?=some (.vec sz es g nl)) (hl:es.length=len) (h:E9 (E9 (frz 19 0 objs)) es=some L):fz 0 objs (.vec o g 0 len)=.im (.sl L):=by
 simp only[fz,DC.lt,ii ho hl h];simp
theorem GR {s:Nat} {m:CH} {c:Case} {objs:List DObj} (h1:objs[9+s]?=some (.vec 5 (bT (uv s) m.2.1 c.p.n.reg.length c.p.n.reg) m.1.1.1 m.1.1.2)) (h2:objs[11+s]?=some (.vec 10 (l5 (c.p.n.notes.map l6)) m.1.2.1 m.1.2.2))
 (h3:objs[4*c.p.n.reg.length+(13+s)]?=some (.vec 4 (bW (uw c.p.n.reg.length s) m.2.2.2.1 c.p.holders.length c.p.holders) m.2.2.1.1.1 m.2.2.1.1.2)) (h4:objs[4*c.p.n.reg.length+(15+s)]?=some (.vec 7 (l5 (c.p.prints.map A4)) m.2.2.1.2.1 m.2.2.1.2.2))
 (h5:objs[4*c.p.n.reg.length+2*c.p.holders.length+(17+s)]?=some (.vec 3 (l5 (c.loop.links.map G9)) m.2.2.2.2.1.1 m.2.2.2.2.1.2)) (h6:objs[4*c.p.n.reg.length+2*c.p.holders.length+(19+s)]?=some (.vec 4 (l5 (c.pieces.map w5)) m.2.2.2.2.2.1 m.2.2.2.2.2.2))
 (hA:∀ (k:Nat) (x:Issue),c.p.n.reg[k]?=some x->objs[4*k+(13+s)]?=some (.vec 2 (l5 (x.items.map B1)) (m.2.1 k).1.1 (m.2.1 k).1.2)/\objs[4*k+(15+s)]?=some (.vec 3 (l5 (x.dims.map F0)) (m.2.1 k).2.1 (m.2.1 k).2.2))
 (hB:∀ (k:Nat) (x:Holder),c.p.holders[k]?=some x->objs[4*c.p.n.reg.length+2*k+(17+s)]?=some (.vec 1 (l5 (x.draws.map Ab.encI)) (m.2.2.2.1 k).1 (m.2.2.2.1 k).2)):(pW s m c).map (fz 0 objs)=(j4 c).map .im:=by
 have e1:E9 (E9 (frz 19 0 objs)) (bT (uv s) m.2.1 c.p.n.reg.length c.p.n.reg)=some (c.p.n.reg.map e9):=by
  refine px (by simp) λi r hr=>?_;simp only[bT,List.getElem?_mapIdx,Option.map_eq_some_iff] at hr;obtain⟨x,hx,rfl⟩:=hr;rw[List.getElem?_map,hx];obtain⟨a1,a2⟩:=hA i x hx;have b1:=ii (k:=18) (len:=x.items.length) a1 (by simp[l5]) (T1 _ _ _ _);have b2:=ii (k:=18) (len:=x.dims.length) a2 (by simp[l5]) (T1 _ _ _ _);have hlt:=e7 hx;have f1:∀ c:IC,frz 19 0 objs (.im c)=some c:=λ_=>rfl;simp only[tR,if_pos hlt,E9,f1,uv,b1,b2,Option.map_some,e9]
 have e2:E9 (E9 (frz 19 0 objs)) (bW (uw c.p.n.reg.length s) m.2.2.2.1 c.p.holders.length c.p.holders)=some (c.p.holders.map o6):=by
  refine px (by simp) λi r hr=>?_;simp only[bW,List.getElem?_mapIdx,Option.map_eq_some_iff] at hr;obtain⟨x,hx,rfl⟩:=hr;rw[List.getElem?_map,hx];have b1:=ii (k:=18) (len:=x.draws.length) (hB i x hx) (by simp[l5]) (T1 _ _ _ _);have hlt:=e7 hx;have f1:∀ c:IC,frz 19 0 objs (.im c)=some c:=λ_=>rfl;simp only[tW,if_pos hlt,E9,f1,uw,b1,Option.map_some,o6]
 simp only[pW,List.map_cons,List.map_nil,j4];rw[eN h1 (by simp) e1,eN h2 (by simp[l5]) (T1 _ _ _ _),eN h3 (by simp) e2,eN h4 (by simp[l5]) (T1 _ _ _ _),eN h5 (by simp[l5]) (T1 _ _ _ _),eN h6 (by simp[l5]) (T1 _ _ _ _)];rfl
end Go.Ab
namespace Go.Proofs
open Go Go.Ab Tryz
variable {G:LI}
attribute [simp] r9 cX O1 iG v6 A8 nilV K0 ZK
theorem pB (c:Case) (s:Susp) (w:Int) (h1:0<=s.kind/\s.kind<=255) (hG:o3 G) (hN:E0 G) (hS:u4 G) (hR:w0 G) (hC:J0 G) (hK:cF G) (hk:KC c):zP prog G 30 [l7 c,C3 s,sN w] (bv (decide (mq c s=0)&&decide (mo c s=w))):=by
 refine zf func30 ntmps30 ?_;try simp only[sN]
 have c1:=Cf (G:=G) c s h1 hG hN hS hR hC hK hk;generalize mo c s=A at *;generalize mq c s=B at *;simp only[l7,j4,C3,j5,rI,List.map_cons,List.map_nil] at c1 ⊢;have hs:=trivial;repeat' first|(with_reducible first|refine zz ?_|refine zr ?_|refine zE [0,1,2,3,4,6,7,8] ?_)|simp -dsimp[hs]|refine zp c1 ?_|with_reducible refine j0 ?_ ?_<;>intro h<;>have h0:=h<;>(try simp only[i7] at h)<;>have h2:=h<;>(try simp at h2)<;>replace hs:=za h0 (za h (za h2 hs))
 all_goals simp
theorem Ek (m:CH) (c:Case) (lo hi:Int):(pW 9 m c).map (fz 0 (yX 0 m c lo hi))=(j4 c).map .im:=by
 refine GR (s:=9) (m:=m) (c:=c) ?_ ?_ ?_ ?_ ?_ ?_ ?_ ?_
 ·simp[yX,rL]
 ·simp[yX,rL]
 ·simp[yX,rL]
 ·simp[yX,rL]
 ·simp[yX,rL]
 ·simp[yX,rL]
 ·intro k x hx;have hlt:=e7 hx;have a1:=Bk hlt;have a3:=Bj hlt;simp[yX,rL,a1,a3,kx,hx]
 ·intro k x hx;have hlt:=e7 hx;have a1:=Bl hlt;simp[yX,rL,a1,mw,hx]
theorem Ce (c:Case) (n lo hi:Int) (hG:o3 G) (hN:E0 G) (hS:u4 G) (hR:w0 G) (hk:KC c) (objs:List DObj):DCall prog G 27 [l7 c,iv n,D9 lo hi] objs (λd objs'=>d=.tup [l7 (Gu c n lo hi),iv (qj c n lo hi)]/\objs'=objs):=by
 by_cases h:qj c n lo hi=0
 ·obtain⟨he,k,x,rfl,hx0,hin⟩:=DG h;rw[DF h hx0,h];refine DCall.frame ?_ (by simp) (by simp) objs;refine(Cc (G:=G) c k x lo hi hx0 he hin hG hN hS hR hk).mono ?_;rintro d o ⟨m,_,rfl,rfl⟩;have:=Ek m (DJ c k x lo hi) lo hi;simp only[fU,fzVL,this];rfl
 ·rw[Gt h];exact Cd (G:=G) c n lo hi h hG hN hS hR hk objs
theorem yg:ki boltP:=by
 refine⟨?_,?_⟩
 ·exact⟨by decide,by decide⟩
 ·intro x hx;simp only[boltP,List.mem_cons,List.not_mem_nil,or_false] at hx;rcases hx with rfl|rfl|rfl|rfl<;>exact⟨by decide,by decide⟩
theorem uD:cu boltC=true:=by decide +kernel
theorem uE:v7 boltP.n=0:=by decide +kernel
theorem yf:nums boltP.n.reg=[1,2,3]:=by decide +kernel
theorem sc:PrintsOk boltP:=by
 refine⟨by decide,by decide,λi x hx=>?_,λi x hx=>?_⟩
 ·rw[yf];have h:=List.getElem?_eq_some_iff.1 hx;obtain⟨h1,h2⟩:=h;have h1':i<2:=h1;rcases i with _|_|i
  ·cases hx;refine⟨by unfold JM;simp,λk d hd=>?_⟩;rcases k with _|_|k
   ·cases hd;exact⟨by decide,by simp⟩
   ·cases hd;exact⟨by decide,λ_ e he=>by cases he;decide⟩
   ·exact absurd hd (by simp)
  ·cases hx;refine⟨?_,λk d hd=>?_⟩
   ·refine⟨by decide,λ_ y hy=>?_,by decide,by decide,by decide,by decide⟩;cases hy;decide
   ·rcases k with _|k
    ·cases hd;exact⟨by decide,by simp⟩
    ·exact absurd hd (by simp)
  ·omega
 ·obtain⟨h1,h2⟩:=List.getElem?_eq_some_iff.1 hx;have h1':i<4:=h1;rcases i with _|_|_|_|i
  ·cases hx;exact⟨by simp,λc hc=>by rcases c with _|_|_|_|_|c<;>first|decide +kernel|omega⟩
  ·cases hx;exact⟨λ_ y hy=>by cases hy;decide,λc hc=>by rcases c with _|_|_|_|_|c<;>first|decide +kernel|omega⟩
  ·cases hx;exact⟨λ_ y hy=>by cases hy;decide,λc hc=>by rcases c with _|_|_|_|_|c<;>first|decide +kernel|omega⟩
  ·cases hx;exact⟨λ_ y hy=>by cases hy;decide,λc hc=>by rcases c with _|_|_|_|_|c<;>first|decide +kernel|omega⟩
  ·omega
theorem iO:u3 boltP=0:=by
 unfold u3;rw[if_neg (by rw[uE];decide),if_pos (dG sc)]
theorem W1:p9 boltC=0:=by
 unfold p9;rw[if_neg (by rw[show boltC.p=boltP from rfl,iO];decide),if_pos (by decide +kernel)]
theorem bolt_k:uP boltC/\KC boltC:=CE yg uD
theorem rZ:bG boltC=(15,17):=by
 unfold bG;rw[if_pos W1];decide +kernel
theorem oT:cZ boltC=0:=by
 unfold cZ;rw[if_pos W1,rZ];decide +kernel
theorem N2:J2 boltC=0:=by
 unfold J2;rw[if_neg (by rw[W1];decide),if_neg (by rw[oT];decide)]
theorem mM (d i w:Int) (hd:ut d 1=true) (h:(boltP.holders.any λy=>decide (y.id=i))=true/\w∈nums boltP.n.reg):O3 boltP d 1 i w=0:=by
 unfold O3 J1;rw[if_neg,if_pos h];rw[if_neg (by rw[iO];decide),if_pos hd];decide
theorem vH {l r:List Int} (hp:l.Perm r) (hs:r.Pairwise (·<=·)):j8 l=r:=
 List.Perm.eq_of_pairwise (λa b _ _ h1 h2=>by omega) (pF l) hs (((List.mergeSort_perm l _)).trans hp)
theorem mL:C6 boltC 0=[1,2]:=by
 show P6 boltP 20 2 2=_;unfold P6;rw[if_pos (mM 20 2 2 (by decide) (by decide +kernel))];unfold bj;have e:j8 (ar 20 2 2 boltP.prints++[bF 20 2 2 boltP.prints])=[1,2]:=vH (by decide +kernel) (by decide +kernel);rw[e];decide +kernel
theorem mK:C6 boltC 1=[1]:=by
 show P6 boltP 20 1 3=_;unfold P6;rw[if_pos (mM 20 1 3 (by decide) (by decide +kernel))];unfold bj;have e:j8 (ar 20 1 3 boltP.prints++[bF 20 1 3 boltP.prints])=[1]:=vH (by decide +kernel) (by decide +kernel);rw[e];decide +kernel
theorem oS:j8 (j7 boltP.n.notes)=[]:=by decide +kernel
theorem EI:kL boltC []=false:=by decide +kernel
theorem EK:jq boltC [] 0=[(true,false),(false,true)]:=by
 show (C6 boltC 0).foldl (H5 boltC ⟨2,0,false⟩ ⟨2,20,106,107⟩ (Y7 boltC [] 2)) []=_;rw[mL];decide +kernel
theorem EJ:jq boltC [] 1=[(false,false)]:=by
 show (C6 boltC 1).foldl (H5 boltC ⟨3,0,true⟩ ⟨1,20,90,91⟩ (Y7 boltC [] 3)) []=_;rw[mK];decide +kernel
def iP:Desk:=⟨boltC,false,[[(true,false),(false,true)],[(false,false)]]⟩
theorem oU:B9 boltC []=iP:=by
 unfold B9 iP;rw[EI,show (List.range boltC.pieces.length).map (jq boltC [])=[jq boltC [] 0,jq boltC [] 1] from rfl,EK,EJ]
theorem aN:n7 boltC=[iP]:=by
 unfold n7;rw[show boltC.p=boltP from rfl,oS,show H9 ([]:List Int)=[[]] by decide +kernel];simp[oU]
theorem bolt_sus:lC boltC 2=[]/\lC boltC 1=[⟨2,0⟩,⟨3,0⟩]:=by
 unfold lC HT Ft;rw[if_pos N2,if_pos N2,aN];decide +kernel
theorem BS:jF boltC=[⟨2,0⟩,⟨3,0⟩]:=by
 unfold jF yp;rw[if_pos N2,aN];decide +kernel
theorem BQ:kB boltC=[⟨2,0⟩]:=by
 unfold kB;rw[if_pos N2,aN];decide +kernel
theorem BR:ny boltC=(1,1):=by
 unfold ny;rw[if_pos N2,aN];decide +kernel
theorem eo (k:Nat) (h:k<2):Z9 boltC k=0/\kw boltC k=C6 boltC k:=by
 have e:Z9 boltC k=0:=by
  unfold Z9;rw[if_neg (by rw[W1];decide),if_pos ⟨by omega,by show (k:Int)<((2:Nat):Int);omega⟩]
 exact⟨e,by unfold kw;rw[if_pos e];rfl⟩
theorem bolt_clr:nA boltC 1=0/\pZ boltC 1=(90,91):=by
 have e0:=(eo 1 (by decide)).1;have e:mJ boltC 1=(90,91):=by
  show (kw boltC ((1:Nat):Int)).foldl (K6 boltC ⟨3,0,true⟩) (90,91)=_;rw[(eo 1 (by decide)).2,mK];decide +kernel
 have e1:nA boltC 1=0:=by
  unfold nA;rw[if_neg (by rw[show (1:Int)=((1:Nat):Int) from rfl,e0];decide),e];decide
 exact⟨e1,by unfold pZ;rw[if_pos e1,e]⟩
theorem W0 (s:Susp) (h:sG 2 s=true):mq boltC s=0/\mo boltC s=L9 [iP] s:=by
 have e:mq boltC s=0:=by
  unfold mq;rw[if_neg (by rw[N2];decide),if_pos (show sG boltC.pieces.length s=true from h)]
 exact⟨e,by unfold mo;rw[if_pos e,aN]⟩
theorem sd (s:Susp) (h:sG 2 s=true):md boltC [] s=0/\jm boltC [] s=L9 [iP] s:=by
 have e:md boltC [] s=0:=by
  unfold md;rw[if_neg (by rw[N2];decide),if_neg (by rw[show boltC.p=boltP from rfl,oS];decide),if_pos (show sG boltC.pieces.length s=true from h)]
 exact⟨e,by unfold jm;rw[if_pos e,oU]⟩
def FA:Case:={ boltC with pieces:=[⟨2,20,107,107⟩,⟨1,20,90,91⟩] }
theorem bolt_ms:qj boltC 0 107 107=0/\Gu boltC 0 107 107=FA:=by
 have e0:=(eo 0 (by decide)).1;have e1:qj boltC 0 107 107=0:=by
  unfold qj;rw[if_neg (by rw[show (0:Int)=((0:Nat):Int) from rfl,e0];decide)];rfl
 exact⟨e1,by unfold Gu;rw[if_pos e1];rfl⟩
@[simp] abbrev WL:List Nat:=[0,1,2,3,4,5,6,7,8,9,10,11,12,13,14,15,16,17,18,19,20,21,22,148]
set_option maxRecDepth 10000 in
theorem EQ (hG:o3 G) (hN:E0 G) (hS:u4 G) (hU:X0 G) (hR:w0 G) (hC:J0 G) (hK:cF G) (hF:kA G):zP prog G 8 [] (bv true):=by
 refine zf func8 ntmps8 ?_;try simp only[iv]
 have hk:=bolt_k.2;have c0:=Hq (G:=G);have c1:=Cb (G:=G) boltC hG hN hS hR hk;have c2:=vX (G:=G) boltC hG hN hS hR hk;have c3:=mQ (G:=G) boltC 0 hG hN hS hR hk;have c4:=se (G:=G) boltC hG hN hS hU hR hC hK hk;have c5:=sf (G:=G) boltC hG hN hS hU hR hC hF hk;have c6:=oY (G:=G) boltC hG hN hS hU hR hC hF hk;have c7:=Cg (G:=G) boltC hG hN hS hU hR hC hF hk;have c8:=Ch (G:=G) boltC 1 hG hN hS hR hk;have c9:=Ce (G:=G) boltC 0 107 107 hG hN hS hR hk;have c10:=Hs (G:=G) boltC [] ⟨2,0⟩ (by decide) (by decide) hG hN hS hR hC hK hk;rw[rZ,W1] at c1;rw[oT,W1] at c2;rw[show (0:Int)=((0:Nat):Int) from rfl,(eo 0 (by decide)).1,(eo 0 (by decide)).2,mL] at c3;rw[bolt_sus.1,bolt_sus.2,N2] at c4;rw[BS,N2] at c5;rw[BQ,N2] at c6;rw[BR,N2] at c7;rw[bolt_clr.1,bolt_clr.2] at c8;rw[bolt_ms.1,bolt_ms.2] at c9;rw[(sd ⟨2,0⟩ (by decide)).1,(sd ⟨2,0⟩ (by decide)).2,show L9 [iP] ⟨2,0⟩=1 by decide] at c10;have d1:=pB (G:=G) boltC ⟨1,0⟩ 0 (by decide) hG hN hS hR hC hK hk;have d2:=pB (G:=G) boltC ⟨3,0⟩ 1 (by decide) hG hN hS hR hC hK hk;have d3:=pB (G:=G) boltC ⟨2,1⟩ 0 (by decide) hG hN hS hR hC hK hk;rw[(W0 ⟨1,0⟩ (by decide)).1,(W0 ⟨1,0⟩ (by decide)).2,show L9 [iP] ⟨1,0⟩=0 by decide] at d1;rw[(W0 ⟨3,0⟩ (by decide)).1,(W0 ⟨3,0⟩ (by decide)).2,show L9 [iP] ⟨3,0⟩=1 by decide] at d2;rw[(W0 ⟨2,1⟩ (by decide)).1,(W0 ⟨2,1⟩ (by decide)).2,show L9 [iP] ⟨2,1⟩=0 by decide] at d3;simp only[decide_true,Bool.and_self] at d1 d2 d3;have s0:=zm (G:=G);have s1:=ph (G:=G) 0;have s2:=ph (G:=G) 1;have s3:=sS (G:=G) 0;have p1:=fD (G:=G) 15 17;have p2:=fD (G:=G) 90 91;have p3:=fD (G:=G) 107 107;have p4:=fD (G:=G) 1 1;have q1:=sZ (G:=G) [1,2] [1,2] (by simp);simp only[decide_true] at q1;have q2:=nT (G:=G) [⟨2,0⟩,⟨3,0⟩] (by simp);have q3:=nT (G:=G) [⟨2,0⟩] (by simp);simp only[l7,C3,j5,A3,D9,sN,q9,Ab.encI,rI,List.map_cons,List.map_nil,Int.natCast_zero] at *;obtain⟨m1,m2,m3,m4,m5,m6,m7,m8,m9,hM⟩:∃ m1 m2 m3 m4 m5 m6 m7 m8 m9,(j4 FA).map DC.im=[.im m1,.im m2,.im m3,.im m4,.im m5,.im m6,.im m7,.im m8,.im m9,.im (.sl ([⟨2,20,107,107⟩,⟨1,20,90,91⟩].map w5))]:=⟨_,_,_,_,_,_,_,_,_,rfl⟩
 rw[hM] at c9;obtain⟨X,hX⟩:∃ X,j4 boltC=X:=⟨_,rfl⟩
 have hXf:∃ a b c d e f g h i j,X=[a,b,c,d,e,f,g,h,i,j]:=⟨_,_,_,_,_,_,_,_,_,_,hX.symm⟩
 obtain⟨x1,x2,x3,x4,x5,x6,x7,x8,x9,x10,rfl⟩:=hXf;rw[hX] at c0 c1 c2 c3 c4 c5 c6 c7 c8 c9 c10 d1 d2 d3;simp only[w5,rI,List.map_cons,List.map_nil] at *;repeat' first|(with_reducible first|refine zz ?_|refine zx ?_)|simp -dsimp|refine zp c0 ?_|refine zp c1 ?_|refine zp c2 ?_|refine zp c3 ?_|refine zp c4 ?_|refine zp c5 ?_|refine zp c6 ?_|refine zp c7 ?_|refine zp c8 ?_|refine zp c9 ?_|refine zp c10 ?_|refine zp s1 ?_|refine zp s3 ?_|refine zp p3 ?_|refine zq q1 ?_|refine zq d1 ?_|refine zq d2 ?_|refine zq d3 ?_|refine zq p1 ?_|refine zq p2 ?_|refine zq p3 ?_|refine zq p4 ?_|refine zq s0 ?_|refine zq s2 ?_|refine zq s3 ?_|refine zq c0 ?_|refine QCall.thaw (q2) ?_ ?_ ?_;(focus simp;done);(focus simp;done)|refine QCall.thaw (q3) ?_ ?_ ?_;(focus simp;done);(focus simp;done)|refine zM 12 198 70 WL ?_|refine zM 14 198 50 WL ?_|with_reducible refine zE WL ?_|refine i8 ?_ ?_<;>intro h<;>try exact h.elim
end Go.Proofs
namespace Go.Proofs
open Go Go.Ab
def bN (b:Bool):Nat:=if b=true then 1 else 0
def eg (f:F4):Nat:=bN f.1+bN f.2
theorem oV {L:List F4} {f:F4} (h:f∈L):eg (R2 L)<=eg f:=by
 have h1:=jE L f h;generalize R2 L=g at *;obtain⟨a,b⟩:=f;obtain⟨x,y⟩:=g;revert h1;cases a<;>cases b<;>cases x<;>cases y<;>decide
def iH (f:Nat->F4):Nat->Nat
 | 0=>0
 | n+1=>iH f n+eg (f n)
def V3 (b:Bool) (f:Nat->F4) (n:Nat):List Susp:=cY b (λi=>(f i).1) (λi=>(f i).2) n
theorem vB (b:Bool) (f:Nat->F4):∀ n,(X6 b (λi=>(f i).1) (λi=>(f i).2) n).length=bN b+iH f n
 | 0=>by unfold X6 bN;cases b<;>rfl
 | n+1=>by
   rw[eJ,List.length_append,vB b f n,List.length_append,cJ,cJ];show _=bN b+(iH f n+(bN _+bN _));unfold bN;omega
theorem gE (b:Bool) (f:Nat->F4) (n:Nat):(V3 b f n).length=bN b+iH f n:=by
 rw[V3,(H4 _ _ _ _).length_eq,vB]
theorem gf {f g:Nat->F4}:∀ {n},(∀ i,i<n->eg (f i)<=eg (g i))->iH f n<=iH g n
 | 0,_=>Nat.le_refl _
 | n+1,h=>Nat.add_le_add (gf λi hi=>h i (Nat.lt_succ_of_lt hi)) (h n (Nat.lt_succ_self n))
theorem rM {f g:Nat->F4}:∀ {n},(∀ i,i<n->eg (f i)<=eg (g i))->iH f n=iH g n->∀ i,i<n->eg (f i)=eg (g i)
 | n+1,h,he,i,hi=>by
   have h1:=gf (n:=n) λi hi=>h i (Nat.lt_succ_of_lt hi);have h2:=h n (Nat.lt_succ_self n);simp only[iH] at he;rcases Nat.lt_succ_iff_lt_or_eq.1 hi with h3|rfl
   ·exact rM (λi hi=>h i (Nat.lt_succ_of_lt hi)) (by omega) i h3
   ·omega
def ET (d:Desk) (f:Nat->F4):Prop:=∀ i,i<d.faults.length->f i∈d.faults.getD i []
def oW (d:Desk) (i:Nat):F4:=R2 (d.faults.getD i [])
theorem rt (d:Desk):N9 d=V3 d.notes (oW d) d.faults.length:=rfl
theorem xI {d:Desk} {f:Nat->F4} (h:ET d f):(N9 d).length<=(V3 d.notes f d.faults.length).length:=by
 rw[rt,gE,gE];have:=gf (f:=oW d) (g:=f) (n:=d.faults.length) λi hi=>oV (h i hi);omega
theorem selS_mem {b:Bool} {f:Nat->F4} {n:Nat} {s:Susp}:s∈V3 b f n↔(b=true/\s=⟨1,0⟩)\/(∃ i,i<n/\(f i).1=true/\s=ah i)\/(∃ i,i<n/\(f i).2=true/\s=aT i):=listS_mem
theorem fE (b:Bool) (f:Nat->F4) (n:Nat):(V3 b f n).Pairwise N3:=Z8 _ _ _ _
theorem qA {b:Bool} {f:Nat->F4} {n:Nat} {s:Susp} (h:s∈V3 b f n):s∈aR n:=by
 rcases selS_mem.1 h with⟨_,rfl⟩|⟨i,hi,_,rfl⟩|⟨i,hi,_,rfl⟩
 ·exact listS_mem.2 (.inl ⟨rfl,rfl⟩)
 ·exact listS_mem.2 (.inr (.inl ⟨i,hi,rfl,rfl⟩))
 ·exact listS_mem.2 (.inr (.inr ⟨i,hi,rfl,rfl⟩))
theorem nX (a b:Susp):J4 a b=-(J4 b a):=by
 unfold J4 O4 O4 O4;repeat' split
 all_goals omega
theorem Dr {a b c:Susp} (h1:J4 a b<=0) (h2:J4 b c<=0):J4 a c<=0/\(J4 a c=0->J4 a b=0/\J4 b c=0):=by
 unfold J4 O4 O4 O4 at *;repeat' split at h1
 all_goals repeat' split at h2
 all_goals repeat' split
 all_goals omega
theorem mH:∀ a b:List Susp,E8 a b=-(E8 b a)
 | [],[]=>rfl
 | [],_ :: _=>rfl
 | _ :: _,[]=>rfl
 | a :: x,b :: y=>by
   have h1:=nX a b;simp only[E8];by_cases h:J4 a b=0
   ·have h':J4 b a=0:=by omega
    rw[if_neg (by simp[h]),if_neg (by simp[h'])];exact mH x y
   ·have h':¬ J4 b a=0:=by omega
    rw[if_pos h,if_pos h'];exact h1
theorem rP:∀ {a b c:List Susp},E8 a b<=0->E8 b c<=0->E8 a c<=0
 | [],_,[],_,_=>by simp[E8]
 | [],_,_ :: _,_,_=>by simp[E8]
 | _ :: _,[],_,h,_=>by simp[E8] at h
 | _ :: _,_ :: _,[],_,h=>by simp[E8] at h
 | a :: x,b :: y,d :: z,h1,h2=>by
   simp only[E8] at h1 h2 ⊢;have hp:=@Dr a b d;by_cases e1:J4 a b=0
   ·rw[if_neg (by simp[e1])] at h1;by_cases e2:J4 b d=0
    ·rw[if_neg (by simp[e2])] at h2;obtain⟨p1,p2⟩:=hp (by omega) (by omega);have e3:J4 a d=0:=by rw[jg] at *;rw[e1,e2]
     rw[if_neg (by simp[e3])];exact rP h1 h2
    ·rw[if_pos e2] at h2;obtain⟨p1,p2⟩:=hp (by omega) h2;have:J4 a d≠0:=λe=>e2 (p2 e).2;rw[if_pos this];exact p1
   ·rw[if_pos e1] at h1;have h2':J4 b d<=0:=by
     by_cases e2:J4 b d=0
     ·omega
     ·rwa [if_pos e2] at h2
    obtain⟨p1,p2⟩:=hp h1 h2';have:J4 a d≠0:=λe=>e1 (p2 e).1;rw[if_pos this];exact p1
theorem jC (a b:List Susp):Y4 a b=-(Y4 b a):=by
 have:=mH a b;unfold Y4 O4 O4 O4;repeat' split
 all_goals omega
theorem kf {a b:List Susp}:Y4 a b<=0↔a.length<b.length\/(a.length=b.length/\E8 a b<=0):=by
 unfold Y4 O4 O4 O4;repeat' split
 all_goals omega
theorem pY {a b c:List Susp} (h1:Y4 a b<=0) (h2:Y4 b c<=0):Y4 a c<=0:=by
 rw[kf] at *;rcases h1 with h1|⟨h1,g1⟩<;>rcases h2 with h2|⟨h2,g2⟩
 ·exact .inl (by omega)
 ·exact .inl (by omega)
 ·exact .inl (by omega)
 ·exact .inr ⟨by omega,rP g1 g2⟩
theorem jB (a:List Susp):Y4 a a<=0:=by have:=jC a a;omega
theorem qO:∀ (r:List (List Susp)) (x:List Susp),(r.foldl P7 x=x\/r.foldl P7 x∈r)/\Y4 (r.foldl P7 x) x<=0/\∀ y∈r,Y4 (r.foldl P7 x) y<=0
 | [],x=>⟨.inl rfl,jB x,by simp⟩
 | z :: r,x=>by
   rw[List.foldl_cons];obtain⟨h1,h2,h3⟩:=qO r (P7 x z);have ha:=jC z x;have hs:(P7 x z=x\/P7 x z=z)/\Y4 (P7 x z) x<=0/\Y4 (P7 x z) z<=0:=by
    unfold P7;split
    ·exact⟨.inr rfl,by omega,jB z⟩
    ·exact⟨.inl rfl,jB x,by omega⟩
   refine⟨?_,pY h2 hs.2.1,λy hy=>?_⟩
   ·rcases h1 with h1|h1
    ·rcases hs.1 with e|e
     ·exact .inl (h1.trans e)
     ·exact .inr (by rw[h1,e];exact List.mem_cons_self)
    ·exact .inr (List.mem_cons_of_mem _ h1)
   ·rcases List.mem_cons.1 hy with rfl|hy
    ·exact pY h2 hs.2.2
    ·exact h3 y hy
theorem oa {L:List (List Susp)} (h:L≠[]):mc L∈L/\∀ y∈L,Y4 (mc L) y<=0:=by
 cases L with
 | nil=>exact absurd rfl h
 | cons x r =>
   obtain⟨h1,h2,h3⟩:=qO r x;refine⟨?_,λy hy=>?_⟩
   ·rcases h1 with h1|h1
    ·show r.foldl P7 x∈_;rw[h1];exact List.mem_cons_self
    ·exact List.mem_cons_of_mem _ h1
   ·rcases List.mem_cons.1 hy with rfl|hy
    ·exact h2
    ·exact h3 y hy
theorem oh:∀ {A B:List Susp},A.Pairwise N3->B.Pairwise N3->A.length=B.length->(∀ x∈B,x∉A->∃ y∈A,y∉B/\N3 y x)->E8 A B<=0
 | [],[],_,_,_,_=>by simp[E8]
 | [],_ :: _,_,_,h,_=>by simp at h
 | _ :: _,[],_,_,h,_=>by simp at h
 | a :: A,b :: B,hA,hB,hl,h=>by
   rw[List.pairwise_cons] at hA hB;simp only[E8];by_cases e:J4 a b=0
   ·rw[if_neg (by simp[e])];rw[jg] at e;subst e;refine oh hA.2 hB.2 (by simpa using hl) λx hx hn=>?_;have hax:=hB.1 x hx;have hne:x≠a:=λe=>by subst e;unfold N3 at hax;omega
    obtain⟨y,h1,h2,h3⟩:=h x (List.mem_cons_of_mem _ hx) (by simp[hne,hn]);rcases List.mem_cons.1 h1 with rfl|h1
    ·simp at h2
    ·exact⟨y,h1,λh=>h2 (List.mem_cons_of_mem _ h),h3⟩
   ·rw[if_pos e];apply Int.not_lt.1
    intro hgt;have hba:N3 b a:=(cz b a).1 (by have:=nX a b;omega);have hbn:b∉a :: A:=by
     intro hm;rcases List.mem_cons.1 hm with rfl|hm
     ·unfold N3 at hba;omega
     ·have:=hA.1 b hm;unfold N3 at *;omega
    obtain⟨y,h1,_,h3⟩:=h b List.mem_cons_self hbn;rcases List.mem_cons.1 h1 with rfl|h1
    ·unfold N3 at *;omega
    ·have:=hA.1 y h1;unfold N3 at *;omega
theorem mO {L:List F4} {f:F4} (h:f∈L) (hc:eg f=eg (R2 L)):f=R2 L\/(f=(false,true)/\R2 L=(true,false)):=by
 have h1:=jE L f h;generalize R2 L=g at *;obtain⟨a,b⟩:=f;obtain⟨x,y⟩:=g;revert h1 hc;cases a<;>cases b<;>cases x<;>cases y<;>decide
theorem xJ {d:Desk} {f:Nat->F4} (h:ET d f):Y4 (N9 d) (V3 d.notes f d.faults.length)<=0:=by
 have hl:=xI h;rw[kf];rcases Nat.lt_or_eq_of_le hl with hl|hl
 ·exact .inl hl
 ·refine .inr ⟨hl,?_⟩;rw[rt] at hl ⊢;have hl2:=hl;rw[gE,gE] at hl2;have hc:=rM (f:=oW d) (g:=f) (n:=d.faults.length) (λi hi=>oV (h i hi)) (by omega);refine oh (fE _ _ _) (fE _ _ _) hl λx hx hn=>?_;rcases selS_mem.1 hx with⟨hd,rfl⟩|⟨i,hi,hf,rfl⟩|⟨i,hi,hf,rfl⟩
  ·exact absurd (selS_mem.2 (.inl ⟨hd,rfl⟩)) hn
  ·rcases mO (h i hi) (hc i hi).symm with e|⟨e,_⟩
   ·exact absurd (selS_mem.2 (.inr (.inl ⟨i,hi,by rw[show oW d i=f i from e.symm];exact hf,rfl⟩))) hn
   ·rw[e] at hf;exact absurd hf (by decide)
  ·rcases mO (h i hi) (hc i hi).symm with e|⟨e,e2⟩
   ·exact absurd (selS_mem.2 (.inr (.inr ⟨i,hi,by rw[show oW d i=f i from e.symm];exact hf,rfl⟩))) hn
   ·refine⟨ah i,selS_mem.2 (.inr (.inl ⟨i,hi,by rw[show oW d i=(true,false) from e2],rfl⟩)),λhm=>?_,.inl (by simp[ah,aT])⟩;rcases selS_mem.1 hm with⟨_,h⟩|⟨j,_,h1,h⟩|⟨j,_,_,h⟩
    ·cases h
    ·have:i=j:=by simp only[ah,Susp.mk.injEq,true_and] at h;omega
     subst this;rw[e] at h1;exact absurd h1 (by decide)
    ·cases h
theorem lK:∀ {A B:List Susp},A.Pairwise N3->B.Pairwise N3->(∀ x,x∈A↔x∈B)->A=B
 | [],[],_,_,_=>rfl
 | [],b :: B,_,_,h=>absurd ((h b).2 List.mem_cons_self) (by simp)
 | a :: A,[],_,_,h=>absurd ((h a).1 List.mem_cons_self) (by simp)
 | a :: A,b :: B,hA,hB,h=>by
   rw[List.pairwise_cons] at hA hB;have e:a=b:=by
    rcases List.mem_cons.1 ((h a).1 List.mem_cons_self) with e|h1
    ·exact e
    ·rcases List.mem_cons.1 ((h b).2 List.mem_cons_self) with e|h2
     ·exact e.symm
     ·have h3:=hB.1 a h1;have h4:=hA.1 b h2;unfold N3 at h3 h4;omega
   subst e;rw[lK hA.2 hB.2 λx=>?_];have hx:=h x;simp only[List.mem_cons] at hx;constructor
   ·intro h1;rcases hx.1 (.inr h1) with rfl|h2
    ·have:=hA.1 _ h1;unfold N3 at this;omega
    ·exact h2
   ·intro h1;rcases hx.2 (.inr h1) with rfl|h2
    ·have:=hB.1 _ h1;unfold N3 at this;omega
    ·exact h2
structure DkG (n:Nat) (D:List Desk):Prop where
 ne:D≠[]
 len:∀ d∈D,d.faults.length=n
 f:∀ d∈D,∀ x∈d.faults,x≠[]
 cause:∀ d∈D,∀ g,ET d g->V3 d.notes g n≠[]
def JS (n:Nat) (D:List Desk) (k:Int):List Susp:=(aR n).filter λs=>decide (L9 D s=k)
def EP (n:Nat) (D:List Desk):List Susp:=(aR n).filter λs=>D.any λd=>O2 d s
def Et (D:List Desk):List Susp:=mc (D.map N9)
def Ln (D:List Desk):Int:=tD (D.map λd=>((N9 d).length:Int))
def Lt (D:List Desk):Int:=tH (D.map dL)
variable {n:Nat} {D:List Desk}
theorem Ha (h:DkG n D):∃ d∈D,Et D=N9 d:=by
 have h1:=(oa (L:=D.map N9) (by simpa using h.ne)).1;obtain⟨d,hd,e⟩:=List.mem_map.1 h1;exact⟨d,hd,e.symm⟩
theorem GZ (h:DkG n D) {d:Desk} (hd:d∈D) {g:Nat->F4} (hg:ET d g):Y4 (Et D) (V3 d.notes g n)<=0:=by
 have h1:=(oa (L:=D.map N9) (by simpa using h.ne)).2 _ (List.mem_map_of_mem hd);have h2:=xJ hg;rw[h.len d hd] at h2;exact pY h1 h2
theorem Fj (s:Susp) (i:Nat):(U8 s i).1=true↔s=ah i:=by
 obtain⟨a,b⟩:=s;unfold U8 ah;simp only[Susp.mk.injEq];split
 ·rename_i h;simpa using h
 ·rename_i h;split<;>simp_all
theorem Fi (s:Susp) (i:Nat):(U8 s i).2=true↔s=aT i:=by
 obtain⟨a,b⟩:=s;unfold U8 aT;simp only[Susp.mk.injEq];split
 ·rename_i h;simp;omega
 ·rename_i h;split<;>simp_all
theorem JE {d:Desk} (hl:d.faults.length=n) {s:Susp} (hs:s∈aR n) (ha:O2 d s=true):ET d (U8 s)/\V3 d.notes (U8 s) n=[s]:=by
 unfold O2 at ha;simp only[Bool.and_eq_true,List.all_eq_true,List.mem_range,decide_eq_true_eq,beq_iff_eq] at ha;obtain⟨h1,h2⟩:=ha;refine⟨λi hi=>h1 i hi,lK (fE _ _ _) (List.pairwise_singleton _ _) λx=>?_⟩;rw[selS_mem,List.mem_singleton,h2];have hw1:=Fj s;have hw2:=Fi s;constructor
 ·rintro (⟨h,rfl⟩|⟨i,_,h,rfl⟩|⟨i,_,h,rfl⟩)
  ·rw[decide_eq_true_eq] at h;rcases listS_mem.1 hs with⟨_,rfl⟩|⟨i,_,_,rfl⟩|⟨i,_,_,rfl⟩
   ·rfl
   ·exact absurd h (by simp[ah])
   ·exact absurd h (by simp[aT])
  ·exact((hw1 i).1 h).symm
  ·exact((hw2 i).1 h).symm
 ·rintro rfl;rcases listS_mem.1 hs with⟨_,rfl⟩|⟨i,hi,_,rfl⟩|⟨i,hi,_,rfl⟩
  ·exact .inl ⟨rfl,rfl⟩
  ·exact .inr (.inl ⟨i,hi,(hw1 i).2 rfl,rfl⟩)
  ·exact .inr (.inr ⟨i,hi,(hw2 i).2 rfl,rfl⟩)
theorem CZ {d:Desk} (hl:d.faults.length=n) {g:Nat->F4} (hg:ET d g) {s:Susp} (h:V3 d.notes g n=[s]):O2 d s=true:=by
 have hm:∀ x,x∈V3 d.notes g n↔x=s:=λx=>by rw[h,List.mem_singleton]
 have hs:s∈aR n:=qA ((hm s).2 rfl);unfold O2;simp only[Bool.and_eq_true,List.all_eq_true,List.mem_range,decide_eq_true_eq,beq_iff_eq];have h1:∀ i,i<n->((g i).1=true↔s=ah i):=λi hi=>by
  constructor
  ·exact λe=>((hm _).1 (selS_mem.2 (.inr (.inl ⟨i,hi,e,rfl⟩)))).symm
  ·rintro rfl;rcases selS_mem.1 ((hm _).2 rfl) with⟨_,h⟩|⟨j,_,h1,h⟩|⟨j,_,_,h⟩
   ·cases h
   ·have:i=j:=by simp only[ah,Susp.mk.injEq,true_and] at h;omega
    subst this;exact h1
   ·cases h
 have h2:∀ i,i<n->((g i).2=true↔s=aT i):=λi hi=>by
  constructor
  ·exact λe=>((hm _).1 (selS_mem.2 (.inr (.inr ⟨i,hi,e,rfl⟩)))).symm
  ·rintro rfl;rcases selS_mem.1 ((hm _).2 rfl) with⟨_,h⟩|⟨j,_,_,h⟩|⟨j,_,h1,h⟩
   ·cases h
   ·cases h
   ·have:i=j:=by simp only[aT,Susp.mk.injEq,true_and] at h;omega
    subst this;exact h1
 refine⟨λi hi=>?_,?_⟩
 ·rw[hl] at hi;have e:U8 s i=g i:=by
   have a1:=(Fj s i).trans (h1 i hi).symm;have a2:=(Fi s i).trans (h2 i hi).symm;exact Prod.ext (Bool.eq_iff_iff.2 a1) (Bool.eq_iff_iff.2 a2)
  rw[e];exact hg i (by omega)
 ·rcases listS_mem.1 hs with⟨_,rfl⟩|⟨i,hi,_,rfl⟩|⟨i,hi,_,rfl⟩
  ·rcases selS_mem.1 ((hm _).2 rfl) with⟨h,_⟩|⟨i,_,_,h⟩|⟨i,_,_,h⟩
   ·simpa using h
   ·cases h
   ·cases h
  ·have:¬ d.notes=true:=λhd=>by
    have:=(hm ⟨1,0⟩).1 (selS_mem.2 (.inl ⟨hd,rfl⟩));cases this
   simpa[ah] using this
  ·have:¬ d.notes=true:=λhd=>by
    have:=(hm ⟨1,0⟩).1 (selS_mem.2 (.inl ⟨hd,rfl⟩));cases this
   simpa[aT] using this
theorem alo_mem {s:Susp}:s∈EP n D↔s∈aR n/\∃ d∈D,O2 d s=true:=by
 unfold EP;rw[List.mem_filter,List.any_eq_true]
theorem uM (h:DkG n D) {d:Desk} (hd:d∈D) {g:Nat->F4} (hg:ET d g) {s:Susp} (e:V3 d.notes g n=[s]):s∈EP n D:=
 alo_mem.2 ⟨qA (b:=d.notes) (f:=g) (by rw[e];simp),d,hd,CZ (h.len d hd) hg e⟩
end Go.Proofs
namespace Go.Proofs
open Go Go.Ab
variable {n:Nat} {D D':List Desk}
end Go.Proofs
namespace Go.Proofs
open Go Go.Ab
theorem CX {c:Case} {t:List Int} (hl:E4 (aV c t) 0=0) {y:Link} (hy:y∈c.loop.links):nN c y (Y7 c t y.drawing)=some (V1 (aV c t) y):=by
 have hok:=JY (dM hl).1;have hx:c.loop∈(aV c t).loops:=by simp[aV]
 have hd:=(mC hok hx hy).2;obtain⟨hm,_,_⟩:=hok.link _ hx y hy;obtain⟨i,hi⟩:=List.mem_iff_getElem?.1 hm;have hnd:(nums c.p.n.reg).Nodup:=(D4 hok.reg).1.imp λh e=>by omega
 have hix:idx (nums c.p.n.reg) y.drawing=i:=fT hnd hi;have hl2:(u6 c.p.n t c.machine)[i]?=some (Y7 c t y.drawing):=by
  unfold u6 Y7;rw[List.getElem?_map,show (nums c.p.n.reg)[i]?=some y.drawing from hi];rfl
 have e:u5 (aV c t).reg (aV c t).lets y.drawing=(n9 c.p.n.reg y.drawing (Y7 c t y.drawing)).getD I7:=by
  unfold u5;rw[show (aV c t).reg=c.p.n.reg from rfl,show (aV c t).lets=u6 c.p.n t c.machine from rfl,hix,Int.toNat_natCast,hl2];rfl
 rw[e] at hd;unfold nN;cases hf:n9 c.p.n.reg y.drawing (Y7 c t y.drawing) with
 | none=>rw[hf] at hd;simp[I7] at hd
 | some z=>rw[hf] at hd;simpa using hd
theorem oc (D:Link->Dim):∀ (q:List (Link×Piece)) (s:Int×Int) (a b:Int),(∀ p∈q,p.2.lo<=(D p.1).upper/\(D p.1).lower<=p.2.hi)->s.1<=b->a<=s.2 ->
 (q.foldl E2 s).1<=q.foldl (λs p=>s+ni p.1 (Q1 true p.1 (D p.1))) b/\q.foldl (λs p=>s+ni p.1 (Q1 false p.1 (D p.1))) a<=(q.foldl E2 s).2
 | [],s,a,b,_,h1,h2=>⟨h1,h2⟩
 | p :: q,s,a,b,h,h1,h2=>by
   rw[List.foldl_cons,List.foldl_cons,List.foldl_cons];have hp:=h p List.mem_cons_self;refine oc D q _ _ _ (λp hp=>h p (List.mem_cons_of_mem _ hp)) ?_ ?_
   ·unfold E2 ni Q1;cases p.1.back<;>simp<;>omega
   ·unfold E2 ni Q1;cases p.1.back<;>simp<;>omega
theorem qm {l:List Link} {P:List Piece} (h:P.length=l.length) (D:Link->Dim) (hi:Bool):dl l (l.map D) hi=(l.zip P).foldl (λs p=>s+ni p.1 (Q1 hi p.1 (D p.1))) 0:=by
 have e:l.zip (l.map D)=(l.zip P).map λp=>(p.1,D p.1):=by
  refine List.ext_getElem? λi=>?_;by_cases hi:i<l.length
  ·rw[List.getElem?_eq_getElem (by simp[hi]),List.getElem?_eq_getElem (by simp[hi];omega)];simp
  ·rw[List.getElem?_eq_none (by simp;omega),List.getElem?_eq_none (by simp;omega)]
 unfold dl;rw[e,List.foldl_map]
theorem addF_mem {L:List F4} {so:Bool} {f g:F4}:g∈aS L so f↔g∈L\/(so=true/\g=f):=by
 unfold aS;split
 ·rename_i h;rw[List.mem_append,List.mem_singleton];simp[h.1]
 ·rename_i h;constructor
  ·exact .inl
  ·rintro (h1|⟨h1,rfl⟩)
   ·exact h1
   ·exact Classical.byContradiction λh2=>h ⟨h1,h2⟩
theorem tY {c:Case} {y:Link} {x:Piece} {o:Int} {L:List F4} {l:Int} {g:F4}:g∈H5 c y x o L l↔g∈L\/(sJ c y x l=true/\g=(!decide (l=o),false))\/(xD c y x l=true/\g=(!decide (l=o),true)):=by
 unfold H5;rw[addF_mem,addF_mem,or_assoc]
theorem my {c:Case} {y:Link} {x:Piece} {o:Int} {g:F4}:∀ {l:List Int} {L:List F4},g∈l.foldl (H5 c y x o) L↔g∈L\/∃ a∈l,(sJ c y x a=true/\g=(!decide (a=o),false))\/(xD c y x a=true/\g=(!decide (a=o),true))
 | [],L=>by simp
 | a :: l,L=>by
   rw[List.foldl_cons,my,tY,or_assoc];simp only[List.mem_cons,exists_eq_or_imp]
theorem vK {c:Case} {t:List Int} {k:Nat} {x:Piece} {y:Link} (hx:c.pieces[k]?=some x) (hy:c.loop.links[k]?=some y) {g:F4}:g∈jq c t k↔∃ a∈C6 c k,(sJ c y x a=true/\g=(!decide (a=Y7 c t y.drawing),false))\/(xD c y x a=true/\g=(!decide (a=Y7 c t y.drawing),true)):=by
 unfold jq;rw[hx,hy];simp only;rw[my];simp
theorem Bz {c:Case} {t:List Int} {k:Nat} (hk:k<c.pieces.length):(B9 c t).faults.getD k []=jq c t k:=by
 simp[B9,List.getD,hk]
theorem BL {c:Case} (h0:J2 c=0) {t:List Int} (hn:kL c t=false) (hf:∀ k,k<c.pieces.length->(false,false)∈jq c t k):False:=by
 obtain⟨he,hft⟩:=N4 h0;have hok:=I4 (A1 he).2;have hlen:=hok.e;unfold kL at hn;simp only[Bool.or_eq_false_iff,Bool.not_eq_false',decide_eq_true_eq] at hn;obtain⟨hl,hc⟩:=hn;have hmeet:∀ p∈c.loop.links.zip c.pieces,p.2.lo<=(V1 (aV c t) p.1).upper/\(V1 (aV c t) p.1).lower<=p.2.hi:=λp hp=>by
  obtain⟨k,hk⟩:=List.mem_iff_getElem?.1 hp;rw[List.getElem?_zip_eq_some] at hk;obtain⟨hy,hx⟩:=hk;have h1:=hf k (e7 hx);rw[vK hx hy] at h1;obtain⟨a,ha,h2|h2⟩:=h1
  ·have e:a=Y7 c t p.1.drawing:=by have:=h2.2;simp at this;exact this
   subst e;have h3:=h2.1;unfold sJ at h3;rw[CX hl (List.mem_of_getElem? hy)] at h3;simpa using h3
  ·exact absurd h2.2 (by simp)
 have hs:=oc (V1 (aV c t)) (c.loop.links.zip c.pieces) (0,0) 0 0 hmeet (Int.le_refl _) (Int.le_refl _);rw[<- qm hlen,<- qm hlen] at hs;have hlp:(aV c t).loops[(0:Int).toNat]?=some c.loop:=rfl;have hLo:wF (aV c t) 0=dl c.loop.links (c.loop.links.map (V1 (aV c t))) false:=by
  rw[wF,if_pos hl,IP,hlp];rfl
 have hHi:wG (aV c t) 0=dl c.loop.links (c.loop.links.map (V1 (aV c t))) true:=by
  rw[wG,if_pos hl,Jh,hlp];rfl
 rw[<- hLo,<- hHi] at hs;rw[K7,if_pos hl,Ku,hlp] at hc;simp only at hc;have hg:c.loop.lo<=wF (aV c t) 0/\wG (aV c t) 0<=c.loop.hi:=by
  split at hc
  ·assumption
  ·split at hc<;>exact absurd hc (by decide)
 unfold cZ bG rl at hft;rw[if_pos he,if_pos he] at hft;have hs2:R8 (c.loop.links.zip c.pieces)=(c.loop.links.zip c.pieces).foldl E2 (0,0):=rfl;rw[hs2] at hft;split at hft
 ·omega
 ·split at hft<;>exact absurd hft (by decide)
theorem vR {c:Case} (h0:J2 c=0):DkG c.pieces.length (n7 c):=by
 obtain⟨he,_⟩:=N4 h0;refine⟨λe=>?_,λd hd=>?_,mD he,λd hd g hg e=>?_⟩
 ·have:=(an he).1;rw[e] at this;exact absurd this (by decide)
 ·obtain⟨t,_,rfl⟩:=List.mem_map.1 hd;simp[B9]
 ·obtain⟨t,_,rfl⟩:=List.mem_map.1 hd;have hl:(B9 c t).faults.length=c.pieces.length:=by simp[B9]
  refine BL h0 (t:=t) ?_ λk hk=>?_
  ·cases hn:kL c t
   ·rfl
   ·have:(⟨1,0⟩:Susp)∈V3 (B9 c t).notes g c.pieces.length:=selS_mem.2 (.inl ⟨hn,rfl⟩);rw[e] at this;simp at this
  ·have h1:=hg k (by omega);rw[Bz hk] at h1;have e2:g k=(false,false):=by
    refine Prod.ext ?_ ?_
    ·cases hb:(g k).1
     ·rfl
     ·have:ah k∈V3 (B9 c t).notes g c.pieces.length:=selS_mem.2 (.inr (.inl ⟨k,hk,hb,rfl⟩));rw[e] at this;simp at this
    ·cases hb:(g k).2
     ·rfl
     ·have:aT k∈V3 (B9 c t).notes g c.pieces.length:=selS_mem.2 (.inr (.inr ⟨k,hk,hb,rfl⟩));rw[e] at this;simp at this
   rw[e2] at h1;exact h1
theorem lz {c:Case} (h0:J2 c=0):kB c=Et (n7 c)/\jF c=EP c.pieces.length (n7 c)/\(∀ k,lC c k=JS c.pieces.length (n7 c) k)/\ny c=(Ln (n7 c),Lt (n7 c)):=by
 refine⟨?_,?_,λk=>?_,?_⟩
 ·unfold kB;rw[if_pos h0];rfl
 ·unfold jF;rw[if_pos h0];rfl
 ·unfold lC;rw[if_pos h0];rfl
 ·unfold ny;rw[if_pos h0];rfl
variable {G:LI}
attribute [simp] r9 cX O1 iG v6 A8 nilV K0 ZK
structure CauseOk (n:Nat) (lo hi:Int) (l a su op:List Susp):Prop where
 b1:1<=lo
 b2:lo<=hi
 b3:hi<=1+2*n
 b4:(l.length:Int)=lo
 b5:a≠[]↔lo=1
 b6:∀ s r,a=s :: r->∃ r',l=s :: r'
 b7:(su.length:Int)<=lo
 b8:hi<=(su.length:Int)+op.length
 lm:∀ s∈l,sG n s=true/\(s∈su\/s∈op)
 am:∀ s∈a,sG n s=true/\(s∈su\/s∈op)
 ls:l.Pairwise N3
 aS':a.Pairwise N3
 sm:∀ s∈su,s∈l/\(a=[]\/a=[s])
structure Hid (P:Prop):Prop where
 out:P
theorem Cl (c:Case) (hq:c.pieces.length<=16):(jF c).length<100000:=by
 unfold jF;split
 ·have h1:=List.length_filter_le (yp c) (aR c.pieces.length);have h2:=mS c.pieces.length;omega
 ·simp
open Go Go.Ab Tryz
attribute [simp] r9 cX O1 iG v6 A8 nilV K0 ZK
theorem qU {n:Notes} (h0:l4 n.reg=0) (hok:di n) {d:Int} (hd:d∈nums n.reg) (s:List Int) (m:Int):(n9 n.reg d (GA n s d m)).isSome=true:=by
 obtain⟨z,hz,hzd⟩:=jN _ _ _ hd;have hd0:d≠0:=by
  intro e;have:=yc h0 hz;omega
 have h1:1<=T3 n.reg d:=by
  have:=(X9 h0 d z.letter).1 ((rm n.reg d z.letter).2 ⟨z,hz,hzd,rfl⟩);omega
 unfold GA gY;split
 ·exact(X9 h0 d 1).2 ⟨by omega,h1⟩
 ·rename_i hk;obtain⟨x,h1,h2⟩:=rX n.notes (T4 s [] m n.notes) d (T4 s [] m n.notes).length (by omega);rw[h1];have h:=hok _ x h1;simp only[tw,Bool.and_eq_true] at h;have h4:=h.1.1.1.1.2;unfold DD at h4;split at h4
  ·omega
  ·rw[decide_eq_true_eq] at h4;unfold yZ at h4;rw[if_neg (show ¬ l4 n.reg≠0 by simp[h0])] at h4;split at h4
   ·rename_i hf;rw[h2] at hf;exact hf
   ·omega
theorem tK {n:Notes} (h0:l4 n.reg=0) (hok:di n) (t:List Int) (m:Int):s6 n.reg (u6 n t m)=true:=by
 refine ql h0 (by simp[u6]) λk h1 h2=>?_;have hd:(nums n.reg)[k]?=some (nums n.reg)[k]:=List.getElem?_eq_getElem h1;have he:(u6 n t m)[k]?=some (GA n t (nums n.reg)[k] m):=by unfold u6;rw[List.getElem?_map,hd];rfl
 obtain⟨h3,h4⟩:=List.getElem?_eq_some_iff.1 he;rw[h4];exact qU h0 hok (List.getElem_mem h1) t m
theorem oQ {c:Case} (h:p9 c=0):1<=c.machine/\c.machine<=999:=by
 have hcb:=(A1 h).2;rw[N1,Bool.and_eq_true] at hcb;have:=hcb.1;simp only[ek,Bool.and_eq_true,decide_eq_true_eq] at this;exact this.2.1
theorem BE (c:Case) (s:List Int) (he:p9 c=0) (ht:G1 (j8 (j7 c.p.n.notes)) s=true) (hsl:s.length<1000) (hG:o3 G) (hN:E0 G) (hS:u4 G) (hC:J0 G) (hk:KC c):zP prog G 44 [l7 c,q9 s] (.tup [bv (!kL c s),bv true]):=by
 refine zf func44 ntmps44 ?_;try simp only[q9]
 obtain⟨hp0,hcb⟩:=A1 he;obtain⟨hn0,hpb,hr0⟩:=A9 hp0;have hmc:=oQ he;have hok:=(au hn0).2.2.1;have hA:D5 c.p.n s c.machine=0:=by
  unfold D5;rw[if_neg (by simp[hn0]),if_neg (by rw[ht];decide),if_pos hmc]
 have c1:=fL (G:=G) c.p.n s c.machine hG hN hS hk.p.n hsl;rw[hA,if_pos rfl,fO] at c1;have hnl:=s7 c.p.n.reg c.p.n.reg.length;have hr80:=hk.p.n.1.1;have hq16:=(I4 hcb).l;have hown:(u6 c.p.n s c.machine).length=(nums c.p.n.reg).length:=by unfold u6;rw[List.length_map]
 have hll:(u6 c.p.n s c.machine).length<=80:=by rw[hown,nums];omega
 have hsc:jH (aV c s):=⟨hk.p.n.1,by show (u6 c.p.n s c.machine).length<=80;omega,by simp[aV],λx hx=>by simp[aV] at hx;subst hx;omega⟩
 have c2:=xd (G:=G) c.p.n.reg (u6 c.p.n s c.machine) (by omega) (by omega);rw[tK hr0 hok] at c2;have c3:=nW (G:=G) (aV c s) 0 hG hC hsc JY;have hnb:kL c s=(!decide (E4 (aV c s) 0=0) || !decide (K7 (aV c s) 0=2)):=rfl;rw[hnb];generalize E4 (aV c s) 0=le at *;generalize K7 (aV c s) 0=ck at *;simp only[BG,aV,N7,G8,F9,o5,p7,l7,j4,List.map_cons,List.map_nil] at c1 c2 c3 ⊢;generalize u6 c.p.n s c.machine=LT at *;clear hnb;have hs:True:=trivial;by_cases g1:le=0<;>by_cases g2:ck=2
 all_goals
  have hs:=za g1 g2;repeat' first|(with_reducible first|refine zz ?_|refine zr ?_|refine zE [0,1,2,4,5,6,7,8,9,30] ?_)|simp -dsimp[hs]|refine zp c1 ?_|refine zp c2 ?_|refine zt c3 ?_ ?_ ?_;(focus simp;done);focus (simp;done)|refine i8 ?_ ?_<;>intro h<;>try exact h.elim
  all_goals try clear hs
theorem FZ {c:Case} {s:List Int} {d:Int} (hr0:l4 c.p.n.reg=0) (hd:d∈nums c.p.n.reg):∃ i:Nat,idx (nums c.p.n.reg) d=i/\(u6 c.p.n s c.machine)[i]?=some (Y7 c s d):=by
 obtain⟨i,hi⟩:=List.mem_iff_getElem?.1 hd;have hnd:(nums c.p.n.reg).Nodup:=(D4 hr0).1.imp λh e=>by omega
 refine⟨i,fT hnd hi,?_⟩;unfold u6 Y7;rw[List.getElem?_map,hi];rfl
theorem Fo (c:Case) (s:List Int) (k:Nat) (y:Link) (hy0:c.loop.links[k]?=some y) (hkp:k<c.pieces.length) (he:p9 c=0) (ht:G1 (j8 (j7 c.p.n.notes)) s=true) (hsl:s.length<1000) (hG:o3 G) (hN:E0 G) (hS:u4 G) (hk:KC c):zP prog G 46 [l7 c,q9 s,iv (k:Int)] (.tup [iv (Y7 c s y.drawing),bv true]):=by
 refine zf func46 ntmps46 ?_;try simp only[q9,iv]
 obtain⟨hp0,hcb⟩:=A1 he;obtain⟨hn0,hpb,hr0⟩:=A9 hp0;have hmc:=oQ he;have hlt:k<c.loop.links.length:=e7 hy0;have hy:c.loop.links[k]=y:=(List.getElem?_eq_some_iff.1 hy0).2;have hdm:=eW hr0 hcb hkp hlt;rw[hy] at hdm;obtain⟨j,hj,hj2⟩:=FZ (s:=s) hr0 hdm;have hA:D5 c.p.n s c.machine=0:=by
  unfold D5;rw[if_neg (by simp[hn0]),if_neg (by rw[ht];decide),if_pos hmc]
 have c1:=fL (G:=G) c.p.n s c.machine hG hN hS hk.p.n hsl;rw[hA,if_pos rfl,fO] at c1;have hnl:=s7 c.p.n.reg c.p.n.reg.length;have hr80:=hk.p.n.1.1;have c2:=bQ (G:=G) c.p.n.reg (by omega);have c3:=kQ (G:=G) (nums c.p.n.reg) y.drawing (by unfold nums;omega);rw[hj] at c3;have hjl:j<(u6 c.p.n s c.machine).length:=e7 hj2;generalize Y7 c s y.drawing=o at *;simp only[F9,o5,p7,l7,j4,List.map_cons,List.map_nil] at c1 c2 c3 ⊢;generalize u6 c.p.n s c.machine=LT at *;have hjn:¬ (LT.length:Int)<=(j:Int):=by omega
 have hjx:∀ h,LT[j]'h=o:=λh=>by rw[List.getElem?_eq_getElem h] at hj2;exact Option.some.inj hj2
 have hs:=za hy (za hlt (za hjl (za hjn (za hjx hj2))));repeat' first|(with_reducible first|refine zz ?_|refine zr ?_)|simp -dsimp[hs]|refine zp c1 ?_|refine zq c2 ?_|refine zq c3 ?_|refine zM 2 46 14 [0,1,2,3,6,7,8,9,10,41] ?_|with_reducible refine zE [0,1,2,3,6,7,8,9,10,41] ?_|refine i8 ?_ ?_<;>intro h<;>try exact h.elim
@[simp] abbrev QI:List Nat:=[0,1,2,3,6,7,8,9,10,38]
theorem vC (c:Case) (k:Nat) (y:Link) (lt:Int) (hy0:c.loop.links[k]?=some y) (hd:0<=y.dim) (h0:l4 c.p.n.reg=0) (hG:o3 G) (hk:KC c):zP prog G 47 [l7 c,iv (k:Int),iv lt] (.tup [fY ((nN c y lt).getD CN),bv (nN c y lt).isSome]):=by
 refine zf func47 ntmps47 ?_;try simp only[iv,iv]
 have hlt:k<c.loop.links.length:=e7 hy0;have hy:c.loop.links[k]=y:=(List.getElem?_eq_some_iff.1 hy0).2;have c1:=Ci (G:=G) c.p.n.reg y.drawing lt hG hk.p.n.1;obtain⟨j,hj⟩:=Int.eq_ofNat_of_zero_le hd;simp only[F9,D9] at c1;unfold nN;unfold atR yZ at c1;rw[if_pos h0,if_neg (by simp[h0])] at c1;have hdn:y.dim.toNat=j:=by rw[hj];simp
 cases hfi:n9 c.p.n.reg y.drawing lt with
 | none =>
   rw[hfi] at c1;simp only[Option.isSome_none,Option.getD_none,Bool.false_eq_true,if_false,I7] at c1;have hs:=za hy hlt;repeat' first|(with_reducible first|refine zz ?_|refine zr ?_|refine zE QI ?_)|simp -dsimp[hs]|refine zp c1 ?_|refine i8 ?_ ?_<;>intro h<;>try exact h.elim
   all_goals exact⟨rfl,rfl,rfl⟩
 | some x =>
   rw[hfi] at c1;simp only[Option.isSome_some,Option.getD_some,if_true] at c1;simp only[Option.bind_some,hdn];by_cases hx:j<x.dims.length
   ·have hx1:x.dims[j]?=some x.dims[j]:=by simp[hx]
    have hxi:¬ ((x.dims.length:Int)<=(j:Int)):=by omega
    rw[hx1];generalize hz:x.dims[j]=z at *;simp only[Option.isSome_some,Option.getD_some];have hs:=za hy (za hlt (za hj (za hx (za hxi (za hz hx1)))));repeat' first|(with_reducible first|refine zz ?_|refine zr ?_|refine zE QI ?_)|simp -dsimp[hs]|refine zp c1 ?_|refine i8 ?_ ?_<;>intro h<;>try exact h.elim
   ·have hxi:(x.dims.length:Int)<=(j:Int):=by omega
    rw[List.getElem?_eq_none (by omega)];simp only[Option.isSome_none,Option.getD_none];have hs:=za hy (za hlt (za hj hxi));repeat' first|(with_reducible first|refine zz ?_|refine zr ?_|refine zE QI ?_)|simp -dsimp[hs]|refine zp c1 ?_|refine i8 ?_ ?_<;>intro h<;>try exact h.elim
    all_goals exact⟨rfl,rfl,rfl⟩
def cq (c:Case) (n:Nat):List Int:=((H9 (j8 (j7 c.p.n.notes)))[n % (H9 (j8 (j7 c.p.n.notes))).length]?).getD []
theorem lk (c:Case):0<(H9 (j8 (j7 c.p.n.notes))).length:=by rw[aW];exact Nat.pos_of_ne_zero (by simp)
theorem sP (c:Case) (n:Nat):cq c n∈H9 (j8 (j7 c.p.n.notes)):=by
 unfold cq;rw[List.getElem?_eq_getElem (Nat.mod_lt _ (lk c))];exact List.getElem_mem _
theorem wm (c:Case) (n:Nat) (hn:n<=255) (he:p9 c=0) (hk:KC c):zP prog G 10 [l7 c,sN (n:Int)] (q9 (cq c n)):=by
 refine zf func10 ntmps10 ?_;try simp only[sN]
 obtain⟨hp0,hcb⟩:=A1 he;obtain⟨hn0,hpb,hr0⟩:=A9 hp0;obtain⟨_,_,hok,h5⟩:=au hn0;have c1:=wC (G:=G) c.p.n hk.p.n hok h5;have hT:=lk c;have hlt:n % (H9 (j8 (j7 c.p.n.notes))).length<(H9 (j8 (j7 c.p.n.notes))).length:=Nat.mod_lt _ hT;unfold cq;rw[List.getElem?_eq_getElem hlt];simp only[o5,p7,l7,j4,Km,List.map_cons,List.map_nil] at c1 ⊢;generalize H9 (j8 (j7 c.p.n.notes))=T at *;have hm:((n:Int).tmod (T.length:Int))=((n % T.length:Nat):Int):=by
  rw[Int.tmod_eq_emod_of_nonneg (by omega)];omega
 have h0i:¬ (T.length:Int)=0:=by omega
 have hTn:¬ T=[]:=λe=>by rw[e] at hT;exact absurd hT (by decide)
 have hji:n % T.length<=n:=Nat.mod_le _ _;generalize hj:n % T.length=j at *;generalize hx:T[j]=x at *;have hxx:T[j]?=some x:=by rw[List.getElem?_eq_getElem hlt,hx]
 have w1:IntKind.i64.wrap (n:Int)=(n:Int):=n4 (by omega) (by omega);have w2:IntKind.i64.wrap (j:Int)=(j:Int):=n4 (by omega) (by omega);simp only[Option.getD_some];have hs:=za h0i (za hTn (za hm (za hlt (za hx (za hxx (za w1 w2))))));repeat' first|(with_reducible first|refine zz ?_|refine zr ?_|refine zE [0,1,2,4,5] ?_)|simp -dsimp[hs]|refine zp c1 ?_
end Go.Proofs
