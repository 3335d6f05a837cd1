/- Part 23 of the proofs. -/
import Derived.Test.YtpcoahkgkgmmlaaGreatDoorC02
import Derived.Test.YtpcoahkgkgmmlaaGreatDoorC03
set_option linter.all false
set_option linter.deprecated false
set_option maxHeartbeats 100000000
namespace Go.Ab
open Go Go.Proofs
def X9 (x:Issue) (p:DC×DC):List DC:=[.im (rI x.drawing),.im (rI x.letter),.im (.raw (.int .u8 x.kind)),p.1,p.2]
def gN (x:ChLoop) (d:DC):List DC:=[d,.im (rI x.lo),.im (rI x.hi)]
theorem NdW.rn {L L':Nat→Option DObj} {e:Nat→Nat} {z:Nat} {R:List (List DC)} {c:DC} (h:NdW L z R c) (hL:∀ o d,L o=some d→L' (e o)=some (N0 e d)):NdW L' z (R.map (rnL e)) (P8 e c):=by
 rcases h with⟨o,g,nl,sz,rfl,h1,h2⟩|⟨rfl,rfl⟩
 ·exact .inl ⟨e o,g,nl,sz,by simp[P8],by rw[hL o _ h1,N0],h2.imp id (fun h=>by simp[h])⟩
 ·exact .inr ⟨rfl,rfl⟩
theorem NdW.mono {L L':Nat→Option DObj} {z:Nat} {R:List (List DC)} {c:DC} (h:NdW L z R c) (hL:∀ o d,L o=some d→L' o=some d):NdW L' z R c:=by
 rcases h with⟨o,g,nl,sz,rfl,h1,h2⟩|⟨rfl,rfl⟩
 ·exact .inl ⟨o,g,nl,sz,rfl,hL o _ h1,h2⟩
 ·exact .inr ⟨rfl,rfl⟩
theorem NdW.fz {objs:List DObj} {z:Nat} {R:List (List DC)} {l:List (List IC)} {c:DC} (h:NdW (fun o=>objs[o]?) z R c) (hl:R.length=l.length) (hr:∀ (k:Nat) (r:List DC),R[k]?=some r→G2 (frz 19 0 objs) r=l[k]?):fz 0 objs c=.im (.sl l):=by
 rcases h with⟨o,g,nl,sz,rfl,h1,_⟩|⟨rfl,rfl⟩
 ·have h2:=kG (k:=19) (m:=0) (Nat.zero_le _) h1 rfl (oF hl hr)
  simp only[Go.Ab.fz,DC.lt,h2];simp
 ·have:l=[]:=List.eq_nil_of_length_eq_zero (by simpa using hl.symm)
  subst this;rfl
def eE (d:DC):Prop:=∃ o g n,d=.vec o g 0 n
structure DeepI (L:Nat→Option DObj) (cr cl co:DC) (ab:List (DC×DC)) (ls:List DC) (c:Chains):Prop where
 lets:SlI L 1 (c.lets.map Ab.encI) cl
 reg:NdW L 5 (List.zipWith X9 c.reg ab) cr
 abl:ab.length=c.reg.length
 abs:∀ (k:Nat) (x:Issue) (p:DC×DC),c.reg[k]?=some x→ab[k]?=some p→SlI L 2 (x.items.map l7) p.1∧SlI L 3 (x.dims.map l6) p.2∧eE p.2
 loops:NdW L 3 (List.zipWith gN c.loops ls) co
 lsl:ls.length=c.loops.length
 lss:∀ (k:Nat) (x:ChLoop) (d:DC),c.loops[k]?=some x→ls[k]?=some d→SlI L 3 (x.links.map C2) d∧eE d
def cellsOf (cr cl co:DC) (c:Chains):List DC:=[cr,cl,.im (rI c.of),co]
theorem fX {d:DC} (e:Nat→Nat) (h:eE d):eE (P8 e d):=by
 obtain⟨o,g,n,rfl⟩:=h;exact⟨e o,g,n,rfl⟩
theorem gE {α β γ:Type} {f:α→β→γ} {l:List α} {m:List β} {k:Nat} {r:γ} (h:(List.zipWith f l m)[k]?=some r):∃ x y,l[k]?=some x∧m[k]?=some y∧r=f x y:=by
 rw[List.getElem?_zipWith] at h
 cases hx:l[k]? with
 | none=>rw[hx] at h;simp at h
 | some x =>
   cases hy:m[k]? with
   | none=>rw[hx,hy] at h;simp at h
   | some y=>rw[hx,hy] at h;simp at h;exact⟨x,y,rfl,rfl,h.symm⟩
theorem DeepI.rn {L L':Nat→Option DObj} {e:Nat→Nat} {cr cl co:DC} {ab:List (DC×DC)} {ls:List DC} {c:Chains} (h:DeepI L cr cl co ab ls c) (hL:∀ o d,L o=some d→L' (e o)=some (N0 e d)):DeepI L' (P8 e cr) (P8 e cl) (P8 e co) (ab.map fun p=>(P8 e p.1,P8 e p.2)) (ls.map (P8 e)) c where
 lets:=h.lets.rn hL
 reg:=by
  have:=h.reg.rn hL
  rw[List.map_zipWith] at this
  rw[List.zipWith_map_right]
  exact this
 abl:=by rw[List.length_map];exact h.abl
 abs:=fun k x p hx hp=>by
  rw[List.getElem?_map,Option.map_eq_some_iff] at hp
  obtain⟨q,hq,rfl⟩:=hp
  obtain⟨a,b,d⟩:=h.abs k x q hx hq
  exact⟨a.rn hL,b.rn hL,fX e d⟩
 loops:=by
  have:=h.loops.rn hL
  rw[List.map_zipWith] at this
  rw[List.zipWith_map_right]
  exact this
 lsl:=by rw[List.length_map];exact h.lsl
 lss:=fun k x d hx hd=>by
  rw[List.getElem?_map,Option.map_eq_some_iff] at hd
  obtain⟨q,hq,rfl⟩:=hd
  obtain⟨a,b⟩:=h.lss k x q hx hq
  exact⟨a.rn hL,fX e b⟩
theorem DeepI.mono {L L':Nat→Option DObj} {cr cl co:DC} {ab:List (DC×DC)} {ls:List DC} {c:Chains} (h:DeepI L cr cl co ab ls c) (hL:∀ o d,L o=some d→L' o=some d):DeepI L' cr cl co ab ls c where
 lets:=h.lets.mono hL
 reg:=h.reg.mono hL
 abl:=h.abl
 abs:=fun k x p hx hp=>by
  obtain⟨a,b,d⟩:=h.abs k x p hx hp
  exact⟨a.mono hL,b.mono hL,d⟩
 loops:=h.loops.mono hL
 lsl:=h.lsl
 lss:=fun k x d hx hd=>by
  obtain⟨a,b⟩:=h.lss k x d hx hd
  exact⟨a.mono hL,b⟩
theorem NdW.monoV {L L':Nat→Option DObj} {z:Nat} {R:List (List DC)} {c:DC} (h:NdW L z R c) (hL:∀ o sz E g nl,L o=some (.vec sz E g nl)→L' o=some (.vec sz E g nl)):NdW L' z R c:=by
 rcases h with⟨o,g,nl,sz,rfl,h1,h2⟩|⟨rfl,rfl⟩
 ·exact .inl ⟨o,g,nl,sz,rfl,hL o _ _ _ _ h1,h2⟩
 ·exact .inr ⟨rfl,rfl⟩
theorem DeepI.monoV {L L':Nat→Option DObj} {cr cl co:DC} {ab:List (DC×DC)} {ls:List DC} {c:Chains} (h:DeepI L cr cl co ab ls c) (hL:∀ o sz E g nl,L o=some (.vec sz E g nl)→L' o=some (.vec sz E g nl)):DeepI L' cr cl co ab ls c where
 lets:=h.lets.monoV hL
 reg:=h.reg.monoV hL
 abl:=h.abl
 abs:=fun k x p hx hp=>by
  obtain⟨a,b,d⟩:=h.abs k x p hx hp
  exact⟨a.monoV hL,b.monoV hL,d⟩
 loops:=h.loops.monoV hL
 lsl:=h.lsl
 lss:=fun k x d hx hd=>by
  obtain⟨a,b⟩:=h.lss k x d hx hd
  exact⟨a.monoV hL,b⟩
theorem DeepI.fz {objs:List DObj} {cr cl co:DC} {ab:List (DC×DC)} {ls:List DC} {c:Chains} (h:DeepI (fun o=>objs[o]?) cr cl co ab ls c):(cellsOf cr cl co c).map (fz 0 objs)=(p5 c).map .im:=by
 have e1:=h.lets.fz
 have e2:=h.reg.fz (l:=c.reg.map j0) (by rw[List.length_zipWith,h.abl,List.length_map,Nat.min_self]) (fun k r hr=>by
  obtain⟨x,p,hx,hp,rfl⟩:=gE hr
  obtain⟨a,b,_⟩:=h.abs k x p hx hp
  have b1:=a.frz (k:=17)
  have b2:=b.frz (k:=17)
  have f1:∀ c:IC,frz 19 0 objs (.im c)=some c:=fun _=>rfl
  rw[List.getElem?_map,hx]
  simp only[X9,G2,f1,b1,b2,Option.map_some,j0])
 have e3:=h.loops.fz (l:=c.loops.map j5) (by rw[List.length_zipWith,h.lsl,List.length_map,Nat.min_self]) (fun k r hr=>by
  obtain⟨x,d,hx,hd,rfl⟩:=gE hr
  obtain⟨a,_⟩:=h.lss k x d hx hd
  have b1:=a.frz (k:=17)
  have f1:∀ c:IC,frz 19 0 objs (.im c)=some c:=fun _=>rfl
  rw[List.getElem?_map,hx]
  simp only[gN,G2,f1,b1,Option.map_some,j5])
 simp only[cellsOf,List.map_cons,List.map_nil,e1,e2,e3,p5]
 rfl
structure DeepW (L:Nat→Option DObj) (cr cl co:DC) (n:Nat) (R Lp:List (List DC)):Prop where
 lets:SlW L 1 n cl
 reg:NdW L 5 R cr
 loops:NdW L 3 Lp co
 regD:∀ r∈R,Bk r
 regs:∀ r∈R,∃ a b d p q n m,r=[.im a,.im b,.im d,p,q]∧SlW L 2 n p∧SlW L 3 m q∧n≤1000∧m≤1000
 lpD:∀ r∈Lp,Bk r
 lps:∀ r∈Lp,∃ p a b n,r=[p,.im a,.im b]∧SlW L 3 n p∧n≤1000
 n1:n≤1000
 n2:R.length≤1000
 n3:Lp.length≤1000
theorem DeepI.w {L:Nat→Option DObj} {cr cl co:DC} {ab:List (DC×DC)} {ls:List DC} {c:Chains} (h:DeepI L cr cl co ab ls c) (h1:c.lets.length≤1000) (h2:c.reg.length≤1000∧∀ x∈c.reg,x.items.length≤1000∧x.dims.length≤1000) (h3:c.loops.length≤1000∧∀ x∈c.loops,x.links.length≤1000) :
 DeepW L cr cl co c.lets.length (List.zipWith X9 c.reg ab) (List.zipWith gN c.loops ls) where
 lets:=by
  have:=h.lets.w (fun x hx=>by obtain⟨y,_,rfl⟩:=List.mem_map.1 hx;rfl)
  rwa [List.length_map] at this
 reg:=h.reg
 loops:=h.loops
 regD:=fun r hr=>by
  obtain⟨k,hk⟩:=List.mem_iff_getElem?.1 hr
  obtain⟨x,p,hx,hp,rfl⟩:=gE hk
  obtain⟨_,_,o,g,n,e⟩:=h.abs k x p hx hp
  exact⟨o,g,n,by simp[X9,e]⟩
 regs:=fun r hr=>by
  obtain⟨k,hk⟩:=List.mem_iff_getElem?.1 hr
  obtain⟨x,p,hx,hp,rfl⟩:=gE hk
  obtain⟨a,b,_⟩:=h.abs k x p hx hp
  have hs:=h2.2 x (List.mem_of_getElem? hx)
  have a1:=a.w (fun y hy=>by obtain⟨z,_,rfl⟩:=List.mem_map.1 hy;rfl)
  have b1:=b.w (fun y hy=>by obtain⟨z,_,rfl⟩:=List.mem_map.1 hy;rfl)
  rw[List.length_map] at a1 b1
  exact⟨_,_,_,p.1,p.2,_,_,rfl,a1,b1,hs.1,hs.2⟩
 lpD:=fun r hr=>by
  obtain⟨k,hk⟩:=List.mem_iff_getElem?.1 hr
  obtain⟨x,d,hx,hd,rfl⟩:=gE hk
  obtain⟨_,o,g,n,e⟩:=h.lss k x d hx hd
  exact⟨o,g,n,by simp[gN,e]⟩
 lps:=fun r hr=>by
  obtain⟨k,hk⟩:=List.mem_iff_getElem?.1 hr
  obtain⟨x,d,hx,hd,rfl⟩:=gE hk
  obtain⟨a,_⟩:=h.lss k x d hx hd
  have a1:=a.w (fun y hy=>by obtain⟨z,_,rfl⟩:=List.mem_map.1 hy;rfl)
  rw[List.length_map] at a1
  exact⟨d,_,_,_,rfl,a1,h3.2 x (List.mem_of_getElem? hx)⟩
 n1:=h1
 n2:=by rw[List.length_zipWith];omega
 n3:=by rw[List.length_zipWith];omega
theorem DeepW.wrote {Y Y':List DObj} {cr cl co:DC} {n:Nat} {R Lp:List (List DC)} (h:DeepW (fun o=>Y[o]?) cr cl co n R Lp) (hw:Wrote Y Y'):DeepW (fun o=>Y'[o]?) cr cl co n R Lp where
 lets:=h.lets.wrote hw
 reg:=h.reg.wrote h.regD hw
 loops:=h.loops.wrote h.lpD hw
 regD:=h.regD
 regs:=fun r hr=>by
  obtain⟨a,b,d,p,q,n,m,e,h1,h2,h3⟩:=h.regs r hr
  exact⟨a,b,d,p,q,n,m,e,h1.wrote hw,h2.wrote hw,h3⟩
 lpD:=h.lpD
 lps:=fun r hr=>by
  obtain⟨p,a,b,n,e,h1,h2⟩:=h.lps r hr
  exact⟨p,a,b,n,e,h1.wrote hw,h2⟩
 n1:=h.n1
 n2:=h.n2
 n3:=h.n3
theorem DeepI.zero (L:Nat→Option DObj):DeepI L (.im (.sl [])) (.im (.sl [])) (.im (.sl [])) [] [] x8 where
 lets:=.inr ⟨rfl,rfl⟩
 reg:=.inr ⟨rfl,rfl⟩
 abl:=rfl
 abs:=fun k x p h=>by simp[x8] at h
 loops:=.inr ⟨rfl,rfl⟩
 lsl:=rfl
 lss:=fun k x p h=>by simp[x8] at h
end Go.Ab
namespace Go.Proofs
open Go Go.Ab Tryz
variable {G:Es}
attribute [simp] r5 aT D9 J6 o9 x7 nilV H2 ZK
def xw (T:List Dim) (d:DV) (o:List DObj):Prop:=∃ (k g:Nat) (nl:Bool),d=.tup [.one (.vec k g 0 T.length),.one (.im (.raw (.int .i64 0)))]∧o[k]?=some (.vec 3 (o7 (T.map l6)) g nl)
theorem nS (x:Issue) (l:List Spot) (g:Int) (hx:x.dims.length≤8) (hd:∀ d∈x.dims,D8 d=true) (hl:l.length<1000000) (h0:0≤g) (h1:g≤2000000000):DCall prog G 45 [E4 x,.one (.im (.ip [.sl (l.map m6)])),.one (.im (.ip [rI g]))] [] (xw (ve l g x)):=by
 refine l5 func45 rfl ntmps45 (by simp) rfl ?_
 have c1:=ec (G:=G) x.dims (by omega)
 simp only[E4,j0,rI,List.map_cons,List.map_nil]
 have hs:=trivial
 repeat' first|(with_reducible first|refine zz ?_|refine zE [0,1,2,3,4,5,6,7,12,13,14,21] ?_)|simp -dsimp[hs]|refine CallE.embed_ex [] (c1) ?_ ?_ ?_ ?_ ?_ ?_;(focus simp[C4];done);(focus simp;done);(focus simp;done);(focus simp;done);(focus refine A3 ?_;simp[C4,B7];done);intro mmA hmmA;try simp -dsimp[s8,C4,hs]
 have hTl:=dy l g x
 have hTg:=fun k hk=>jk l g x (k:=k) hk
 generalize ve l g x=T at *
 refine j7 (ι:={ k:Nat // k≤x.dims.length }) (fun k=>⟨33,[(1,.one (.im (.ip [.sl (l.map m6)]))),(2,.one (.im (.ip [rI g]))),(3,.one (.ptr 0 0)),(6,.one (.vec 3 mmA.1 0 x.dims.length)),(12,iv (x.dims.length:Int)),(13,iv (k.1:Int))],[.row [.im (rI x.drawing),.im (rI x.letter),.im (.raw (.int .u8 x.kind)),.im (.sl (x.items.map l7)),.im (.sl (x.dims.map l6))],.vec 3 [] 0 true,.vec 3 [] 0 true,.vec 3 (o7 ((J5 T x.dims k.1).map l6)) mmA.1 mmA.2]⟩) (fun k=>x.dims.length-k.1) ⟨0,by omega⟩ (zv [1,2,3,6,12,13] (by simp[J5])) ?_
 rintro⟨k,hk⟩
 simp only[iv,rI]
 by_cases hlt:k<x.dims.length
 ·have hw:=zk k
  have hlm:=fN hTl hk
  have hge:=dM hTl hlt
  have hgm:∀ h,(J5 T x.dims k)[k]'h=x.dims[k]:=fun h=>by rw[List.getElem?_eq_getElem h] at hge;exact Option.some.inj hge
  have hklm:k<(J5 T x.dims k).length:=by omega
  have c2:=Y5 (G:=G) l ⟨x.drawing,(k:Int)⟩ hl
  have hTk:=hTg k hlt
  have c3:=rR (G:=G) x.dims[k] g (hd _ (List.getElem_mem hlt)) h0 h1
  have hset:=bx (J5 T x.dims k) k (W0 x.dims[k] g)
  simp only[A4,D7] at c2
  generalize hdk:x.dims[k]=dk at *
  cases hin:js l ⟨x.drawing,(k:Int)⟩
  ·rw[hin] at c2 hTk
   have hst:=ku hTl hlt (by rw[hTk,hdk];rfl)
   have hs:=za hlt hw
   repeat' first|(with_reducible first|refine zz ?_|refine zE [0,1,2,3,4,5,6,7,12,13,14,21] ?_)|simp -dsimp[hs]|refine zp c2 ?_|refine m5 ?_ ?_<;>intro h<;>try simp only[l8] at h
   all_goals exact zn ⟨k+1,by omega⟩ (zv [1,2,3,6,12,13] (by simp[hst]))
  ·rw[hin,if_pos rfl] at hTk
   rw[hin] at c2
   have hst:=dL hTl hlt hTk
   rw[hst] at hset
   have hs:=za hlt (za hw (za hlm (za hklm (za hgm hset))))
   repeat' first|with_reducible refine zz ?_|simp -dsimp[hs]|refine zp c2 ?_|refine zq c3 ?_|refine zM 6 33 9 [0,1,2,3,4,5,6,7,12,13,14,21] ?_|with_reducible refine zE [0,1,2,3,4,5,6,7,12,13,14,21] ?_|refine m5 ?_ ?_<;>intro h<;>try simp only[l8] at h
   all_goals exact zn ⟨k+1,by omega⟩ (zv [1,2,3,6,12,13] (by simp[hst]))
 ·obtain rfl:k=x.dims.length:=by omega
  have hme:=fO hTl
  have hs:=za hlt hme
  repeat' first|(with_reducible first|refine zz ?_|refine zr ?_|refine zE [0,1,2,3,4,5,6,7,12,13,14,21] ?_)|simp -dsimp[hs]|refine m5 ?_ ?_<;>intro h<;>try simp only[l8] at h
  all_goals exact⟨3,mmA.1,mmA.2,by rw[hTl],rfl⟩
theorem qo (cc:Chains) (x:Issue) (n:Int) (a b c:IC) (hU:aE G a b c) (hn:n=1∨n=2) (hx:x.dims.length≤8) (hd:∀ d∈x.dims,D8 d=true) (h00:(aV cc n x).2=0):DCall prog G 67 [E4 x,.one (.im (.ip [n9 cc (B0 cc) (C9 cc.reg cc.lets)])),.one (.im (.ip [.raw (.int .u8 n)]))] [] (xw (aV cc n x).1):=by
 refine l5 func67 rfl ntmps67 (by simp) rfl ?_
 have c1:=ec (G:=G) x.dims (by omega)
 simp only[E4,j0,rI,List.map_cons,List.map_nil,n9]
 have hs:=trivial
 repeat' first|(with_reducible first|refine zz ?_|refine zE [0,1,2,3,4,5,6,7,8,9,14,15,16,25,36] ?_)|simp -dsimp[hs]|refine CallE.embed_ex [] (c1) ?_ ?_ ?_ ?_ ?_ ?_;(focus simp[C4];done);(focus simp;done);(focus simp;done);(focus simp;done);(focus refine A3 ?_;simp[C4,B7];done);intro mmA hmmA;try simp -dsimp[s8,C4,hs]
 generalize hcnt:n7 (B0 cc) x.drawing=m at *
 by_cases hm:m=0
 ·have hF:aV cc n x=(x.dims,0):=by rw[aV,hcnt,if_pos hm]
  rw[hF]
  refine j7 (ι:={ k:Nat // k≤x.dims.length }) (fun k=>⟨44,[(1,.one (.im (.ip [n9 cc (B0 cc) (C9 cc.reg cc.lets)]))),(2,.one (.im (.ip [.raw (.int .u8 n)]))),(3,.one (.ptr 0 0)),(6,.one (.vec 3 mmA.1 0 x.dims.length)),(14,iv (x.dims.length:Int)),(15,iv (k.1:Int))],[.row [.im (rI x.drawing),.im (rI x.letter),.im (.raw (.int .u8 x.kind)),.im (.sl (x.items.map l7)),.im (.sl (x.dims.map l6))],.vec 3 [] 0 true,.vec 3 [] 0 true,.vec 3 (o7 (x.dims.map l6)) mmA.1 mmA.2]⟩) (fun k=>x.dims.length-k.1) ⟨0,by omega⟩ (zv [1,2,3,6,14,15] (by simp[n9])) ?_
  rintro⟨k,hk⟩
  simp only[iv,rI,n9]
  by_cases hlt:k<x.dims.length
  ·have hw:=zk k
   have hs:=za hlt (za hw (za hcnt hm))
   repeat' first|with_reducible refine zz ?_|simp -dsimp[hs]|refine zM 5 44 8 [0,1,2,3,4,5,6,7,8,9,14,15,16,25,36] ?_|with_reducible refine zE [0,1,2,3,4,5,6,7,8,9,14,15,16,25,36] ?_|refine m5 ?_ ?_<;>intro h<;>try simp only[l8] at h
   all_goals exact zn ⟨k+1,by omega⟩ (zv [1,2,3,6,14,15])
  ·obtain rfl:k=x.dims.length:=by omega
   have hs:=hlt
   repeat' first|(with_reducible first|refine zz ?_|refine zr ?_|refine zE [0,1,2,3,4,5,6,7,8,9,14,15,16,25,36] ?_)|simp -dsimp[hs]|refine m5 ?_ ?_<;>intro h<;>try simp only[l8] at h
   all_goals exact⟨3,mmA.1,mmA.2,rfl,rfl⟩
 ·have hF:aV cc n x=if P7 n x.dims=true then (x.dims.map (dX · n),0) else ([],6):=by rw[aV,hcnt,if_neg hm]
  have hTl:(x.dims.map (dX · n)).length=x.dims.length:=by simp
  have hTg:∀ k (h:k<x.dims.length),(x.dims.map (dX · n))[k]?=some (dX x.dims[k] n):=fun k h=>by simp[h]
  generalize x.dims.map (dX · n)=T at *
  refine j7 (ι:={ k:Nat // k≤x.dims.length∧P7 n (x.dims.take k)=true }) (fun k=>⟨44,[(1,.one (.im (.ip [n9 cc (B0 cc) (C9 cc.reg cc.lets)]))),(2,.one (.im (.ip [.raw (.int .u8 n)]))),(3,.one (.ptr 0 0)),(6,.one (.vec 3 mmA.1 0 x.dims.length)),(14,iv (x.dims.length:Int)),(15,iv (k.1:Int))],[.row [.im (rI x.drawing),.im (rI x.letter),.im (.raw (.int .u8 x.kind)),.im (.sl (x.items.map l7)),.im (.sl (x.dims.map l6))],.vec 3 [] 0 true,.vec 3 [] 0 true,.vec 3 (o7 ((J5 T x.dims k.1).map l6)) mmA.1 mmA.2]⟩) (fun k=>x.dims.length-k.1) ⟨0,by simp[P7]⟩ (zv [1,2,3,6,14,15] (by simp[J5,n9])) ?_
  rintro⟨k,hk,hok⟩
  simp only[iv,rI,n9]
  by_cases hlt:k<x.dims.length
  ·have hw:=zk k
   have hlm:=fN hTl hk
   have hge:=dM hTl hlt
   have hgm:∀ h,(J5 T x.dims k)[k]'h=x.dims[k]:=fun h=>by rw[List.getElem?_eq_getElem h] at hge;exact Option.some.inj hge
   have hklm:k<(J5 T x.dims k).length:=by omega
   have hTk:=hTg k hlt
   have c3:=mz (G:=G) x.dims[k] n a b c hU (hd _ (List.getElem_mem hlt)) hn
   have hset:=bx (J5 T x.dims k) k (dX x.dims[k] n)
   have hst:=dL hTl hlt hTk
   rw[hst] at hset
   have htk:x.dims.take (k+1)=x.dims.take k++[x.dims[k]]:=List.take_succ_eq_append_getElem hlt
   have hall:P7 n x.dims=true→pP x.dims[k] n=0:=fun h=>by
    have:=List.all_eq_true.1 h _ (List.getElem_mem hlt)
    simpa using this
   simp only[jj] at c3
   have h2:=nE x.dims[k] n
   generalize hdk:x.dims[k]=dk at *
   generalize dX dk n=y at *
   rcases h2 with he|he
   ·rw[he] at c3
    have hok':P7 n (x.dims.take (k+1))=true:=by
     rw[htk,P7,List.all_append]
     simp only[P7] at hok
     rw[hok];simp[he]
    have hs:=za hlt (za hw (za hlm (za hklm (za hgm (za hset (za hcnt hm))))))
    repeat' first|with_reducible refine zz ?_|simp -dsimp[hs]|refine zq c3 ?_|refine zM 5 44 8 [0,1,2,3,4,5,6,7,8,9,14,15,16,25,36] ?_|refine p9 (id:=6) (nt:=44) 10 [8] [0,1,2,3,4,5,6,7,8,9,14,15,16,25,26,27,28,29,30,31,32,33,36] [0,1,2,3,4,5,6,7,8,9,14,15,16,25,36] mixed rfl (by kernel_rfl) ?_|with_reducible refine zE [0,1,2,3,4,5,6,7,8,9,14,15,16,25,36] ?_|refine m5 ?_ ?_<;>intro h<;>try simp only[l8] at h
    all_goals exact zn ⟨k+1,by omega,hok'⟩ (zw [1,2,3,6,14,15] 4 (by simp[hst]))
   ·have hno:¬ P7 n x.dims=true:=fun h=>by
     have:=hall h
     omega
    rw[he] at c3
    rw[hF,if_neg hno] at h00
    exact absurd h00 (by decide)
  ·obtain rfl:k=x.dims.length:=by omega
   have hme:=fO hTl
   rw[List.take_length] at hok
   rw[hF,if_pos hok]
   have hs:=za hlt hme
   repeat' first|(with_reducible first|refine zz ?_|refine zr ?_|refine zE [0,1,2,3,4,5,6,7,8,9,14,15,16,25,36] ?_)|simp -dsimp[hs]|refine m5 ?_ ?_<;>intro h<;>try simp only[l8] at h
   all_goals exact⟨3,mmA.1,mmA.2,by rw[hTl],rfl⟩
theorem AZ (a b:Issue) (u v p q:DC) (ha:iC a) (hb:iC b):DCall prog G 98 [.agg [.im (rI a.drawing),.im (rI a.letter),.im (.raw (.int .u8 a.kind)),u,v],.agg [.im (rI b.drawing),.im (rI b.letter),.im (.raw (.int .u8 b.kind)),p,q]] [] (fun d o=>d=iv (aD a b)∧o=[]):=by
 refine DCall.drop ?_
 obtain⟨a1,a2,a3,a4⟩:=ha
 obtain⟨b1,b2,b3,b4⟩:=hb
 have w1:IntKind.i64.wrap (a.drawing-b.drawing)=a.drawing-b.drawing:=u7 (by omega) (by omega)
 have w2:IntKind.i64.wrap (a.letter-b.letter)=a.letter-b.letter:=u7 (by omega) (by omega)
 have c3:=vM (G:=G) [a.drawing-b.drawing,a.letter-b.letter] (by simp)
 have hE:aD a b=ei [a.drawing-b.drawing,a.letter-b.letter]:=rfl
 rw[← hE] at c3
 simp only[rI]
 refine l5 func98 rfl ntmps98 (by simp) rfl ?_
 have hs:=za w1 w2
 repeat' first|(with_reducible first|refine zz ?_|refine zr ?_|refine zE [0,1,2,3,4] ?_)|simp -dsimp[hs]|refine zt c3 ?_ ?_ ?_;(focus simp;done);focus (simp;done)|with_reducible refine And.intro ?_ ?_
abbrev pz:={ p:Issue×DC×DC // iC p.1 }
def yy (p:pz):List DC:=X9 p.1.1 p.1.2
def aP (G:Es):Prop:=∀ (l:List pz) (o gn sz:Nat) (nl:Bool) (objs:List DObj),objs[o]?=some (.vec sz (l.map yy) gn nl)→(sz=5∨nl=true∧l=[])→l.length<1000000 →
 DCall prog G 97 [.one (.vec o gn 0 l.length),.one (.im (.fn (.func 98) []))] objs (fun d os=>d=.tup []∧∃ l':List pz,l'.Perm l∧(l'.Pairwise fun a b=>¬ aD b.1.1 a.1.1<0)∧os=objs.set o (.vec sz (l'.map yy) gn nl))
theorem xK (hSD:aP G) {R:List Issue} {ab:List (DC×DC)} (hT:∀ x∈R,iC x) (hk:N4 R) (hl:R.length<1000000) (hab:ab.length=R.length) (P:Issue→DC×DC→Prop) (hP:∀ (k:Nat) (x:Issue) (p:DC×DC),R[k]?=some x→ab[k]?=some p→P x p)
 (o gn:Nat) (nl:Bool) (objs:List DObj) (ho:objs[o]?=some (.vec 5 (List.zipWith X9 R ab) gn nl)) :
 DCall prog G 97 [.one (.vec o gn 0 R.length),.one (.im (.fn (.func 98) []))] objs (fun d os=>d=.tup []∧∃ ab':List (DC×DC),ab'.length=(x5 R).length∧(∀ (k:Nat) (x:Issue) (p:DC×DC),(x5 R)[k]?=some x→ab'[k]?=some p→P x p)∧os=objs.set o (.vec 5 (List.zipWith X9 (x5 R) ab') gn nl)):=by
 obtain⟨l,hl1,hl2,hl3⟩:∃ l:List pz,l.map (·.1.1)=R∧l.map (·.1.2)=ab∧∀ q∈l,P q.1.1 q.1.2:=by
  clear ho hk hl
  induction R generalizing ab with
  | nil =>
    have:ab=[]:=List.eq_nil_of_length_eq_zero (by simpa using hab)
    subst this
    exact⟨[],rfl,rfl,by simp⟩
  | cons x R ih =>
    cases ab with
    | nil=>simp at hab
    | cons p ab =>
      obtain⟨l,h1,h2,h3⟩:=ih (fun y hy=>hT y (List.mem_cons_of_mem _ hy)) (by simpa using hab) (fun k y q hy hq=>hP (k+1) y q (by simpa using hy) (by simpa using hq))
      refine⟨⟨(x,p),hT x List.mem_cons_self⟩ :: l,by simp[h1],by simp[h2],fun q hq=>?_⟩
      rcases List.mem_cons.1 hq with rfl|hq
      ·exact hP 0 x p rfl rfl
      ·exact h3 q hq
 have he:∀ m:List pz,m.map yy=List.zipWith X9 (m.map (·.1.1)) (m.map (·.1.2)):=fun m=>by
  induction m with
  | nil=>rfl
  | cons a m ih=>simp only[List.map_cons,List.zipWith_cons_cons,ih];rfl
 have hlen:l.length=R.length:=by rw[← hl1,List.length_map]
 have h:=hSD l o gn 5 nl objs (by rw[ho,he,hl1,hl2]) (.inl rfl) (by omega)
 rw[hlen] at h
 refine h.mono fun d os ⟨h1,l',h2,h3,h4⟩=>⟨h1,l'.map (·.1.2),?_,?_,?_⟩
 ·rw[List.length_map,R8,h2.length_eq,hlen]
 ·have h5:l'.map (·.1.1)=x5 R:=by
   refine I5 ?_ hk ?_
   ·have:=h2.map (fun q:pz=>q.1.1)
    rw[hl1] at this;exact this
   ·unfold D5
    rw[List.pairwise_map];exact h3
  intro k x p hx hp
  rw[← h5,List.getElem?_map,Option.map_eq_some_iff] at hx
  obtain⟨q,hq,rfl⟩:=hx
  rw[List.getElem?_map,hq] at hp
  cases hp
  exact hl3 q (h2.mem_iff.1 (List.mem_of_getElem? hq))
 ·have h5:l'.map (·.1.1)=x5 R:=by
   refine I5 ?_ hk ?_
   ·have:=h2.map (fun q:pz=>q.1.1)
    rw[hl1] at this;exact this
   ·unfold D5
    rw[List.pairwise_map];exact h3
  rw[h4,he l',h5]
def LK (a b c:Nat) (L:Nat→Option DObj):Nat→Option DObj:=fun o=>if o=a∨o=b∨o=c then none else L o
structure CpI (L:Nat→Option DObj) (or gr ol gl oo go:Nat) (ab:List (DC×DC)) (ls:List DC) (c:Chains):Prop where
 reg:∃ nl,L or=some (.vec 5 (List.zipWith X9 c.reg ab) gr nl)
 lets:∃ nl,L ol=some (.vec 1 (o7 (c.lets.map Ab.encI)) gl nl)
 loops:∃ nl,L oo=some (.vec 3 (List.zipWith gN c.loops ls) go nl)
 ne:or≠ol∧oo≠or∧oo≠ol
 abl:ab.length=c.reg.length
 abs:∀ (k:Nat) (x:Issue) (p:DC×DC),c.reg[k]?=some x→ab[k]?=some p→SlI (LK or ol oo L) 2 (x.items.map l7) p.1∧SlI (LK or ol oo L) 3 (x.dims.map l6) p.2∧eE p.2
 lsl:ls.length=c.loops.length
 lss:∀ (k:Nat) (x:ChLoop) (d:DC),c.loops[k]?=some x→ls[k]?=some d→SlI (LK or ol oo L) 3 (x.links.map C2) d∧eE d
theorem ww (F:Nat→Q4) {n i j:Nat} (h:i<n) (hj:j<4) (R:List DObj):(I2 F n++R)[4*i+j]?=[(F i).1,(F i).2.1,(F i).2.2.1,(F i).2.2.2][j]?:=by
 rw[List.getElem?_append_left (by simp;omega),mr F hj h]
theorem AW (F:Nat→Q2) {n i j:Nat} (h:i<n) (hj:j<2) (R:List DObj):(H6 F n++R)[2*i+j]?=[(F i).1,(F i).2][j]?:=by
 rw[List.getElem?_append_left (by simp;omega),mu F hj h]
theorem yG {m:BB} {c:Chains}:ek (pw c.loops.length 0) m.2.2 c.reg.length c.reg=List.zipWith X9 c.reg (c.reg.mapIdx fun k x=>(.vec (pw c.loops.length 0 k).1 (m.2.2 k).1.1 0 x.items.length,.vec (pw c.loops.length 0 k).2 (m.2.2 k).2.1 0 x.dims.length)):=by
 apply List.ext_getElem?
 intro k
 rw[List.getElem?_zipWith]
 simp only[ek,List.getElem?_mapIdx]
 cases hx:c.reg[k]? with
 | none=>rfl
 | some x =>
   have hlt:=g9 hx
   simp only[Option.map_some,tN,if_pos hlt,X9]
theorem wI {m:BB} {c:Chains}:pO (wN 0) m.2.1 c.loops.length c.loops=List.zipWith gN c.loops (c.loops.mapIdx fun k x=>.vec (wN 0 k) (m.2.1 k).1 0 x.links.length):=by
 apply List.ext_getElem?
 intro k
 rw[List.getElem?_zipWith]
 simp only[pO,List.getElem?_mapIdx]
 cases hx:c.loops[k]? with
 | none=>rfl
 | some x =>
   have hlt:=g9 hx
   simp only[Option.map_some,Bq,if_pos hlt,gN]
theorem pt (c:Chains) (hsm:w9 c):DCall prog G 94 [M9 c] [] (fun d o=>∃ or gr ol gl oo go ab ls,d=.agg [.vec or gr 0 c.reg.length,.vec ol gl 0 c.lets.length,.im (rI c.of),.vec oo go 0 c.loops.length]∧CpI (fun k=>o[k]?) or gr ol gl oo go ab ls c):=by
 refine(pu (G:=G) c hsm).mono ?_
 rintro d o ⟨m,_,rfl,rfl⟩
 refine⟨2*c.loops.length+(10+0),m.1.2.2.1,6+0,m.1.1.1,8+0,m.1.2.1.1,(c.reg.mapIdx fun k x=>(.vec (pw c.loops.length 0 k).1 (m.2.2 k).1.1 0 x.items.length,.vec (pw c.loops.length 0 k).2 (m.2.2 k).2.1 0 x.dims.length)),(c.loops.mapIdx fun k x=>.vec (wN 0 k) (m.2.1 k).1 0 x.links.length),rfl,⟨⟨m.1.2.2.2,?_⟩,⟨m.1.1.2,?_⟩,⟨m.1.2.1.2,?_⟩,by omega,?_,?_,?_,?_⟩⟩
 ·rw[← yG]
  show (xB 0 m c)[_]?=_
  rw[show 2*c.loops.length+(10+0)=(2*c.loops.length+1)+9 by omega]
  simp[xB]
 ·simp[xB]
 ·rw[← wI]
  simp[xB]
 ·simp
 ·intro k x p hx hp
  rw[List.getElem?_mapIdx,hx] at hp
  simp only[Option.map_some,Option.some.injEq] at hp
  subst hp
  have hlt:=g9 hx
  have hF:kE c.reg m.2.2 k=(.vec 2 [] 0 true,.vec 2 (o7 (x.items.map l7)) (m.2.2 k).1.1 (m.2.2 k).1.2,.vec 3 [] 0 true,.vec 3 (o7 (x.dims.map l6)) (m.2.2 k).2.1 (m.2.2 k).2.2):=by unfold kE;rw[hx]
  refine⟨.inl ⟨2*c.loops.length+4*k+(12+0),(m.2.2 k).1.1,(m.2.2 k).1.2,2,by simp[pw],?_,.inl rfl⟩,.inl ⟨2*c.loops.length+4*k+(14+0),(m.2.2 k).2.1,(m.2.2 k).2.2,3,by simp[pw],?_,.inl rfl⟩,⟨_,_,_,rfl⟩⟩
  ·unfold LK
   rw[if_neg (by omega),show 2*c.loops.length+4*k+(12+0)=(2*c.loops.length+(4*k+1+2))+9 by omega]
   simp only[xB,List.getElem?_cons_succ,dR]
   have:=ww (kE c.reg m.2.2) hlt (show 1<4 by omega) []
   rw[List.append_nil] at this
   rw[this,hF];rfl
  ·unfold LK
   rw[if_neg (by omega),show 2*c.loops.length+4*k+(14+0)=(2*c.loops.length+(4*k+3+2))+9 by omega]
   simp only[xB,List.getElem?_cons_succ,dR]
   have:=ww (kE c.reg m.2.2) hlt (show 3<4 by omega) []
   rw[List.append_nil] at this
   rw[this,hF];rfl
 ·simp
 ·intro k x d hx hd
  rw[List.getElem?_mapIdx,hx] at hd
  simp only[Option.map_some,Option.some.injEq] at hd
  subst hd
  have hlt:=g9 hx
  have hF:xA c.loops m.2.1 k=(.vec 3 [] 0 true,.vec 3 (o7 (x.links.map C2)) (m.2.1 k).1 (m.2.1 k).2):=by unfold xA;rw[hx]
  refine⟨.inl ⟨2*k+(10+0),(m.2.1 k).1,(m.2.1 k).2,3,by simp[wN],?_,.inl rfl⟩,⟨_,_,_,rfl⟩⟩
  unfold LK
  rw[if_neg (by omega),show 2*k+(10+0)=(2*k+1)+9 by omega]
  simp only[xB,List.getElem?_cons_succ]
  rw[AW _ hlt (by omega),hF];rfl
theorem CallE.embed_op {f:FuncId} {args:List DV} {objs:List DObj} {Post:DV→List DObj→Prop} {Q:DV→List DObj→Prop} {t:Tok Q} (h:DCall prog G f args [] Post) (ha:args.map (bN fun k=>objs.length+k)=args)
 (hq:∀ d o,Post d o→Q (bN (fun k=>objs.length+k) d) (objs++o.map (N0 fun k=>objs.length+k))):CallE prog G f args objs Q t:=by
 refine CallE.embed_ex (ι:=DV×List DObj) (p:=fun i=>Post i.1 i.2) (d0:=fun i=>i.1) (o1:=fun i=>i.2) [] (h.mono fun d o hp=>⟨(d,o),hp,rfl,rfl⟩) (by rw[bD];exact ha) rfl (by simp) (by simp) (by simp) fun i hp=>?_
 rw[bD,eP]
 exact hq i.1 i.2 hp
attribute [simp] r5 aT D9 J6 o9 x7 nilV H2 ZK
theorem jF {a b c o:Nat} {L:Nat→Option DObj} {d:DObj} (h:LK a b c L o=some d):o≠a∧o≠b∧o≠c∧L o=some d:=by
 unfold LK at h
 split at h
 ·cases h
 ·rename_i hn
  exact⟨fun e=>hn (.inl e),fun e=>hn (.inr (.inl e)),fun e=>hn (.inr (.inr e)),h⟩
theorem sF {a b c o:Nat} {L:Nat→Option DObj} {d:DObj} (h1:o≠a) (h2:o≠b) (h3:o≠c) (h:L o=some d):LK a b c L o=some d:=by
 unfold LK;rw[if_neg (by omega)];exact h
def sI:List DC:=[.vec 0 0 0 0,.vec 1 0 0 0,.im (.raw (.int .i64 0)),.vec 2 0 0 0]
structure ChI (Y:List DObj) (or gr:Nat) (nr:Bool) (ol gl oo go oc:Nat) (R:List Issue) (L:List Int) (ab:List (DC×DC)) (ls:List DC) (c:Chains):Prop where
 zero:Y[3]?=some (.row sI)
 row:Y[oc]?=some (.row [.vec or gr 0 R.length,.vec ol gl 0 c.lets.length,.im (.raw (.int .i64 c.of)),.vec oo go 0 c.loops.length])
 reg:Y[or]?=some (.vec 5 (List.zipWith X9 R ab) gr nr)
 lets:∃ nl,Y[ol]?=some (.vec 1 (o7 (L.map Ab.encI)) gl nl)
 loops:∃ nl,Y[oo]?=some (.vec 3 (List.zipWith gN c.loops ls) go nl)
 ne:or≠ol∧oo≠or∧oo≠ol
 oc3:oc≠3
 abl:ab.length=R.length
 abs:∀ (k:Nat) (x:Issue) (p:DC×DC),R[k]?=some x→ab[k]?=some p→SlI (LK or ol oo fun k=>Y[k]?) 2 (x.items.map l7) p.1∧SlI (LK or ol oo fun k=>Y[k]?) 3 (x.dims.map l6) p.2∧eE p.2
 lsl:ls.length=c.loops.length
 lss:∀ (k:Nat) (x:ChLoop) (d:DC),c.loops[k]?=some x→ls[k]?=some d→SlI (LK or ol oo fun k=>Y[k]?) 3 (x.links.map C2) d∧eE d
theorem ChI.nes {Y:List DObj} {or gr ol gl oo go oc:Nat} {nr:Bool} {R:List Issue} {L:List Int} {ab:List (DC×DC)} {ls:List DC} {c:Chains} (h:ChI Y or gr nr ol gl oo go oc R L ab ls c):oc≠or∧oc≠ol∧oc≠oo∧3≠or∧3≠ol∧3≠oo:=by
 obtain⟨nl,hl⟩:=h.lets
 obtain⟨nl2,ho⟩:=h.loops
 refine⟨?_,?_,?_,?_,?_,?_⟩<;>intro e
 ·have h1:=h.row;have h2:=h.reg;rw[e] at h1;rw[h1] at h2;cases h2
 ·have h1:=h.row;rw[e,hl] at h1;cases h1
 ·have h1:=h.row;rw[e,ho] at h1;cases h1
 ·have h1:=h.zero;have h2:=h.reg;rw[e,h2] at h1;cases h1
 ·have h1:=h.zero;rw[e,hl] at h1;cases h1
 ·have h1:=h.zero;rw[e,ho] at h1;cases h1
theorem ChI.grow {Y:List DObj} {or gr ol gl oo go oc:Nat} {nr:Bool} {R:List Issue} {L:List Int} {ab:List (DC×DC)} {ls:List DC} {c:Chains} (h:ChI Y or gr nr ol gl oo go oc R L ab ls c) (Z:List DObj):ChI (Y++Z) or gr nr ol gl oo go oc R L ab ls c:=by
 have hm:∀ (o:Nat) (d:DObj),Y[o]?=some d→(Y++Z)[o]?=some d:=fun o d hd=>by
  rw[List.getElem?_append_left (g9 hd)];exact hd
 have hk:∀ (o:Nat) (d:DObj),LK or ol oo (fun k=>Y[k]?) o=some d→LK or ol oo (fun k=>(Y++Z)[k]?) o=some d:=fun o d hd=>by
  obtain⟨a,b,e,h1⟩:=jF hd
  exact sF a b e (hm o d h1)
 obtain⟨nl,hl⟩:=h.lets
 obtain⟨nl2,ho⟩:=h.loops
 exact⟨hm _ _ h.zero,hm _ _ h.row,hm _ _ h.reg,⟨nl,hm _ _ hl⟩,⟨nl2,hm _ _ ho⟩,h.ne,h.oc3,h.abl,fun k x p hx hp=>by
  obtain⟨a,b,e⟩:=h.abs k x p hx hp
  exact⟨a.mono hk,b.mono hk,e⟩,h.lsl,fun k x d hx hd=>by
  obtain⟨a,e⟩:=h.lss k x d hx hd
  exact⟨a.mono hk,e⟩⟩
theorem ChI.keep {Y Y':List DObj} {or gr ol gl oo go oc:Nat} {nr:Bool} {R:List Issue} {L:List Int} {ab:List (DC×DC)} {ls:List DC} {c:Chains} (h:ChI Y or gr nr ol gl oo go oc R L ab ls c) {gr':Nat} {nr':Bool} {R':List Issue} {L':List Int} {ab':List (DC×DC)}
 (hm:∀ (o sz:Nat) (E:List (List DC)) (g:Nat) (nl:Bool),o≠or→o≠ol→Y[o]?=some (.vec sz E g nl)→Y'[o]?=some (.vec sz E g nl)) (h1:Y'[3]?=some (.row sI)) (h2:Y'[oc]?=some (.row [.vec or gr' 0 R'.length,.vec ol gl 0 c.lets.length,.im (.raw (.int .i64 c.of)),.vec oo go 0 c.loops.length]))
 (h3:Y'[or]?=some (.vec 5 (List.zipWith X9 R' ab') gr' nr')) (h4:∃ nl,Y'[ol]?=some (.vec 1 (o7 (L'.map Ab.encI)) gl nl)) (hab:ab'.length=R'.length)
 (habs:∀ (k:Nat) (x:Issue) (p:DC×DC),R'[k]?=some x→ab'[k]?=some p→SlI (LK or ol oo fun k=>Y[k]?) 2 (x.items.map l7) p.1∧SlI (LK or ol oo fun k=>Y[k]?) 3 (x.dims.map l6) p.2∧eE p.2):ChI Y' or gr' nr' ol gl oo go oc R' L' ab' ls c:=by
 have hk:∀ (o sz:Nat) (E:List (List DC)) (g:Nat) (nl:Bool),LK or ol oo (fun k=>Y[k]?) o=some (.vec sz E g nl)→LK or ol oo (fun k=>Y'[k]?) o=some (.vec sz E g nl):=fun o sz E g nl hd=>by
  obtain⟨a,b,e,h1⟩:=jF hd
  exact sF a b e (hm o _ _ _ _ a b h1)
 obtain⟨nl2,ho⟩:=h.loops
 exact⟨h1,h2,h3,h4,⟨nl2,hm _ _ _ _ _ h.ne.2.1 h.ne.2.2 ho⟩,h.ne,h.oc3,hab,fun k x p hx hp=>by
  obtain⟨a,b,e⟩:=habs k x p hx hp
  exact⟨a.monoV hk,b.monoV hk,e⟩,h.lsl,fun k x d hx hd=>by
  obtain⟨a,e⟩:=h.lss k x d hx hd
  exact⟨a.monoV hk,e⟩⟩
theorem ChI.deep {Y:List DObj} {or gr ol gl oo go oc:Nat} {nr:Bool} {R:List Issue} {L:List Int} {ab:List (DC×DC)} {ls:List DC} {c:Chains} (h:ChI Y or gr nr ol gl oo go oc R L ab ls c) (hL:L.length=c.lets.length):DeepI (fun k=>Y[k]?) (.vec or gr 0 R.length) (.vec ol gl 0 c.lets.length) (.vec oo go 0 c.loops.length) ab ls { reg:=R,lets:=L,of:=c.of,loops:=c.loops }:=by
 have hk:∀ (o:Nat) (d:DObj),LK or ol oo (fun k=>Y[k]?) o=some d→Y[o]?=some d:=fun o d hd=>(jF hd).2.2.2
 obtain⟨nl,hl⟩:=h.lets
 obtain⟨nl2,ho⟩:=h.loops
 refine⟨.inl ⟨ol,gl,nl,1,by rw[List.length_map,hL],hl,.inl rfl⟩,.inl ⟨or,gr,nr,5,by rw[List.length_zipWith,h.abl,Nat.min_self],h.reg,.inl rfl⟩,h.abl,fun k x p hx hp=>?_,.inl ⟨oo,go,nl2,3,by rw[List.length_zipWith,h.lsl,Nat.min_self],ho,.inl rfl⟩,h.lsl,fun k x d hx hd=>?_⟩
 ·obtain⟨a,b,e⟩:=h.abs k x p hx hp
  exact⟨a.mono hk,b.mono hk,e⟩
 ·obtain⟨a,e⟩:=h.lss k x d hx hd
  exact⟨a.mono hk,e⟩
theorem CpI.start {O pre post:List DObj} {or gr ol gl oo go oc:Nat} {ab:List (DC×DC)} {ls:List DC} {c:Chains} (h:CpI (fun k=>O[k]?) or gr ol gl oo go ab ls c) {e:Nat→Nat} (he:e=fun k=>pre.length+k) (hz:pre[3]?=some (.row sI)) (hc3:oc≠3)
 (hoc:(pre++(O.map (N0 e)++post))[oc]?=some (.row [.vec (e or) gr 0 c.reg.length,.vec (e ol) gl 0 c.lets.length,.im (.raw (.int .i64 c.of)),.vec (e oo) go 0 c.loops.length])) :
 ∃ nr,ChI (pre++(O.map (N0 e)++post)) (e or) gr nr (e ol) gl (e oo) go oc c.reg c.lets (ab.map fun p=>(P8 e p.1,P8 e p.2)) (ls.map (P8 e)) c:=by
 have hm:∀ (o:Nat) (d:DObj),O[o]?=some d→(pre++(O.map (N0 e)++post))[e o]?=some (N0 e d):=fun o d hd=>by
  have hlt:=g9 hd
  rw[he,List.getElem?_append_right (by simp),Nat.add_sub_cancel_left,List.getElem?_append_left (by simpa using hlt),List.getElem?_map,hd];rfl
 have hi:∀ a b,e a=e b→a=b:=fun a b h=>by rw[he] at h;simp only at h;omega
 have hk:∀ (o:Nat) (d:DObj),LK or ol oo (fun k=>O[k]?) o=some d→LK (e or) (e ol) (e oo) (fun k=>(pre++(O.map (N0 e)++post))[k]?) (e o)=some (N0 e d):=fun o d hd=>by
  obtain⟨a,b,f,h1⟩:=jF hd
  exact sF (fun h=>a (hi _ _ h)) (fun h=>b (hi _ _ h)) (fun h=>f (hi _ _ h)) (hm o d h1)
 obtain⟨nr,hr⟩:=h.reg
 obtain⟨nl,hl⟩:=h.lets
 obtain⟨nl2,ho⟩:=h.loops
 refine⟨nr,?_,hoc,?_,⟨nl,?_⟩,⟨nl2,?_⟩,⟨fun e=>h.ne.1 (hi _ _ e),fun e=>h.ne.2.1 (hi _ _ e),fun e=>h.ne.2.2 (hi _ _ e)⟩,hc3,by rw[List.length_map];exact h.abl,fun k x p hx hp=>?_,by rw[List.length_map];exact h.lsl,fun k x d hx hd=>?_⟩
 ·rw[List.getElem?_append_left (g9 hz)];exact hz
 ·rw[hm _ _ hr,N0,List.map_zipWith,List.zipWith_map_right];rfl
 ·rw[hm _ _ hl,N0,jl]
 ·rw[hm _ _ ho,N0,List.map_zipWith,List.zipWith_map_right];rfl
 ·rw[List.getElem?_map,Option.map_eq_some_iff] at hp
  obtain⟨q,hq,rfl⟩:=hp
  obtain⟨a,b,f⟩:=h.abs k x q hx hq
  exact⟨a.rn hk,b.rn hk,fX e f⟩
 ·rw[List.getElem?_map,Option.map_eq_some_iff] at hd
  obtain⟨q,hq,rfl⟩:=hd
  obtain⟨a,b⟩:=h.lss k x q hx hq
  exact⟨a.rn hk,fX e b⟩
def rm (G:Es) (c:Chains) (fv:IC) (f:Issue→List Dim×Int):Prop:=
 ∃ (fn:FuncId) (caps:List IC),fv=.fn (.func fn) caps∧L4 prog fn∧∀ n∈nums c.reg,(f (p4 (C9 c.reg c.lets) n)).2=0→DCall prog G fn (E4 (p4 (C9 c.reg c.lets) n) :: caps.map fun c=>.one (.im c)) [] (xw (f (p4 (C9 c.reg c.lets) n)).1)
attribute [simp] r5 aT D9 J6 o9 x7 nilV H2 ZK
def BA (c:Chains) (d:DV) (o:List DObj):Prop:=∃ cr cl co ab ls,d=.tup [.agg [cr,cl,.im (.raw (.int .i64 c.of)),co],.one (.im (.raw (.int .i64 0)))]∧DeepI (fun k=>o[k]?) cr cl co ab ls c
set_option maxRecDepth 20000 in
theorem kV (c:Chains) (D:List (Int×Int)) (fv:IC) (f:Issue→List Dim×Int) (hG:I6 G) (hOk:OkC c) (hsm:w9 c) (hf:nK G c fv f) (hfm:rm G c fv f) (hfk:CL c f) (hSD:aP G) (h00:A0 c f=0):DCall prog G 44 [.one (.im (n9 c D (C9 c.reg c.lets))),.one (.im fv)] [] (BA (l9 c f)):=by
 refine l5 func44 rfl ntmps44 (by simp) rfl ?_
 obtain⟨fn,caps,rfl,hok,hcall⟩:=hfm
 have c1:=pt (G:=G) c hsm
 have c2:=eY (G:=G) c.reg hG hsm.1
 simp only[n9,CI,CH] at c1 ⊢
 have hs:=trivial
 repeat' first|(with_reducible first|refine zz ?_|refine zE [0,1,4,5,6,7,9,10,11,12,13,14,30,31,32,33,50,56,100] ?_)|simp -dsimp[hs]
 all_goals try clear hs
 refine CallE.embed_op c1 (by rfl) ?_
 rintro d o ⟨or,gr,ol,gl,oo,go,ab,ls,rfl,hI⟩
 generalize hO:List.map _ o=O'
 simp only[bN,rnL,P8,List.length_cons,List.length_nil,Nat.zero_add,Nat.reduceAdd]
 simp -dsimp
 have hs:=trivial
 repeat' first|(with_reducible first|refine zz ?_|refine zE [0,1,4,5,6,7,9,10,11,12,13,14,30,31,32,33,50,56,100] ?_)|simp -dsimp[hs]|refine zp c2 ?_
 all_goals try clear hs
 have hS:=hI.start (pre:=[DObj.vec 0 [] 0 true,DObj.vec 0 [] 0 true,DObj.vec 0 [] 0 true,DObj.row [.vec 0 0 0 0,.vec 1 0 0 0,.im (.raw (.int .i64 0)),.vec 2 0 0 0]]) (post:=[DObj.vec 0 [] 0 true,DObj.vec 0 [] 0 true,DObj.vec 0 [] 0 true,DObj.row [.vec (4+or) gr 0 c.reg.length,.vec (4+ol) gl 0 c.lets.length,.im (.raw (.int .i64 c.of)),.vec (4+oo) go 0 c.loops.length]]) (oc:=O'.length+1+1+1+1+3) (e:=fun k=>[DObj.vec 0 [] 0 true,DObj.vec 0 [] 0 true,DObj.vec 0 [] 0 true,DObj.row [.vec 0 0 0 0,.vec 1 0 0 0,.im (.raw (.int .i64 0)),.vec 2 0 0 0]].length+k) rfl rfl (by omega) (by rw[hO];simp)
 rw[hO] at hS
 simp only[List.cons_append,List.nil_append,List.length_cons,List.length_nil,Nat.zero_add,Nat.reduceAdd] at hS
 clear hI hO
 generalize O'.length+1+1+1+1+3=oc at *
 generalize ab.map _=ab at *
 generalize ls.map _=ls at *
 generalize 4+or=or at *
 generalize 4+ol=ol at *
 generalize 4+oo=oo at *
 revert hS
 generalize (_ :: _:List DObj)=Y
 rintro⟨nr,hS⟩
 have hE1:(D3 c f).2.2=0:=Classical.byContradiction fun h=>by rw[A0,if_pos h] at h00;exact h h00
 have hgo0:D3 c f=R0 c.reg (C9 c.reg c.lets) f (nums c.reg) 0 c.reg c.lets:=rfl
 have hok0:(∀ x∈(D3 c f).1,iC x)∧N4 (D3 c f).1∧(D3 c f).1.length≤c.reg.length+(nums c.reg).length∧(D3 c f).2.1.length=c.lets.length:=kX f hOk hsm
 have hd:gp c.reg=nums c.reg:=by rw[gp,if_pos hOk.reg]
 rw[hd]
 have hN:(nums c.reg).length≤80:=by have:=p8 c.reg c.reg.length;have:=hsm.1.1;unfold nums;omega
 generalize hNe:nums c.reg=N at *
 refine j7 (ι:={ p:Nat×Nat×Bool×List Issue×List Int×List (DC×DC)×List DObj // p.1≤N.length∧p.2.2.2.1.length≤c.reg.length+p.1∧p.2.2.2.2.1.length=c.lets.length∧R0 c.reg (C9 c.reg c.lets) f N 0 c.reg c.lets=R0 c.reg (C9 c.reg c.lets) f (N.drop p.1) p.1 p.2.2.2.1 p.2.2.2.2.1∧ChI p.2.2.2.2.2.2 or p.2.1 p.2.2.1 ol gl oo go oc p.2.2.2.1 p.2.2.2.2.1 p.2.2.2.2.2.1 ls c }) (fun p=>⟨103,[(0,.one (.im (n9 c D (C9 c.reg c.lets)))),(1,.one (.im (.fn (.func fn) caps))),(4,.one (.ptr 3 0)),(5,iv 0),(6,.one (.ptr oc 0)),(30,.one (.im (.sl (N.map Ab.encI)))),(31,iv (N.length:Int)),(32,iv (p.1.1:Int))],p.1.2.2.2.2.2.2⟩) (fun p=>N.length-p.1.1) ⟨(0,gr,nr,c.reg,c.lets,ab,Y),by simpa using hS⟩ (zv [0,1,4,5,6,30,31,32] (by simp[n9])) ?_
 clear hS
 clear Y ab gr nr
 rintro⟨⟨i,gr,nr,R,L,ab,Y⟩,hi,hR,hL,hgo,hI⟩
 simp only at hi hR hL hgo hI
 simp only[iv,rI,n9]
 have hgl:∀ (j:Nat) (d:DObj) (Z:List DObj),Y[j]?=some d→(Y++Z)[j]?=some d:=fun j d Z h=>by rw[List.getElem?_append_left (g9 h)];exact h
 obtain⟨e1,e2,e3,e4,e5,e6⟩:=hI.nes
 have f0:=hI.zero
 have f1:=hI.row
 have f2:=hI.reg
 obtain⟨nll,f3⟩:=hI.lets
 by_cases hlt:i<N.length
 ·obtain⟨n,hn⟩:∃ n,N[i]?=some n:=⟨N[i],by simp[hlt]⟩
  have hnm:n∈N:=List.mem_of_getElem? hn
  have hdr:N.drop i=n :: N.drop (i+1):=by
   rw[List.drop_eq_getElem_cons hlt];congr 1
   rw[List.getElem?_eq_getElem hlt] at hn;exact Option.some.inj hn
  rw[hdr,R0] at hgo
  have hcn:=hcall n hnm
  have hw:=zk i
  have hne:∀ h,N[i]'h=n:=fun h=>by rw[List.getElem?_eq_getElem h] at hn;exact Option.some.inj hn
  generalize hxe:p4 (C9 c.reg c.lets) n=x at *
  simp only[E4,j0,rI,List.map_cons,List.map_nil] at hcn
  have he:(f x).2=0:=Classical.byContradiction fun h=>by
   rw[if_pos h] at hgo
   rw[hgo0,hgo] at hE1
   exact h hE1
  have hcn:=hcn he
  rw[if_neg (by simp[he])] at hgo
  have hTk:=eI hOk (show n∈nums c.reg by rw[hNe];exact hnm)
  rw[hxe] at hTk
  have hxok:=(V2 x).1 ((F1 (x6 (r9 hOk.reg))).2.2.2.1 x hTk.1)
  have hTl:j8 c.reg c.lets n=x:=by rw[← hxe,C9,F9,if_pos (by rw[hNe];exact hnm)]
  have hfk1:=hfk n (by rw[hNe];exact hnm) (by rw[hTl];exact he)
  rw[hTl] at hfk1
  have c3:=se (G:=G) c.reg n hG hsm.1
  have hk0:S7 c.reg n=0:=by rw[S7,if_neg (by simp[hOk.reg]),if_pos (by rw[hNe];exact hnm)]
  rw[oL,hk0,if_pos rfl] at c3
  have hcl:B6 c.reg n≤c.reg.length:=List.length_filter_le _ _
  have hr80:=hsm.1.1
  have hwl:IntKind.i64.wrap ((B6 c.reg n:Int)+1)=(B6 c.reg n:Int)+1:=u7 (by omega) (by omega)
  have hdl:(f x).1.length=x.dims.length:=hfk1.1
  have hxd:x.dims.length≤4:=by have:=hxok.1;omega
  have c4:=pb (G:=G) (f x).1 x.dims (by omega) (by omega)
  generalize (f x).1=dm at *
  have hs:=za hn (za hxe (za hne (za hlt (za hw hok))))
  repeat' first|(with_reducible first|refine zz ?_|refine zE [0,1,4,5,6,7,9,10,11,12,13,14,30,31,32,33,50,56,100] ?_)|simp -dsimp[hs]|refine m5 ?_ ?_<;>intro h<;>try simp only[l8] at h
  all_goals try clear hs
  refine CallE.embed_op hcn (by simp[bN,rnL,P8]) ?_
  rintro d o ⟨k,g,nld,rfl,ho⟩
  have ho2:(Y++[DObj.vec 0 [] 0 true,DObj.vec 0 [] 0 true,DObj.row [.im (.raw (.int .i64 x.drawing)),.im (.raw (.int .i64 x.letter)),.im (.raw (.int .u8 x.kind)),.im (.sl (x.items.map l7)),.im (.sl (x.dims.map l6))]]++o.map (N0 fun k=>(Y++[DObj.vec 0 [] 0 true,DObj.vec 0 [] 0 true,DObj.row [.im (.raw (.int .i64 x.drawing)),.im (.raw (.int .i64 x.letter)),.im (.raw (.int .u8 x.kind)),.im (.sl (x.items.map l7)),.im (.sl (x.dims.map l6))]]).length+k))[(Y++[DObj.vec 0 [] 0 true,DObj.vec 0 [] 0 true,DObj.row [.im (.raw (.int .i64 x.drawing)),.im (.raw (.int .i64 x.letter)),.im (.raw (.int .u8 x.kind)),.im (.sl (x.items.map l7)),.im (.sl (x.dims.map l6))]]).length+k]?=some (.vec 3 (o7 (dm.map l6)) g nld):=by
   rw[List.getElem?_append_right (by omega),Nat.add_sub_cancel_left,List.getElem?_map,ho]
   simp only[Option.map_some,N0,jl]
  have hI2:ChI (Y++[DObj.vec 0 [] 0 true,DObj.vec 0 [] 0 true,DObj.row [.im (.raw (.int .i64 x.drawing)),.im (.raw (.int .i64 x.letter)),.im (.raw (.int .u8 x.kind)),.im (.sl (x.items.map l7)),.im (.sl (x.dims.map l6))]]++o.map (N0 fun k=>(Y++[DObj.vec 0 [] 0 true,DObj.vec 0 [] 0 true,DObj.row [.im (.raw (.int .i64 x.drawing)),.im (.raw (.int .i64 x.letter)),.im (.raw (.int .u8 x.kind)),.im (.sl (x.items.map l7)),.im (.sl (x.dims.map l6))]]).length+k)) or gr nr ol gl oo go oc R L ab ls c:=(hI.grow _).grow _
  have hox:(Y++[DObj.vec 0 [] 0 true,DObj.vec 0 [] 0 true,DObj.row [.im (.raw (.int .i64 x.drawing)),.im (.raw (.int .i64 x.letter)),.im (.raw (.int .u8 x.kind)),.im (.sl (x.items.map l7)),.im (.sl (x.dims.map l6))]]++o.map (N0 fun k=>(Y++[DObj.vec 0 [] 0 true,DObj.vec 0 [] 0 true,DObj.row [.im (.raw (.int .i64 x.drawing)),.im (.raw (.int .i64 x.letter)),.im (.raw (.int .u8 x.kind)),.im (.sl (x.items.map l7)),.im (.sl (x.dims.map l6))]]).length+k))[Y.length+2]?=some (.row [.im (.raw (.int .i64 x.drawing)),.im (.raw (.int .i64 x.letter)),.im (.raw (.int .u8 x.kind)),.im (.sl (x.items.map l7)),.im (.sl (x.dims.map l6))]):=by
   rw[List.append_assoc,List.getElem?_append_right (by omega),Nat.add_sub_cancel_left];rfl
  have hdo:(Y++[DObj.vec 0 [] 0 true,DObj.vec 0 [] 0 true,DObj.row [.im (.raw (.int .i64 x.drawing)),.im (.raw (.int .i64 x.letter)),.im (.raw (.int .u8 x.kind)),.im (.sl (x.items.map l7)),.im (.sl (x.dims.map l6))]]).length+k≠or∧(Y++[DObj.vec 0 [] 0 true,DObj.vec 0 [] 0 true,DObj.row [.im (.raw (.int .i64 x.drawing)),.im (.raw (.int .i64 x.letter)),.im (.raw (.int .u8 x.kind)),.im (.sl (x.items.map l7)),.im (.sl (x.dims.map l6))]]).length+k≠ol∧(Y++[DObj.vec 0 [] 0 true,DObj.vec 0 [] 0 true,DObj.row [.im (.raw (.int .i64 x.drawing)),.im (.raw (.int .i64 x.letter)),.im (.raw (.int .u8 x.kind)),.im (.sl (x.items.map l7)),.im (.sl (x.dims.map l6))]]).length+k≠oo:=by
   obtain⟨nlo,f5⟩:=hI.loops
   have q1:=g9 f2
   have q2:=g9 f3
   have q3:=g9 f5
   rw[List.length_append]
   omega
  simp only[bN,rnVL,P8]
  generalize (Y++[DObj.vec 0 [] 0 true,DObj.vec 0 [] 0 true,DObj.row [.im (.raw (.int .i64 x.drawing)),.im (.raw (.int .i64 x.letter)),.im (.raw (.int .u8 x.kind)),.im (.sl (x.items.map l7)),.im (.sl (x.dims.map l6))]]++o.map (N0 fun k=>(Y++[DObj.vec 0 [] 0 true,DObj.vec 0 [] 0 true,DObj.row [.im (.raw (.int .i64 x.drawing)),.im (.raw (.int .i64 x.letter)),.im (.raw (.int .u8 x.kind)),.im (.sl (x.items.map l7)),.im (.sl (x.dims.map l6))]]).length+k))=Y2 at *
  generalize (Y++[DObj.vec 0 [] 0 true,DObj.vec 0 [] 0 true,DObj.row [.im (.raw (.int .i64 x.drawing)),.im (.raw (.int .i64 x.letter)),.im (.raw (.int .u8 x.kind)),.im (.sl (x.items.map l7)),.im (.sl (x.dims.map l6))]]).length+k=od at *
  generalize Y.length+2=ox at *
  simp -dsimp
  obtain⟨e1,e2,e3,e4,e5,e6⟩:=hI2.nes
  obtain⟨e7,e8,e9⟩:=hI2.ne
  have f0:=hI2.zero
  have f1:=hI2.row
  have f2:=hI2.reg
  obtain⟨nll,f3⟩:=hI2.lets
  have hsl:SlI (fun o=>Y2[o]?) 3 (dm.map l6) (.vec od g 0 dm.length):=.inl ⟨od,g,nld,3,by simp,ho2,.inl rfl⟩
  have hfz:=hsl.fz
  have hargs:[DV.one (.im (.sl (dm.map l6))),DV.one (.im (.sl (x.dims.map l6)))]=[DV.one (.vec od g 0 dm.length),DV.one (.im (.sl (x.dims.map l6)))].map (aK 0 Y2):=by
   simp only[List.map_cons,List.map_nil,aK,hfz];rfl
  by_cases hq:dm=x.dims
  ·rw[if_pos hq] at hgo
   rw[decide_eq_true hq] at c4
   have hs:=za hw (za hok (za hox ho2))
   repeat' first|(with_reducible first|refine zz ?_|refine zE [0,1,4,5,6,7,9,10,11,12,13,14,30,31,32,33,50,56,100] ?_)|simp -dsimp[hs]|refine CallE.thaw c4 hargs ?_ ?_;(focus simp;done)|refine m5 ?_ ?_<;>intro h<;>try simp only[l8] at h
   all_goals try clear hs
   all_goals exact zn ⟨(i+1,gr,nr,R,L,ab,Y2),by omega,by simp only;omega,hL,hgo,hI2⟩ (zv [0,1,4,5,6,30,31,32] (by simp[hw]))
  ·rw[if_neg hq] at hgo
   rw[decide_eq_false hq] at c4
   have i1:¬ oc=ox:=fun e=>by rw[← e,f1] at hox;simp at hox
   have i2:¬ or=ox:=fun e=>by rw[← e,f2] at hox;simp at hox
   have i3:¬ ol=ox:=fun e=>by rw[← e,f3] at hox;simp at hox
   have i4:¬ od=ox:=fun e=>by rw[← e,ho2] at hox;simp at hox
   have aq:∀ (q:Nat) (d:DObj),Y2[q]?=some d→(∀ Z R:List DObj,Z.length=Y2.length→(Z++R)[q]?=Z[q]?)∧(∀ (Z R:List DObj) (d:DObj),Z.length=Y2.length→(Z++R).set q d=Z.set q d++R)∧∀ (Z:List DObj) (d:DObj),Z.length=Y2.length→(Z.set q d)[q]?=some d:=fun q d h=>by
    have hl:=g9 h
    exact⟨fun Z R hZ=>List.getElem?_append_left (by omega),fun Z R d hZ=>List.set_append_left _ _ (by omega),fun Z d hZ=>List.getElem?_set_self (by omega)⟩
   obtain⟨a1,a2,a3⟩:=aq oc _ f1
   obtain⟨b1,b2,b3⟩:=aq or _ f2
   obtain⟨d1,d2,d3⟩:=aq ol _ f3
   obtain⟨x1,x2,x3⟩:=aq ox _ hox
   have bM:∀ Z R:List DObj,Z.length=Y2.length→(Z++R)[Y2.length]?=R[0]?:=fun Z R hZ=>by rw[← hZ,List.getElem?_append_right (Nat.le_refl _),Nat.sub_self]
   have i5:¬ ox=oc:=fun e=>i1 e.symm
   have i6:¬ ox=or:=fun e=>i2 e.symm
   have i7:¬ ox=ol:=fun e=>i3 e.symm
   have i8:¬ or=oc:=fun e=>e1 e.symm
   have i9:¬ ol=oc:=fun e=>e2 e.symm
   have e7':¬ ol=or:=fun e=>e7 e.symm
   clear aq
   have hlet:i<c.lets.length:=by
    have h1:=hOk.lets
    simp only[o5,Bool.and_eq_true,decide_eq_true_eq,beq_iff_eq] at h1
    have h2:=h1.1
    rw[hNe] at h2
    omega
   have hLi:i<L.length:=by omega
   have hab:=hI2.abl
   have htk:List.take R.length (List.zipWith X9 R ab)=List.zipWith X9 R ab:=List.take_of_length_le (by rw[List.length_zipWith];omega)
   have hR2:R.length≤200:=by omega
   generalize hM:Y2.length=M at *
   have hs:=za hw (za hok (za hwl (za hlet (za hLi (za hL (za hab (za htk (za hox (za ho2 (za hM (za i1 (za i2 (za i3 (za i4 (za i5 (za i6 (za i7 (za i8 (za i9 (za e1 (za e2 (za e7 (za e7' (za f1 (za f2 (za f3 (za a1 (za a2 (za a3 (za b1 (za b2 (za b3 (za d1 (za d2 (za d3 (za x1 (za x2 (za x3 bM))))))))))))))))))))))))))))))))))))))
   repeat' first|(with_reducible first|refine zz ?_|refine And.intro (by omega) ?_)|simp -dsimp[hs]|refine CallE.thaw c4 hargs ?_ ?_;(focus simp;done)|refine zp c3 ?_|refine I3 (id:=13) (nt:=103) [none,none,none,none,none,none,none,none,none,none,none,some [],some [11],none,some [1,2],none] [0,1,2,3,4,5,6,9,10,11,12,14,7,8,13,15] 12 [([0,1,2,3,4,5,7,8,9,10,11],[0,1,4,5,6,7,9,10,11,12,13,14,30,31,32,33,50,56,78,100]),([0,1,2,7,8,9,10,11],[0,1,4,5,6,7,9,10,11,12,13,14,30,31,32,33,50,56,77,79,100]),([2,7,8,11],[0,1,4,5,6,7,9,10,11,12,13,14,30,31,32,33,50,56,73,80,84,100])] [0,1,4,5,6,7,9,10,11,12,13,14,30,31,32,33,50,56,100] mixed rfl (by kernel_rfl) (by kernel_rfl) (by kernel_rfl) ?_|with_reducible refine zE [0,1,4,5,6,7,9,10,11,12,13,14,30,31,32,33,50,56,100] ?_|refine m5 ?_ ?_<;>intro h<;>try simp only[l8] at h
   all_goals try clear hs
   have hit:x.items=[]:=by
    have h1:=hxok.1
    have h2:x.dims.length≠0:=fun h=>hq (by rw[List.eq_nil_of_length_eq_zero h,List.eq_nil_of_length_eq_zero (hdl.trans h)])
    exact List.eq_nil_of_length_eq_zero (by omega)
   have hk2:∀ {A B C D F:DObj},∀ q d,q≠ox→q≠or→q≠oc→q≠ol→Y2[q]?=some d→((((Y2.set ox A).set or B).set oc C).set ol D++[F])[q]?=some d:=fun q d h1 h2 h3 h4 h=>by
    rw[List.getElem?_append_left (by simp only[List.length_set];exact g9 h),List.getElem?_set_ne (Ne.symm h4),List.getElem?_set_ne (Ne.symm h3),List.getElem?_set_ne (Ne.symm h2),List.getElem?_set_ne (Ne.symm h1)];exact h
   have hkc:∀ {A B C D F:DObj},((((Y2.set ox A).set or B).set oc C).set ol D++[F])[oc]?=some C:=by
    intro A B C D F
    rw[a1 _ _ (by simp[hM]),List.getElem?_set_ne i9,a3 _ _ (by simp[hM])]
   have hkr:∀ {A B C D F:DObj},((((Y2.set ox A).set or B).set oc C).set ol D++[F])[or]?=some B:=by
    intro A B C D F
    rw[b1 _ _ (by simp[hM]),List.getElem?_set_ne e7',List.getElem?_set_ne e1,b3 _ _ (by simp[hM])]
   have hkl:∀ {A B C D F:DObj},((((Y2.set ox A).set or B).set oc C).set ol D++[F])[ol]?=some D:=by
    intro A B C D F
    rw[d1 _ _ (by simp[hM]),d3 _ _ (by simp[hM])]
   have hzw:List.zipWith X9 (R++[K7 c.reg x n dm]) (ab++[(.im (.sl []),.vec od g 0 dm.length)])=List.zipWith X9 R ab++[[.im (.raw (.int .i64 x.drawing)),.im (.raw (.int .i64 ((B6 c.reg n:Int)+1))),.im (.raw (.int .u8 x.kind)),.im (.sl (List.map l7 x.items)),.vec od g 0 dm.length]]:=by
    rw[List.zipWith_append hab.symm,hit];rfl
   have hi1:¬ 3=ox:=fun e=>by rw[← e,f0] at hox;simp[sI] at hox
   have hio:∀ (q sz:Nat) (E:List (List DC)) (g:Nat) (nl:Bool),Y2[q]?=some (.vec sz E g nl)→q≠ox∧q≠oc:=fun q sz E g nl h=>⟨fun e=>(by rw[e,hox] at h;cases h),fun e=>(by rw[e,f1] at h;cases h)⟩
   have hK:=fun {A B C D F:DObj}=>hI2.keep (Y':=(((Y2.set ox A).set or B).set oc C).set ol D++[F]) (gr':=gr+1) (nr':=false) (R':=R++[K7 c.reg x n dm]) (L':=L.set i ((B6 c.reg n:Int)+1)) (ab':=ab++[(.im (.sl []),.vec od g 0 dm.length)]) (fun q sz E g nl h1 h2 h=>hk2 q _ (hio _ _ _ _ _ h).1 h1 (hio _ _ _ _ _ h).2 h2 h) (hk2 3 _ hi1 e4 (Ne.symm hI2.oc3) e5 f0)
   have habs:∀ (k:Nat) (y:Issue) (p:DC×DC),(R++[K7 c.reg x n dm])[k]?=some y→(ab++[(DC.im (.sl []),DC.vec od g 0 dm.length)])[k]?=some p→SlI (LK or ol oo fun k=>Y2[k]?) 2 (y.items.map l7) p.1∧SlI (LK or ol oo fun k=>Y2[k]?) 3 (y.dims.map l6) p.2∧eE p.2:=fun k y p hy hp=>by
    by_cases hkR:k<R.length
    ·rw[List.getElem?_append_left hkR] at hy
     rw[List.getElem?_append_left (by omega)] at hp
     exact hI2.abs k y p hy hp
    ·have hkl:=g9 hy
     simp only[List.length_append,List.length_singleton] at hkl
     have hke:k=R.length:=by omega
     subst hke
     rw[List.getElem?_append_right (Nat.le_refl _),Nat.sub_self] at hy
     rw[List.getElem?_append_right (by omega),hab,Nat.sub_self] at hp
     cases hy;cases hp
     refine⟨.inr ⟨rfl,by simp[K7,hit]⟩,.inl ⟨od,g,nld,3,by simp[K7],sF ?_ ?_ ?_ ho2,.inl rfl⟩,⟨od,g,_,rfl⟩⟩
     ·exact hdo.1
     ·exact hdo.2.1
     ·exact hdo.2.2
   have hC:=fun {A F:DObj}=>hK (A:=A) (F:=F) hkc (by rw[hkr,hzw]) ⟨nll,by rw[hkl]⟩ (by simp[hab]) habs
   clear hkc hkr hkl hK habs
   all_goals exact zn ⟨(i+1,gr+1,false,R++[K7 c.reg x n dm],L.set i ((B6 c.reg n:Int)+1),ab++[(.im (.sl []),.vec od g 0 dm.length)],_),by omega,by simp only[List.length_append,List.length_singleton];omega,by simp only[List.length_set];omega,hgo,hC (A:=.row [.im (.raw (.int .i64 x.drawing)),.im (.raw (.int .i64 ((B6 c.reg n:Int)+1))),.im (.raw (.int .u8 x.kind)),.im (.sl (List.map l7 x.items)),.vec od g 0 dm.length]) (F:=.vec 5 [[.im (.raw (.int .i64 x.drawing)),.im (.raw (.int .i64 ((B6 c.reg n:Int)+1))),.im (.raw (.int .u8 x.kind)),.im (.sl (List.map l7 x.items)),.vec od g 0 dm.length]] 0 false)⟩ (zv [0,1,4,5,6,30,31,32] (by simp[hw,hzw,hit,Ab.encI,rI]))
 ·obtain rfl:i=N.length:=by omega
  rw[List.drop_eq_nil_of_le (Nat.le_refl _),R0] at hgo
  rw[hgo0,hgo] at hok0
  simp only at hok0
  obtain⟨k1,k2,k3,k4⟩:=hok0
  have hr80:=hsm.1.1
  have c6:=xK (G:=G) hSD k1 k2 (by omega) hI.abl _ hI.abs or gr nr Y hI.reg
  have c7:=fun objs=>zI (H8 (G:=G) L (fun n=>decide (8<n)) 99 [] objs (by simp) (fun y _=>zT (G:=G) y objs) (by have:=hsm.2.1;omega))
  have hSl:=R8 R
  have hE:¬ (60<R.length∨(L.any fun n=>decide (8<n))=true):=fun h=>by
   rw[A0,hgo0,hgo,if_neg (by simp),if_pos h] at h00;cases h00
  have h60':¬ (60:Int)<(R.length:Int):=by omega
  have hany:(L.any fun n=>decide (8<n))=false:=by
   cases h:L.any fun n=>decide (8<n)
   ·rfl
   ·exact absurd (.inr h) hE
  have hC:l9 c f={ reg:=x5 R,lets:=L,of:=c.of,loops:=c.loops }:=by rw[l9,hgo0,hgo]
  rw[hC]
  simp only[hany] at c7
  have hs:=za hlt f1
  repeat' first|(with_reducible first|refine zz ?_|refine zE [0,1,4,5,6,7,9,10,11,12,13,14,30,31,32,33,50,56,100] ?_)|simp -dsimp[hs]|refine m5 ?_ ?_<;>intro h<;>try simp only[l8] at h
  all_goals try clear hs
  refine c6.mono ?_
  rintro d o ⟨rfl,ab',hab',habs',rfl⟩
  have hI3:ChI (Y.set or (.vec 5 (List.zipWith X9 (x5 R) ab') gr nr)) or gr nr ol gl oo go oc (x5 R) L ab' ls c:=by
   refine hI.keep (fun q sz E g nl h1 h2 h=>?_) ?_ ?_ ?_ ⟨nll,?_⟩ hab' habs'
   ·rw[List.getElem?_set_ne (Ne.symm h1)];exact h
   ·rw[List.getElem?_set_ne (Ne.symm e4)];exact f0
   ·rw[List.getElem?_set_ne (Ne.symm e1),hSl];exact f1
   ·rw[List.getElem?_set_self (g9 f2)]
   ·rw[List.getElem?_set_ne hI.ne.1];exact f3
  generalize Y.set or (.vec 5 (List.zipWith X9 (x5 R) ab') gr nr)=Y3 at *
  obtain⟨e1,e2,e3,e4,e5,e6⟩:=hI3.nes
  have f0:=hI3.zero
  have f1:=hI3.row
  have f2:=hI3.reg
  obtain⟨nll,f3⟩:=hI3.lets
  rw[hSl] at f1
  have hsl:SlI (fun o=>Y3[o]?) 1 (L.map Ab.encI) (.vec ol gl 0 c.lets.length):=.inl ⟨ol,gl,nll,1,by rw[List.length_map,hL],f3,.inl rfl⟩
  have hfz:=hsl.fz
  have hargs:[DV.one (.im (.sl (L.map Ab.encI))),DV.one (.im (.fn (.func 99) []))]=[DV.one (.vec ol gl 0 c.lets.length),DV.one (.im (.fn (.func 99) []))].map (aK 0 Y3):=by
   simp only[List.map_cons,List.map_nil,aK,hfz];rfl
  have hoc3:=hI3.oc3
  have i1:¬ 3=oc:=fun e=>hoc3 e.symm
  have s3:∀ d,(Y3.set 3 d)[3]?=some d:=fun d=>List.getElem?_set_self (g9 f0)
  have hD:=hI3.deep hL
  simp only[hSl] at hD
  have hD2:=fun d=>hD.monoV (L':=fun k=>(Y3.set 3 d)[k]?) fun o sz E g nl h=>by
   have:(3:Nat)≠o:=fun e=>by rw[← e,f0] at h;cases h
   rw[List.getElem?_set_ne this];exact h
  have hXo:({ reg:=x5 R,lets:=L,of:=c.of,loops:=c.loops }:Chains).of=c.of:=rfl
  generalize ({ reg:=x5 R,lets:=L,of:=c.of,loops:=c.loops }:Chains)=X at *
  simp -dsimp
  have hs:=za hlt (za h60' (za f0 (za f1 (za f2 (za f3 s3)))))
  repeat' first|(with_reducible first|refine zz ?_|refine zr ?_ (by simp -dsimp[sI,hs];exact rfl)|refine zE [0,1,4,5,6,7,9,10,11,12,13,14,30,31,32,33,50,56,100] ?_)|simp -dsimp[sI,hs]|refine CallE.thaw c7 hargs ?_ ?_;(focus simp;done)|refine m5 ?_ ?_<;>intro h<;>try simp only[l8] at h
  all_goals try clear hs
  exact⟨_,_,_,_,_,by rw[hXo],hD2 _⟩
attribute [simp] r5 aT D9 J6 o9 x7 nilV H2 ZK
theorem sQ {c:Chains} (hOk:OkC c) (hsm:w9 c) {l:List Spot} {g:Int} (hl:l.length<1000000) (h0:0≤g) (h1:g≤2000000000):rm G c (.fn (.func 45) [.ip [.sl (l.map m6)],.ip [rI g]]) (lq l g):=by
 refine⟨45,_,rfl,by simp,fun n hn _=>?_⟩
 have hm:=eI hOk hn
 have h8:=(hsm.1.2 _ hm.1).2.2.2
 exact nS (G:=G) _ l g h8 (O7 hOk hm.1) hl h0 h1
theorem tp {c:Chains} (hOk:OkC c) (hsm:w9 c) {n:Int} {a b d:IC} (hU:aE G a b d) (hn:n=1∨n=2):rm G c (.fn (.func 67) [.ip [n9 c (B0 c) (C9 c.reg c.lets)],.ip [.raw (.int .u8 n)]]) (aV c n):=by
 refine⟨67,_,rfl,by simp,fun k hk h00=>?_⟩
 have hm:=eI hOk hk
 have h8:=(hsm.1.2 _ hm.1).2.2.2
 exact qo (G:=G) c _ n a b d hU hn h8 (O7 hOk hm.1) h00
theorem iV {c:Chains} {fn:FuncId} {f:Issue→List Dim×Int} {D:IC} {objs:List DObj} {caps:List DC} {cs:List IC} (h:DCall prog G 44 [.one (.im D),.one (.im (.fn (.func fn) cs))] [] (BA (l9 c f)))
 (ha:fz 0 objs (.fn (.func fn) caps)=.im (.fn (.func fn) cs)) (hnl:∀ (o:Nat) (r:LoopD),objs[o]?≠some (.loop r)) :
 DCall prog G 44 [.one (.im D),.one (.fn (.func fn) caps)] objs (fun d o=>∃ i:(DC×DC×DC)×List (DC×DC)×List DC×List DObj,DeepI (fun k=>(o9 objs.length++i.2.2.2)[k]?) i.1.1 i.1.2.1 i.1.2.2 i.2.1 i.2.2.1 (l9 c f)∧d=.tup [.agg [i.1.1,i.1.2.1,.im (.raw (.int .i64 c.of)),i.1.2.2],.one (.im (.raw (.int .i64 0)))]∧o=o9 objs.length++i.2.2.2):=by
 refine(DCall.freezeP (objs:=objs) (args:=[.one (.im D),.one (.fn (.func fn) caps)]) h ?_ ?_ hnl).mono ?_
 ·simp only[List.map_cons,List.map_nil,aK,ha];rfl
 ·rfl
 ·rintro d o ⟨d0,o1,⟨cr,cl,co,ab,ls,rfl,hd⟩,rfl,rfl⟩
  refine⟨((P8 (fun k=>objs.length+k) cr,P8 (fun k=>objs.length+k) cl,P8 (fun k=>objs.length+k) co),_,_,o1.map (N0 fun k=>objs.length+k)),hd.rn fun o d ho=>?_,rfl,rfl⟩
  simp only
  rw[List.getElem?_append_right (by simp[o9]),show objs.length+o-(o9 objs.length).length=o by simp[o9],List.getElem?_map,ho];rfl
attribute [simp] r5 aT D9 J6 o9 x7 nilV H2 ZK
theorem pT (c:Chains) (l:List Spot) (g:Int) (hG:I6 G) (hC:bZ G) (hsm:w9 c) (hSF:aO G) (hSD:aP G) (hSG:Z0 G) (hl:l.length<1000000) (hz:J7 c l g=0):DCall prog G 8 [M9 c,A4 l,iv g] [] (BA (K2 c l g)):=by
 have c1:=de c hG hC hsm
 have h00:p7 c=0:=Classical.byContradiction fun h=>by rw[J7,if_pos h] at hz;exact h hz
 have hOk:=vO h00
 rw[K2,if_pos hz]
 rw[J7,if_neg (by simp[h00])] at hz
 have hcond:tB (w8 c) none l=true∧0≤g∧g≤1000000000:=Classical.byContradiction fun h=>by rw[if_neg h] at hz;cases hz
 rw[if_pos hcond] at hz
 obtain⟨hokL,hg⟩:=hcond
 have c7:=kV (G:=G) c (B0 c) _ _ hG hOk hsm (nT (G:=G) hOk hsm hl hg.1 (by omega)) (sQ (G:=G) hOk hsm hl hg.1 (by omega)) (vc hOk l hg.1) hSD hz
 have c8:=iV (objs:=[.row [.im (.sl (l.map m6))],.row [.im (.raw (.int .i64 g))]]) (caps:=[.ptr 0 0,.ptr 1 0]) c7 (by simp[fz,DC.lt,frz,G2,rI]) (fun o r h=>by
  match o with
  | 0=>simp at h
  | 1=>simp at h
  | o+2=>simp at h)
 clear c7
 have hXo:(l9 c (lq l g)).of=c.of:=rfl
 generalize l9 c (lq l g)=X at *
 generalize hQ:BA X=Q
 simp only[A4]
 refine l5 func8 rfl ntmps8 (by simp) rfl ?_
 have c2:=jO (G:=G) (n9 c (B0 c) (C9 c.reg c.lets))
 have c3:=iz (G:=G) c (B0 c) hOk hsm hSF
 rw[h00] at c1
 simp only[V6,h00,if_true,n9] at c1
 simp only[n9] at c2 c3 c8
 have hSlen:(w8 c).length<1000000:=by have:=ci hOk hsm;omega
 generalize hS:w8 c=S at *
 have hs:=trivial
 repeat' first|(with_reducible first|refine zz ?_|refine zE [0,1,2,3,4,5,6,7,8,9,10,11,12,19,25,26,27,28,49,55] ?_)|simp -dsimp[hs]|refine zp c1 ?_|refine zp c2 ?_|refine zp c3 ?_|refine m5 ?_ ?_<;>intro h<;>try simp only[l8] at h
 all_goals try clear hs
 refine j7 (ι:={ k:Nat // k≤l.length∧tB S (aI l k) (l.drop k)=true }) (fun k=>⟨62,[(3,.one (.ptr 0 0)),(4,.one (.ptr 1 0)),(5,.one (.ptr 2 0)),(6,.one (.ptr 6 0)),(7,iv 0),(8,.one (.im (n9 c (B0 c) (C9 c.reg c.lets)))),(10,.one (.im (.sl (S.map m6)))),(25,.one (.im (.sl (l.map m6)))),(26,iv (l.length:Int)),(27,iv (k.1:Int))],
  [.row [.im (.sl (c.reg.map j0)),.im (.sl (c.lets.map Ab.encI)),.im (rI c.of),.im (.sl (c.loops.map j5))],.row [.im (.sl (l.map m6))],.row [.im (rI g)],.vec 0 [] 0 true,.vec 0 [] 0 true,.vec 0 [] 0 true,.row [.vec 3 0 0 0,.vec 4 0 0 0,.im (rI 0),.vec 5 0 0 0]]⟩) (fun k=>l.length-k.1) ⟨0,by simp[aI,hokL]⟩ (zv [3,4,5,6,7,8,10,25,26,27] (by simp[n9])) ?_
 rintro⟨k,hk,hok⟩
 simp only[iv,rI,n9]
 by_cases hlt:k<l.length
 ·obtain⟨x,hx⟩:∃ x,l[k]?=some x:=⟨l[k],by simp[hlt]⟩
  have hxe:∀ h,l[k]'h=x:=fun h=>by rw[List.getElem?_eq_getElem h] at hx;exact Option.some.inj hx
  have hdr:l.drop k=x :: l.drop (k+1):=by rw[List.drop_eq_getElem_cons hlt,hxe]
  have hw:=zk k
  rw[hdr,ko] at hok
  have hpv:aI l (k+1)=some x:=hx
  have c4:=Y5 (G:=G) S x hSlen
  simp only[A4,D7] at c4
  rw[Bool.and_eq_true,Bool.and_eq_true] at hok
  obtain⟨⟨hin,hpr⟩,hok⟩:=hok
  rw[hin] at c4
  cases k with
  | zero =>
    have hw1:IntKind.i64.wrap 1=1:=by decide
    have hs:=za hlt (za hx (za hxe (za hw hw1)))
    repeat' first|with_reducible refine zz ?_|simp -dsimp[hs]|refine zq c4 ?_|refine zM 8 62 18 [0,1,2,3,4,5,6,7,8,9,10,11,12,19,25,26,27,28,49,55] ?_|with_reducible refine zE [0,1,2,3,4,5,6,7,8,9,10,11,12,19,25,26,27,28,49,55] ?_|refine m5 ?_ ?_<;>intro h<;>try simp only[l8] at h
    all_goals try clear hs
    all_goals exact zn ⟨0+1,by omega,by rw[hpv];exact hok⟩ (zw [3,4,5,6,7,8,10,25,26,27] 7 (by simp[n9,hw1]))
  | succ k =>
    obtain⟨y,hy⟩:∃ y,l[k]?=some y:=⟨l[k],by simp[show k<l.length by omega]⟩
    have hye:∀ h,l[k]'h=y:=fun h=>by rw[List.getElem?_eq_getElem h] at hy;exact Option.some.inj hy
    simp only[aI,hy] at hpr
    have c5:=mY (G:=G) y x
    simp only[D7] at c5
    have hw2:IntKind.i64.wrap (k:Int)=(k:Int):=u7 (by omega) (by omega)
    have hw3:((k+1:Nat):Int)-1=(k:Int):=by omega
    have hw4:IntKind.i64.wrap ((k:Int)+1+1)=(k:Int)+1+1:=u7 (by omega) (by omega)
    have hltI:(k:Int)+1<(l.length:Int):=by omega
    have hkn:(0:Int)≤(k:Int)+1:=by omega
    have hkq:(0:Int)<(k:Int)+1:=by omega
    have hkm:¬ ((k:Int)<0):=by omega
    have hkp:(0:Int)<((k+1:Nat):Int):=by omega
    have hq:=of_decide_eq_true hpr
    generalize fL y x=q at *
    have hq':¬ (0:Int)≤q:=by omega
    have hs:=za hlt (za hx (za hxe (za hw (za hw2 (za hw3 (za hy (za hye (za hkp (za hltI (za hkn (za hkq (za hkm hq'))))))))))))
    repeat' first|with_reducible refine zz ?_|simp -dsimp[hs]|refine zq c4 ?_|refine zq c5 ?_|refine zM 8 62 18 [0,1,2,3,4,5,6,7,8,9,10,11,12,19,25,26,27,28,49,55] ?_|with_reducible refine zE [0,1,2,3,4,5,6,7,8,9,10,11,12,19,25,26,27,28,49,55] ?_|refine m5 ?_ ?_<;>intro h<;>try simp only[l8] at h
    all_goals try clear hs
    all_goals exact zn ⟨k+1+1,by omega,by rw[hpv];exact hok⟩ (zw [3,4,5,6,7,8,10,25,26,27] 7 (by simp[n9,hw4]))
 ·obtain rfl:k=l.length:=by omega
  have c6:=V3 (G:=G) 0 1000000000 [g] (by simp)
  simp only[H0,List.map_cons,List.map_nil,Ab.encI,Ab.encI,rI,List.all_cons,List.all_nil,Bool.and_true] at c6
  have hgt:(decide (0≤g)&&decide (g≤1000000000))=true:=by simp[hg]
  rw[hgt] at c6
  have hs:=hlt
  repeat' first|(with_reducible first|refine zz ?_|refine zE [0,1,2,3,4,5,6,7,8,9,10,11,12,19,25,26,27,28,49,55] ?_)|simp -dsimp[hs]|refine zt c6 ?_ ?_ ?_;(focus simp;done);focus (simp;done)|refine m5 ?_ ?_<;>intro h<;>try simp only[l8] at h
  all_goals try clear hs
  refine CallE.embed_ex [1,2] c8 (by simp[C4]) (by simp) (by simp) (by simp) ?_ ?_
  ·refine A3 ?_
   simp[C4,B7]
  rintro⟨⟨cr,cl,co⟩,ab,ls,O⟩ hD
  simp only[List.length_cons,List.length_nil] at hD ⊢
  have hD2:=hD.rn (L':=fun k=>(s8 [1,2] [DObj.row [.im (.sl (List.map j0 c.reg)),.im (.sl (List.map Ab.encI c.lets)),.im (.raw (.int .i64 c.of)),.im (.sl (List.map j5 c.loops))],DObj.row [.im (.sl (List.map m6 l))],DObj.row [.im (.raw (.int .i64 g))],DObj.vec 0 [] 0 true,DObj.vec 0 [] 0 true,DObj.vec 0 [] 0 true,DObj.row [.vec 3 0 0 0,.vec 4 0 0 0,.im (.raw (.int .i64 0)),.vec 5 0 0 0],DObj.vec 1 [[.im (.raw (.int .i64 g))]] 0 false] (o9 (0+1+1)++O))[k]?) (e:=C4 [1,2] 8) fun o d h=>by
   have:=aa (es:=[1,2]) (objs:=[DObj.row [.im (.sl (List.map j0 c.reg)),.im (.sl (List.map Ab.encI c.lets)),.im (.raw (.int .i64 c.of)),.im (.sl (List.map j5 c.loops))],DObj.row [.im (.sl (List.map m6 l))],DObj.row [.im (.raw (.int .i64 g))],DObj.vec 0 [] 0 true,DObj.vec 0 [] 0 true,DObj.vec 0 [] 0 true,DObj.row [.vec 3 0 0 0,.vec 4 0 0 0,.im (.raw (.int .i64 0)),.vec 5 0 0 0],DObj.vec 1 [[.im (.raw (.int .i64 g))]] 0 false]) (o:=o9 (0+1+1)++O) (by simp) (by simp) (by simp[o9]) o
   rw[h] at this
   exact this
  have f6:(s8 [1,2] [DObj.row [.im (.sl (List.map j0 c.reg)),.im (.sl (List.map Ab.encI c.lets)),.im (.raw (.int .i64 c.of)),.im (.sl (List.map j5 c.loops))],DObj.row [.im (.sl (List.map m6 l))],DObj.row [.im (.raw (.int .i64 g))],DObj.vec 0 [] 0 true,DObj.vec 0 [] 0 true,DObj.vec 0 [] 0 true,DObj.row [.vec 3 0 0 0,.vec 4 0 0 0,.im (.raw (.int .i64 0)),.vec 5 0 0 0],DObj.vec 1 [[.im (.raw (.int .i64 g))]] 0 false] (o9 (0+1+1)++O))[6]?=some (.row [.vec 3 0 0 0,.vec 4 0 0 0,.im (.raw (.int .i64 0)),.vec 5 0 0 0]):=rfl
  simp only[bN,rnVL,rnL,P8]
  revert f6 hD2
  generalize s8 [1,2] _ (o9 (0+1+1)++O)=Y
  generalize P8 _ cr=cr2
  generalize P8 _ cl=cl2
  generalize P8 _ co=co2
  generalize ab.map _=ab2
  generalize ls.map _=ls2
  intro hD2 f6
  have s6:∀ d,(Y.set 6 d)[6]?=some d:=fun d=>List.getElem?_set_self (g9 f6)
  have hD3:=fun d=>hD2.monoV (L':=fun k=>(Y.set 6 d)[k]?) fun o sz E g nl h=>by
   have:(6:Nat)≠o:=fun e=>by rw[← e,f6] at h;cases h
   rw[List.getElem?_set_ne this];exact h
  simp -dsimp[f6,s6]
  have hs:=za f6 s6
  repeat' first|(with_reducible first|refine zz ?_|refine zr ?_)|simp -dsimp[hs]
  all_goals try clear hs
  subst hQ
  exact⟨_,_,_,_,_,by rw[hXo],hD3 _⟩
end Go.Proofs
