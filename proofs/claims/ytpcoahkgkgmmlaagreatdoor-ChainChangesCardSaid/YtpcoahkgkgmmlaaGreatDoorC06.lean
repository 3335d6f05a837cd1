/- Part 25 of the proofs. -/
import Derived.Test.YtpcoahkgkgmmlaaGreatDoorS19
import Derived.Test.YtpcoahkgkgmmlaaGreatDoorC05
set_option linter.all false
set_option linter.deprecated false
set_option maxHeartbeats 100000000
namespace Go.Proofs
open Go Go.Ab Tryz
variable {G:Es}
attribute [simp] r5 aT D9 J6 o9 x7 nilV H2 ZK
def DD (c:Chains) (e:Int) (d:DV) (o:List DObj):Prop:=∃ cr cl co ab ls,d=.tup [.agg [cr,cl,.im (.raw (.int .i64 c.of)),co],.one (.im (.raw (.int .i64 e)))]∧DeepI (fun k=>o[k]?) cr cl co ab ls c
theorem pU (c:Chains) (l:List Spot) (g:Int) (hG:I6 G) (hC:bZ G) (hsm:w9 c) (hSF:aO G) (hSD:aP G) (hSG:Z0 G) (hl:l.length<1000000):DCall prog G 8 [M9 c,A4 l,iv g] [] (DD (K2 c l g) (J7 c l g)):=by
 by_cases hz:J7 c l g=0
 ·refine(pT c l g hG hC hsm hSF hSD hSG hl hz).mono ?_
  rintro d o ⟨cr,cl,co,ab,ls,rfl,h⟩
  exact⟨cr,cl,co,ab,ls,by rw[hz],h⟩
 ·refine(qu c l g hG hC hsm hSF hSG hl []).mono ?_
  rintro d o ⟨rfl,rfl⟩
  have:K2 c l g=x8:=by rw[K2,if_neg hz]
  rw[this]
  exact⟨_,_,_,_,_,rfl,DeepI.zero _⟩
theorem th (c:Chains) (n:Int) (a b d:IC) (hG:I6 G) (hC:bZ G) (hU:aE G a b d) (hsm:w9 c) (hSD:aP G) (hSG:Z0 G) (h0:0≤n) (h255:n≤255):DCall prog G 24 [M9 c,jj n] [] (DD (br c n) (W4 c n)):=by
 by_cases hz:W4 c n=0
 ·refine(tg c n a b d hG hC hU hsm hSD h0 h255 hz).mono ?_
  rintro d o ⟨cr,cl,co,ab,ls,rfl,h⟩
  exact⟨cr,cl,co,ab,ls,by rw[hz],h⟩
 ·refine(tz c n a b d hG hC hU hsm hSG h0 h255 []).mono ?_
  rintro d o ⟨rfl,rfl⟩
  have:br c n=x8:=by rw[br,if_neg hz]
  rw[this]
  exact⟨_,_,_,_,_,rfl,DeepI.zero _⟩
theorem jP:ay x8:=by simp[ay,dl,x8]
theorem pW {c:Chains} (hsm:w9 c) (l:List Spot) (g:Int):ay (K2 c l g):=by
 by_cases hz:J7 c l g=0
 ·have h00:p7 c=0:=Classical.byContradiction fun h=>by rw[J7,if_pos h] at hz;exact h hz
  have hz2:=hz
  rw[J7,if_neg (by simp[h00])] at hz
  split at hz
  ·rename_i hq
   rw[K2,if_pos hz2]
   exact(ln h00 hsm hq.2.1 hz).smallG
  ·cases hz
 ·rw[K2,if_neg hz];exact jP
theorem tl {c:Chains} (hsm:w9 c) (n:Int):ay (br c n):=by
 by_cases hz:W4 c n=0
 ·have h00:p7 c=0:=Classical.byContradiction fun h=>by rw[W4,if_pos h] at hz;exact h hz
  have hz2:=hz
  rw[W4,if_neg (by simp[h00])] at hz
  split at hz
  ·rw[br,if_pos hz2]
   exact(tQ h00 hsm hz).ch.smallG
  ·cases hz
 ·rw[br,if_neg hz];exact jP
theorem _root_.Go.Ab.DeepI.wG {L:Nat→Option DObj} {cr cl co:DC} {ab:List (DC×DC)} {ls:List DC} {c:Chains} (h:DeepI L cr cl co ab ls c) (hs:ay c):DeepW L cr cl co c.lets.length (List.zipWith X9 c.reg ab) (List.zipWith gN c.loops ls):=
 h.w (by have:=hs.2.1;omega) ⟨by have:=hs.1.1;omega,fun x hx=>by have:=hs.1.2 x hx;omega⟩ ⟨by have:=hs.2.2.1;omega,fun x hx=>by have:=hs.2.2.2 x hx;omega⟩
theorem lR {objs:List DObj} {cr cl co:DC} {ab:List (DC×DC)} {ls:List DC} {c:Chains} (h:DeepI (fun o=>objs[o]?) cr cl co ab ls c):[M9 c,M9 c]=[DV.agg [cr,cl,DC.im (IC.raw (Value.int IntKind.i64 c.of)),co],DV.agg [DC.im (IC.sl (List.map j0 c.reg)),DC.im (IC.sl (List.map Ab.encI c.lets)),DC.im (IC.raw (Value.int IntKind.i64 c.of)),DC.im (IC.sl (List.map j5 c.loops))]].map (aK 0 objs):=by
 have h1:aK 0 objs (.agg (cellsOf cr cl co c))=.agg ((p5 c).map .im):=by rw[aK,h.fz]
 rw[cellsOf] at h1
 simp only[List.map_cons,List.map_nil]
 rw[show rI c.of=IC.raw (Value.int IntKind.i64 c.of) from rfl] at h1
 rw[h1]
 simp[M9,p5,rI]
structure LawI (c:Chains) (ys:Nat) (ar al ao xr xl xo:DC) (af xf:Int) (na nx:Nat) (Ra La Rx Lx:List (List DC)) (Y:List DObj):Prop where
 row:Y[0]?=some (DObj.row [DC.im (IC.sl (List.map j0 c.reg)),DC.im (IC.sl (List.map Ab.encI c.lets)),DC.im (IC.raw (Value.int IntKind.i64 c.of)),DC.im (IC.sl (List.map j5 c.loops))])
 pair:Y[ys]?=some (.vec 4 [[ar,al,.im (.raw (.int .i64 af)),ao],[xr,xl,.im (.raw (.int .i64 xf)),xo]] 0 false)
 wa:DeepW (fun k=>Y[k]?) ar al ao na Ra La
 wx:DeepW (fun k=>Y[k]?) xr xl xo nx Rx Lx
theorem _root_.Go.Ab.DeepW.mono {L L':Nat→Option DObj} {cr cl co:DC} {n:Nat} {R Lp:List (List DC)} (h:DeepW L cr cl co n R Lp) (hL:∀ o d,L o=some d→L' o=some d):DeepW L' cr cl co n R Lp where
 lets:=by
  rcases h.lets with⟨o,g,nl,sz,E,e,h1,h2⟩|h
  ·exact .inl ⟨o,g,nl,sz,E,e,hL _ _ h1,h2⟩
  ·exact .inr h
 reg:=h.reg.mono hL
 loops:=h.loops.mono hL
 regD:=h.regD
 regs:=fun r hr=>by
  obtain⟨a,b,d,p,q,n,m,e,h1,h2,h3⟩:=h.regs r hr
  refine⟨a,b,d,p,q,n,m,e,?_,?_,h3⟩
  ·rcases h1 with⟨o,g,nl,sz,E,e,h1,h2⟩|h
   ·exact .inl ⟨o,g,nl,sz,E,e,hL _ _ h1,h2⟩
   ·exact .inr h
  ·rcases h2 with⟨o,g,nl,sz,E,e,h1,h2⟩|h
   ·exact .inl ⟨o,g,nl,sz,E,e,hL _ _ h1,h2⟩
   ·exact .inr h
 lpD:=h.lpD
 lps:=fun r hr=>by
  obtain⟨p,a,b,n,e,h1,h2⟩:=h.lps r hr
  refine⟨p,a,b,n,e,?_,h2⟩
  rcases h1 with⟨o,g,nl,sz,E,e,h1,h2⟩|h
  ·exact .inl ⟨o,g,nl,sz,E,e,hL _ _ h1,h2⟩
  ·exact .inr h
 n1:=h.n1
 n2:=h.n2
 n3:=h.n3
theorem LawI.grow {c:Chains} {ys:Nat} {ar al ao xr xl xo:DC} {af xf:Int} {na nx:Nat} {Ra La Rx Lx:List (List DC)} {Y:List DObj} (h:LawI c ys ar al ao xr xl xo af xf na nx Ra La Rx Lx Y) (Z:List DObj):LawI c ys ar al ao xr xl xo af xf na nx Ra La Rx Lx (Y++Z):=by
 have hgl:∀ (j:Nat) (d:DObj),Y[j]?=some d→(Y++Z)[j]?=some d:=fun j d h=>by rw[List.getElem?_append_left (g9 h)];exact h
 exact⟨hgl _ _ h.row,hgl _ _ h.pair,h.wa.mono hgl,h.wx.mono hgl⟩
theorem LawI.wrote {c:Chains} {ys:Nat} {ar al ao xr xl xo:DC} {af xf:Int} {na nx:Nat} {Ra La Rx Lx:List (List DC)} {Y:List DObj} (h:LawI c ys ar al ao xr xl xo af xf na nx Ra La Rx Lx Y) {o g sz j off:Nat} {nl:Bool} {E:List (List DC)} {r:List DC} {i:IC} (ho:Y[o]?=some (.vec sz E g nl)) (hsz:sz≠4) (hE:∀ r∈E,∀ d∈r,∃ i,d=.im i) (hr:E[j]?=some r) (hof:off<r.length) :
 LawI c ys ar al ao xr xl xo af xf na nx Ra La Rx Lx (Y.set o (.vec sz (E.set j (r.take off++DC.im i :: r.drop (off+1))) g nl)):=by
 have hw:=Wrote.one (i:=i) ho hE hr hof
 refine⟨?_,?_,h.wa.wrote hw,h.wx.wrote hw⟩
 ·rw[List.getElem?_set_ne (fun e=>by subst e;rw[h.row] at ho;cases ho)];exact h.row
 ·rw[List.getElem?_set_ne (fun e=>by subst e;rw[h.pair] at ho;cases ho;exact hsz rfl)];exact h.pair
theorem DX {r:List DC} (h:r.length=1) (hi:∀ d∈r,∃ i,d=.im i):∃ a,r=[.im a]:=by
 match r,h with
 | [x],_=>obtain⟨a,rfl⟩:=hi x (by simp);exact⟨a,rfl⟩
theorem DW {r:List DC} (h:r.length=2) (hi:∀ d∈r,∃ i,d=.im i):∃ a b,r=[.im a,.im b]:=by
 match r,h with
 | [x,y],_=>obtain⟨a,rfl⟩:=hi x (by simp);obtain⟨b,rfl⟩:=hi y (by simp);exact⟨a,b,rfl⟩
theorem DA {r:List DC} (h:r.length=3) (hi:∀ d∈r,∃ i,d=.im i):∃ a b d,r=[.im a,.im b,.im d]:=by
 match r,h with
 | [x,y,z],_=>obtain⟨a,rfl⟩:=hi x (by simp);obtain⟨b,rfl⟩:=hi y (by simp);obtain⟨d,rfl⟩:=hi z (by simp);exact⟨a,b,d,rfl⟩
theorem mT {L L':Nat→Option DObj} {z z' n n':Nat} {p:DC} (h:SlW L z n p) (h':SlW L' z' n' p):n=n':=by
 rcases h with⟨o,g,nl,sz,E,e,_⟩|⟨e,e0⟩<;>rcases h' with⟨o',g',nl',sz',E',e',_⟩|⟨e',e0'⟩<;>subst e<;>cases e'<;>first|rfl|omega
theorem yE {L:Nat→Option DObj} {cr cl co:DC} {n:Nat} {R Lp:List (List DC)} (h:DeepW L cr cl co n R Lp) {r:List DC} (hr:r∈Lp):∃ p a b n,r=[p,.im a,.im b]∧SlW L 3 n p∧n≤1000:=h.lps r hr
theorem wH {L:Nat→Option DObj} {cr cl co:DC} {n m:Nat} {R Lp:List (List DC)} (h:DeepW L cr cl co n R Lp) {p a b:DC} (hr:[p,a,b]∈Lp) {L':Nat→Option DObj} (hm:SlW L' 3 m p):SlW L 3 m p:=by
 obtain⟨p',a',b',n',e,h1,_⟩:=h.lps _ hr
 cases e
 rw[mT hm h1];exact h1
theorem wF {L:Nat→Option DObj} {cr cl co:DC} {n m:Nat} {R Lp:List (List DC)} (h:DeepW L cr cl co n R Lp) {a b d p q:DC} (hr:[a,b,d,p,q]∈R) {L':Nat→Option DObj} (hm:SlW L' 2 m p):SlW L 2 m p:=by
 obtain⟨a',b',d',p',q',n',m',e,h1,h2,_⟩:=h.regs _ hr
 cases e
 rw[mT hm h1];exact h1
theorem pk {L:Nat→Option DObj} {cr cl co:DC} {n m:Nat} {R Lp:List (List DC)} (h:DeepW L cr cl co n R Lp) {a b d p q:DC} (hr:[a,b,d,p,q]∈R) {L':Nat→Option DObj} (hm:SlW L' 3 m q):SlW L 3 m q:=by
 obtain⟨a',b',d',p',q',n',m',e,h1,h2,_⟩:=h.regs _ hr
 cases e
 rw[mT hm h2];exact h2
theorem qx {L:Nat→Option DObj} {z o g len:Nat} {R:List (List DC)} (h:NdW L z R (.vec o g 0 len)) (hR:R≠[]):∃ nl,L o=some (.vec z R g nl):=by
 rcases h with⟨o',g',nl,sz,e,h1,h2⟩|⟨e,_⟩
 ·cases e
  rcases h2 with rfl|h2
  ·exact⟨nl,h1⟩
  ·exact absurd h2 hR
 ·cases e
theorem jy {Y Y':List DObj} {z n:Nat} {p:DC} (h:SlW (fun k=>Y[k]?) z n p) (hY:∀ (o:Nat) (d:DObj),Y[o]?=some d→Y'[o]?=some d):eZ Y' p=some n:=by
 rcases h with⟨o,g,nl,sz,E,rfl,h1,_⟩|⟨rfl,rfl⟩
 ·simp only[eZ,hY _ _ h1,if_true]
 ·rfl
theorem su {Y Y':List DObj} {z:Nat} {R:List (List DC)} {p:DC} (h:NdW (fun k=>Y[k]?) z R p) (hY:∀ (o:Nat) (d:DObj),Y[o]?=some d→Y'[o]?=some d):eZ Y' p=some R.length:=by
 rcases h with⟨o,g,nl,sz,rfl,h1,_⟩|⟨rfl,rfl⟩
 ·simp only[eZ,hY _ _ h1,if_true]
 ·rfl
theorem dG {Y:List DObj} {o g sz z:Nat} {nl:Bool} {E E':List (List DC)} {r:List DC} (hz:Y[z]?=some (.row r)) (ho:Y[o]?=some (.vec sz E g nl)):(Y.set o (.vec sz E' g nl))[z]?=some (.row r):=by
 rw[List.getElem?_set_ne (fun e=>by subst e;rw[hz] at ho;cases ho)];exact hz
set_option maxRecDepth 20000 in
theorem kW (c:Chains) (l:List Spot) (g n:Int) (u1 u2 u3:IC) (hG:I6 G) (hC:bZ G) (hU:aE G u1 u2 u3) (hSF:aO G) (hSG:Z0 G) (hSD:aP G) (hk:Bj c.reg) (h0:0≤n) (h255:n≤255):zP prog G 4 [M9 c,A4 l,iv g,jj n] (bv true):=by
 refine zf func4 ntmps4 ?_
 try simp only[M9,iv,jj]
 have c1:=wo (G:=G) c
 simp only[A4]
 cases hq1:jQ c
 ·rw[hq1] at c1
  have hs:=trivial
  repeat' first|(with_reducible first|refine zz ?_|refine zr ?_|refine zE [0,1,2,3,4,8,9,10,11,12,13,14,15,16,17,18,19,21,22,23,24,25,26,27,34,86,87,88,89,94,95,96,105,106,107,115,116,117,133,134,135,144,145,146,166,167,168] ?_)|simp -dsimp[hs]|refine zp c1 ?_|refine m5 ?_ ?_<;>intro h<;>try simp only[l8] at h
  all_goals try clear hs
 ·rw[hq1] at c1
  have hg:=smallB_iff.1 hq1
  have hsm:w9 c:=⟨⟨hg.1.1,fun x hx=>⟨(hk x hx).1,(hk x hx).2,(hg.1.2 x hx).1,(hg.1.2 x hx).2⟩⟩,hg.2⟩
  by_cases hl60:60<l.length
  ·have hl60i:(60:Int)<(l.length:Int):=by omega
   have hs:=za hl60 hl60i
   repeat' first|(with_reducible first|refine zz ?_|refine zr ?_|refine zE [0,1,2,3,4,8,9,10,11,12,13,14,15,16,17,18,19,21,22,23,24,25,26,27,34,86,87,88,89,94,95,96,105,106,107,115,116,117,133,134,135,144,145,146,166,167,168] ?_)|simp -dsimp[hs]|refine zp c1 ?_|refine m5 ?_ ?_<;>intro h<;>try simp only[l8] at h
   all_goals try clear hs
  ·have hl60i:¬ (60:Int)<(l.length:Int):=by omega
   have c2:=mR (G:=G) c hg
   have t1:=pU (G:=G) c l g hG hC hsm hSF hSD hSG (by omega)
   have t2:=th (G:=G) c n u1 u2 u3 hG hC hU hsm hSD hSG h0 h255
   have c3:=qr (G:=G) c l g hsm (by omega)
   have c4:=tq (G:=G) c n hsm h0 h255
   have hsA:=pW hsm l g
   have hsX:=tl hsm n
   have s1:=mV (G:=G) _ hsA
   have s2:=mV (G:=G) _ hsX
   have s3:=mV (G:=G) c hg
   have s4:=oa (G:=G) l (by omega)
   simp only[A4] at c3 s4
   generalize K2 c l g=A at *
   generalize J7 c l g=eA at *
   generalize br c n=X at *
   generalize W4 c n=eX at *
   have hs:=za hl60 hl60i
   repeat' first|with_reducible refine cm (S':=⟨194,[(1,.one (.im (.sl (l.map m6)))),(2,iv g),(3,jj n),(4,.one (.ptr 0 0)),(9,.one (.im (.ip [.sl (c.reg.map j0),.sl (c.lets.map Ab.encI),.raw (.int .i64 c.of),.sl (c.loops.map j5)]))),(10,.one (.im (.sl (l.map m6))))],[.row [.im (.sl (c.reg.map j0)),.im (.sl (c.lets.map Ab.encI)),.im (rI c.of),.im (.sl (c.loops.map j5))]]⟩) (Weak.of_drop (S:=⟨194,_,_ :: _ :: _⟩) [1,2,3,4,9,10] 1 (by simp) (by simp) (by simp;done)) ?_|(with_reducible first|refine zz ?_|refine And.intro (by omega) ?_|refine zE [0,1,2,3,4,8,9,10,11,12,13,14,15,16,17,18,19,21,22,23,24,25,26,27,34,86,87,88,89,94,95,96,105,106,107,115,116,117,133,134,135,144,145,146,166,167,168] ?_)|simp -dsimp[hs]|refine zp c1 ?_|refine zp c2 ?_|refine m5 ?_ ?_<;>intro h<;>try simp only[l8] at h
   all_goals try clear hs
   generalize hY0:[DObj.row [DC.im (IC.sl (List.map j0 c.reg)),DC.im (IC.sl (List.map Ab.encI c.lets)),DC.im (IC.raw (Value.int IntKind.i64 c.of)),DC.im (IC.sl (List.map j5 c.loops))]]=Y0
   have f0:Y0[0]?=some (DObj.row [DC.im (IC.sl (List.map j0 c.reg)),DC.im (IC.sl (List.map Ab.encI c.lets)),DC.im (IC.raw (Value.int IntKind.i64 c.of)),DC.im (IC.sl (List.map j5 c.loops))]):=by rw[← hY0];rfl
   clear hY0
   refine CallE.embed_op t1 (by rfl) ?_
   rintro d o ⟨cr,cl,co,ab,ls,rfl,hA⟩
   have hA2:=hA.rn (L':=fun k=>(Y0++o.map (N0 fun k=>Y0.length+k))[k]?) (e:=fun k=>Y0.length+k) fun o' d' h=>by
    rw[List.getElem?_append_right (by omega),Nat.add_sub_cancel_left,List.getElem?_map,h];rfl
   have f1:(Y0++o.map (N0 fun k=>Y0.length+k))[0]?=some (DObj.row [DC.im (IC.sl (List.map j0 c.reg)),DC.im (IC.sl (List.map Ab.encI c.lets)),DC.im (IC.raw (Value.int IntKind.i64 c.of)),DC.im (IC.sl (List.map j5 c.loops))]):=by rw[List.getElem?_append_left (g9 f0)];exact f0
   simp only[bN,rnVL,rnL,P8]
   revert hA2 f1
   generalize (Y0++o.map (N0 fun k=>Y0.length+k))=Y
   generalize P8 _ cr=ar
   generalize P8 _ cl=al
   generalize P8 _ co=ao
   generalize ab.map _=aab
   generalize ls.map _=als
   intro hA2 f1
   clear f0 hA
   have g1:∀ Z,(Y++Z)[0]?=some (DObj.row [DC.im (IC.sl (List.map j0 c.reg)),DC.im (IC.sl (List.map Ab.encI c.lets)),DC.im (IC.raw (Value.int IntKind.i64 c.of)),DC.im (IC.sl (List.map j5 c.loops))]):=fun Z=>by rw[List.getElem?_append_left (g9 f1)];exact f1
   have g2:∀ Z h,(Y++Z)[0]'h=DObj.row [DC.im (IC.sl (List.map j0 c.reg)),DC.im (IC.sl (List.map Ab.encI c.lets)),DC.im (IC.raw (Value.int IntKind.i64 c.of)),DC.im (IC.sl (List.map j5 c.loops))]:=fun Z h=>by have:=g1 Z;rw[List.getElem?_eq_getElem h] at this;exact Option.some.inj this
   have bM:∀ R k,(Y++R)[Y.length+k]?=R[k]?:=fun R k=>by rw[List.getElem?_append_right (by omega),Nat.add_sub_cancel_left]
   have b7:∀ (R:List DObj) h (h':7<R.length),(Y++R)[Y.length+4+3]'h=R[7]:=fun R h h'=>by
    have:=bM R 7
    rw[show Y.length+7=Y.length+4+3 from rfl,List.getElem?_eq_getElem h,List.getElem?_eq_getElem h'] at this
    exact Option.some.inj this
   have s7:∀ R d,(Y++R).set (Y.length+4+3) d=Y++R.set 7 d:=fun R d=>by rw[List.set_append_right _ _ (by omega)];congr 2;omega
   simp -dsimp[f1]
   have hs:=za f1 (za g1 (za g2 (za b7 s7)))
   repeat' first|(with_reducible first|refine zz ?_|refine zE [0,1,2,3,4,8,9,10,11,12,13,14,15,16,17,18,19,21,22,23,24,25,26,27,34,86,87,88,89,94,95,96,105,106,107,115,116,117,133,134,135,144,145,146,166,167,168] ?_)|simp -dsimp[hs]|refine zp c3 ?_
   all_goals try clear hs
   have e1:(Y++[DObj.vec 0 [] 0 true,DObj.vec 0 [] 0 true,DObj.vec 0 [] 0 true,DObj.row [ar,al,DC.im (IC.raw (Value.int IntKind.i64 A.of)),ao],DObj.vec 0 [] 0 true,DObj.vec 0 [] 0 true,DObj.vec 0 [] 0 true,DObj.row [DC.im (IC.sl (List.map j0 A.reg)),DC.im (IC.sl (List.map Ab.encI A.lets)),DC.im (IC.raw (Value.int IntKind.i64 A.of)),DC.im (IC.sl (List.map j5 A.loops))]])[0]?=some (DObj.row [DC.im (IC.sl (List.map j0 c.reg)),DC.im (IC.sl (List.map Ab.encI c.lets)),DC.im (IC.raw (Value.int IntKind.i64 c.of)),DC.im (IC.sl (List.map j5 c.loops))]):=g1 _
   have e2:(Y++[DObj.vec 0 [] 0 true,DObj.vec 0 [] 0 true,DObj.vec 0 [] 0 true,DObj.row [ar,al,DC.im (IC.raw (Value.int IntKind.i64 A.of)),ao],DObj.vec 0 [] 0 true,DObj.vec 0 [] 0 true,DObj.vec 0 [] 0 true,DObj.row [DC.im (IC.sl (List.map j0 A.reg)),DC.im (IC.sl (List.map Ab.encI A.lets)),DC.im (IC.raw (Value.int IntKind.i64 A.of)),DC.im (IC.sl (List.map j5 A.loops))]])[Y.length+3]?=some (DObj.row [ar,al,DC.im (IC.raw (Value.int IntKind.i64 A.of)),ao]):=bM _ 3
   have e3:(Y++[DObj.vec 0 [] 0 true,DObj.vec 0 [] 0 true,DObj.vec 0 [] 0 true,DObj.row [ar,al,DC.im (IC.raw (Value.int IntKind.i64 A.of)),ao],DObj.vec 0 [] 0 true,DObj.vec 0 [] 0 true,DObj.vec 0 [] 0 true,DObj.row [DC.im (IC.sl (List.map j0 A.reg)),DC.im (IC.sl (List.map Ab.encI A.lets)),DC.im (IC.raw (Value.int IntKind.i64 A.of)),DC.im (IC.sl (List.map j5 A.loops))]])[Y.length+4+3]?=some (DObj.row [DC.im (IC.sl (List.map j0 A.reg)),DC.im (IC.sl (List.map Ab.encI A.lets)),DC.im (IC.raw (Value.int IntKind.i64 A.of)),DC.im (IC.sl (List.map j5 A.loops))]):=bM _ 7
   have hA3:=hA2.mono (L':=fun k=>(Y++[DObj.vec 0 [] 0 true,DObj.vec 0 [] 0 true,DObj.vec 0 [] 0 true,DObj.row [ar,al,DC.im (IC.raw (Value.int IntKind.i64 A.of)),ao],DObj.vec 0 [] 0 true,DObj.vec 0 [] 0 true,DObj.vec 0 [] 0 true,DObj.row [DC.im (IC.sl (List.map j0 A.reg)),DC.im (IC.sl (List.map Ab.encI A.lets)),DC.im (IC.raw (Value.int IntKind.i64 A.of)),DC.im (IC.sl (List.map j5 A.loops))]])[k]?) fun o' d' h=>by rw[List.getElem?_append_left (g9 h)];exact h
   revert e1 e2 e3 hA3
   generalize (Y++[DObj.vec 0 [] 0 true,DObj.vec 0 [] 0 true,DObj.vec 0 [] 0 true,DObj.row [ar,al,DC.im (IC.raw (Value.int IntKind.i64 A.of)),ao],DObj.vec 0 [] 0 true,DObj.vec 0 [] 0 true,DObj.vec 0 [] 0 true,DObj.row [DC.im (IC.sl (List.map j0 A.reg)),DC.im (IC.sl (List.map Ab.encI A.lets)),DC.im (IC.raw (Value.int IntKind.i64 A.of)),DC.im (IC.sl (List.map j5 A.loops))]])=Y1
   generalize Y.length+3=wza
   generalize Y.length+4+3=wzb
   intro e1 e2 e3 hA3
   clear f1 g1 g2 bM b7 s7 hA2
   clear Y
   refine CallE.embed_op t2 (by rfl) ?_
   rintro d o ⟨cr,cl,co,ab,ls,rfl,hX⟩
   have hX2:=hX.rn (L':=fun k=>(Y1++o.map (N0 fun k=>Y1.length+k))[k]?) (e:=fun k=>Y1.length+k) fun o' d' h=>by
    rw[List.getElem?_append_right (by omega),Nat.add_sub_cancel_left,List.getElem?_map,h];rfl
   have hA2:=hA3.mono (L':=fun k=>(Y1++o.map (N0 fun k=>Y1.length+k))[k]?) fun o' d' h=>by rw[List.getElem?_append_left (g9 h)];exact h
   have hgl:∀ (j:Nat) (d:DObj),Y1[j]?=some d→(Y1++o.map (N0 fun k=>Y1.length+k))[j]?=some d:=fun j d h=>by rw[List.getElem?_append_left (g9 h)];exact h
   have f1:=hgl _ _ e1
   have f2:=hgl _ _ e2
   have f3:=hgl _ _ e3
   simp only[bN,rnVL,rnL,P8]
   clear hgl e1 e2 e3 hA3 hX
   revert hA2 hX2 f1 f2 f3
   generalize (Y1++o.map (N0 fun k=>Y1.length+k))=Y
   generalize P8 _ cr=xr
   generalize P8 _ cl=xl
   generalize P8 _ co=xo
   generalize ab.map _=xab
   generalize ls.map _=xls
   intro hX2 hA2 f1 f2 f3
   have hgl:∀ (j:Nat) (d:DObj),Y[j]?=some d→(∀ Z,(Y++Z)[j]?=some d)∧∀ Z h,(Y++Z)[j]'h=d:=fun j d h=>by
    have h1:∀ Z,(Y++Z)[j]?=some d:=fun Z=>by rw[List.getElem?_append_left (g9 h)];exact h
    exact⟨h1,fun Z h'=>by have:=h1 Z;rw[List.getElem?_eq_getElem h'] at this;exact Option.some.inj this⟩
   obtain⟨g1,g2⟩:=hgl _ _ f1
   obtain⟨g3,g4⟩:=hgl _ _ f2
   obtain⟨g5,g6⟩:=hgl _ _ f3
   have bM:∀ R k,(Y++R)[Y.length+k]?=R[k]?:=fun R k=>by rw[List.getElem?_append_right (by omega),Nat.add_sub_cancel_left]
   have b7:∀ (R:List DObj) h (h':7<R.length),(Y++R)[Y.length+4+3]'h=R[7]:=fun R h h'=>by
    have:=bM R 7
    rw[show Y.length+7=Y.length+4+3 from rfl,List.getElem?_eq_getElem h,List.getElem?_eq_getElem h'] at this
    exact Option.some.inj this
   have s7:∀ R d,(Y++R).set (Y.length+4+3) d=Y++R.set 7 d:=fun R d=>by rw[List.set_append_right _ _ (by omega)];congr 2;omega
   simp -dsimp[f1,f2,f3]
   have hs:=za f1 (za f2 (za f3 (za g1 (za g2 (za g3 (za g4 (za g5 (za g6 (za b7 s7)))))))))
   repeat' first|(with_reducible first|refine zz ?_|refine zE [0,1,2,3,4,8,9,10,11,12,13,14,15,16,17,18,19,21,22,23,24,25,26,27,34,86,87,88,89,94,95,96,105,106,107,115,116,117,133,134,135,144,145,146,166,167,168] ?_)|simp -dsimp[hs]|refine zp c4 ?_
   all_goals try clear hs
   have hgl2:∀ (Z:List DObj) (j:Nat) (d:DObj),Y[j]?=some d→(Y++Z)[j]?=some d:=fun Z j d h=>by rw[List.getElem?_append_left (g9 h)];exact h
   have e1:(Y++[DObj.vec 0 [] 0 true,DObj.vec 0 [] 0 true,DObj.vec 0 [] 0 true,DObj.row [xr,xl,DC.im (IC.raw (Value.int IntKind.i64 X.of)),xo],DObj.vec 0 [] 0 true,DObj.vec 0 [] 0 true,DObj.vec 0 [] 0 true,DObj.row [DC.im (IC.sl (List.map j0 X.reg)),DC.im (IC.sl (List.map Ab.encI X.lets)),DC.im (IC.raw (Value.int IntKind.i64 X.of)),DC.im (IC.sl (List.map j5 X.loops))]])[0]?=some (DObj.row [DC.im (IC.sl (List.map j0 c.reg)),DC.im (IC.sl (List.map Ab.encI c.lets)),DC.im (IC.raw (Value.int IntKind.i64 c.of)),DC.im (IC.sl (List.map j5 c.loops))]):=g1 _
   have e2:(Y++[DObj.vec 0 [] 0 true,DObj.vec 0 [] 0 true,DObj.vec 0 [] 0 true,DObj.row [xr,xl,DC.im (IC.raw (Value.int IntKind.i64 X.of)),xo],DObj.vec 0 [] 0 true,DObj.vec 0 [] 0 true,DObj.vec 0 [] 0 true,DObj.row [DC.im (IC.sl (List.map j0 X.reg)),DC.im (IC.sl (List.map Ab.encI X.lets)),DC.im (IC.raw (Value.int IntKind.i64 X.of)),DC.im (IC.sl (List.map j5 X.loops))]])[wza]?=some (DObj.row [ar,al,DC.im (IC.raw (Value.int IntKind.i64 A.of)),ao]):=g3 _
   have e3:(Y++[DObj.vec 0 [] 0 true,DObj.vec 0 [] 0 true,DObj.vec 0 [] 0 true,DObj.row [xr,xl,DC.im (IC.raw (Value.int IntKind.i64 X.of)),xo],DObj.vec 0 [] 0 true,DObj.vec 0 [] 0 true,DObj.vec 0 [] 0 true,DObj.row [DC.im (IC.sl (List.map j0 X.reg)),DC.im (IC.sl (List.map Ab.encI X.lets)),DC.im (IC.raw (Value.int IntKind.i64 X.of)),DC.im (IC.sl (List.map j5 X.loops))]])[wzb]?=some (DObj.row [DC.im (IC.sl (List.map j0 A.reg)),DC.im (IC.sl (List.map Ab.encI A.lets)),DC.im (IC.raw (Value.int IntKind.i64 A.of)),DC.im (IC.sl (List.map j5 A.loops))]):=g5 _
   have e4:(Y++[DObj.vec 0 [] 0 true,DObj.vec 0 [] 0 true,DObj.vec 0 [] 0 true,DObj.row [xr,xl,DC.im (IC.raw (Value.int IntKind.i64 X.of)),xo],DObj.vec 0 [] 0 true,DObj.vec 0 [] 0 true,DObj.vec 0 [] 0 true,DObj.row [DC.im (IC.sl (List.map j0 X.reg)),DC.im (IC.sl (List.map Ab.encI X.lets)),DC.im (IC.raw (Value.int IntKind.i64 X.of)),DC.im (IC.sl (List.map j5 X.loops))]])[Y.length+3]?=some (DObj.row [xr,xl,DC.im (IC.raw (Value.int IntKind.i64 X.of)),xo]):=bM _ 3
   have e5:(Y++[DObj.vec 0 [] 0 true,DObj.vec 0 [] 0 true,DObj.vec 0 [] 0 true,DObj.row [xr,xl,DC.im (IC.raw (Value.int IntKind.i64 X.of)),xo],DObj.vec 0 [] 0 true,DObj.vec 0 [] 0 true,DObj.vec 0 [] 0 true,DObj.row [DC.im (IC.sl (List.map j0 X.reg)),DC.im (IC.sl (List.map Ab.encI X.lets)),DC.im (IC.raw (Value.int IntKind.i64 X.of)),DC.im (IC.sl (List.map j5 X.loops))]])[Y.length+4+3]?=some (DObj.row [DC.im (IC.sl (List.map j0 X.reg)),DC.im (IC.sl (List.map Ab.encI X.lets)),DC.im (IC.raw (Value.int IntKind.i64 X.of)),DC.im (IC.sl (List.map j5 X.loops))]):=bM _ 7
   have hA3:=hA2.mono (L':=fun k=>(Y++[DObj.vec 0 [] 0 true,DObj.vec 0 [] 0 true,DObj.vec 0 [] 0 true,DObj.row [xr,xl,DC.im (IC.raw (Value.int IntKind.i64 X.of)),xo],DObj.vec 0 [] 0 true,DObj.vec 0 [] 0 true,DObj.vec 0 [] 0 true,DObj.row [DC.im (IC.sl (List.map j0 X.reg)),DC.im (IC.sl (List.map Ab.encI X.lets)),DC.im (IC.raw (Value.int IntKind.i64 X.of)),DC.im (IC.sl (List.map j5 X.loops))]])[k]?) (hgl2 _)
   have hX3:=hX2.mono (L':=fun k=>(Y++[DObj.vec 0 [] 0 true,DObj.vec 0 [] 0 true,DObj.vec 0 [] 0 true,DObj.row [xr,xl,DC.im (IC.raw (Value.int IntKind.i64 X.of)),xo],DObj.vec 0 [] 0 true,DObj.vec 0 [] 0 true,DObj.vec 0 [] 0 true,DObj.row [DC.im (IC.sl (List.map j0 X.reg)),DC.im (IC.sl (List.map Ab.encI X.lets)),DC.im (IC.raw (Value.int IntKind.i64 X.of)),DC.im (IC.sl (List.map j5 X.loops))]])[k]?) (hgl2 _)
   clear f1 f2 f3 g1 g2 g3 g4 g5 g6 bM b7 s7 hgl hgl2 hA2 hX2
   revert e1 e2 e3 e4 e5 hA3 hX3
   generalize (Y++[DObj.vec 0 [] 0 true,DObj.vec 0 [] 0 true,DObj.vec 0 [] 0 true,DObj.row [xr,xl,DC.im (IC.raw (Value.int IntKind.i64 X.of)),xo],DObj.vec 0 [] 0 true,DObj.vec 0 [] 0 true,DObj.vec 0 [] 0 true,DObj.row [DC.im (IC.sl (List.map j0 X.reg)),DC.im (IC.sl (List.map Ab.encI X.lets)),DC.im (IC.raw (Value.int IntKind.i64 X.of)),DC.im (IC.sl (List.map j5 X.loops))]])=Y1
   generalize Y.length+3=wzx
   generalize Y.length+4+3=wzy
   intro e1 e2 e3 e4 e5 hA hX
   clear Y
   have hae:=lR hA
   have hxe:=lR hX
   have hs:=za e1 (za e2 (za e3 (za e4 e5)))
   repeat' first|(with_reducible first|refine zz ?_|refine zE [0,1,2,3,4,8,9,10,11,12,13,14,15,16,17,18,19,21,22,23,24,25,26,27,34,86,87,88,89,94,95,96,105,106,107,115,116,117,133,134,135,144,145,146,166,167,168] ?_)|simp -dsimp[hs]|refine CallE.thaw s1 hae ?_ ?_;(focus simp;done)|refine CallE.thaw s2 hxe ?_ ?_;(focus simp;done)
   all_goals try clear hs
   have hI0:LawI c Y1.length ar al ao xr xl xo A.of X.of A.lets.length X.lets.length (List.zipWith X9 A.reg aab) (List.zipWith gN A.loops als) (List.zipWith X9 X.reg xab) (List.zipWith gN X.loops xls) (Y1++[DObj.vec 4 [[ar,al,.im (.raw (.int .i64 A.of)),ao],[xr,xl,.im (.raw (.int .i64 X.of)),xo]] 0 false]):=by
    have hgl:∀ (j:Nat) (d:DObj),Y1[j]?=some d→(Y1++[DObj.vec 4 [[ar,al,.im (.raw (.int .i64 A.of)),ao],[xr,xl,.im (.raw (.int .i64 X.of)),xo]] 0 false])[j]?=some d:=fun j d h=>by rw[List.getElem?_append_left (g9 h)];exact h
    exact⟨hgl _ _ e1,by rw[List.getElem?_append_right (Nat.le_refl _),Nat.sub_self];rfl,(hA.wG hsA).mono hgl,(hX.wG hsX).mono hgl⟩
   clear e1 e2 e3 e4 e5 hae hxe hA hX
   revert hI0
   generalize (Y1++[DObj.vec 4 _ 0 false])=Y
   generalize Y1.length=ys
   generalize List.zipWith X9 A.reg aab=Ra
   generalize List.zipWith gN A.loops als=La
   generalize List.zipWith X9 X.reg xab=Rx
   generalize List.zipWith gN X.loops xls=Lx
   intro hI0
   refine j7 (ι:={ p:Nat×List DObj // p.1≤2∧LawI c ys ar al ao xr xl xo A.of X.of A.lets.length X.lets.length Ra La Rx Lx p.2 }) (fun p=>⟨194,[(1,.one (.im (.sl (l.map m6)))),(4,.one (.ptr 0 0)),(9,.one (.im (.ip [.sl (c.reg.map j0),.sl (c.lets.map Ab.encI),.raw (.int .i64 c.of),.sl (c.loops.map j5)]))),(10,.one (.im (.sl (l.map m6)))),(19,bv true),(86,.one (.vec ys 0 0 2)),(87,iv 2),(88,iv (p.1.1:Int))],p.1.2⟩) (fun p=>2-p.1.1) ⟨(0,Y),by omega,hI0⟩ (zv [1,4,9,10,19,86,87,88]) ?_
   clear hI0
   clear Y
   rintro⟨⟨k,Y⟩,hk,hI⟩
   simp only at hk hI
   simp only[iv,rI,bv]
   have f1:=hI.row
   by_cases hlt:k<2
   ·have hw:=zk k
    obtain⟨vr,vl,vo,vf,vn,vR,vL,hel,hV⟩:∃ (vr vl vo:DC) (vf:Int) (vn:Nat) (vR vL:List (List DC)),[[ar,al,.im (.raw (.int .i64 A.of)),ao],[xr,xl,.im (.raw (.int .i64 X.of)),xo]][k]?=some [vr,vl,.im (.raw (.int .i64 vf)),vo]∧∀ Y,LawI c ys ar al ao xr xl xo A.of X.of A.lets.length X.lets.length Ra La Rx Lx Y→DeepW (fun k=>Y[k]?) vr vl vo vn vR vL:=by
     match k,hlt with
     | 0,_=>exact⟨_,_,_,_,_,_,_,rfl,fun Y h=>h.wa⟩
     | 1,_=>exact⟨_,_,_,_,_,_,_,rfl,fun Y h=>h.wx⟩
    have f2:=hI.pair
    generalize hPe:[[ar,al,DC.im (.raw (.int .i64 A.of)),ao],[xr,xl,DC.im (.raw (.int .i64 X.of)),xo]]=P at *
    have hPl:P.length=2:=by rw[← hPe];rfl
    have hge:∀ h,P[k]'h=[vr,vl,DC.im (.raw (.int .i64 vf)),vo]:=fun h=>by rw[List.getElem?_eq_getElem h] at hel;exact Option.some.inj hel
    have hltI:(k:Int)<2:=by omega
    have hkP:k<P.length:=by omega
    have hgl:∀ (Z:List DObj) (j:Nat) (d:DObj),Y[j]?=some d→(Y++Z)[j]?=some d:=fun Z j d h=>by rw[List.getElem?_append_left (g9 h)];exact h
    have hln:=fun Z=>jy (hV Y hI).lets (hgl Z)
    have hln':=hln
    simp only[eZ] at hln'
    have hs:=za hlt (za hltI (za hw (za f1 (za f2 (za hel (za hge (za hPl (za hkP hln'))))))))
    repeat' first|(with_reducible first|refine zz ?_|refine zE [0,1,2,3,4,8,9,10,11,12,13,14,15,16,17,18,19,21,22,23,24,25,26,27,34,86,87,88,89,94,95,96,105,106,107,115,116,117,133,134,135,144,145,146,166,167,168] ?_)|simp -dsimp[↓hln,hs]|refine m5 ?_ ?_<;>intro h<;>try simp only[l8] at h
    all_goals try clear hs
    have hI2:=hI.grow [DObj.vec 0 [] 0 true,DObj.vec 0 [] 0 true,DObj.vec 0 [] 0 true,DObj.row [vr,vl,.im (.raw (.int .i64 vf)),vo]]
    have hz:(Y++[DObj.vec 0 [] 0 true,DObj.vec 0 [] 0 true,DObj.vec 0 [] 0 true,DObj.row [vr,vl,.im (.raw (.int .i64 vf)),vo]])[Y.length+3]?=some (.row [vr,vl,.im (.raw (.int .i64 vf)),vo]):=by rw[List.getElem?_append_right (by omega),Nat.add_sub_cancel_left];rfl
    revert hI2 hz
    generalize (Y++[DObj.vec 0 [] 0 true,DObj.vec 0 [] 0 true,DObj.vec 0 [] 0 true,DObj.row [vr,vl,.im (.raw (.int .i64 vf)),vo]])=Y2
    generalize Y.length+3=wzz
    intro hI2 hz
    clear hln hln' hgl f1 f2
    have hWn:=(hV _ hI2).n1
    refine j7 (ι:={ p:Nat×List DObj // p.1≤vn∧LawI c ys ar al ao xr xl xo A.of X.of A.lets.length X.lets.length Ra La Rx Lx p.2∧p.2[wzz]?=some (.row [vr,vl,.im (.raw (.int .i64 vf)),vo]) }) (fun p=>⟨194,[(1,.one (.im (.sl (l.map m6)))),(4,.one (.ptr 0 0)),(9,.one (.im (.ip [.sl (c.reg.map j0),.sl (c.lets.map Ab.encI),.raw (.int .i64 c.of),.sl (c.loops.map j5)]))),(10,.one (.im (.sl (l.map m6)))),(19,bv true),(21,.one (.ptr wzz 0)),(86,.one (.vec ys 0 0 2)),(87,iv 2),(88,iv (k:Int)),(94,iv (vn:Int)),(95,iv (p.1.1:Int))],p.1.2⟩) (fun p=>vn-p.1.1) ⟨(0,Y2),by omega,hI2,hz⟩ (zv [1,4,9,10,19,21,86,87,88,94,95]) ?_
    clear hI2 hz
    clear Y2
    rintro⟨⟨i,Y⟩,hi,hI,hz⟩
    simp only at hi hI hz
    simp only[iv,rI,bv]
    by_cases hlt1:i<vn
    ·have hw1:=zk i
     have hlt1I:(i:Int)<(vn:Int):=by omega
     rcases (hV Y hI).lets with⟨o2,g2,nl2,sz2,E,rfl,h1,h2,h3,h4⟩|⟨rfl,h0⟩
     ·have hsz:sz2=1:=by omega
      subst hsz
      obtain⟨r,hr⟩:∃ r,E[i]?=some r:=⟨E[i]'(by omega),by simp[show i<E.length by omega]⟩
      obtain⟨h5,h6⟩:=h4 r (List.mem_of_getElem? hr)
      obtain⟨a1,rfl⟩:=DX h5 h6
      have hre:∀ h,E[i]'h=[DC.im a1]:=fun h=>by rw[List.getElem?_eq_getElem h] at hr;exact Option.some.inj hr
      have hs:=za hlt1 (za hlt1I (za hw1 (za hz (za h1 (za h3 (za hr hre))))))
      repeat' first|(with_reducible first|refine zz ?_|refine zE [0,1,2,3,4,8,9,10,11,12,13,14,15,16,17,18,19,21,22,23,24,25,26,27,34,86,87,88,89,94,95,96,105,106,107,115,116,117,133,134,135,144,145,146,166,167,168] ?_)|simp -dsimp[hs]|refine m5 ?_ ?_<;>intro h<;>try simp only[l8] at h
      all_goals try clear hs
      all_goals exact zn ⟨(i+1,Y.set o2 (.vec 1 (E.set i [.im (.raw (.int .i64 0))]) g2 nl2)),by omega,hI.wrote (off:=0) (i:=.raw (.int .i64 0)) h1 (by decide) (fun r hr=>(h4 r hr).2) hr (by simp),dG hz h1⟩ (zv [1,4,9,10,19,21,86,87,88,94,95])
     ·omega
    ·have hlt1I:¬ (i:Int)<(vn:Int):=by omega
     have hln:=su (hV Y hI).loops (Y':=Y) (fun _ _ h=>h)
     have hln':=hln
     simp only[eZ] at hln'
     have hs:=za hlt1 (za hlt1I (za hz hln'))
     repeat' first|(with_reducible first|refine zz ?_|refine zE [0,1,2,3,4,8,9,10,11,12,13,14,15,16,17,18,19,21,22,23,24,25,26,27,34,86,87,88,89,94,95,96,105,106,107,115,116,117,133,134,135,144,145,146,166,167,168] ?_)|simp -dsimp[↓hln,hs]|refine m5 ?_ ?_<;>intro h<;>try simp only[l8] at h
     all_goals try clear hs
     clear hln hln'
     have hn3:=(hV _ hI).n3
     refine j7 (ι:={ p:Nat×List DObj // p.1≤vL.length∧LawI c ys ar al ao xr xl xo A.of X.of A.lets.length X.lets.length Ra La Rx Lx p.2∧p.2[wzz]?=some (.row [vr,vl,.im (.raw (.int .i64 vf)),vo]) }) (fun p=>⟨194,[(1,.one (.im (.sl (l.map m6)))),(4,.one (.ptr 0 0)),(9,.one (.im (.ip [.sl (c.reg.map j0),.sl (c.lets.map Ab.encI),.raw (.int .i64 c.of),.sl (c.loops.map j5)]))),(10,.one (.im (.sl (l.map m6)))),(19,bv true),(21,.one (.ptr wzz 0)),(86,.one (.vec ys 0 0 2)),(87,iv 2),(88,iv (k:Int)),(105,iv (vL.length:Int)),(106,iv (p.1.1:Int))],p.1.2⟩) (fun p=>vL.length-p.1.1) ⟨(0,Y),by omega,hI,hz⟩ (zv [1,4,9,10,19,21,86,87,88,105,106]) ?_
     rintro⟨⟨j,Y⟩,hij,hI,hz⟩
     simp only at hij hI hz
     simp only[iv,rI,bv]
     by_cases hlt2:j<vL.length
     ·have hw2:=zk j
      have hlt2I:(j:Int)<(vL.length:Int):=by omega
      rcases (hV Y hI).loops with⟨o,g,nl,sz,rfl,h1,h2⟩|⟨rfl,h0⟩
      ·have hLe:vL≠[]:=fun e=>by rw[e] at hlt2;simp at hlt2
       have hsz:sz=3:=h2.resolve_right hLe
       subst hsz
       obtain⟨r,hr⟩:∃ r,vL[j]?=some r:=⟨vL[j],by simp[hlt2]⟩
       have hrm:=List.mem_of_getElem? hr
       obtain⟨p,ra,rb,pn,rfl,hp,hpn⟩:=yE (hV Y hI) hrm
       have hge2:∀ h,vL[j]'h=[p,DC.im ra,DC.im rb]:=fun h=>by rw[List.getElem?_eq_getElem h] at hr;exact Option.some.inj hr
       have hln:=jy hp (Y':=Y) (fun _ _ h=>h)
       have hln':=hln
       simp only[eZ] at hln'
       have hs:=za hlt2 (za hlt2I (za hw2 (za hz (za h1 (za hr (za hge2 hln'))))))
       repeat' first|(with_reducible first|refine zz ?_|refine zE [0,1,2,3,4,8,9,10,11,12,13,14,15,16,17,18,19,21,22,23,24,25,26,27,34,86,87,88,89,94,95,96,105,106,107,115,116,117,133,134,135,144,145,146,166,167,168] ?_)|simp -dsimp[↓hln,hs]|refine m5 ?_ ?_<;>intro h<;>try simp only[l8] at h
       all_goals try clear hs
       clear hln hln' h1 h2
       refine j7 (ι:={ p:Nat×List DObj // p.1≤pn∧LawI c ys ar al ao xr xl xo A.of X.of A.lets.length X.lets.length Ra La Rx Lx p.2∧p.2[wzz]?=some (.row [vr,vl,.im (.raw (.int .i64 vf)),.vec o g 0 vL.length]) }) (fun p=>⟨194,[(1,.one (.im (.sl (l.map m6)))),(4,.one (.ptr 0 0)),(9,.one (.im (.ip [.sl (c.reg.map j0),.sl (c.lets.map Ab.encI),.raw (.int .i64 c.of),.sl (c.loops.map j5)]))),(10,.one (.im (.sl (l.map m6)))),(19,bv true),(21,.one (.ptr wzz 0)),(23,iv (j:Int)),(86,.one (.vec ys 0 0 2)),(87,iv 2),(88,iv (k:Int)),(105,iv (vL.length:Int)),(106,iv (j:Int)),(115,iv (pn:Int)),(116,iv (p.1.1:Int))],p.1.2⟩) (fun p=>pn-p.1.1) ⟨(0,Y),by omega,hI,hz⟩ (zv [1,4,9,10,19,21,23,86,87,88,105,106,115,116]) ?_
       rintro⟨⟨m,Y⟩,him,hI,hz⟩
       simp only at him hI hz
       simp only[iv,rI,bv]
       obtain⟨nlv,hvo⟩:=qx (hV Y hI).loops hLe
       by_cases hlt3:m<pn
       ·have hw3:=zk m
        have hlt3I:(m:Int)<(pn:Int):=by omega
        rcases wH (hV Y hI) hrm hp with⟨o2,g2,nl2,sz2,E,rfl,h1,h2,h3,h4⟩|⟨rfl,h0⟩
        ·have hsz:sz2=3:=by omega
         subst hsz
         obtain⟨r,hr⟩:∃ r,E[m]?=some r:=⟨E[m]'(by omega),by simp[show m<E.length by omega]⟩
         obtain⟨h5,h6⟩:=h4 r (List.mem_of_getElem? hr)
         obtain⟨a1,a2,a3,rfl⟩:=DA h5 h6
         have hre:∀ h,E[m]'h=[DC.im a1,DC.im a2,DC.im a3]:=fun h=>by rw[List.getElem?_eq_getElem h] at hr;exact Option.some.inj hr
         have hs:=za hlt3 (za hlt3I (za hw3 (za hz (za h1 (za h3 (za hr (za hre (za hvo (za hge2 (za hlt2 hlt2I))))))))))
         repeat' first|(with_reducible first|refine zz ?_|refine zE [0,1,2,3,4,8,9,10,11,12,13,14,15,16,17,18,19,21,22,23,24,25,26,27,34,86,87,88,89,94,95,96,105,106,107,115,116,117,133,134,135,144,145,146,166,167,168] ?_)|simp -dsimp[hs]|refine m5 ?_ ?_<;>intro h<;>try simp only[l8] at h
         all_goals try clear hs
         all_goals exact zn ⟨(m+1,Y.set o2 (.vec 3 (E.set m [.im a1,.im (.raw (.int .i64 7)),.im a3]) g2 nl2)),by omega,hI.wrote (off:=1) (i:=.raw (.int .i64 7)) h1 (by decide) (fun r hr=>(h4 r hr).2) hr (by simp),dG hz h1⟩ (zv [1,4,9,10,19,21,23,86,87,88,105,106,115,116])
        ·omega
       ·have hlt3I:¬ (m:Int)<(pn:Int):=by omega
        have hs:=za hlt3 (za hlt3I (za hw2 hz))
        repeat' first|(with_reducible first|refine zz ?_|refine zE [0,1,2,3,4,8,9,10,11,12,13,14,15,16,17,18,19,21,22,23,24,25,26,27,34,86,87,88,89,94,95,96,105,106,107,115,116,117,133,134,135,144,145,146,166,167,168] ?_)|simp -dsimp[hs]|refine m5 ?_ ?_<;>intro h<;>try simp only[l8] at h
        all_goals try clear hs
        all_goals exact zn ⟨(j+1,Y),by omega,hI,hz⟩ (zv [1,4,9,10,19,21,86,87,88,105,106])
      ·rw[h0] at hlt2;simp at hlt2
     ·have hlt2I:¬ (j:Int)<(vL.length:Int):=by omega
      have hln:=su (hV Y hI).reg (Y':=Y) (fun _ _ h=>h)
      have hln':=hln
      simp only[eZ] at hln'
      have hs:=za hlt2 (za hlt2I (za hz hln'))
      repeat' first|(with_reducible first|refine zz ?_|refine zE [0,1,2,3,4,8,9,10,11,12,13,14,15,16,17,18,19,21,22,23,24,25,26,27,34,86,87,88,89,94,95,96,105,106,107,115,116,117,133,134,135,144,145,146,166,167,168] ?_)|simp -dsimp[↓hln,hs]|refine m5 ?_ ?_<;>intro h<;>try simp only[l8] at h
      all_goals try clear hs
      clear hln hln'
      have hn2:=(hV _ hI).n2
      refine j7 (ι:={ p:Nat×List DObj // p.1≤vR.length∧LawI c ys ar al ao xr xl xo A.of X.of A.lets.length X.lets.length Ra La Rx Lx p.2∧p.2[wzz]?=some (.row [vr,vl,.im (.raw (.int .i64 vf)),vo]) }) (fun p=>⟨194,[(1,.one (.im (.sl (l.map m6)))),(4,.one (.ptr 0 0)),(9,.one (.im (.ip [.sl (c.reg.map j0),.sl (c.lets.map Ab.encI),.raw (.int .i64 c.of),.sl (c.loops.map j5)]))),(10,.one (.im (.sl (l.map m6)))),(19,bv true),(21,.one (.ptr wzz 0)),(86,.one (.vec ys 0 0 2)),(87,iv 2),(88,iv (k:Int)),(133,iv (vR.length:Int)),(134,iv (p.1.1:Int))],p.1.2⟩) (fun p=>vR.length-p.1.1) ⟨(0,Y),by omega,hI,hz⟩ (zv [1,4,9,10,19,21,86,87,88,133,134]) ?_
      rintro⟨⟨y,Y⟩,hiy,hI,hz⟩
      simp only at hiy hI hz
      simp only[iv,rI,bv]
      by_cases hlt4:y<vR.length
      ·have hw4:=zk y
       have hlt4I:(y:Int)<(vR.length:Int):=by omega
       rcases (hV Y hI).reg with⟨o,g,nl,sz,rfl,h1,h2⟩|⟨rfl,h0⟩
       ·have hLe:vR≠[]:=fun e=>by rw[e] at hlt4;simp at hlt4
        have hsz:sz=5:=h2.resolve_right hLe
        subst hsz
        obtain⟨r,hr⟩:∃ r,vR[y]?=some r:=⟨vR[y],by simp[hlt4]⟩
        have hrm:=List.mem_of_getElem? hr
        obtain⟨ra,rb,rd,p,q,pn,qn,rfl,hp,hq,hpn,hqn⟩:=(hV Y hI).regs _ hrm
        have hge4:∀ h,vR[y]'h=[DC.im ra,DC.im rb,DC.im rd,p,q]:=fun h=>by rw[List.getElem?_eq_getElem h] at hr;exact Option.some.inj hr
        have hln:=jy hp (Y':=Y) (fun _ _ h=>h)
        have hln':=hln
        simp only[eZ] at hln'
        have hs:=za hlt4 (za hlt4I (za hw4 (za hz (za h1 (za hr (za hge4 hln'))))))
        repeat' first|(with_reducible first|refine zz ?_|refine zE [0,1,2,3,4,8,9,10,11,12,13,14,15,16,17,18,19,21,22,23,24,25,26,27,34,86,87,88,89,94,95,96,105,106,107,115,116,117,133,134,135,144,145,146,166,167,168] ?_)|simp -dsimp[↓hln,hs]|refine m5 ?_ ?_<;>intro h<;>try simp only[l8] at h
        all_goals try clear hs
        clear hln hln' h1 h2
        refine j7 (ι:={ p:Nat×List DObj // p.1≤pn∧LawI c ys ar al ao xr xl xo A.of X.of A.lets.length X.lets.length Ra La Rx Lx p.2∧p.2[wzz]?=some (.row [.vec o g 0 vR.length,vl,.im (.raw (.int .i64 vf)),vo]) }) (fun p=>⟨194,[(1,.one (.im (.sl (l.map m6)))),(4,.one (.ptr 0 0)),(9,.one (.im (.ip [.sl (c.reg.map j0),.sl (c.lets.map Ab.encI),.raw (.int .i64 c.of),.sl (c.loops.map j5)]))),(10,.one (.im (.sl (l.map m6)))),(19,bv true),(21,.one (.ptr wzz 0)),(25,iv (y:Int)),(86,.one (.vec ys 0 0 2)),(87,iv 2),(88,iv (k:Int)),(133,iv (vR.length:Int)),(134,iv (y:Int)),(144,iv (pn:Int)),(145,iv (p.1.1:Int))],p.1.2⟩) (fun p=>pn-p.1.1) ⟨(0,Y),by omega,hI,hz⟩ (zv [1,4,9,10,19,21,25,86,87,88,133,134,144,145]) ?_
        rintro⟨⟨m,Y⟩,him,hI,hz⟩
        simp only at him hI hz
        simp only[iv,rI,bv]
        obtain⟨nlv,hvo⟩:=qx (hV Y hI).reg hLe
        by_cases hlt5:m<pn
        ·have hw5:=zk m
         have hlt5I:(m:Int)<(pn:Int):=by omega
         rcases wF (hV Y hI) hrm hp with⟨o2,g2,nl2,sz2,E,rfl,h1,h2,h3,h4⟩|⟨rfl,h0⟩
         ·have hsz:sz2=2:=by omega
          subst hsz
          obtain⟨r,hr⟩:∃ r,E[m]?=some r:=⟨E[m]'(by omega),by simp[show m<E.length by omega]⟩
          obtain⟨h5,h6⟩:=h4 r (List.mem_of_getElem? hr)
          obtain⟨a1,a2,rfl⟩:=DW h5 h6
          have hre:∀ h,E[m]'h=[DC.im a1,DC.im a2]:=fun h=>by rw[List.getElem?_eq_getElem h] at hr;exact Option.some.inj hr
          have hs:=za hlt5 (za hlt5I (za hw5 (za hz (za h1 (za h3 (za hr (za hre (za hvo (za hge4 (za hlt4 hlt4I))))))))))
          repeat' first|(with_reducible first|refine zz ?_|refine zE [0,1,2,3,4,8,9,10,11,12,13,14,15,16,17,18,19,21,22,23,24,25,26,27,34,86,87,88,89,94,95,96,105,106,107,115,116,117,133,134,135,144,145,146,166,167,168] ?_)|simp -dsimp[hs]|refine m5 ?_ ?_<;>intro h<;>try simp only[l8] at h
          all_goals try clear hs
          all_goals exact zn ⟨(m+1,Y.set o2 (.vec 2 (E.set m [.im a1,.im (.raw (.int .i64 0))]) g2 nl2)),by omega,hI.wrote (off:=1) (i:=.raw (.int .i64 0)) h1 (by decide) (fun r hr=>(h4 r hr).2) hr (by simp),dG hz h1⟩ (zv [1,4,9,10,19,21,25,86,87,88,133,134,144,145])
         ·omega
        ·have hlt5I:¬ (m:Int)<(pn:Int):=by omega
         have hln:=jy (pk (hV Y hI) hrm hq) (Y':=Y) (fun _ _ h=>h)
         have hln':=hln
         simp only[eZ] at hln'
         have hs:=za hlt5 (za hlt5I (za hlt4 (za hlt4I (za hz (za hvo (za hr (za hge4 hln')))))))
         repeat' first|(with_reducible first|refine zz ?_|refine zE [0,1,2,3,4,8,9,10,11,12,13,14,15,16,17,18,19,21,22,23,24,25,26,27,34,86,87,88,89,94,95,96,105,106,107,115,116,117,133,134,135,144,145,146,166,167,168] ?_)|simp -dsimp[↓hln,hs]|refine m5 ?_ ?_<;>intro h<;>try simp only[l8] at h
         all_goals try clear hs
         clear hln hln' hvo
         refine j7 (ι:={ p:Nat×List DObj // p.1≤qn∧LawI c ys ar al ao xr xl xo A.of X.of A.lets.length X.lets.length Ra La Rx Lx p.2∧p.2[wzz]?=some (.row [.vec o g 0 vR.length,vl,.im (.raw (.int .i64 vf)),vo]) }) (fun p=>⟨194,[(1,.one (.im (.sl (l.map m6)))),(4,.one (.ptr 0 0)),(9,.one (.im (.ip [.sl (c.reg.map j0),.sl (c.lets.map Ab.encI),.raw (.int .i64 c.of),.sl (c.loops.map j5)]))),(10,.one (.im (.sl (l.map m6)))),(19,bv true),(21,.one (.ptr wzz 0)),(25,iv (y:Int)),(86,.one (.vec ys 0 0 2)),(87,iv 2),(88,iv (k:Int)),(133,iv (vR.length:Int)),(134,iv (y:Int)),(166,iv (qn:Int)),(167,iv (p.1.1:Int))],p.1.2⟩) (fun p=>qn-p.1.1) ⟨(0,Y),by omega,hI,hz⟩ (zv [1,4,9,10,19,21,25,86,87,88,133,134,166,167]) ?_
         rintro⟨⟨m,Y⟩,him,hI,hz⟩
         simp only at him hI hz
         simp only[iv,rI,bv]
         obtain⟨nlv,hvo⟩:=qx (hV Y hI).reg hLe
         by_cases hlt6:m<qn
         ·have hw6:=zk m
          have hlt6I:(m:Int)<(qn:Int):=by omega
          rcases pk (hV Y hI) hrm hq with⟨o2,g2,nl2,sz2,E,rfl,h1,h2,h3,h4⟩|⟨rfl,h0⟩
          ·have hsz:sz2=3:=by omega
           subst hsz
           obtain⟨r,hr⟩:∃ r,E[m]?=some r:=⟨E[m]'(by omega),by simp[show m<E.length by omega]⟩
           obtain⟨h5,h6⟩:=h4 r (List.mem_of_getElem? hr)
           obtain⟨a1,a2,a3,rfl⟩:=DA h5 h6
           have hre:∀ h,E[m]'h=[DC.im a1,DC.im a2,DC.im a3]:=fun h=>by rw[List.getElem?_eq_getElem h] at hr;exact Option.some.inj hr
           have hs:=za hlt6 (za hlt6I (za hw6 (za hz (za h1 (za h3 (za hr (za hre (za hvo (za hge4 (za hlt4 hlt4I))))))))))
           repeat' first|(with_reducible first|refine zz ?_|refine zE [0,1,2,3,4,8,9,10,11,12,13,14,15,16,17,18,19,21,22,23,24,25,26,27,34,86,87,88,89,94,95,96,105,106,107,115,116,117,133,134,135,144,145,146,166,167,168] ?_)|simp -dsimp[hs]|refine m5 ?_ ?_<;>intro h<;>try simp only[l8] at h
           all_goals try clear hs
           all_goals exact zn ⟨(m+1,Y.set o2 (.vec 3 (E.set m [.im a1,.im (.raw (.int .i64 (-7))),.im a3]) g2 nl2)),by omega,hI.wrote (off:=1) (i:=.raw (.int .i64 (-7))) h1 (by decide) (fun r hr=>(h4 r hr).2) hr (by simp),dG hz h1⟩ (zv [1,4,9,10,19,21,25,86,87,88,133,134,166,167])
          ·omega
         ·have hlt6I:¬ (m:Int)<(qn:Int):=by omega
          have hs:=za hlt6 (za hlt6I (za hw4 hz))
          repeat' first|(with_reducible first|refine zz ?_|refine zE [0,1,2,3,4,8,9,10,11,12,13,14,15,16,17,18,19,21,22,23,24,25,26,27,34,86,87,88,89,94,95,96,105,106,107,115,116,117,133,134,135,144,145,146,166,167,168] ?_)|simp -dsimp[hs]|refine m5 ?_ ?_<;>intro h<;>try simp only[l8] at h
          all_goals try clear hs
          all_goals exact zn ⟨(y+1,Y),by omega,hI,hz⟩ (zv [1,4,9,10,19,21,86,87,88,133,134])
       ·rw[h0] at hlt4;simp at hlt4
      ·have hlt4I:¬ (y:Int)<(vR.length:Int):=by omega
       have hs:=za hlt4 (za hlt4I (za hw hz))
       repeat' first|(with_reducible first|refine zz ?_|refine zE [0,1,2,3,4,8,9,10,11,12,13,14,15,16,17,18,19,21,22,23,24,25,26,27,34,86,87,88,89,94,95,96,105,106,107,115,116,117,133,134,135,144,145,146,166,167,168] ?_)|simp -dsimp[hs]|refine m5 ?_ ?_<;>intro h<;>try simp only[l8] at h
       all_goals try clear hs
       all_goals exact zn ⟨(k+1,Y),by omega,hI⟩ (zv [1,4,9,10,19,86,87,88])
   ·have hltI:¬ (k:Int)<2:=by omega
    have hs:=za hlt (za hltI f1)
    repeat' first|(with_reducible first|refine zz ?_|refine zr ?_|refine zE [0,1,2,3,4,8,9,10,11,12,13,14,15,16,17,18,19,21,22,23,24,25,26,27,34,86,87,88,89,94,95,96,105,106,107,115,116,117,133,134,135,144,145,146,166,167,168] ?_)|simp -dsimp[hs]|refine zp s3 ?_|refine zp s4 ?_|refine m5 ?_ ?_<;>intro h<;>try simp only[l8] at h
    all_goals try clear hs
end Go.Proofs
