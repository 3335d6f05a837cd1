/- Part 22 of the proofs. -/
import Derived.Test.YtpcoahkgkgmmlaaGreatDoorS08
import Derived.Test.YtpcoahkgkgmmlaaGreatDoorS09
import Derived.Test.YtpcoahkgkgmmlaaGreatDoorS10
import Derived.Test.YtpcoahkgkgmmlaaGreatDoorS16
import Derived.Test.YtpcoahkgkgmmlaaGreatDoorS17
import Derived.Test.YtpcoahkgkgmmlaaGreatDoorS18
import Derived.Test.YtpcoahkgkgmmlaaGreatDoorS19
import Derived.Test.YtpcoahkgkgmmlaaGreatDoorC02
set_option linter.all false
set_option linter.deprecated false
set_option maxHeartbeats 100000000
namespace Go.Ab
open Go
abbrev Q4:=DObj×DObj×DObj×DObj
abbrev Q2:=DObj×DObj
def I2 (F:Nat→Q4):Nat→List DObj
 | 0=>[]
 | n+1=>I2 F n++[(F n).1,(F n).2.1,(F n).2.2.1,(F n).2.2.2]
def H6 (F:Nat→Q2):Nat→List DObj
 | 0=>[]
 | n+1=>H6 F n++[(F n).1,(F n).2]
@[simp] theorem dP (F:Nat→Q4):∀ n,(I2 F n).length=4*n
 | 0=>rfl
 | n+1=>by simp[I2,dP F n];omega
@[simp] theorem dQ (F:Nat→Q2):∀ n,(H6 F n).length=2*n
 | 0=>rfl
 | n+1=>by simp[H6,dQ F n];omega
theorem mr (F:Nat→Q4) {i j:Nat} (hj:j<4):∀ {n},i<n→(I2 F n)[4*i+j]?=[(F i).1,(F i).2.1,(F i).2.2.1,(F i).2.2.2][j]?
 | n+1,h=>by
   rw[I2]
   rcases Nat.eq_or_lt_of_le (Nat.le_of_lt_succ h) with rfl|h1
   ·rw[List.getElem?_append_right (by simp),dP,Nat.add_sub_cancel_left]
   ·rw[List.getElem?_append_left (by simp;omega)];exact mr F hj h1
theorem mu (F:Nat→Q2) {i j:Nat} (hj:j<2):∀ {n},i<n→(H6 F n)[2*i+j]?=[(F i).1,(F i).2][j]?
 | n+1,h=>by
   rw[H6]
   rcases Nat.eq_or_lt_of_le (Nat.le_of_lt_succ h) with rfl|h1
   ·rw[List.getElem?_append_right (by simp),dQ,Nat.add_sub_cancel_left]
   ·rw[List.getElem?_append_left (by simp;omega)];exact mu F hj h1
@[simp] theorem tY (f:DObj→DObj) (F:Nat→Q4):∀ n,(I2 F n).map f=I2 (fun k=>(f (F k).1,f (F k).2.1,f (F k).2.2.1,f (F k).2.2.2)) n
 | 0=>rfl
 | n+1=>by simp[I2,tY f F n]
@[simp] theorem tZ (f:DObj→DObj) (F:Nat→Q2):∀ n,(H6 F n).map f=H6 (fun k=>(f (F k).1,f (F k).2)) n
 | 0=>rfl
 | n+1=>by simp[H6,tZ f F n]
theorem iP {F H:Nat→Q4}:∀ {n},(∀ k,k<n→F k=H k)→I2 F n=I2 H n
 | 0,_=>rfl
 | n+1,h=>by rw[I2,I2,iP fun k hk=>h k (by omega),h n (by omega)]
theorem iQ {F H:Nat→Q2}:∀ {n},(∀ k,k<n→F k=H k)→H6 F n=H6 H n
 | 0,_=>rfl
 | n+1,h=>by rw[H6,H6,iQ fun k hk=>h k (by omega),h n (by omega)]
@[simp] theorem ms (F:Nat→Q4) (n j:Nat) (R:List DObj):(I2 F n++R)[4*n+j]?=R[j]?:=by
 rw[List.getElem?_append_right (by simp),dP,Nat.add_sub_cancel_left]
@[simp] theorem AS (F:Nat→Q4) (n:Nat) (R:List DObj):(I2 F n++R)[4*n]?=R[0]?:=by
 have:=ms F n 0 R;simpa using this
@[simp] theorem AR (F:Nat→Q4) (n a j:Nat) (R:List DObj):(I2 F n++R)[4*n+a+j]?=R[a+j]?:=by
 rw[Nat.add_assoc,ms]
@[simp] theorem dR (F:Nat→Q2) (n j:Nat) (R:List DObj):(H6 F n++R)[2*n+j]?=R[j]?:=by
 rw[List.getElem?_append_right (by simp),dQ,Nat.add_sub_cancel_left]
@[simp] theorem AU (F:Nat→Q2) (n:Nat) (R:List DObj):(H6 F n++R)[2*n]?=R[0]?:=by
 have:=dR F n 0 R;simpa using this
@[simp] theorem qN (F:Nat→Q4) (n j:Nat) (R:List DObj) (d:DObj):(I2 F n++R).set (4*n+j) d=I2 F n++R.set j d:=by
 rw[List.set_append_right _ _ (by simp),dP,Nat.add_sub_cancel_left]
@[simp] theorem zJ (F:Nat→Q4) (n a j:Nat) (R:List DObj) (d:DObj):(I2 F n++R).set (4*n+a+j) d=I2 F n++R.set (a+j) d:=by
 rw[Nat.add_assoc,qN]
@[simp] theorem qO (F:Nat→Q2) (n j:Nat) (R:List DObj) (d:DObj):(H6 F n++R).set (2*n+j) d=H6 F n++R.set j d:=by
 rw[List.set_append_right _ _ (by simp),dQ,Nat.add_sub_cancel_left]
@[simp] theorem AT (F:Nat→Q2) (n a j:Nat) (R:List DObj):(H6 F n++R)[2*n+a+j]?=R[a+j]?:=by
 rw[Nat.add_assoc,dR]
@[simp] theorem zK (F:Nat→Q2) (n a j:Nat) (R:List DObj) (d:DObj):(H6 F n++R).set (2*n+a+j) d=H6 F n++R.set (a+j) d:=by
 rw[Nat.add_assoc,qO]
abbrev Gp:=Nat×Bool
def tN (b:Nat→Nat×Nat) (m:Nat→Gp×Gp) (i k:Nat) (x:Issue):List DC:=if k<i then [.im (rI x.drawing),.im (rI x.letter),.im (.raw (.int .u8 x.kind)),.vec (b k).1 (m k).1.1 0 x.items.length,.vec (b k).2 (m k).2.1 0 x.dims.length] else (j0 x).map .im
def ek (b:Nat→Nat×Nat) (m:Nat→Gp×Gp) (i:Nat) (l:List Issue):List (List DC):=l.mapIdx (tN b m i)
def kE (l:List Issue) (m:Nat→Gp×Gp) (k:Nat):Q4:=match l[k]? with
 | some x=>(.vec 2 [] 0 true,.vec 2 (o7 (x.items.map l7)) (m k).1.1 (m k).1.2,.vec 3 [] 0 true,.vec 3 (o7 (x.dims.map l6)) (m k).2.1 (m k).2.2)
 | none=>(.gone,.gone,.gone,.gone)
@[simp] theorem Cc (b:Nat→Nat×Nat) (m:Nat→Gp×Gp) (i:Nat) (l:List Issue):(ek b m i l).length=l.length:=by simp[ek]
theorem tM (b:Nat→Nat×Nat) (m:Nat→Gp×Gp) (l:List Issue):ek b m 0 l=o7 (l.map j0):=by
 unfold ek o7
 apply List.ext_getElem?
 intro k
 simp[List.getElem?_mapIdx,tN]
 rfl
theorem yg {b:Nat→Nat×Nat} {m:Nat→Gp×Gp} {i:Nat} {l:List Issue} {x:Issue} (h:l[i]?=some x):(ek b m i l)[i]?=some ((j0 x).map .im):=by
 simp[ek,List.getElem?_mapIdx,h,tN]
def fq {α:Type} (m:Nat→α) (i:Nat) (g:α) (k:Nat):α:=if k=i then g else m k
theorem we {b:Nat→Nat×Nat} {m:Nat→Gp×Gp} {i:Nat} {l:List Issue} {x:Issue} (h:l[i]?=some x) (g:Gp×Gp):(ek b m i l).set i [.im (rI x.drawing),.im (rI x.letter),.im (.raw (.int .u8 x.kind)),.vec (b i).1 g.1.1 0 x.items.length,.vec (b i).2 g.2.1 0 x.dims.length]=ek b (fq m i g) (i+1) l:=by
 apply List.ext_getElem?
 intro k
 rw[List.getElem?_set]
 by_cases e:i=k
 ·subst e
  have hlt:=g9 h
  rw[if_pos rfl,if_pos (by simpa using hlt)]
  simp only[ek,List.getElem?_mapIdx,h,Option.map_some,tN,fq,if_true,Nat.lt_succ_self]
 ·rw[if_neg e]
  simp only[ek,List.getElem?_mapIdx]
  have h1:¬ k=i:=fun h=>e h.symm
  cases hk:l[k]? with
  | none=>rfl
  | some y =>
    simp only[Option.map_some,tN,fq,if_neg h1]
    by_cases h2:k<i
    ·rw[if_pos h2,if_pos (by omega)]
    ·rw[if_neg h2,if_neg (by omega)]
theorem tL {l:List Issue} {m:Nat→Gp×Gp} {i:Nat} {x:Issue} (h:l[i]?=some x) (g:Gp×Gp):I2 (kE l (fq m i g)) (i+1)=I2 (kE l m) i++[.vec 2 [] 0 true,.vec 2 (o7 (x.items.map l7)) g.1.1 g.1.2,.vec 3 [] 0 true,.vec 3 (o7 (x.dims.map l6)) g.2.1 g.2.2]:=by
 rw[I2,iP (H:=kE l m) fun k hk=>by unfold kE fq;rw[if_neg (by omega)]]
 simp[kE,h,fq]
theorem jl (e:Nat→Nat) (l:List (List IC)):(o7 l).map (rnL e)=o7 l:=by
 unfold o7
 rw[List.map_map]
 exact List.map_congr_left fun x _=>jW e x
theorem bD (n:Nat):C4 [] n=fun o=>n+o:=by
 funext o;simp[C4]
theorem eP (objs o:List DObj):s8 [] objs o=objs++o.map (N0 fun k=>objs.length+k):=by
 unfold s8
 rw[bD]
 simp[fH]
theorem oF {α β:Type} {f:α→Option β}:∀ {l:List α} {r:List β},l.length=r.length→(∀ (i:Nat) (x:α),l[i]?=some x→f x=r[i]?)→G2 f l=some r
 | [],[],_,_=>rfl
 | [],_ :: _,h,_=>by simp at h
 | _ :: _,[],h,_=>by simp at h
 | x :: l,y :: r,h,h2=>by
   have h0:=h2 0 x rfl
   have h1:=oF (f:=f) (l:=l) (r:=r) (by simpa using h) (fun i z hz=>by simpa using h2 (i+1) z (by simpa using hz))
   simp only[List.getElem?_cons_zero] at h0
   simp only[G2,h0,h1]
theorem kG {k m o g len sz:Nat} {nl:Bool} {objs:List DObj} {es:List (List DC)} {L:List (List IC)} (hm:m≤o) (ho:objs[o]?=some (.vec sz es g nl)) (hl:es.length=len) (h:G2 (G2 (frz k m objs)) es=some L):frz (k+1) m objs (.vec o g 0 len)=some (.sl L):=by
 subst hl
 simp only[frz,ho,hm,if_true,Nat.zero_add,Nat.le_refl,and_self,List.drop_zero,List.take_length,h,Option.map_some]
def SlI (L:Nat→Option DObj) (z:Nat) (l:List (List IC)) (c:DC):Prop:=
 (∃ o g nl sz,c=.vec o g 0 l.length∧L o=some (.vec sz (o7 l) g nl)∧(sz=z∨l=[]))∨(c=.im (.sl [])∧l=[])
theorem SlI.rn {L L':Nat→Option DObj} {e:Nat→Nat} {z:Nat} {l:List (List IC)} {c:DC} (h:SlI L z l c) (hL:∀ o d,L o=some d→L' (e o)=some (N0 e d)):SlI L' z l (P8 e c):=by
 rcases h with⟨o,g,nl,sz,rfl,h1,h2⟩|⟨rfl,h1⟩
 ·refine .inl ⟨e o,g,nl,sz,rfl,?_,h2⟩
  rw[hL o _ h1,N0,jl]
 ·exact .inr ⟨rfl,h1⟩
theorem SlI.mono {L L':Nat→Option DObj} {z:Nat} {l:List (List IC)} {c:DC} (h:SlI L z l c) (hL:∀ o d,L o=some d→L' o=some d):SlI L' z l c:=by
 rcases h with⟨o,g,nl,sz,rfl,h1,h2⟩|⟨rfl,h1⟩
 ·exact .inl ⟨o,g,nl,sz,rfl,hL o _ h1,h2⟩
 ·exact .inr ⟨rfl,h1⟩
theorem SlI.monoV {L L':Nat→Option DObj} {z:Nat} {l:List (List IC)} {c:DC} (h:SlI L z l c) (hL:∀ o sz E g nl,L o=some (.vec sz E g nl)→L' o=some (.vec sz E g nl)):SlI L' z l c:=by
 rcases h with⟨o,g,nl,sz,rfl,h1,h2⟩|⟨rfl,h1⟩
 ·exact .inl ⟨o,g,nl,sz,rfl,hL o _ _ _ _ h1,h2⟩
 ·exact .inr ⟨rfl,h1⟩
theorem SlI.frz {objs:List DObj} {z k:Nat} {l:List (List IC)} {c:DC} (h:SlI (fun o=>objs[o]?) z l c):frz (k+2) 0 objs c=some (.sl l):=by
 rcases h with⟨o,g,nl,sz,rfl,h1,h2⟩|⟨rfl,rfl⟩
 ·exact kG (Nat.zero_le _) h1 (by simp[o7]) (fT k 0 objs l)
 ·rfl
theorem SlI.fz {objs:List DObj} {z:Nat} {l:List (List IC)} {c:DC} (h:SlI (fun o=>objs[o]?) z l c):fz 0 objs c=.im (.sl l):=by
 have h2:=SlI.frz (k:=18) h
 rcases h with⟨o,g,nl,sz,rfl,h1,_⟩|⟨rfl,rfl⟩
 ·simp only[Go.Ab.fz,DC.lt,h2];simp
 ·rfl
def SlW (L:Nat→Option DObj) (z n:Nat) (c:DC):Prop:=
 (∃ o g nl sz E,c=.vec o g 0 n∧L o=some (.vec sz E g nl)∧(sz=z∨n=0)∧E.length=n∧∀ r∈E,r.length=z∧∀ d∈r,∃ i,d=.im i)∨(c=.im (.sl [])∧n=0)
theorem SlI.w {L:Nat→Option DObj} {z:Nat} {l:List (List IC)} {c:DC} (h:SlI L z l c) (hz:∀ x∈l,x.length=z):SlW L z l.length c:=by
 rcases h with⟨o,g,nl,sz,rfl,h1,h2⟩|⟨rfl,rfl⟩
 ·refine .inl ⟨o,g,nl,sz,_,rfl,h1,h2.imp id (fun h=>by simp[h]),by simp[o7],fun r hr=>?_⟩
  unfold o7 at hr
  obtain⟨x,hx,rfl⟩:=List.mem_map.1 hr
  refine⟨by rw[List.length_map];exact hz x hx,fun d hd=>?_⟩
  obtain⟨i,_,rfl⟩:=List.mem_map.1 hd
  exact⟨i,rfl⟩
 ·exact .inr ⟨rfl,rfl⟩
def NdW (L:Nat→Option DObj) (z:Nat) (R:List (List DC)) (c:DC):Prop:=
 (∃ o g nl sz,c=.vec o g 0 R.length∧L o=some (.vec sz R g nl)∧(sz=z∨R=[]))∨(c=.im (.sl [])∧R=[])
def Bk (r:List DC):Prop:=∃ o g n,DC.vec o g 0 n∈r
def Wrote (Y Y':List DObj):Prop:=∃ o g nl sz E E',Y[o]?=some (.vec sz E g nl)∧(∀ r∈E,∀ d∈r,∃ i,d=.im i)∧Y'=Y.set o (.vec sz E' g nl)∧E'.length=E.length∧∀ r'∈E',∃ r∈E,r'.length=r.length∧∀ d∈r',∃ i,d=.im i
theorem Wrote.at {Y Y':List DObj} (h:Wrote Y Y') {o:Nat} {d:DObj} (hd:Y[o]?=some d):Y'[o]?=some d∨∃ g nl sz E E',d=.vec sz E g nl∧Y'[o]?=some (.vec sz E' g nl)∧(∀ r∈E,∀ d∈r,∃ i,d=.im i)∧E'.length=E.length∧∀ r'∈E',∃ r∈E,r'.length=r.length∧∀ d∈r',∃ i,d=.im i:=by
 obtain⟨p,g,nl,sz,E,E',h1,h2,rfl,h4,h5⟩:=h
 by_cases e:p=o
 ·subst e
  rw[hd] at h1;cases h1
  exact .inr ⟨g,nl,sz,E,E',rfl,by rw[List.getElem?_set_self (g9 hd)],h2,h4,h5⟩
 ·exact .inl (by rw[List.getElem?_set_ne e];exact hd)
theorem SlW.wrote {Y Y':List DObj} {z n:Nat} {c:DC} (h:SlW (fun o=>Y[o]?) z n c) (hw:Wrote Y Y'):SlW (fun o=>Y'[o]?) z n c:=by
 rcases h with⟨o,g,nl,sz,E,rfl,h1,h2,h3,h4⟩|h
 ·rcases hw.at h1 with h5|⟨g',nl',sz',E1,E2,e,h5,h6,h7,h8⟩
  ·exact .inl ⟨o,g,nl,sz,E,rfl,h5,h2,h3,h4⟩
  ·cases e
   refine .inl ⟨o,g,nl,sz,E2,rfl,h5,h2,by omega,fun r hr=>?_⟩
   obtain⟨r0,h9,h10,h11⟩:=h8 r hr
   exact⟨by rw[h10];exact(h4 r0 h9).1,h11⟩
 ·exact .inr h
theorem NdW.wrote {Y Y':List DObj} {z:Nat} {R:List (List DC)} {c:DC} (h:NdW (fun o=>Y[o]?) z R c) (hR:∀ r∈R,Bk r) (hw:Wrote Y Y'):NdW (fun o=>Y'[o]?) z R c:=by
 rcases h with⟨o,g,nl,sz,rfl,h1,h2⟩|h
 ·rcases hw.at h1 with h5|⟨g',nl',sz',E1,E2,e,h5,h6,h7,h8⟩
  ·exact .inl ⟨o,g,nl,sz,rfl,h5,h2⟩
  ·cases e
   have hR0:R=[]:=by
    cases R with
    | nil=>rfl
    | cons r R =>
      obtain⟨o',g',n',hm⟩:=hR r List.mem_cons_self
      obtain⟨i,hi⟩:=h6 r List.mem_cons_self _ hm
      cases hi
   subst hR0
   have:E2=[]:=List.eq_nil_of_length_eq_zero (by simpa using h7)
   subst this
   exact .inl ⟨o,g,nl,sz,rfl,h5,h2⟩
 ·exact .inr h
theorem Wrote.one {Y:List DObj} {o g sz j off:Nat} {nl:Bool} {E:List (List DC)} {r:List DC} {i:IC} (h:Y[o]?=some (.vec sz E g nl)) (hE:∀ r∈E,∀ d∈r,∃ i,d=.im i) (hr:E[j]?=some r) (ho:off<r.length):Wrote Y (Y.set o (.vec sz (E.set j (r.take off++DC.im i :: r.drop (off+1))) g nl)):=by
 refine⟨o,g,nl,sz,E,_,h,hE,rfl,by simp,fun r' hr'=>?_⟩
 rcases List.mem_or_eq_of_mem_set hr' with h1|rfl
 ·exact⟨r',h1,rfl,hE r' h1⟩
 ·have hm:=List.mem_of_getElem? hr
  refine⟨r,hm,by simp;omega,fun d hd=>?_⟩
  rcases List.mem_append.1 hd with hd|hd
  ·exact hE r hm d (List.mem_of_mem_take hd)
  ·rcases List.mem_cons.1 hd with rfl|hd
   ·exact⟨i,rfl⟩
   ·exact hE r hm d (List.mem_of_mem_drop hd)
theorem DCall.freezeP {P:Program} {G:Es} {f:FuncId} {args args0:List DV} {objs:List DObj} {Post:DV→List DObj→Prop} (h:DCall P G f args0 [] Post) (ha:args0=args.map (aK 0 objs)) (hi:args0.map (bN fun k=>objs.length+k)=args0) (hnl:∀ (o:Nat) (r:LoopD),objs[o]?≠some (.loop r)) :
 DCall P G f args objs (fun d o=>∃ d0 o1,Post d0 o1∧d=bN (fun k=>objs.length+k) d0∧o=o9 objs.length++o1.map (N0 fun k=>objs.length+k)):=by
 intro M vs hM hob hvs hrep
 subst hob
 have hm0:0≤M.objs.length:=Nat.zero_le _
 obtain⟨g1,g2⟩:=kF (hM.drop hm0) M.objs.length
 have e0:(M.drop 0).objs=[]:=by simp[MS.drop,L1]
 have hMg:({ M.drop 0 with objs:=(M.drop 0).objs++o9 M.objs.length }:MS).objs=o9 M.objs.length:=by simp[e0]
 have hall:Ext 0 M { M.drop 0 with objs:=(M.drop 0).objs++o9 M.objs.length }:=(Ext.drop hm0).trans (g2.weaken (by simp))
 have hg:∀ (o:Nat) (d:DObj),({ M.drop 0 with objs:=(M.drop 0).objs++o9 M.objs.length }:MS).objs[o]?=some d→d=.gone:=fun o d hd=>by
  rw[hMg] at hd
  simp only[o9,List.getElem?_replicate] at hd
  split at hd<;>simp_all
 have hext:Ext M.objs.length M { M.drop 0 with objs:=(M.drop 0).objs++o9 M.objs.length }:=by
  refine⟨by rw[hMg];simp[o9],hall.free,hall.other,hall.hs,fun o ho c' hc=>?_,fun o ho sz es' g nl hc=>?_,fun o ho ks es' hc=>?_,fun o ho r' hc=>?_,fun o ho d' hc hit=>?_,fun o ho r hc=>?_,hall.io⟩
  ·cases hg o _ hc
  ·cases hg o _ hc
  ·cases hg o _ hc
  ·cases hg o _ hc
  ·rw[hg o _ hc] at hit;cases hit
  ·exact absurd hc (hnl o r)
 have h2:=DCall.embed (objs:=o9 M.objs.length) [] h rfl (by simp) (by simp) (by simp)
 have hgl:(o9 M.objs.length).length=M.objs.length:=by simp[o9]
 rw[bD,hgl,hi] at h2
 refine(h2 { M.drop 0 with objs:=(M.drop 0).objs++o9 M.objs.length } vs g1 hMg (by rw[ha];simpa using hvs) fun j d v hd hv=>?_).mono ?_
 ·rw[ha,List.getElem?_map,Option.map_eq_some_iff] at hd
  obtain⟨d1,h1,rfl⟩:=hd
  exact((hrep j d1 v h1 hv).drop hM hm0).ext g2
 rintro e w' ⟨v,d,M1,rfl,rfl,hm1,hv,he,d0,o0,hp,_,rfl,hq⟩
 rw[hgl] at he
 exact⟨v,_,M1,rfl,rfl,hm1,hv,hext.trans he,d0,o0,hp,rfl,by rw[hq,eP,hgl]⟩
end Go.Ab
namespace Go.Proofs
open Go Go.Ab Tryz
variable {G:Es}
attribute [simp] r5 aT D9 J6 o9 x7 nilV H2 ZK
def md (c:Chains) (d:Int) (ds:List Dim):Issue:={ j8 c.reg c.lets d with letter:=C3 c.reg d+1,dims:=ds }
def me (c:Chains) (d:Int) (ds:List Dim):Chains:={ reg:=eT (md c d ds) c.reg,lets:=c.lets.set (idx (nums c.reg) d).toNat (C3 c.reg d+1),of:=c.of,loops:=c.loops }
def sE (c:Chains) (d:Int) (ds:List Dim) (r:DV) (o:List DObj):Prop:=aK 0 o r=M9 (me c d ds)
theorem CallE.embed_opR {f:FuncId} {args:List DV} {objs:List DObj} {Post:DV→List DObj→Prop} {Q:DV→List DObj→Prop} {t:Tok Q} (h:DCall prog G f args [] Post) (ha:args.map (bN fun k=>objs.length+k)=args)
 (hq:∀ d o,Post d o→Q (bN (fun k=>objs.length+k) d) (objs++o.map (N0 fun k=>objs.length+k))):CallE prog G f args objs Q t:=by
 refine CallE.embed_ex (ι:=DV×List DObj) (p:=fun i=>Post i.1 i.2) (d0:=fun i=>i.1) (o1:=fun i=>i.2) [] (h.mono fun d o hp=>⟨(d,o),hp,rfl,rfl⟩) (by rw[bD];exact ha) rfl (by simp) (by simp) (by simp) fun i hp=>?_
 rw[bD,eP]
 exact hq i.1 i.2 hp
set_option maxRecDepth 20000 in
theorem xP (c:Chains) (d:Int) (ds:List Dim) (h1:c.reg.length<1000) (h2:∀ x∈c.reg,x.items.length≤16∧x.dims.length≤8) (hl2:c.lets.length≤80) (hl:c.loops.length≤10) (hls:∀ x∈c.loops,x.links.length≤12) (hd:d∈nums c.reg) (hll:c.lets.length=(nums c.reg).length) (hds:ds.length≤8) (hTs:(j8 c.reg c.lets d).items.length≤16∧(j8 c.reg c.lets d).dims.length≤8) (hlo:0≤C3 c.reg d∧C3 c.reg d≤1000000):DCall prog G 65 [M9 c,iv d,.one (.im (.sl (ds.map l6)))] [] (sE c d ds):=by
 generalize hQ:sE c d ds=Q
 refine l5 func65 rfl ntmps65 (by simp) rfl ?_
 simp only[M9,iv]
 have c1:=xE (G:=G) c h1 h2 hl2 hl hls
 have c2:=dz (G:=G) c.reg c.lets d (by omega) hd hll
 have c3:=cC (G:=G) (j8 c.reg c.lets d) hTs.1 hTs.2
 have c4:=oN (G:=G) c.reg d (by omega)
 have wl:IntKind.i64.wrap (C3 c.reg d+1)=C3 c.reg d+1:=u7 (by omega) (by omega)
 generalize hTe:j8 c.reg c.lets d=T at *
 generalize hLo:C3 c.reg d=lo at *
 simp only[E4,j0,rI,C8,H0,List.map_cons,List.map_nil] at c2 c3 c4
 have hs:=wl
 repeat' first|(with_reducible first|refine zz ?_|refine zE [0,1,2,3,6,7,8,9,10,47] ?_)|simp -dsimp[hs]
 all_goals try clear hs
 refine CallE.embed_opR c1 (by simp[bN,rnL,P8]) ?_
 rintro dv o ⟨or,gr,sr,nr,ol,gl,oo,go,so,no,rfl,f1,hsr,f2,f3,n1,n2,n3⟩
 obtain rfl:sr=5:=hsr.resolve_right fun h=>by rw[h.2] at hd;simp[nums,E8] at hd
 have hy:∀ (q:Nat) (l:List (List IC)) (sz g:Nat) (nl:Bool),o[q]?=some (.vec sz (o7 l) g nl)→([DObj.row [.im (.sl (List.map j0 c.reg)),.im (.sl (List.map Ab.encI c.lets)),.im (.raw (.int .i64 c.of)),.im (.sl (List.map j5 c.loops))],DObj.vec 0 [] 0 true,DObj.vec 0 [] 0 true,DObj.vec 0 [] 0 true,DObj.row [.vec 1 0 0 0,.vec 2 0 0 0,.im (.raw (.int .i64 0)),.vec 3 0 0 0]]++o.map (N0 fun k=>[DObj.row [.im (.sl (List.map j0 c.reg)),.im (.sl (List.map Ab.encI c.lets)),.im (.raw (.int .i64 c.of)),.im (.sl (List.map j5 c.loops))],DObj.vec 0 [] 0 true,DObj.vec 0 [] 0 true,DObj.vec 0 [] 0 true,DObj.row [.vec 1 0 0 0,.vec 2 0 0 0,.im (.raw (.int .i64 0)),.vec 3 0 0 0]].length+k))[[DObj.row [.im (.sl (List.map j0 c.reg)),.im (.sl (List.map Ab.encI c.lets)),.im (.raw (.int .i64 c.of)),.im (.sl (List.map j5 c.loops))],DObj.vec 0 [] 0 true,DObj.vec 0 [] 0 true,DObj.vec 0 [] 0 true,DObj.row [.vec 1 0 0 0,.vec 2 0 0 0,.im (.raw (.int .i64 0)),.vec 3 0 0 0]].length+q]?=some (.vec sz (o7 l) g nl):=fun q l sz g nl h=>by
  rw[List.getElem?_append_right (by omega),Nat.add_sub_cancel_left,List.getElem?_map,h]
  simp only[Option.map_some,N0,jl]
 have f1:=hy _ _ _ _ _ f1
 have f2:=hy _ _ _ _ _ f2
 have f3:=hy _ _ _ _ _ f3
 have f0:([DObj.row [.im (.sl (List.map j0 c.reg)),.im (.sl (List.map Ab.encI c.lets)),.im (.raw (.int .i64 c.of)),.im (.sl (List.map j5 c.loops))],DObj.vec 0 [] 0 true,DObj.vec 0 [] 0 true,DObj.vec 0 [] 0 true,DObj.row [.vec 1 0 0 0,.vec 2 0 0 0,.im (.raw (.int .i64 0)),.vec 3 0 0 0]]++o.map (N0 fun k=>[DObj.row [.im (.sl (List.map j0 c.reg)),.im (.sl (List.map Ab.encI c.lets)),.im (.raw (.int .i64 c.of)),.im (.sl (List.map j5 c.loops))],DObj.vec 0 [] 0 true,DObj.vec 0 [] 0 true,DObj.vec 0 [] 0 true,DObj.row [.vec 1 0 0 0,.vec 2 0 0 0,.im (.raw (.int .i64 0)),.vec 3 0 0 0]].length+k))[0]?=some (.row [.im (.sl (List.map j0 c.reg)),.im (.sl (List.map Ab.encI c.lets)),.im (.raw (.int .i64 c.of)),.im (.sl (List.map j5 c.loops))]):=rfl
 have f4:([DObj.row [.im (.sl (List.map j0 c.reg)),.im (.sl (List.map Ab.encI c.lets)),.im (.raw (.int .i64 c.of)),.im (.sl (List.map j5 c.loops))],DObj.vec 0 [] 0 true,DObj.vec 0 [] 0 true,DObj.vec 0 [] 0 true,DObj.row [.vec 1 0 0 0,.vec 2 0 0 0,.im (.raw (.int .i64 0)),.vec 3 0 0 0]]++o.map (N0 fun k=>[DObj.row [.im (.sl (List.map j0 c.reg)),.im (.sl (List.map Ab.encI c.lets)),.im (.raw (.int .i64 c.of)),.im (.sl (List.map j5 c.loops))],DObj.vec 0 [] 0 true,DObj.vec 0 [] 0 true,DObj.vec 0 [] 0 true,DObj.row [.vec 1 0 0 0,.vec 2 0 0 0,.im (.raw (.int .i64 0)),.vec 3 0 0 0]].length+k))[4]?=some (.row [.vec 1 0 0 0,.vec 2 0 0 0,.im (.raw (.int .i64 0)),.vec 3 0 0 0]):=rfl
 have n1:[DObj.row [.im (.sl (List.map j0 c.reg)),.im (.sl (List.map Ab.encI c.lets)),.im (.raw (.int .i64 c.of)),.im (.sl (List.map j5 c.loops))],DObj.vec 0 [] 0 true,DObj.vec 0 [] 0 true,DObj.vec 0 [] 0 true,DObj.row [.vec 1 0 0 0,.vec 2 0 0 0,.im (.raw (.int .i64 0)),.vec 3 0 0 0]].length+or≠[DObj.row [.im (.sl (List.map j0 c.reg)),.im (.sl (List.map Ab.encI c.lets)),.im (.raw (.int .i64 c.of)),.im (.sl (List.map j5 c.loops))],DObj.vec 0 [] 0 true,DObj.vec 0 [] 0 true,DObj.vec 0 [] 0 true,DObj.row [.vec 1 0 0 0,.vec 2 0 0 0,.im (.raw (.int .i64 0)),.vec 3 0 0 0]].length+ol:=by omega
 have n2:[DObj.row [.im (.sl (List.map j0 c.reg)),.im (.sl (List.map Ab.encI c.lets)),.im (.raw (.int .i64 c.of)),.im (.sl (List.map j5 c.loops))],DObj.vec 0 [] 0 true,DObj.vec 0 [] 0 true,DObj.vec 0 [] 0 true,DObj.row [.vec 1 0 0 0,.vec 2 0 0 0,.im (.raw (.int .i64 0)),.vec 3 0 0 0]].length+or≠[DObj.row [.im (.sl (List.map j0 c.reg)),.im (.sl (List.map Ab.encI c.lets)),.im (.raw (.int .i64 c.of)),.im (.sl (List.map j5 c.loops))],DObj.vec 0 [] 0 true,DObj.vec 0 [] 0 true,DObj.vec 0 [] 0 true,DObj.row [.vec 1 0 0 0,.vec 2 0 0 0,.im (.raw (.int .i64 0)),.vec 3 0 0 0]].length+oo:=by omega
 have n3:[DObj.row [.im (.sl (List.map j0 c.reg)),.im (.sl (List.map Ab.encI c.lets)),.im (.raw (.int .i64 c.of)),.im (.sl (List.map j5 c.loops))],DObj.vec 0 [] 0 true,DObj.vec 0 [] 0 true,DObj.vec 0 [] 0 true,DObj.row [.vec 1 0 0 0,.vec 2 0 0 0,.im (.raw (.int .i64 0)),.vec 3 0 0 0]].length+ol≠[DObj.row [.im (.sl (List.map j0 c.reg)),.im (.sl (List.map Ab.encI c.lets)),.im (.raw (.int .i64 c.of)),.im (.sl (List.map j5 c.loops))],DObj.vec 0 [] 0 true,DObj.vec 0 [] 0 true,DObj.vec 0 [] 0 true,DObj.row [.vec 1 0 0 0,.vec 2 0 0 0,.im (.raw (.int .i64 0)),.vec 3 0 0 0]].length+oo:=by omega
 clear hy
 simp only[bN,rnL,P8]
 generalize [DObj.row [.im (.sl (List.map j0 c.reg)),.im (.sl (List.map Ab.encI c.lets)),.im (.raw (.int .i64 c.of)),.im (.sl (List.map j5 c.loops))],DObj.vec 0 [] 0 true,DObj.vec 0 [] 0 true,DObj.vec 0 [] 0 true,DObj.row [.vec 1 0 0 0,.vec 2 0 0 0,.im (.raw (.int .i64 0)),.vec 3 0 0 0]]++o.map (N0 fun k=>[DObj.row [.im (.sl (List.map j0 c.reg)),.im (.sl (List.map Ab.encI c.lets)),.im (.raw (.int .i64 c.of)),.im (.sl (List.map j5 c.loops))],DObj.vec 0 [] 0 true,DObj.vec 0 [] 0 true,DObj.vec 0 [] 0 true,DObj.row [.vec 1 0 0 0,.vec 2 0 0 0,.im (.raw (.int .i64 0)),.vec 3 0 0 0]].length+k)=Y at *
 generalize [DObj.row [.im (.sl (List.map j0 c.reg)),.im (.sl (List.map Ab.encI c.lets)),.im (.raw (.int .i64 c.of)),.im (.sl (List.map j5 c.loops))],DObj.vec 0 [] 0 true,DObj.vec 0 [] 0 true,DObj.vec 0 [] 0 true,DObj.row [.vec 1 0 0 0,.vec 2 0 0 0,.im (.raw (.int .i64 0)),.vec 3 0 0 0]].length+or=or at *
 generalize [DObj.row [.im (.sl (List.map j0 c.reg)),.im (.sl (List.map Ab.encI c.lets)),.im (.raw (.int .i64 c.of)),.im (.sl (List.map j5 c.loops))],DObj.vec 0 [] 0 true,DObj.vec 0 [] 0 true,DObj.vec 0 [] 0 true,DObj.row [.vec 1 0 0 0,.vec 2 0 0 0,.im (.raw (.int .i64 0)),.vec 3 0 0 0]].length+ol=ol at *
 generalize [DObj.row [.im (.sl (List.map j0 c.reg)),.im (.sl (List.map Ab.encI c.lets)),.im (.raw (.int .i64 c.of)),.im (.sl (List.map j5 c.loops))],DObj.vec 0 [] 0 true,DObj.vec 0 [] 0 true,DObj.vec 0 [] 0 true,DObj.row [.vec 1 0 0 0,.vec 2 0 0 0,.im (.raw (.int .i64 0)),.vec 3 0 0 0]].length+oo=oo at *
 have aq:∀ (q:Nat) (x:DObj),Y[q]?=some x→q<Y.length∧(∀ R:List DObj,(Y++R)[q]?=some x):=fun q x h=>by
  have hl:=g9 h
  exact⟨hl,fun R=>by rw[List.getElem?_append_left hl];exact h⟩
 obtain⟨l0,a0⟩:=aq _ _ f0
 obtain⟨l4,a4⟩:=aq _ _ f4
 obtain⟨l1,a1⟩:=aq _ _ f1
 obtain⟨l2,a2⟩:=aq _ _ f2
 obtain⟨l3,a3⟩:=aq _ _ f3
 have bM:∀ (R:List DObj) (j:Nat),(Y++R)[Y.length+j]?=R[j]?:=fun R j=>by rw[List.getElem?_append_right (by omega),Nat.add_sub_cancel_left]
 have sM:∀ (R:List DObj) (j:Nat) (x:DObj),(Y++R).set (Y.length+j) x=Y++R.set j x:=fun R j x=>by rw[List.set_append_right _ _ (by omega),Nat.add_sub_cancel_left]
 have bM2:∀ (R:List DObj) (i j:Nat),(Y++R)[Y.length+i+j]?=R[i+j]?:=fun R i j=>by rw[Nat.add_assoc,bM]
 have sM2:∀ (R:List DObj) (i j:Nat) (x:DObj),(Y++R).set (Y.length+i+j) x=Y++R.set (i+j) x:=fun R i j x=>by rw[Nat.add_assoc,sM]
 have bG:∀ (R:List DObj) (j:Nat) (h:Y.length+j<(Y++R).length),(Y++R)[Y.length+j]'h=R[j]'(by rw[List.length_append] at h;omega):=fun R j h=>by
  have:=bM R j
  rw[List.getElem?_eq_getElem h,List.getElem?_eq_getElem (by rw[List.length_append] at h;omega)] at this
  exact Option.some.inj this
 have bG2:∀ (R:List DObj) (i j:Nat) (h:Y.length+i+j<(Y++R).length),(Y++R)[Y.length+i+j]'h=R[i+j]'(by rw[List.length_append] at h;omega):=fun R i j h=>by
  have:=bM2 R i j
  rw[List.getElem?_eq_getElem h,List.getElem?_eq_getElem (by rw[List.length_append] at h;omega)] at this
  exact Option.some.inj this
 have b0:∀ (R:List DObj) (h:0<(Y++R).length),(Y++R)[0]'h=.row [.im (.sl (List.map j0 c.reg)),.im (.sl (List.map Ab.encI c.lets)),.im (.raw (.int .i64 c.of)),.im (.sl (List.map j5 c.loops))]:=fun R h=>by have:=a0 R;rw[List.getElem?_eq_getElem h] at this;exact Option.some.inj this
 have b4:∀ (R:List DObj) (h:4<(Y++R).length),(Y++R)[4]'h=.row [.vec 1 0 0 0,.vec 2 0 0 0,.im (.raw (.int .i64 0)),.vec 3 0 0 0]:=fun R h=>by have:=a4 R;rw[List.getElem?_eq_getElem h] at this;exact Option.some.inj this
 simp -dsimp[a0,b0,bM,sM,bM2,sM2,bG,bG2]
 have hs:=za wl (za a0 (za b0 (za bM (za sM (za bM2 (za sM2 (za bG bG2)))))))
 repeat' first|(with_reducible first|refine zz ?_|refine And.intro (by omega) ?_|refine zE [0,1,2,3,6,7,8,9,10,47] ?_)|simp -dsimp[hs]|refine zp c2 ?_|refine zp c3 ?_|refine zp c4 ?_
 all_goals try clear hs
 have dr:∀ (q:Nat) (x:DObj),q<Y.length+7→(Y++[DObj.vec 0 [] 0 true,DObj.vec 0 [] 0 true,DObj.vec 0 [] 0 true,DObj.row [.vec or gr 0 c.reg.length,.vec ol gl 0 c.lets.length,.im (.raw (.int .i64 c.of)),.vec oo go 0 c.loops.length],DObj.vec 0 [] 0 true,DObj.vec 0 [] 0 true,DObj.row [.im (.raw (.int .i64 T.drawing)),.im (.raw (.int .i64 (lo+1))),.im (.raw (.int .u8 T.kind)),.im (.sl (List.map l7 T.items)),.vec (Y.length+7) 1 0 ds.length],DObj.vec 3 (o7 (List.map l6 ds)) 1 false])[q]?=some x→(L1 (Y.length+7) (Y++[DObj.vec 0 [] 0 true,DObj.vec 0 [] 0 true,DObj.vec 0 [] 0 true,DObj.row [.vec or gr 0 c.reg.length,.vec ol gl 0 c.lets.length,.im (.raw (.int .i64 c.of)),.vec oo go 0 c.loops.length],DObj.vec 0 [] 0 true,DObj.vec 0 [] 0 true,DObj.row [.im (.raw (.int .i64 T.drawing)),.im (.raw (.int .i64 (lo+1))),.im (.raw (.int .u8 T.kind)),.im (.sl (List.map l7 T.items)),.vec (Y.length+7) 1 0 ds.length],DObj.vec 3 (o7 (List.map l6 ds)) 1 false]))[q]?=some (lE (Y.length+7) (Y++[DObj.vec 0 [] 0 true,DObj.vec 0 [] 0 true,DObj.vec 0 [] 0 true,DObj.row [.vec or gr 0 c.reg.length,.vec ol gl 0 c.lets.length,.im (.raw (.int .i64 c.of)),.vec oo go 0 c.loops.length],DObj.vec 0 [] 0 true,DObj.vec 0 [] 0 true,DObj.row [.im (.raw (.int .i64 T.drawing)),.im (.raw (.int .i64 (lo+1))),.im (.raw (.int .u8 T.kind)),.im (.sl (List.map l7 T.items)),.vec (Y.length+7) 1 0 ds.length],DObj.vec 3 (o7 (List.map l6 ds)) 1 false]) x):=fun q x hq h=>by
  simp only[L1,List.getElem?_map,List.getElem?_take_of_lt hq,h,Option.map_some]
 have fl:∀ (o g f n:Nat),o<Y.length+7→fz (Y.length+7) (Y++[DObj.vec 0 [] 0 true,DObj.vec 0 [] 0 true,DObj.vec 0 [] 0 true,DObj.row [.vec or gr 0 c.reg.length,.vec ol gl 0 c.lets.length,.im (.raw (.int .i64 c.of)),.vec oo go 0 c.loops.length],DObj.vec 0 [] 0 true,DObj.vec 0 [] 0 true,DObj.row [.im (.raw (.int .i64 T.drawing)),.im (.raw (.int .i64 (lo+1))),.im (.raw (.int .u8 T.kind)),.im (.sl (List.map l7 T.items)),.vec (Y.length+7) 1 0 ds.length],DObj.vec 3 (o7 (List.map l6 ds)) 1 false]) (.vec o g f n)=.vec o g f n:=fun o g f n h=>by simp[fz,DC.lt,h]
 have fi:∀ x:IC,fz (Y.length+7) (Y++[DObj.vec 0 [] 0 true,DObj.vec 0 [] 0 true,DObj.vec 0 [] 0 true,DObj.row [.vec or gr 0 c.reg.length,.vec ol gl 0 c.lets.length,.im (.raw (.int .i64 c.of)),.vec oo go 0 c.loops.length],DObj.vec 0 [] 0 true,DObj.vec 0 [] 0 true,DObj.row [.im (.raw (.int .i64 T.drawing)),.im (.raw (.int .i64 (lo+1))),.im (.raw (.int .u8 T.kind)),.im (.sl (List.map l7 T.items)),.vec (Y.length+7) 1 0 ds.length],DObj.vec 3 (o7 (List.map l6 ds)) 1 false]) (.im x)=.im x:=fun _=>rfl
 have fm:∀ l:List (List IC),(o7 l).map (·.map (fz (Y.length+7) (Y++[DObj.vec 0 [] 0 true,DObj.vec 0 [] 0 true,DObj.vec 0 [] 0 true,DObj.row [.vec or gr 0 c.reg.length,.vec ol gl 0 c.lets.length,.im (.raw (.int .i64 c.of)),.vec oo go 0 c.loops.length],DObj.vec 0 [] 0 true,DObj.vec 0 [] 0 true,DObj.row [.im (.raw (.int .i64 T.drawing)),.im (.raw (.int .i64 (lo+1))),.im (.raw (.int .u8 T.kind)),.im (.sl (List.map l7 T.items)),.vec (Y.length+7) 1 0 ds.length],DObj.vec 3 (o7 (List.map l6 ds)) 1 false])))=o7 l:=fun l=>by
  unfold o7
  rw[List.map_map]
  refine List.map_congr_left fun x _=>?_
  simp only[Function.comp,List.map_map]
  exact List.map_congr_left fun y _=>rfl
 have fd:fz (Y.length+7) (Y++[DObj.vec 0 [] 0 true,DObj.vec 0 [] 0 true,DObj.vec 0 [] 0 true,DObj.row [.vec or gr 0 c.reg.length,.vec ol gl 0 c.lets.length,.im (.raw (.int .i64 c.of)),.vec oo go 0 c.loops.length],DObj.vec 0 [] 0 true,DObj.vec 0 [] 0 true,DObj.row [.im (.raw (.int .i64 T.drawing)),.im (.raw (.int .i64 (lo+1))),.im (.raw (.int .u8 T.kind)),.im (.sl (List.map l7 T.items)),.vec (Y.length+7) 1 0 ds.length],DObj.vec 3 (o7 (List.map l6 ds)) 1 false]) (.vec (Y.length+7) 1 0 ds.length)=.im (.sl (ds.map l6)):=by
  have h:=kG (k:=19) (m:=Y.length+7) (Nat.le_refl _) (show (Y++[DObj.vec 0 [] 0 true,DObj.vec 0 [] 0 true,DObj.vec 0 [] 0 true,DObj.row [.vec or gr 0 c.reg.length,.vec ol gl 0 c.lets.length,.im (.raw (.int .i64 c.of)),.vec oo go 0 c.loops.length],DObj.vec 0 [] 0 true,DObj.vec 0 [] 0 true,DObj.row [.im (.raw (.int .i64 T.drawing)),.im (.raw (.int .i64 (lo+1))),.im (.raw (.int .u8 T.kind)),.im (.sl (List.map l7 T.items)),.vec (Y.length+7) 1 0 ds.length],DObj.vec 3 (o7 (List.map l6 ds)) 1 false])[Y.length+7]?=some (.vec 3 (o7 (ds.map l6)) 1 false) by rw[bM];rfl) (show (o7 (ds.map l6)).length=ds.length by simp[o7]) (fT 18 (Y.length+7) (Y++[DObj.vec 0 [] 0 true,DObj.vec 0 [] 0 true,DObj.vec 0 [] 0 true,DObj.row [.vec or gr 0 c.reg.length,.vec ol gl 0 c.lets.length,.im (.raw (.int .i64 c.of)),.vec oo go 0 c.loops.length],DObj.vec 0 [] 0 true,DObj.vec 0 [] 0 true,DObj.row [.im (.raw (.int .i64 T.drawing)),.im (.raw (.int .i64 (lo+1))),.im (.raw (.int .u8 T.kind)),.im (.sl (List.map l7 T.items)),.vec (Y.length+7) 1 0 ds.length],DObj.vec 3 (o7 (List.map l6 ds)) 1 false]) (ds.map l6))
  simp[fz,DC.lt,h]
 have k0:=dr 0 _ (by omega) (a0 [DObj.vec 0 [] 0 true,DObj.vec 0 [] 0 true,DObj.vec 0 [] 0 true,DObj.row [.vec or gr 0 c.reg.length,.vec ol gl 0 c.lets.length,.im (.raw (.int .i64 c.of)),.vec oo go 0 c.loops.length],DObj.vec 0 [] 0 true,DObj.vec 0 [] 0 true,DObj.row [.im (.raw (.int .i64 T.drawing)),.im (.raw (.int .i64 (lo+1))),.im (.raw (.int .u8 T.kind)),.im (.sl (List.map l7 T.items)),.vec (Y.length+7) 1 0 ds.length],DObj.vec 3 (o7 (List.map l6 ds)) 1 false])
 have k4:=dr 4 _ (by omega) (a4 [DObj.vec 0 [] 0 true,DObj.vec 0 [] 0 true,DObj.vec 0 [] 0 true,DObj.row [.vec or gr 0 c.reg.length,.vec ol gl 0 c.lets.length,.im (.raw (.int .i64 c.of)),.vec oo go 0 c.loops.length],DObj.vec 0 [] 0 true,DObj.vec 0 [] 0 true,DObj.row [.im (.raw (.int .i64 T.drawing)),.im (.raw (.int .i64 (lo+1))),.im (.raw (.int .u8 T.kind)),.im (.sl (List.map l7 T.items)),.vec (Y.length+7) 1 0 ds.length],DObj.vec 3 (o7 (List.map l6 ds)) 1 false])
 have k1:=dr or _ (by omega) (a1 [DObj.vec 0 [] 0 true,DObj.vec 0 [] 0 true,DObj.vec 0 [] 0 true,DObj.row [.vec or gr 0 c.reg.length,.vec ol gl 0 c.lets.length,.im (.raw (.int .i64 c.of)),.vec oo go 0 c.loops.length],DObj.vec 0 [] 0 true,DObj.vec 0 [] 0 true,DObj.row [.im (.raw (.int .i64 T.drawing)),.im (.raw (.int .i64 (lo+1))),.im (.raw (.int .u8 T.kind)),.im (.sl (List.map l7 T.items)),.vec (Y.length+7) 1 0 ds.length],DObj.vec 3 (o7 (List.map l6 ds)) 1 false])
 have k2:=dr ol _ (by omega) (a2 [DObj.vec 0 [] 0 true,DObj.vec 0 [] 0 true,DObj.vec 0 [] 0 true,DObj.row [.vec or gr 0 c.reg.length,.vec ol gl 0 c.lets.length,.im (.raw (.int .i64 c.of)),.vec oo go 0 c.loops.length],DObj.vec 0 [] 0 true,DObj.vec 0 [] 0 true,DObj.row [.im (.raw (.int .i64 T.drawing)),.im (.raw (.int .i64 (lo+1))),.im (.raw (.int .u8 T.kind)),.im (.sl (List.map l7 T.items)),.vec (Y.length+7) 1 0 ds.length],DObj.vec 3 (o7 (List.map l6 ds)) 1 false])
 have k3:=dr oo _ (by omega) (a3 [DObj.vec 0 [] 0 true,DObj.vec 0 [] 0 true,DObj.vec 0 [] 0 true,DObj.row [.vec or gr 0 c.reg.length,.vec ol gl 0 c.lets.length,.im (.raw (.int .i64 c.of)),.vec oo go 0 c.loops.length],DObj.vec 0 [] 0 true,DObj.vec 0 [] 0 true,DObj.row [.im (.raw (.int .i64 T.drawing)),.im (.raw (.int .i64 (lo+1))),.im (.raw (.int .u8 T.kind)),.im (.sl (List.map l7 T.items)),.vec (Y.length+7) 1 0 ds.length],DObj.vec 3 (o7 (List.map l6 ds)) 1 false])
 have k7:=dr (Y.length+3) (.row [.vec or gr 0 c.reg.length,.vec ol gl 0 c.lets.length,.im (.raw (.int .i64 c.of)),.vec oo go 0 c.loops.length]) (by omega) (by rw[bM];rfl)
 have k8:=dr (Y.length+4+2) (.row [.im (.raw (.int .i64 T.drawing)),.im (.raw (.int .i64 (lo+1))),.im (.raw (.int .u8 T.kind)),.im (.sl (List.map l7 T.items)),.vec (Y.length+7) 1 0 ds.length]) (by omega) (by rw[bM2];rfl)
 simp only[lE,List.map_cons,List.map_nil,fi,fm,fd] at k0 k1 k2 k3
 simp only[lE,List.map_cons,List.map_nil,fi,fd] at k8
 simp only[lE,List.map_cons,List.map_nil,fi,fl 1 0 0 0 (by omega),fl 2 0 0 0 (by omega),fl 3 0 0 0 (by omega)] at k4
 simp only[lE,List.map_cons,List.map_nil,fi,fl or gr 0 c.reg.length (by omega),fl ol gl 0 c.lets.length (by omega),fl oo go 0 c.loops.length (by omega)] at k7
 refine cm (Weak.drop (m:=Y.length+7) (by simp) (Nat.zero_le _)) ?_
 simp only[DS.drop]
 clear dr fl fi fm fd bM sM bM2 sM2 bG bG2 b0 b4 aq a0 a4 a1 a2 a3 f0 f1 f2 f3 f4
 have q7:Y.length+3<Y.length+7:=by omega
 have q8:Y.length+4+2<Y.length+7:=by omega
 have hX:md c d ds={ T with letter:=lo+1,dims:=ds }:=by rw[md,hTe,hLo]
 have hXC:me c d ds={ reg:=eT (md c d ds) c.reg,lets:=c.lets.set (idx (nums c.reg) d).toNat (lo+1),of:=c.of,loops:=c.loops }:=by rw[me,hLo]
 rw[hX] at hXC
 clear hX hTe hLo
 refine j7 (ι:={ n:Nat // n≤gT { T with letter:=lo+1,dims:=ds } c.reg }) (fun n=>⟨80,[(1,iv d),(2,.one (.im (.sl (ds.map l6)))),(3,.one (.ptr 0 0)),(6,.one (.ptr 4 0)),(7,.one (.ptr (Y.length+3) 0)),(8,.one (.ptr (Y.length+4+2) 0)),(9,iv (n.1:Int))],L1 (Y.length+7) (Y++[DObj.vec 0 [] 0 true,DObj.vec 0 [] 0 true,DObj.vec 0 [] 0 true,DObj.row [.vec or gr 0 c.reg.length,.vec ol gl 0 c.lets.length,.im (.raw (.int .i64 c.of)),.vec oo go 0 c.loops.length],DObj.vec 0 [] 0 true,DObj.vec 0 [] 0 true,DObj.row [.im (.raw (.int .i64 T.drawing)),.im (.raw (.int .i64 (lo+1))),.im (.raw (.int .u8 T.kind)),.im (.sl (List.map l7 T.items)),.vec (Y.length+7) 1 0 ds.length],DObj.vec 3 (o7 (List.map l6 ds)) 1 false])⟩) (fun n=>c.reg.length-n.1) ⟨0,Nat.zero_le _⟩ (zv [1,2,3,6,7,8,9] (by simp[aK,fz,DC.lt,q7,q8])) ?_
 have d1:¬ or=Y.length+3∧¬ or=Y.length+4+2∧¬ ol=Y.length+3∧¬ ol=Y.length+4+2∧¬ oo=Y.length+3∧¬ 4=Y.length+3∧¬ Y.length+4+2=Y.length+3∧¬ 0=Y.length+3∧¬ 4=Y.length+4+2:=by omega
 revert d1 k0 k4 k1 k2 k3 k7 k8
 generalize L1 (Y.length+7) _=Z
 generalize Y.length+3=N3
 generalize Y.length+4+2=N6
 intro k0 k4 k1 k2 k3 k7 k8 d1
 clear q7 q8 l0 l4 l1 l2 l3
 have aq:∀ (q:Nat) (x:DObj),Z[q]?=some x→(∀ W R:List DObj,W.length=Z.length→(W++R)[q]?=W[q]?)∧(∀ (W R:List DObj) (x:DObj),W.length=Z.length→(W++R).set q x=W.set q x++R)∧∀ (W:List DObj) (x:DObj),W.length=Z.length→(W.set q x)[q]?=some x:=fun q x h=>by
  have hl:=g9 h
  exact⟨fun W R hZ=>List.getElem?_append_left (by omega),fun W R x hZ=>List.set_append_left _ _ (by omega),fun W x hZ=>List.getElem?_set_self (by omega)⟩
 obtain⟨a1,a2,a3⟩:=aq _ _ k0
 obtain⟨b1,b2,b3⟩:=aq _ _ k4
 obtain⟨e1,e2,e3⟩:=aq _ _ k1
 obtain⟨f1,f2,f3⟩:=aq _ _ k2
 obtain⟨g1,g2,g3⟩:=aq _ _ k3
 obtain⟨h1',h2',h3'⟩:=aq _ _ k7
 obtain⟨i1,i2,i3⟩:=aq _ _ k8
 have bM:∀ W R:List DObj,W.length=Z.length→(W++R)[Z.length]?=R[0]?:=fun W R hZ=>by rw[← hZ,List.getElem?_append_right (Nat.le_refl _),Nat.sub_self]
 have sM:∀ (W R:List DObj) (x:DObj),W.length=Z.length→(W++R).set Z.length x=W++R.set 0 x:=fun W R x hZ=>by rw[← hZ,List.set_append_right _ _ (Nat.le_refl _),Nat.sub_self]
 clear aq
 have k0':Z[0]?=some (.row [.im (.sl (List.map j0 c.reg)),.im (.sl (List.map Ab.encI c.lets)),.im (.raw (.int .i64 c.of)),.im (.sl (List.map j5 c.loops))]):=by assumption
 have k1':Z[or]?=some (.vec 5 (o7 (List.map j0 c.reg)) gr nr):=by assumption
 have k7':Z[N3]?=some (.row [.vec or gr 0 c.reg.length,.vec ol gl 0 c.lets.length,.im (.raw (.int .i64 c.of)),.vec oo go 0 c.loops.length]):=by assumption
 have p0:∀ (x y:DObj) (R:List DObj) (h:0<(((Z.set or x).set N3 y)++R).length),(((Z.set or x).set N3 y)++R)[0]'h=.row [.im (.sl (List.map j0 c.reg)),.im (.sl (List.map Ab.encI c.lets)),.im (.raw (.int .i64 c.of)),.im (.sl (List.map j5 c.loops))]:=fun x y R h=>by
  have hz0:=g9 k0'
  have e1:or≠0:=fun e=>by rw[e,k0'] at k1';cases k1'
  have e2:N3≠0:=fun e=>d1.2.2.2.2.2.2.2.1 e.symm
  have:(((Z.set or x).set N3 y)++R)[0]?=some (.row [.im (.sl (List.map j0 c.reg)),.im (.sl (List.map Ab.encI c.lets)),.im (.raw (.int .i64 c.of)),.im (.sl (List.map j5 c.loops))]):=by
   rw[List.getElem?_append_left (by simp only[List.length_set];exact hz0),List.getElem?_set_ne e2,List.getElem?_set_ne e1];exact k0'
  rw[List.getElem?_eq_getElem h] at this
  exact Option.some.inj this
 have k4':Z[4]?=some (.row [.vec 1 0 0 0,.vec 2 0 0 0,.im (.raw (.int .i64 0)),.vec 3 0 0 0]):=by assumption
 have k2':Z[ol]?=some (.vec 1 (o7 (List.map Ab.encI c.lets)) gl false):=by assumption
 have k3':Z[oo]?=some (.vec so (o7 (List.map j5 c.loops)) go no):=by assumption
 have d2:¬ N3=or∧¬ N6=or∧¬ N3=ol∧¬ N6=ol∧¬ N3=oo∧¬ N3=4∧¬ N3=N6∧¬ N3=0∧¬ N6=4∧¬ ol=or∧¬ oo=or∧¬ oo=ol:=by omega
 have d3:¬ or=0∧¬ or=4∧¬ ol=0∧¬ ol=4:=⟨fun e=>(by rw[e,k0'] at k1';cases k1'),fun e=>(by rw[e,k4'] at k1';cases k1'),fun e=>(by rw[e,k0'] at k2';cases k2'),fun e=>(by rw[e,k4'] at k2';cases k2')⟩
 rintro⟨n,hn⟩
 simp only[iv]
 have r2:=oq (G:=G) { T with letter:=lo+1,dims:=ds }
 have nu:=L8 (G:=G) c.reg (by omega)
 have hnl:(nums c.reg).length≤c.reg.length:=p8 c.reg c.reg.length
 have ix:=bV (G:=G) (nums c.reg) d (by omega)
 have h0:=eV hd
 have hi:(idx (nums c.reg) d).toNat<(nums c.reg).length:=by
  obtain⟨k,hk⟩:=List.mem_iff_getElem?.1 hd
  unfold idx
  cases hh:(nums c.reg).idxOf? d with
  | none =>
    rw[List.idxOf?,List.findIdx?_eq_none_iff] at hh
    have:=hh d hd;simp at this
  | some i =>
    rw[List.idxOf?,List.findIdx?_eq_some_iff_getElem] at hh
    simpa using hh.1
 generalize hidx:idx (nums c.reg) d=z at *
 obtain⟨z,rfl⟩:∃ k:Nat,z=k:=⟨z.toNat,by omega⟩
 simp only[Int.toNat_natCast] at hi ⊢
 have hzl:z<c.lets.length:=by omega
 have hpl:=sd { T with letter:=lo+1,dims:=ds } c.reg
 have hins:=oT { T with letter:=lo+1,dims:=ds } c.reg
 have hstep:=fun y h=>lY { T with letter:=lo+1,dims:=ds } c.reg n y hn h
 have hless:=fun y=>xZ (G:=G) y { T with letter:=lo+1,dims:=ds }
 simp only[E4,j0,D7,rI,List.map_cons,List.map_nil,C8,H0] at r2 nu ix
 by_cases hlt:n<c.reg.length
 ·have hx:c.reg[n]?=some c.reg[n]:=by simp[hlt]
  have hw:=zk n
  have hst:=hstep _ hx
  have r3:=hless c.reg[n]
  have r1:=oq (G:=G) c.reg[n]
  simp only[E4,j0,D7,rI,List.map_cons,List.map_nil] at r1 r3
  generalize hxe:c.reg[n]=y at *
  by_cases hc:aD y { T with letter:=lo+1,dims:=ds }<0
  ·rw[decide_eq_true hc] at r3
   have hs:=za hx (za hxe (za hlt (za hw (za k0 (za k4 (za k1 (za k2 (za k3 (za k7 k8)))))))))
   repeat' first|with_reducible refine zz ?_|simp -dsimp[hs]|refine zq r1 ?_|refine zq r2 ?_|refine zq r3 ?_|refine zM 6 80 18 [0,1,2,3,6,7,8,9,10,47] ?_|with_reducible refine zE [0,1,2,3,6,7,8,9,10,47] ?_|refine m5 ?_ ?_<;>intro h<;>try simp only[l8] at h
   all_goals try clear hs
   all_goals exact zn ⟨n+1,hst.1 hc⟩ (zv [1,2,3,6,7,8,9])
  ·rw[decide_eq_false hc] at r3
   have hne:=hst.2 hc
   have hnle:n≤c.reg.length:=by omega
   have hmn:min n c.reg.length=n:=Nat.min_eq_left hnle
   have hil:(o7 (c.reg.map j0)).length=c.reg.length:=by simp[o7]
   have htd:List.take (c.reg.length-n) (List.drop n (o7 (c.reg.map j0)))=List.drop n (o7 (c.reg.map j0)):=List.take_of_length_le (by rw[List.length_drop,hil];omega)
   have hte:∀ e∈List.drop n (o7 (c.reg.map j0)),e.length=5:=fun e he=>U1 (l:=c.reg.map j0) (sz:=5) (fun x hx=>by obtain⟨y,_,rfl⟩:=List.mem_map.1 hx;rfl) e (List.mem_of_mem_drop he)
   have ht1:∀ x:List DC,List.take (n+1) (List.take n (o7 (c.reg.map j0))++[x])=List.take n (o7 (c.reg.map j0))++[x]:=fun x=>List.take_of_length_le (by rw[List.length_append,List.length_take,hil];simp;omega)
   have hs:=za hx (za hxe (za hlt (za hw (za hnle (za hmn (za hil (za htd (za hte (za ht1 (za hzl (za p0 (za d2 (za d3 (za k0 (za k4 (za k1 (za k2 (za k3 (za k7 (za k8 (za n1 (za n2 (za n3 (za d1 (za a1 (za a2 (za a3 (za b1 (za b2 (za b3 (za e1 (za e2 (za e3 (za f1 (za f2 (za f3 (za g1 (za g2 (za g3 (za h1' (za h2' (za h3' (za i1 (za i2 (za i3 (za bM sM))))))))))))))))))))))))))))))))))))))))))))))
   repeat' first|(with_reducible first|refine zz ?_|refine And.intro (by omega) ?_|refine zr ?_)|simp -dsimp[hs]|refine zq r1 ?_|refine zq r2 ?_|refine zq r3 ?_|refine zq nu ?_|refine zq ix ?_|refine cp (id:=9) (nt:=80) [0,1,2,3,4,5,8,6,7,9,10,11,12] 7 [([0,1,2,3,4,6],[0,1,2,3,6,7,8,9,10,47,62]),([6],[0,1,2,3,6,7,8,9,10,47,61,63])] [0,1,2,3,6,7,8,9,10,47] mixed rfl (by kernel_rfl) (by kernel_rfl) ?_|refine zM 6 80 18 [0,1,2,3,6,7,8,9,10,47] ?_|refine zM 10 80 10 [0,1,2,3,6,7,8,9,10,47] ?_|with_reducible refine zE [0,1,2,3,6,7,8,9,10,47] ?_|refine m5 ?_ ?_<;>intro h<;>try simp only[l8] at h|with_reducible refine And.intro ?_ ?_
   all_goals try clear hs
   all_goals try omega
   subst hQ
   unfold sE
   rw[hXC]
   simp only[aK,List.map_cons,List.map_nil,M9,p5]
   have q1:=fun {A B C D:DObj} {R:List DObj}=>(show ((((Z.set or A).set N3 B).set ol C).set 4 D++R)[or]?=some A by
    rw[List.getElem?_append_left (by simp only[List.length_set];exact g9 k1'),List.getElem?_set_ne (fun e=>d3.2.1 e.symm),List.getElem?_set_ne d2.2.2.2.2.2.2.2.2.2.1,List.getElem?_set_ne d2.1,List.getElem?_set_self (g9 k1')])
   have q2:=fun {A B C D:DObj} {R:List DObj}=>(show ((((Z.set or A).set N3 B).set ol C).set 4 D++R)[ol]?=some C by
    rw[List.getElem?_append_left (by simp only[List.length_set];exact g9 k2'),List.getElem?_set_ne (fun e=>d3.2.2.2 e.symm),List.getElem?_set_self (by simp only[List.length_set];exact g9 k2')])
   have q3:=fun {A B C D:DObj} {R:List DObj}=>(show ((((Z.set or A).set N3 B).set ol C).set 4 D++R)[oo]?=some (.vec so (o7 (List.map j5 c.loops)) go no) by
    rw[List.getElem?_append_left (by simp only[List.length_set];exact g9 k3'),List.getElem?_set_ne (fun e=>(by rw[← e,k4'] at k3';cases k3')),List.getElem?_set_ne (fun e=>d2.2.2.2.2.2.2.2.2.2.2.2 e.symm),List.getElem?_set_ne d2.2.2.2.2.1,List.getElem?_set_ne (fun e=>d2.2.2.2.2.2.2.2.2.2.2.1 e.symm)];exact k3')
   generalize hEE:((((Z.set or _).set N3 _).set ol _).set 4 _++_:List DObj)=E
   have hA:o7 ((eT { T with letter:=lo+1,dims:=ds } c.reg).map j0)=List.take n (o7 (c.reg.map j0))++[.im (.raw (.int .i64 T.drawing)),.im (.raw (.int .i64 (lo+1))),.im (.raw (.int .u8 T.kind)),.im (.sl (T.items.map l7)),.im (.sl (ds.map l6))] :: List.drop n (o7 (c.reg.map j0)):=by
    rw[hins,← hne]
    simp[o7,j0,rI]
   have hC:o7 ((c.lets.set z (lo+1)).map Ab.encI)=o7 ((List.map Ab.encI c.lets).set z [.raw (.int .i64 (lo+1))]):=by
    rw[List.map_set];rfl
   have s1:SlI (fun o=>E[o]?) 5 ((eT { T with letter:=lo+1,dims:=ds } c.reg).map j0) (.vec or (gr+1+1) 0 (n+1+(c.reg.length-n))):=.inl ⟨or,gr+1+1,false,5,by rw[List.length_map,(bw _ _).length_eq,List.length_cons];congr 1;omega,by simp only[← hEE];rw[q1,hA],.inl rfl⟩
   have s2:SlI (fun o=>E[o]?) 1 ((c.lets.set z (lo+1)).map Ab.encI) (.vec ol gl 0 c.lets.length):=.inl ⟨ol,gl,false,1,by rw[List.length_map,List.length_set],by simp only[← hEE];rw[q2,hC],.inl rfl⟩
   have s3:SlI (fun o=>E[o]?) so (c.loops.map j5) (.vec oo go 0 c.loops.length):=.inl ⟨oo,go,no,so,by rw[List.length_map],by simp only[← hEE];rw[q3],.inl rfl⟩
   rw[s1.fz,s2.fz,s3.fz]
   rfl
 ·have hne:n=gT { T with letter:=lo+1,dims:=ds } c.reg:=by omega
  have hnle:n≤c.reg.length:=by omega
  have hmn:min n c.reg.length=n:=Nat.min_eq_left hnle
  have hil:(o7 (c.reg.map j0)).length=c.reg.length:=by simp[o7]
  have htd:List.take (c.reg.length-n) (List.drop n (o7 (c.reg.map j0)))=List.drop n (o7 (c.reg.map j0)):=List.take_of_length_le (by rw[List.length_drop,hil];omega)
  have hte:∀ e∈List.drop n (o7 (c.reg.map j0)),e.length=5:=fun e he=>U1 (l:=c.reg.map j0) (sz:=5) (fun x hx=>by obtain⟨y,_,rfl⟩:=List.mem_map.1 hx;rfl) e (List.mem_of_mem_drop he)
  have ht1:∀ x:List DC,List.take (n+1) (List.take n (o7 (c.reg.map j0))++[x])=List.take n (o7 (c.reg.map j0))++[x]:=fun x=>List.take_of_length_le (by rw[List.length_append,List.length_take,hil];simp;omega)
  have hs:=za hlt (za hnle (za hmn (za hil (za htd (za hte (za ht1 (za hzl (za p0 (za d2 (za d3 (za k0 (za k4 (za k1 (za k2 (za k3 (za k7 (za k8 (za n1 (za n2 (za n3 (za d1 (za a1 (za a2 (za a3 (za b1 (za b2 (za b3 (za e1 (za e2 (za e3 (za f1 (za f2 (za f3 (za g1 (za g2 (za g3 (za h1' (za h2' (za h3' (za i1 (za i2 (za i3 (za bM sM)))))))))))))))))))))))))))))))))))))))))))
  repeat' first|(with_reducible first|refine zz ?_|refine And.intro (by omega) ?_|refine zr ?_)|simp -dsimp[hs]|refine zq nu ?_|refine zq ix ?_|refine cp (id:=9) (nt:=80) [0,1,2,3,4,5,8,6,7,9,10,11,12] 7 [([0,1,2,3,4,6],[0,1,2,3,6,7,8,9,10,47,62]),([6],[0,1,2,3,6,7,8,9,10,47,61,63])] [0,1,2,3,6,7,8,9,10,47] mixed rfl (by kernel_rfl) (by kernel_rfl) ?_|refine zM 6 80 18 [0,1,2,3,6,7,8,9,10,47] ?_|refine zM 10 80 10 [0,1,2,3,6,7,8,9,10,47] ?_|with_reducible refine zE [0,1,2,3,6,7,8,9,10,47] ?_|refine m5 ?_ ?_<;>intro h<;>try simp only[l8] at h|with_reducible refine And.intro ?_ ?_
  all_goals try clear hs
  all_goals try omega
  subst hQ
  unfold sE
  rw[hXC]
  simp only[aK,List.map_cons,List.map_nil,M9,p5]
  have q1:=fun {A B C D:DObj} {R:List DObj}=>(show ((((Z.set or A).set N3 B).set ol C).set 4 D++R)[or]?=some A by
   rw[List.getElem?_append_left (by simp only[List.length_set];exact g9 k1'),List.getElem?_set_ne (fun e=>d3.2.1 e.symm),List.getElem?_set_ne d2.2.2.2.2.2.2.2.2.2.1,List.getElem?_set_ne d2.1,List.getElem?_set_self (g9 k1')])
  have q2:=fun {A B C D:DObj} {R:List DObj}=>(show ((((Z.set or A).set N3 B).set ol C).set 4 D++R)[ol]?=some C by
   rw[List.getElem?_append_left (by simp only[List.length_set];exact g9 k2'),List.getElem?_set_ne (fun e=>d3.2.2.2 e.symm),List.getElem?_set_self (by simp only[List.length_set];exact g9 k2')])
  have q3:=fun {A B C D:DObj} {R:List DObj}=>(show ((((Z.set or A).set N3 B).set ol C).set 4 D++R)[oo]?=some (.vec so (o7 (List.map j5 c.loops)) go no) by
   rw[List.getElem?_append_left (by simp only[List.length_set];exact g9 k3'),List.getElem?_set_ne (fun e=>(by rw[← e,k4'] at k3';cases k3')),List.getElem?_set_ne (fun e=>d2.2.2.2.2.2.2.2.2.2.2.2 e.symm),List.getElem?_set_ne d2.2.2.2.2.1,List.getElem?_set_ne (fun e=>d2.2.2.2.2.2.2.2.2.2.2.1 e.symm)];exact k3')
  generalize hEE:((((Z.set or _).set N3 _).set ol _).set 4 _++_:List DObj)=E
  have hA:o7 ((eT { T with letter:=lo+1,dims:=ds } c.reg).map j0)=List.take n (o7 (c.reg.map j0))++[.im (.raw (.int .i64 T.drawing)),.im (.raw (.int .i64 (lo+1))),.im (.raw (.int .u8 T.kind)),.im (.sl (T.items.map l7)),.im (.sl (ds.map l6))] :: List.drop n (o7 (c.reg.map j0)):=by
   rw[hins,← hne]
   simp[o7,j0,rI]
  have hC:o7 ((c.lets.set z (lo+1)).map Ab.encI)=o7 ((List.map Ab.encI c.lets).set z [.raw (.int .i64 (lo+1))]):=by
   rw[List.map_set];rfl
  have s1:SlI (fun o=>E[o]?) 5 ((eT { T with letter:=lo+1,dims:=ds } c.reg).map j0) (.vec or (gr+1+1) 0 (n+1+(c.reg.length-n))):=.inl ⟨or,gr+1+1,false,5,by rw[List.length_map,(bw _ _).length_eq,List.length_cons];congr 1;omega,by simp only[← hEE];rw[q1,hA],.inl rfl⟩
  have s2:SlI (fun o=>E[o]?) 1 ((c.lets.set z (lo+1)).map Ab.encI) (.vec ol gl 0 c.lets.length):=.inl ⟨ol,gl,false,1,by rw[List.length_map,List.length_set],by simp only[← hEE];rw[q2,hC],.inl rfl⟩
  have s3:SlI (fun o=>E[o]?) so (c.loops.map j5) (.vec oo go 0 c.loops.length):=.inl ⟨oo,go,no,so,by rw[List.length_map],by simp only[← hEE];rw[q3],.inl rfl⟩
  rw[s1.fz,s2.fz,s3.fz]
  rfl
theorem rZ (c:Chains) (d:Int) (ds:List Dim) (h1:c.reg.length<1000) (h2:∀ x∈c.reg,x.items.length≤16∧x.dims.length≤8) (hl2:c.lets.length≤80) (hl:c.loops.length≤10) (hls:∀ x∈c.loops,x.links.length≤12) (hd:d∈nums c.reg) (hll:c.lets.length=(nums c.reg).length) (hds:ds.length≤8) (hTs:(j8 c.reg c.lets d).items.length≤16∧(j8 c.reg c.lets d).dims.length≤8) (hlo:0≤C3 c.reg d∧C3 c.reg d≤1000000) (objs:List DObj):DCall prog G 65 [M9 c,iv d,.one (.im (.sl (ds.map l6)))] objs (fun r o=>r=M9 (me c d ds)∧o=objs):=
 DCall.frame (xP c d ds h1 h2 hl2 hl hls hd hll hds hTs hlo) (by simp) (by simp) objs
end Go.Proofs
namespace Go.Proofs
open Go Go.Ab
theorem Ad (n:Int):1≤W2 n∧W2 n≤254:=by unfold W2;split<;>omega
theorem mW {n s:Int} (h0:0≤n) (h2:1≤s):gM n s % s=0∧ja n s % s=0:=by
 have e1:ja n s % s=0:=by
  unfold ja
  exact Int.emod_eq_zero_of_dvd (Int.dvd_self_sub_emod)
 refine⟨?_,e1⟩
 unfold gM;split
 ·assumption
 ·rw[Int.add_emod,show (n-n % s) % s=0 from e1];simp
theorem zS {d:Dim} {n:Int} (hd:D8 d=true) (hE:pP d n=0):D8 (dX d n)=true∧d.lower≤(dX d n).lower∧(dX d n).upper≤d.upper∧(dX d n).nominal % W2 n=0∧(dX d n).lower % W2 n=0∧(dX d n).upper % W2 n=0:=by
 have hle:(aw d (W2 n)).lower≤(aw d (W2 n)).upper:=by
  rw[pP] at hE;split at hE
  ·assumption
  ·cases hE
 rw[dX,if_pos hle]
 rw[M7] at hd ⊢
 have hs:=Ad n
 have e1:=aU (n:=d.nominal) (s:=W2 n) (by omega) hs.1
 have e2:=aU (n:=d.lower) (s:=W2 n) (by omega) hs.1
 have e3:=aU (n:=d.upper) (s:=W2 n) (by omega) hs.1
 have m1:=mW (n:=d.nominal) (s:=W2 n) (by omega) hs.1
 have m2:=mW (n:=d.lower) (s:=W2 n) (by omega) hs.1
 have m3:=mW (n:=d.upper) (s:=W2 n) (by omega) hs.1
 simp only[aw] at hle ⊢
 refine⟨?_,by omega,by omega,?_,m2.1,m3.2⟩
 ·split<;>omega
 ·split
  ·exact m1.2
  ·exact m1.1
theorem vF {c:Chains} (hOk:OkC c) (n:Int):CL c (aV c n):=fun m hm h0=>by
 obtain⟨t1,_⟩:=A7 hOk.reg hOk.lets hm
 have hd:=O7 hOk t1
 generalize j8 c.reg c.lets m=T at *
 unfold aV at h0 ⊢
 by_cases hz:n7 (B0 c) T.drawing=0
 ·rw[if_pos hz];exact⟨rfl,hd⟩
 ·rw[if_neg hz] at h0 ⊢
  by_cases hr:P7 n T.dims=true
  ·rw[if_pos hr]
   refine⟨by simp,fun d h=>?_⟩
   obtain⟨d0,h1,rfl⟩:=List.mem_map.1 h
   rw[P7,List.all_eq_true] at hr
   have:=hr d0 h1
   simp only[decide_eq_true_eq] at this
   exact(zS (hd d0 h1) this).1
  ·rw[if_neg hr] at h0;simp at h0
structure Inches (c:Chains) (n:Int) (X:Chains):Prop where
 ch:Changed c (aV c n)
 eq:X=l9 c (aV c n)
 dims:∀ m∈nums c.reg,(j8 X.reg X.lets m).dims.length=(j8 c.reg c.lets m).dims.length∧∀ (k:Nat) (d d':Dim),(j8 c.reg c.lets m).dims[k]?=some d→(j8 X.reg X.lets m).dims[k]?=some d'→D8 d=true∧D8 d'=true∧d.lower≤d'.lower∧d'.upper≤d.upper ∧
  (n7 (B0 c) m≠0→d'.nominal % W2 n=0∧d'.lower % W2 n=0∧d'.upper % W2 n=0)
theorem tQ {c:Chains} (h0:p7 c=0) (hsm:w9 c) {n:Int} (hE:A0 c (aV c n)=0):Inches c n (l9 c (aV c n)):=by
 have hOk:=vO h0
 have hC:=iU h0 hsm (vF hOk n) hE
 refine⟨hC,rfl,fun m hm=>?_⟩
 obtain⟨t1,t2,_⟩:=A7 hOk.reg hOk.lets hm
 have hd:=O7 hOk t1
 have he:=hC.err m hm
 rw[hC.take m hm,(jo c _ m).2.2.2]
 generalize j8 c.reg c.lets m=T at *
 have hok:∀ d∈T.dims,n7 (B0 c) T.drawing≠0→pP d n=0:=fun d h hz=>by
  unfold aV at he
  rw[if_neg hz] at he
  by_cases hr:P7 n T.dims=true
  ·rw[P7,List.all_eq_true] at hr
   simpa using hr d h
  ·rw[if_neg hr] at he;simp at he
 by_cases hz:n7 (B0 c) T.drawing=0
 ·have hf:(aV c n T).1=T.dims:=by unfold aV;rw[if_pos hz]
  rw[hf]
  refine⟨rfl,fun k d d' h1 h2=>?_⟩
  rw[h1] at h2;cases h2
  have:=hd d (List.mem_of_getElem? h1)
  exact⟨this,this,Int.le_refl _,Int.le_refl _,fun h=>absurd (by rw[← t2];exact hz) h⟩
 ·have hf:(aV c n T).1=T.dims.map (dX · n):=by
   unfold aV at he ⊢
   rw[if_neg hz] at he ⊢
   by_cases hr:P7 n T.dims=true
   ·rw[if_pos hr]
   ·rw[if_neg hr] at he;simp at he
  rw[hf]
  refine⟨by simp,fun k d d' h1 h2=>?_⟩
  rw[List.getElem?_map,h1] at h2
  cases h2
  have hdm:=List.mem_of_getElem? h1
  obtain⟨a1,a2,a3,a4⟩:=zS (hd d hdm) (hok d hdm hz)
  exact⟨hd d hdm,a1,a2,a3,fun _=>a4⟩
theorem qt {c:Chains} (hOk:OkC c) {p:Itm} (hp:p∈Q8 c.reg c.lets c.of):p.drawing∈nums c.reg∧n7 (B0 c) p.drawing≠0:=by
 have hT:B3 c.reg c.lets c.of=0:=by simp[B3,hOk.reg,hOk.lets,hOk.of]
 have hnd:(nums c.reg).Nodup:=(u4 hOk.reg).1.imp fun h=>Int.ne_of_lt h
 have hE:Q8 c.reg c.lets c.of=F3 (nums c.reg) (bE c.reg c.lets c.of):=by rw[Q8,if_pos hT]
 have hn:((F3 (nums c.reg) (bE c.reg c.lets c.of)).map (·.drawing)).Nodup:=by
  simp only[F3,List.map_map]
  have:(fun x:Itm=>x.drawing) ∘ (fun n=>(⟨n,n7 (bE c.reg c.lets c.of) n⟩:Itm))=id:=rfl
  rw[this,List.map_id]
  exact hnd.filter _
 rw[B0,hE,bQ _ _ _ hn]
 rw[hE] at hp
 have hp':=hp
 simp only[F3,List.mem_map,List.mem_filter,decide_eq_true_eq] at hp'
 obtain⟨n,⟨h1,h2⟩,rfl⟩:=hp'
 refine⟨h1,?_⟩
 rw[if_pos (List.mem_map.2 ⟨_,hp,rfl⟩)]
 have:∀ (l:List Int),l.Nodup→n∈l→0<n7 (bE c.reg c.lets c.of) n→I8 ((l.filter fun n=>decide (0<n7 (bE c.reg c.lets c.of) n)).map fun n=>⟨n,n7 (bE c.reg c.lets c.of) n⟩) n=n7 (bE c.reg c.lets c.of) n:=fun l=>by
  induction l with
  | nil=>intro _ h;cases h
  | cons a l ih =>
    intro hnd hm hpos
    rw[List.nodup_cons] at hnd
    rw[List.filter_cons]
    by_cases e:a=n
    ·subst e
     rw[if_pos (by simpa using hpos),List.map_cons,I8,if_pos rfl]
    ·have hm':n∈l:=by rcases List.mem_cons.1 hm with h|h;exact absurd h.symm e;exact h
     split
     ·rw[List.map_cons,I8,if_neg e];exact ih hnd.2 hm' hpos
     ·exact ih hnd.2 hm' hpos
 show I8 (F3 (nums c.reg) (bE c.reg c.lets c.of)) n≠0
 rw[F3,this _ hnd h1 h2];omega
open Go Go.Ab Tryz
variable {G:Es}
attribute [simp] r5 aT D9 J6 o9 x7 nilV H2 ZK
def Bq (b:Nat→Nat) (m:Nat→Gp) (i k:Nat) (x:ChLoop):List DC:=if k<i then [.vec (b k) (m k).1 0 x.links.length,.im (rI x.lo),.im (rI x.hi)] else (j5 x).map .im
def pO (b:Nat→Nat) (m:Nat→Gp) (i:Nat) (l:List ChLoop):List (List DC):=l.mapIdx (Bq b m i)
def xA (l:List ChLoop) (m:Nat→Gp) (k:Nat):Q2:=match l[k]? with
 | some x=>(.vec 3 [] 0 true,.vec 3 (o7 (x.links.map C2)) (m k).1 (m k).2)
 | none=>(.gone,.gone)
@[simp] theorem CC (b:Nat→Nat) (m:Nat→Gp) (i:Nat) (l:List ChLoop):(pO b m i l).length=l.length:=by simp[pO]
theorem vY (b:Nat→Nat) (m:Nat→Gp) (l:List ChLoop):pO b m 0 l=o7 (l.map j5):=by
 unfold pO o7
 apply List.ext_getElem?
 intro k
 simp[List.getElem?_mapIdx,Bq]
 rfl
theorem AB {b:Nat→Nat} {m:Nat→Gp} {i:Nat} {l:List ChLoop} {x:ChLoop} (h:l[i]?=some x):(pO b m i l)[i]?=some ((j5 x).map .im):=by
 simp[pO,List.getElem?_mapIdx,h,Bq]
theorem xW {b:Nat→Nat} {m:Nat→Gp} {i:Nat} {l:List ChLoop} {x:ChLoop} (h:l[i]?=some x) (g:Gp):(pO b m i l).set i [.vec (b i) g.1 0 x.links.length,.im (rI x.lo),.im (rI x.hi)]=pO b (fq m i g) (i+1) l:=by
 apply List.ext_getElem?
 intro k
 rw[List.getElem?_set]
 by_cases e:i=k
 ·subst e
  have hlt:=g9 h
  rw[if_pos rfl,if_pos (by simpa using hlt)]
  simp only[pO,List.getElem?_mapIdx,h,Option.map_some,Bq,fq,if_true,Nat.lt_succ_self]
 ·rw[if_neg e]
  simp only[pO,List.getElem?_mapIdx]
  have h1:¬ k=i:=fun h=>e h.symm
  cases hk:l[k]? with
  | none=>rfl
  | some y =>
    simp only[Option.map_some,Bq,fq,if_neg h1]
    by_cases h2:k<i
    ·rw[if_pos h2,if_pos (by omega)]
    ·rw[if_neg h2,if_neg (by omega)]
theorem vX {l:List ChLoop} {m:Nat→Gp} {i:Nat} {x:ChLoop} (h:l[i]?=some x) (g:Gp):H6 (xA l (fq m i g)) (i+1)=H6 (xA l m) i++[.vec 3 [] 0 true,.vec 3 (o7 (x.links.map C2)) g.1 g.2]:=by
 rw[H6,iQ (H:=xA l m) fun k hk=>by unfold xA fq;rw[if_neg (by omega)]]
 simp[xA,h,fq]
theorem rc (l:List Link) (hl:l.length<1000):DCall prog G 132 [.one (.im (.sl (l.map C2)))] [] (fun d o=>∃ i:Nat×Bool,(i.2=true→l=[])∧d=.one (.vec 1 i.1 0 l.length)∧o=[.vec 3 [] 0 true,.vec 3 (o7 (l.map C2)) i.1 i.2]):=by
 refine l5 func132 rfl ntmps132 (by simp) rfl ?_
 repeat' first|(with_reducible first|refine zz ?_|refine And.intro (by omega) ?_|refine zx ?_|refine zE [0,2,4] ?_)|simp -dsimp|refine m5 ?_ ?_<;>intro h<;>try simp only[l8] at h|with_reducible refine S9 (fun h=>?_);(try simp only[List.map_eq_nil_iff] at h);(try subst h);try simp -dsimp|with_reducible refine And.intro ?_ ?_
theorem re (l:List Itm) (hl:l.length<1000):DCall prog G 108 [.one (.im (.sl (l.map l7)))] [] (fun d o=>∃ i:Nat×Bool,(i.2=true→l=[])∧d=.one (.vec 1 i.1 0 l.length)∧o=[.vec 2 [] 0 true,.vec 2 (o7 (l.map l7)) i.1 i.2]):=by
 refine l5 func108 rfl ntmps108 (by simp) rfl ?_
 repeat' first|(with_reducible first|refine zz ?_|refine And.intro (by omega) ?_|refine zx ?_|refine zE [0,2,4] ?_)|simp -dsimp|refine m5 ?_ ?_<;>intro h<;>try simp only[l8] at h|with_reducible refine S9 (fun h=>?_);(try simp only[List.map_eq_nil_iff] at h);(try subst h);try simp -dsimp|with_reducible refine And.intro ?_ ?_
theorem rf (l:List Dim) (hl:l.length<1000):DCall prog G 46 [.one (.im (.sl (l.map l6)))] [] (fun d o=>∃ i:Nat×Bool,(i.2=true→l=[])∧d=.one (.vec 1 i.1 0 l.length)∧o=[.vec 3 [] 0 true,.vec 3 (o7 (l.map l6)) i.1 i.2]):=by
 refine l5 func46 rfl ntmps46 (by simp) rfl ?_
 repeat' first|(with_reducible first|refine zz ?_|refine And.intro (by omega) ?_|refine zx ?_|refine zE [0,2,4] ?_)|simp -dsimp|refine m5 ?_ ?_<;>intro h<;>try simp only[l8] at h|with_reducible refine S9 (fun h=>?_);(try simp only[List.map_eq_nil_iff] at h);(try subst h);try simp -dsimp|with_reducible refine And.intro ?_ ?_
abbrev BB:=(Gp×Gp×Gp)×(Nat→Gp)×(Nat→Gp×Gp)
def wN (s k:Nat):Nat:=2*k+(10+s)
def pw (L s k:Nat):Nat×Nat:=(2*L+4*k+(12+s),2*L+4*k+(14+s))
def Bx (s:Nat) (m:BB) (c:Chains):List DC:=[.vec (2*c.loops.length+(10+s)) m.1.2.2.1 0 c.reg.length,.vec (6+s) m.1.1.1 0 c.lets.length,.im (rI c.of),.vec (8+s) m.1.2.1.1 0 c.loops.length]
def xB (s:Nat) (m:BB) (c:Chains):List DObj:=.row (Bx s m c) :: .vec 0 [] 0 true :: .vec 0 [] 0 true :: .vec 0 [] 0 true :: .row (Bx s m c) :: .vec 1 [] 0 true :: .vec 1 (o7 (c.lets.map Ab.encI)) m.1.1.1 m.1.1.2 :: .vec 3 [] 0 true :: .vec 3 (pO (wN s) m.2.1 c.loops.length c.loops) m.1.2.1.1 m.1.2.1.2 :: (H6 (xA c.loops m.2.1) c.loops.length ++ .vec 5 [] 0 true :: .vec 5 (ek (pw c.loops.length s) m.2.2 c.reg.length c.reg) m.1.2.2.1 m.1.2.2.2 :: I2 (kE c.reg m.2.2) c.reg.length)
theorem pu (c:Chains) (hsm:w9 c):DCall prog G 94 [M9 c] [] (fun d o=>∃ m:BB,True∧d=.agg (Bx 0 m c)∧o=xB 0 m c):=by
 generalize hQ:(fun (d:DV) (o:List DObj)=>∃ m:BB,True∧d=.agg (Bx 0 m c)∧o=xB 0 m c)=Q
 refine l5 func94 rfl ntmps94 (by simp) rfl ?_
 have c1:=mF (G:=G) c.lets (by have:=hsm.2.1;omega)
 have c2:=mE (G:=G) c.loops (by have:=hsm.2.2.1;omega)
 have c3:=mD (G:=G) c.reg (by have:=hsm.1.1;omega)
 simp only[H0] at c1
 have hs:=trivial
 repeat' first|with_reducible refine zz ?_|simp -dsimp[hs]|refine CallE.embed_ex [] (c1) ?_ ?_ ?_ ?_ ?_ ?_;(focus simp[C4];done);(focus simp;done);(focus simp;done);(focus simp;done);(focus refine A3 ?_;simp[C4,B7];done);intro mmA hmmA;try simp -dsimp[s8,C4,hs]|refine CallE.embed_ex [] (c2) ?_ ?_ ?_ ?_ ?_ ?_;(focus simp[C4];done);(focus simp;done);(focus simp;done);(focus simp;done);(focus refine A3 ?_;simp[C4,B7];done);intro mmB hmmB;try simp -dsimp[s8,C4,hs]|refine I3 (id:=1) (nt:=69) [none,none,none,none,none,none,some [],none,some [],none] [0,1,3,4,6,8,2,5,7,9] 6 [([2,3,4,5],[0,1,2,3,4,5,7,16,17,18,42,43,44]),([4,5],[0,1,2,3,4,5,8,10,16,17,18,42,43,44]),([5],[0,1,2,3,4,5,8,11,12,16,17,18,42,43,44])] [0,1,2,3,4,5,16,17,18,42,43,44] mixed rfl (by kernel_rfl) (by kernel_rfl) (by kernel_rfl) ?_|with_reducible refine zE [0,1,2,3,4,5,16,17,18,42,43,44] ?_
 all_goals try clear hs
 refine j7 (ι:={ q:Nat×(Nat→Gp) // q.1≤c.loops.length }) (fun q=>⟨69,[(1,.one (.ptr 0 0)),(2,.one (.ptr 4 0)),(16,iv (c.loops.length:Int)),(17,iv (q.1.1:Int))],.row [.im (.sl (c.reg.map j0)),.vec 6 mmA.1 0 c.lets.length,.im (rI c.of),.vec 8 mmB.1 0 c.loops.length] :: .vec 0 [] 0 true :: .vec 0 [] 0 true :: .vec 0 [] 0 true :: .row [.vec 1 0 0 0,.vec 2 0 0 0,.im (rI 0),.vec 3 0 0 0] :: .vec 1 [] 0 true :: .vec 1 (o7 (c.lets.map Ab.encI)) mmA.1 mmA.2 :: .vec 3 [] 0 true :: .vec 3 (pO (fun k=>2*k+10) q.1.2 q.1.1 c.loops) mmB.1 mmB.2 :: H6 (xA c.loops q.1.2) q.1.1⟩) (fun q=>c.loops.length-q.1.1) ⟨(0,fun _=>(0,false)),by simp⟩ (zv [1,2,16,17] (by simp[vY,H6])) ?_
 rintro⟨⟨i,m⟩,hi⟩
 simp only at hi
 simp only[iv,rI]
 by_cases hlt:i<c.loops.length
 ·have hw:IntKind.i64.wrap ((i:Int)+1)=((i+1:Nat):Int):=u7 (by omega) (by have:=hsm.2.2.1;omega)
  have hx0:c.loops[i]?=some c.loops[i]:=by simp[hlt]
  have hxm:=hsm.2.2.2 _ (List.mem_of_getElem? hx0)
  generalize c.loops[i]=x at *
  have c4:=rc (G:=G) x.links (by omega)
  have hat:∀ h,(pO (fun k=>2*k+10) m i c.loops)[i]'h=(j5 x).map .im:=fun h=>by
   have:=AB (b:=fun k=>2*k+10) (m:=m) hx0
   rw[List.getElem?_eq_getElem h] at this;exact Option.some.inj this
  simp only[j5,rI,List.map_cons,List.map_nil] at hat
  have hset:=fun g=>xW (b:=fun k=>2*k+10) (m:=m) hx0 g
  have hsuc:=fun g=>vX (m:=m) hx0 g
  have hs:=za hlt (za hw hat)
  repeat' first|with_reducible refine zz ?_|simp -dsimp[hs]|refine CallE.embed_ex [] (c4) ?_ ?_ ?_ ?_ ?_ ?_;(focus simp[C4];done);(focus simp;done);(focus simp;done);(focus simp;done);(focus refine A3 ?_;simp[C4,B7];done);intro mmC hmmC;try simp -dsimp[s8,C4,hs]|refine I3 (id:=5) (nt:=69) [none,none,none,none,none,none,none,none,none,none,some [1,2],some [10],none] [0,1,2,3,4,5,6,7,8,10,11,9,12] 11 [([0,1,2,9,10],[0,1,2,3,4,5,16,17,18,28,42,43,44])] [0,1,2,3,4,5,16,17,18,42,43,44] mixed rfl (by kernel_rfl) (by kernel_rfl) (by kernel_rfl) ?_|with_reducible refine zE [0,1,2,3,4,5,16,17,18,42,43,44] ?_|refine m5 ?_ ?_<;>intro h<;>try simp only[l8] at h
  all_goals try clear hs
  refine At.round ⟨(i+1,fq m i mmC),by simp only;omega⟩ (by simp only;omega) (Weak.of_keep [1,2,16,17] ?_)
  rw[← hset mmC,hsuc mmC]
  simp
 ·obtain rfl:i=c.loops.length:=by omega
  have hs:=hlt
  repeat' first|(with_reducible first|refine zz ?_|refine zE [0,1,2,3,4,5,16,17,18,42,43,44] ?_)|simp -dsimp[hs]|refine CallE.embed_ex [] (c3) ?_ ?_ ?_ ?_ ?_ ?_;(focus simp[C4];done);(focus simp;done);(focus simp;done);(focus simp;done);(focus refine A3 ?_;simp[C4,B7];done);intro mmD hmmD;try simp -dsimp[s8,C4,hs]|refine m5 ?_ ?_<;>intro h<;>try simp only[l8] at h
  all_goals try clear hs
  clear hlt hi
  generalize hN:c.loops.length=N at *
  refine j7 (ι:={ q:Nat×(Nat→Gp×Gp) // q.1≤c.reg.length }) (fun q=>⟨69,[(1,.one (.ptr 0 0)),(2,.one (.ptr 4 0)),(42,iv (c.reg.length:Int)),(43,iv (q.1.1:Int))],.row [.vec (2*N+10) mmD.1 0 c.reg.length,.vec 6 mmA.1 0 c.lets.length,.im (rI c.of),.vec 8 mmB.1 0 N] :: .vec 0 [] 0 true :: .vec 0 [] 0 true :: .vec 0 [] 0 true :: .row [.vec 1 0 0 0,.vec 2 0 0 0,.im (rI 0),.vec 3 0 0 0] :: .vec 1 [] 0 true :: .vec 1 (o7 (c.lets.map Ab.encI)) mmA.1 mmA.2 :: .vec 3 [] 0 true :: .vec 3 (pO (fun k=>2*k+10) m N c.loops) mmB.1 mmB.2 :: (H6 (xA c.loops m) N ++ .vec 5 [] 0 true :: .vec 5 (ek (fun k=>(2*N+4*k+12,2*N+4*k+14)) q.1.2 q.1.1 c.reg) mmD.1 mmD.2 :: I2 (kE c.reg q.1.2) q.1.1)⟩) (fun q=>c.reg.length-q.1.1) ⟨(0,fun _=>((0,false),(0,false))),by simp⟩ (zv [1,2,42,43] (by simp[tM,I2])) ?_
  rintro⟨⟨i,m2⟩,hi⟩
  simp only at hi
  simp only[iv,rI]
  by_cases hlt:i<c.reg.length
  ·have hw:IntKind.i64.wrap ((i:Int)+1)=((i+1:Nat):Int):=u7 (by omega) (by have:=hsm.1.1;omega)
   have hx0:c.reg[i]?=some c.reg[i]:=by simp[hlt]
   have hxm:=hsm.1.2 _ (List.mem_of_getElem? hx0)
   generalize c.reg[i]=x at *
   have c4:=re (G:=G) x.items (by omega)
   have c5:=rf (G:=G) x.dims (by omega)
   have hat:∀ h,(ek (fun k=>(2*N+4*k+12,2*N+4*k+14)) m2 i c.reg)[i]'h=(j0 x).map .im:=fun h=>by
    have:=yg (b:=fun k=>(2*N+4*k+12,2*N+4*k+14)) (m:=m2) hx0
    rw[List.getElem?_eq_getElem h] at this;exact Option.some.inj this
   simp only[j0,rI,List.map_cons,List.map_nil] at hat
   have hset:=fun g=>we (b:=fun k=>(2*N+4*k+12,2*N+4*k+14)) (m:=m2) hx0 g
   have hsuc:=fun g=>tL (m:=m2) hx0 g
   have hs:=za hlt (za hw hat)
   repeat' first|with_reducible refine zz ?_|simp -dsimp[hs]|refine CallE.embed_ex [] (c4) ?_ ?_ ?_ ?_ ?_ ?_;(focus simp[C4];done);(focus simp;done);(focus simp;done);(focus simp;done);(focus refine A3 ?_;simp[C4,B7];done);intro mmE hmmE;try simp -dsimp[s8,C4,hs]|refine CallE.embed_ex [] (c5) ?_ ?_ ?_ ?_ ?_ ?_;(focus simp[C4];done);(focus simp;done);(focus simp;done);(focus simp;done);(focus refine A3 ?_;simp[C4,B7];done);intro mmF hmmF;try simp -dsimp[s8,C4,hs]|refine I3 (id:=12) (nt:=69) [none,none,none,none,none,none,none,none,none,none,none,none,some [0],some [12],none,some [1],some [15],none] [0,1,2,3,4,5,7,8,9,10,12,13,15,16,6,11,14,17] 14 [([0,1,6,7,8,9,10,11,12,13],[0,1,2,3,4,5,16,17,18,42,43,44,56]),([0,1,10,11,12,13],[0,1,2,3,4,5,16,17,18,42,43,44,57,61]),([1,12,13],[0,1,2,3,4,5,16,17,18,42,43,44,57,62,64])] [0,1,2,3,4,5,16,17,18,42,43,44] mixed rfl (by kernel_rfl) (by kernel_rfl) (by kernel_rfl) ?_|with_reducible refine zE [0,1,2,3,4,5,16,17,18,42,43,44] ?_|refine m5 ?_ ?_<;>intro h<;>try simp only[l8] at h
   all_goals try clear hs
   refine At.round ⟨(i+1,fq m2 i (mmE,mmF)),by simp only;omega⟩ (by simp only;omega) (Weak.of_keep [1,2,42,43] ?_)
   rw[← hset (mmE,mmF),hsuc (mmE,mmF)]
   simp
   refine congrArg ((ek (fun k=>(2*N+4*k+12,2*N+4*k+14)) m2 i c.reg).set i) ?_
   simp only[List.cons.injEq,DC.vec.injEq,and_true,true_and]
   omega
  ·obtain rfl:i=c.reg.length:=by omega
   have hs:=hlt
   repeat' first|(with_reducible first|refine zz ?_|refine zr ?_|refine zE [0,1,2,3,4,5,16,17,18,42,43,44] ?_)|simp -dsimp[hs]|refine m5 ?_ ?_<;>intro h<;>try simp only[l8] at h
   all_goals try clear hs
   subst hQ
   refine⟨((mmA,mmB,mmD),m,m2),trivial,?_,?_⟩
   ·simp only[Bx,hN,DV.agg.injEq,List.cons.injEq,DC.vec.injEq,and_true,true_and,Nat.add_zero]
    rfl
   ·simp only[xB,Bx,hN,List.cons.injEq,DObj.row.injEq,DC.vec.injEq,and_true,true_and,Nat.add_zero]
    exact⟨rfl,rfl,rfl,rfl⟩
end Go.Proofs
namespace Go.Ab
open Go Go.Sort Go.Proofs
def Cu:DC→DC
 | .im (.raw r)=>.im (.raw r)
 | _=>.dead
theorem sZ {α:Type} {l:List α} {k:Nat} {x:α} (h:l[k]?=some x):l.set k x=l:=by
 apply List.ext_getElem?
 intro j
 by_cases e:k=j
 ·subst e
  rw[List.getElem?_set_self (List.getElem?_eq_some_iff.1 h).1,h]
 ·rw[List.getElem?_set_ne e]
structure IsElD (e:List DC) (vs:List Value):Prop where
 len:vs.length=e.length
 one:∀ v∈vs,v.oneCell'=true
 raw:∀ (j:Nat) (r v:Value),e[j]?=some (.im (.raw r))→vs[j]?=some v→v=r∧A9 r=true
theorem IsElD.rep {e:List DC} {vs:List Value} (h:IsElD e vs) (M:MS):RepV M (.agg (e.map Cu)) (.agg vs.toArray):=by
 refine .agg _ _ (by simp[h.len]) fun j c v h1 h2=>?_
 rw[List.getElem?_map,Option.map_eq_some_iff] at h1
 obtain⟨c0,h3,rfl⟩:=h1
 rw[List.getElem?_toArray] at h2
 have hv:=h.one v (List.mem_of_getElem? h2)
 unfold Cu
 split
 ·obtain⟨rfl,hp⟩:=h.raw j _ v h3 h2
  exact .im _ _ (.raw _ hp)
 ·exact .dead _ (oP hv)
theorem DCall.sortD {P:Program} {G:Es} {f g:FuncId} {T:Type} (enc:T→List DC) (k:Nat) (hk0:0<k) (henc:∀ x,(enc x).length=k) (cf:T→T→Int)
 (hO:SWO (fun x y:T=>decide (cf x y<0)))
 (hc:∀ x y,DCall P (fun _=>none) g [.agg ((enc x).map Cu),.agg ((enc y).map Cu)] [] (fun d o=>d=.one (.im (.raw (.int .i64 (cf x y))))∧o=[]))
 (hS:∀ (α:Type) [Inhabited α] (en:α→List Value) (_:∀ x,(en x).length=k) (_:∀ x,∀ v∈en x,v.oneCell'=true) (c:α→α→Int) (_:SWO (ltOf c)) (blk cap:Nat) (d:Array α) (w:World) (_:CmpLays P g #[] en k c blk 0 d.size w) (_:HoldsK en k w blk 0 d) (_:blk<w.heap.size) (_:d.size<4611686018427387904),
  Calls P f #[.slice (some ⟨blk,0,none⟩) d.size cap,.func (.func g) #[] #[]] w fun e w'=>e=.returned (.tuple #[])∧∃ d' n os,PermIn 0 d.size d d'∧SortedIn (ltOf c) 0 d.size d'∧w'=sortWorldK en k w blk 0 n d' os)
 (h0:∀ (a:Option Addr) (cap:Nat) (w:World),Calls P f #[.slice a 0 cap,.func (.func g) #[] #[]] w fun e w'=>e=.returned (.tuple #[])∧w'=w)
 (fc:DC) (hfc:∀ M v,RepC M fc v→v=.func (.func g) #[] #[])
 (l:List T) (o gn sz:Nat) (nl:Bool) (objs:List DObj) (ho1:objs[o]?=some (.vec sz (l.map enc) gn nl)) (hz:sz=k∨nl=true∧l=[]) (hl:l.length<1000000) :
 DCall P G f [.one (.vec o gn 0 l.length),.one fc] objs (fun d os=>d=.tup []∧∃ l':List T,l'.Perm l∧(l'.Pairwise fun a b=>¬ cf b a<0)∧os=objs.set o (.vec sz (l'.map enc) gn nl)):=by
 intro M vs hM ho hsz hr
 obtain⟨v,u,rfl⟩:∃ v u,vs=#[v,u]:=by
  obtain⟨vl⟩:=vs
  match vl,hsz with
  | [v,u],_=>exact⟨v,u,rfl⟩
 have hv:=hr 0 _ v rfl rfl
 have hu:=hr 1 _ u rfl rfl
 have hu:u=.func (.func g) #[] #[]:=by cases hu with|one _ _ hu=>exact hfc _ _ hu
 subst hu
 have h1:M.objs[o]?=some (.vec sz (l.map enc) gn nl):=by rw[ho];exact ho1
 have hO1:=hM.objs o _ h1
 cases hv with
 | one _ _ hv =>
 cases hv with
 | vec _ _ _ _ _ _ _ hv =>
 obtain⟨_,hv⟩:=hv _ _ _ _ h1
 obtain⟨hvt,hvf⟩:=hv rfl
 have hnil:∀ (a:Option Addr) (cap:Nat),l=[]→Calls P f #[.slice a 0 cap,.func (.func g) #[] #[]] M.w fun e w'=>∃ v d M',e=.returned v∧M'.w=w'∧RelM G M'∧RepV M' d v∧Ext objs.length M M'∧d=.tup []∧∃ l':List T,l'.Perm l∧(l'.Pairwise fun a b=>¬ cf b a<0)∧M'.objs=objs.set o (.vec sz (l'.map enc) gn nl):=fun a cap hle=>by
  refine(h0 a cap M.w).mono fun e w' ⟨he,hw⟩=>?_
  subst hw
  exact⟨_,.tup [],M,he,rfl,hM,.tup _ _ rfl (fun j d v h=>by simp at h),(Ext.refl M).weaken (by simp[ho]),rfl,l,List.Perm.refl _,by subst hle;exact List.Pairwise.nil,by rw[ho];exact(sZ ho1).symm⟩
 cases nl with
 | true =>
   obtain⟨_,e,hv⟩:=hvt rfl
   have e:l=[]:=List.eq_nil_of_length_eq_zero e
   have:=hnil none 0 e
   rw[hv];simpa using this
 | false =>
   obtain rfl:sz=k:=hz.resolve_right fun h=>Bool.noConfusion h.1
   obtain⟨x,cap,hv,hcap,hx,hb⟩:=hvf rfl
   by_cases e:l=[]
   ·have:=hnil (some ⟨M.β o,x,none⟩) cap e
    rw[hv];subst e;simpa using this
   have hlp:0<l.length:=List.length_pos_iff.2 e
   have hx0:x=0:=by rcases hx with hx|hx<;>omega
   subst hx0
   obtain⟨_,hO1⟩:=hO1
   obtain⟨_,c,Tt,hh,hcs,hes,hrep⟩:=hO1 rfl
   have hcl:l.length*sz≤c.size:=by simpa using hcs
   have hidx:∀ {i j:Nat},i<l.length→j<sz→i*sz+j<l.length*sz:=fun {i j} hi hj=>by
    have:=Nat.mul_le_mul_right sz (show i+1≤l.length from hi)
    rw[Nat.add_mul,Nat.one_mul] at this;omega
   let vls:Nat→List Value:=fun i=>(List.range sz).map fun j=>c[i*sz+j]!
   have hvl:∀ {i j:Nat},i<l.length→j<sz→(vls i)[j]?=c[i*sz+j]?:=fun {i j} hi hj=>by
    have hlt:=hidx hi hj
    simp only[vls,List.getElem?_map,List.getElem?_range hj,Option.map_some]
    rw[getElem!_pos c _ (by omega),Array.getElem?_eq_getElem (by omega)]
   have hcell:∀ {i j:Nat} (hi:i<l.length) (cc:DC) (v:Value),(enc l[i])[j]?=some cc→c[i*sz+j]?=some v→RepC M cc v:=fun {i j} hi cc v hcc hcv=>by
    exact hrep i (enc l[i]) j cc v (by simp[hi]) hcc hcv
   have hel:∀ {i:Nat} (hi:i<l.length),IsElD (enc l[i]) (vls i):=fun {i} hi=>by
    refine⟨by simp[vls,henc],fun v hv=>?_,fun j r v hr hv=>?_⟩
    ·obtain⟨j,hj⟩:=List.mem_iff_getElem?.1 hv
     have hjs:j<sz:=by have:=g9 hj;simpa[vls] using this
     rw[hvl hi hjs] at hj
     have hcc:(enc l[i])[j]?=some ((enc l[i])[j]'(by rw[henc];exact hjs)):=by simp[henc,hjs]
     exact kn (hcell hi _ _ hcc hj).isOne
    ·have hjs:j<sz:=by have:=g9 hv;simpa[vls] using this
     rw[hvl hi hjs] at hv
     cases hcell hi _ _ hr hv with
     | im _ _ hh=>cases hh with
       | raw _ hp=>exact⟨rfl,hp⟩
   let α:={ p:T×List Value // IsElD (enc p.1) p.2 }
   let el:(i:Nat)→i<l.length→α:=fun i hi=>⟨(l[i],vls i),hel hi⟩
   haveI:Inhabited α:=⟨el 0 hlp⟩
   let d:Array α:=Array.ofFn fun i:Fin l.length=>el i.1 i.2
   have hds:d.size=l.length:=by simp[d]
   have hdg:∀ {i:Nat} (hi:i<l.length),d[i]! = el i hi:=fun {i} hi=>by
    rw[getElem!_pos d i (by omega)];simp[d]
   let en:α→List Value:=fun x=>x.1.2
   have hen:∀ x:α,(en x).length=sz:=fun x=>by rw[x.2.len,henc]
   let cf':α→α→Int:=fun x y=>cf x.1.1 y.1.1
   have hO':SWO (ltOf cf'):=⟨fun x=>hO.irrefl x.1.1,fun x y z=>hO.trans x.1.1 y.1.1 z.1.1,fun x y z=>hO.ntrans x.1.1 y.1.1 z.1.1⟩
   have hlays:CmpLays P g #[] en sz cf' (M.β o) 0 d.size M.w:=fun m os dk hdk x y=>by
    have hcall:=DCall.lays (hc x.1.1 y.1.1) (vs:=#[.agg (en x).toArray,.agg (en y).toArray] ++ #[]) (by simp) (fun M j dd v h2 h3=>by
     match j with
     | 0=>simp at h2 h3;subst h2;subst h3;exact x.2.rep M
     | 1=>simp at h2 h3;subst h2;subst h3;exact y.2.rep M
     | j+2=>simp at h2) (sortWorldK en sz M.w (M.β o) 0 m dk os)
    exact hcall
   have hlt:M.β o<M.w.heap.size:=hM.lt o _ h1 rfl
   have hdm:∀ {t:Nat},t<l.length*sz→t / sz<l.length:=fun {t} ht=>Nat.div_lt_of_lt_mul (by rw[Nat.mul_comm];exact ht)
   have hflat:∀ (dd:Array α) (t:Nat),t<dd.size*sz→(flatK en sz dd)[t]! = (en dd[t / sz]!)[t % sz]!:=fun dd t h=>get_flatK en sz dd t h
   have hH:HoldsK en sz M.w (M.β o) 0 d:=fun t ht=>by
    have ht:t<d.size*sz:=by simpa using ht
    rw[hflat d t ht]
    rw[hds] at ht
    have hq:=hdm ht
    have hm:t % sz<sz:=Nat.mod_lt _ hk0
    have htt:t / sz*sz+t % sz=t:=by rw[Nat.mul_comm];exact Nat.div_add_mod t sz
    have hg:=hvl hq hm
    rw[htt] at hg
    have hct:c[t]?=some c[t]:=by simp
    refine⟨?_,?_⟩
    ·simp only[World.cell?,hh]
     rw[hdg hq]
     show c[0+t]?=some ((vls (t / sz))[t % sz]!)
     rw[Nat.zero_add,hct]
     rw[hct] at hg
     rw[List.getElem!_eq_getElem?_getD,hg];rfl
    ·simp[World.frozen?,hh]
   rw[hv]
   have hcall:=hS α en hen (fun x=>x.2.one) cf' hO' (M.β o) cap d M.w hlays hH hlt (by omega)
   rw[hds] at hcall
   refine hcall.mono fun e' w' ⟨he,d',n,os,hperm,hsort,hw⟩=>?_
   obtain⟨hps,_,hpp⟩:=hperm
   rw[hds] at hps
   have hpp:d'.toList.Perm d.toList:=by
    rw[show d'.extract 0 l.length=d' by rw[← hps];exact Array.extract_size,show d.extract 0 l.length=d by rw[← hds];exact Array.extract_size] at hpp
    exact hpp
   let l':List T:=d'.toList.map (·.1.1)
   have hl'l:l'.length=l.length:=by simp[l',hps]
   have hdl:d.toList.map (·.1.1)=l:=by
    refine List.ext_getElem (by simp[hds]) fun i h2 h3=>?_
    simp[d,el]
   have hperm':l'.Perm l:=by
    have:=hpp.map (fun x:α=>x.1.1)
    rw[hdl] at this
    exact this
   have hd'g:∀ {i:Nat} (hi:i<l.length),d'[i]! = d'[i]'(by omega):=fun {i} hi=>getElem!_pos d' i (by omega)
   have hpair:l'.Pairwise fun a b=>¬ cf b a<0:=by
    rw[List.pairwise_iff_getElem]
    intro i j hi hj hij
    have:=hsort i j (Nat.zero_le _) hij (by omega)
    rw[hd'g (by omega),hd'g (by omega)] at this
    simp only[ltOf,decide_eq_false_iff_not] at this
    simpa[l'] using this
   have hgood:∀ x∈d'.toList,∀ (j:Nat) (cc:DC) (v:Value),(enc x.1.1)[j]?=some cc→x.1.2[j]?=some v→RepC M cc v:=fun x hx j cc v h2 h3=>by
    have hx:=hpp.subset hx
    obtain⟨i,hi⟩:=List.mem_iff_getElem?.1 hx
    have hil:i<l.length:=by have:=g9 hi;simpa[hds] using this
    have:x=el i hil:=by
     have:=(List.getElem?_eq_some_iff.1 hi).2
     rw[← this];simp[d]
    subst this
    have hjs:j<sz:=by have:=g9 h2;rwa [henc] at this
    exact hcell hil cc v h2 (by rw[← hvl hil hjs];exact h3)
   have hmod:M.w.heap.modify (M.β o) (onCells (putCells id 0 (flatK en sz d')))=M.w.heap.setIfInBounds (M.β o) (.cells (putCells id 0 (flatK en sz d') c) Tt (0,0)):=by
    apply Array.ext_getElem?
    intro q
    simp only[Array.getElem?_modify,Array.getElem?_setIfInBounds]
    by_cases hq:M.β o=q
    ·subst hq;rw[if_pos rfl,if_pos rfl,if_pos hlt,hh];rfl
    ·simp[hq]
   have ha:(DObj.vec sz (l.map enc) gn false).alike (.vec sz (l'.map enc) gn false):=⟨rfl,.inl ⟨rfl,rfl⟩⟩
   have hs:K6 (.cells (putCells id 0 (flatK en sz d') c) Tt (0,0))=K6 (.cells c Tt (0,0)):=by simp[K6,putCells]
   have hE:=Ext.turn (d':=.vec sz (l'.map enc) gn false) h1 rfl ha hh hs
   have hput:∀ {i j:Nat} (hi:i<l.length) (_:j<sz),(putCells id 0 (flatK en sz d') c)[i*sz+j]?=some ((en d'[i]!)[j]!):=fun {i j} hi hj=>by
    have hlt2:=hidx hi hj
    have hdv:(i*sz+j) / sz=i:=by
     rw[Nat.mul_comm,Nat.mul_add_div hk0,Nat.div_eq_of_lt hj,Nat.add_zero]
    have hmd:(i*sz+j) % sz=j:=by rw[Nat.mul_comm,Nat.mul_add_mod,Nat.mod_eq_of_lt hj]
    simp only[putCells,Array.getElem?_mapIdx,Array.getElem?_eq_getElem (show i*sz+j<c.size by omega),Option.map_some]
    rw[if_pos ⟨Nat.zero_le _,by simp[hps];omega⟩,Nat.sub_zero,hflat d' _ (by rw[hps];omega),hdv,hmd];rfl
   have hR:=RelM.turn (d':=.vec sz (l'.map enc) gn false) hM h1 rfl ha hh hs (by
    refine⟨fun h=>Bool.noConfusion h,fun _=>⟨hk0,putCells id 0 (flatK en sz d') c,Tt,by simp[MS.turn,Array.getElem?_setIfInBounds_self_of_lt hlt],by simpa[hl'l,putCells] using hcl,fun i x hx=>?_,fun i x j dd v hx hj hv=>?_⟩⟩
    ·simp only[List.getElem?_map] at hx
     obtain⟨y,_,rfl⟩:=Option.map_eq_some_iff.1 hx
     simp[henc]
    ·simp only[List.getElem?_map] at hx
     obtain⟨y,hy,rfl⟩:=Option.map_eq_some_iff.1 hx
     have hil:i<l.length:=by have:=g9 hy;omega
     have hcc:=hj
     have hjs:j<sz:=by have:=g9 hcc;rwa [henc] at this
     rw[hput hil hjs,hd'g hil] at hv
     have hmem:d'[i]'(by omega)∈d'.toList:=by simp
     have hye:y=(d'[i]'(by omega)).1.1:=by
      have:=(List.getElem?_eq_some_iff.1 hy).2
      rw[← this];simp[l']
     subst hye
     cases hv
     refine(hgood _ hmem j _ _ hcc ?_).ext hE
     have hlen:j<(en (d'[i]'(by omega))).length:=by rw[hen];exact hjs
     show (en (d'[i]'(by omega)))[j]?=_
     rw[List.getElem!_eq_getElem?_getD,List.getElem?_eq_getElem hlen];rfl)
   have hg:=RelM.grown (w':=w') (os:=os) hR (by rw[hw];simp only[sortWorldK,putRowK,grow,putRow,mapBlock,Sort.ahead,MS.turn];rw[hmod]) (by rw[hw];exact⟨rfl,rfl,rfl,Nat.le_add_right _ _⟩)
   refine⟨_,.tup [],_,he,?_,hg.1,.tup _ _ rfl (fun j d v h=>by simp at h),?_,rfl,l',hperm',hpair,?_⟩
   ·rfl
   ·have hl1:M.objs.length=objs.length:=by rw[ho]
    have h2:=hg.2
    rw[show (M.turn o (.cells (putCells id 0 (flatK en sz d') c) Tt (0,0)) (.vec sz (l'.map enc) gn false)).objs.length=objs.length by simp[MS.turn,ho]] at h2
    rw[hl1] at hE
    exact hE.trans h2
   ·simp[MS.turn,ho]
end Go.Ab
