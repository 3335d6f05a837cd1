/- Part 13 of the proofs. -/
import Derived.Test.YtpcoahkgkgmmlaaGreatDoorS08
import Derived.Test.YtpcoahkgkgmmlaaGreatDoorS09
import Derived.Test.YtpcoahkgkgmmlaaGreatDoorS12
set_option linter.all false
set_option linter.deprecated false
set_option maxHeartbeats 100000000
namespace Go.Ab
open Go
structure Dim where
 nominal:Int
 lower:Int
 upper:Int
 deriving DecidableEq
structure Itm where
 drawing:Int
 count:Int
 deriving DecidableEq
structure Issue where
 drawing:Int
 letter:Int
 kind:Int
 items:List Itm
 dims:List Dim
 deriving DecidableEq
def rI (n:Int):IC:=.raw (.int .i64 n)
def rB (b:Bool):IC:=.raw (.bool b)
def l6 (d:Dim):List IC:=[rI d.nominal,rI d.lower,rI d.upper]
def l7 (x:Itm):List IC:=[rI x.drawing,rI x.count]
def j0 (x:Issue):List IC:=[rI x.drawing,rI x.letter,.raw (.int .u8 x.kind),.sl (x.items.map l7),.sl (x.dims.map l6)]
def encI (n:Int):List IC:=[rI n]
def iv (n:Int):DV:=.one (.im (.raw (.int .i64 n)))
def bv (b:Bool):DV:=.one (.im (.raw (.bool b)))
def H0 (l:List Int):DV:=.one (.im (.sl (l.map encI)))
def C8 (l:List Issue):DV:=.agg [.im (.sl (l.map j0))]
attribute [simp] iv bv H0 C8 rI rB l6 l7 j0 encI
attribute [simp] nC gq jB ak jx gt jz gu ny nA jA eR mO G1 ga gS
attribute [simp] mL H5 aj gx m4 X2 n8 DS.put C0 F2 gR ul AX nv pj kL kK qY bU nz eZ bX qv DV.cells ej G0 zcells am L7 aA dc Q5 DS.keep xz A9 L2 nw L6 cJ aK fzVL U3
theorem S9 {p:Prop} {Q:Exit→DS→Prop} {e:Exit} {t:Tok Q} {S:DS} (h:p→At Q e t S):p→At Q e t S:=h
theorem uj (objs:List DObj) (l:List (List IC)):cZ objs (.im (.sl l))=some (o7 l):=rfl
theorem qV (objs:List DObj) (o g off len:Nat):cZ objs (.vec o g off len)=match objs[o]? with
 | some (.vec _ es g' _)=>if g=g'∧off+len≤es.length then some ((es.drop off).take len) else none
 | _=>none:=by unfold cZ;rfl
attribute [simp] uj qV
attribute [simp] ImV.one
theorem zm (l:List DC):ImV (.agg l)↔∀ d∈l,∃ c,d=.im c:=⟨fun h=>by cases h;assumption,.agg l⟩
theorem zj (l:List DV):ImV (.tup l)↔∀ d∈l,ImV d:=⟨fun h=>by cases h;assumption,.tup l⟩
attribute [simp] zm zj
attribute [simp] yF yD cQ j6 B1 tA yW O0 Op.operands Call.operands
attribute [simp] jE wZ eS BC pick R1 cj iB gk W3
attribute [simp] yi O8 p6 wr tE AG jr fT DS.drop L1 lE
theorem Di (a b:Int):(a==b)=decide (a=b):=by by_cases h:a=b<;>simp[h]
theorem Dh (a b:Int):(a != b)=!decide (a=b):=by by_cases h:a=b<;>simp[h]
attribute [simp] Di Dh
theorem AL {n o off:Nat} {objs:List DObj} (h:o<n):fz n objs (.ptr o off)=.ptr o off:=by simp[fz,DC.lt,h]
theorem AO {n o g i off:Nat} {objs:List DObj} (h:o<n):fz n objs (.ept o g i off)=.ept o g i off:=by simp[fz,DC.lt,h]
theorem AK {n o g off len:Nat} {objs:List DObj} (h:o<n):fz n objs (.vec o g off len)=.vec o g off len:=by simp[fz,DC.lt,h]
theorem wj (x:List IC) (l:List (List IC)):o7 (x :: l)=x.map .im :: o7 l:=rfl
theorem oV (l:List (List IC)) (n:Nat):(∀ e∈o7 l,e.length=n)↔∀ e∈l,e.length=n:=by
 constructor
 ·intro h e he
  have:=h (e.map .im) (by simp only[o7,List.mem_map];exact⟨e,he,rfl⟩)
  simpa using this
 ·exact fun h=>U1 h
attribute [simp] oV
theorem vg {α:Type} (f:α→List IC) (l:List α):(o7 (l.map f)).take l.length=o7 (l.map f):=List.take_of_length_le (by simp[p6])
attribute [simp] AL AO AK wj vg
def vK:Option IC→DC
 | some c=>.im c
 | none=>.dead
theorem yo {n o g off len:Nat} {objs:List DObj} (h:n≤o):fz n objs (.vec o g off len)=vK (frz 20 n objs (.vec o g off len)):=by
 have h1:DC.lt n (.vec o g off len)=false:=by simp[DC.lt];omega
 simp only[fz,h1]
 cases frz 20 n objs (.vec o g off len)<;>rfl
theorem yp {n o off:Nat} {objs:List DObj} (h:n≤o):fz n objs (.ptr o off)=vK (frz 20 n objs (.ptr o off)):=by
 have h1:DC.lt n (.ptr o off)=false:=by simp[DC.lt];omega
 simp only[fz,h1]
 cases frz 20 n objs (.ptr o off)<;>rfl
theorem AP (k n:Nat) (objs:List DObj) (c:IC):frz (k+1) n objs (.im c)=some c:=rfl
theorem yt (k n o g off len:Nat) (objs:List DObj):frz (k+1) n objs (.vec o g off len)=if n≤o then match objs[o]? with
 | some (.vec _ es g' _)=>if g=g'∧off+len≤es.length then (G2 (G2 (frz k n objs)) ((es.drop off).take len)).map .sl else none
 | _=>none
 else none:=rfl
theorem yu (k n o off:Nat) (objs:List DObj):frz (k+1) n objs (.ptr o off)=if n≤o then match objs[o]? with
 | some (.row c)=>if off≤c.length then (G2 (frz k n objs) (c.drop off)).map .ip else none
 | _=>none
 else none:=rfl
theorem Cj {n:Nat} {f:Fn} {caps:List DC} {objs:List DObj}:fz n objs (.fn f caps)=if DC.ltL n caps=true then .fn f caps else vK (frz 20 n objs (.fn f caps)):=by
 have h1:DC.lt n (.fn f caps)=DC.ltL n caps:=rfl
 simp only[fz,h1]
 split
 ·rfl
 ·cases frz 20 n objs (.fn f caps)<;>rfl
theorem AQ (k n:Nat) (objs:List DObj) (f:Fn) (caps:List DC):frz (k+1) n objs (.fn f caps)=(G2 (frz k n objs) caps).map (.fn f):=rfl
theorem AM {n o:Nat} {objs:List DObj} (h:o<n):fz n objs (.map o)=.map o:=by simp[fz,DC.lt,h]
theorem yq {n o:Nat} {objs:List DObj} (h:n≤o):fz n objs (.map o)=vK (frz 20 n objs (.map o)):=by
 have h1:DC.lt n (.map o)=false:=by simp[DC.lt];omega
 simp only[fz,h1]
 cases frz 20 n objs (.map o)<;>rfl
theorem yv (k n o:Nat) (objs:List DObj):frz (k+1) n objs (.map o)=if n≤o then match objs[o]? with
 | some (.map ks es)=>(G2 (fun x=>(G2 (frz k n objs) x.2).map fun l=>(x.1,l)) es).map (.mp (L3 ks))
 | _=>none
 else none:=rfl
theorem AJ {n o:Nat} {objs:List DObj} (h:o<n):fz n objs (.yld o)=.yld o:=by simp[fz,DC.lt,h]
theorem AN {n o:Nat} {objs:List DObj} (h:o<n):fz n objs (.itr o)=.itr o:=by simp[fz,DC.lt,h]
attribute [simp] Cj AQ AM yq yv AJ AN DC.ltL DC.lt
attribute [simp] vK yo yp AP yt yu G2
theorem l8:(∀ (p:Prop) [Decidable p],decide p=true↔p)∧(∀ (p:Prop) [Decidable p],decide p=false↔¬p)∧(∀ a b:Bool,(a&&b)=true↔a=true∧b=true)∧(∀ a b:Bool,(a&&b)=false↔a=false∨b=false)∧(∀ a b:Bool,(a||b)=true↔a=true∨b=true)∧(∀ a b:Bool,(a||b)=false↔a=false∧b=false)∧(∀ a:Bool,(!a)=true↔a=false)∧(∀ a:Bool,(!a)=false↔a=true)∧(∀ (α:Type) [BEq α] [LawfulBEq α] (a b:α),(a==b)=true↔a=b)∧(∀ (α:Type) [BEq α] [LawfulBEq α] (a b:α),(a==b)=false↔a≠b)∧(false=true↔False)∧(true=false↔False):=
 ⟨fun _=>decide_eq_true_iff,fun _=>decide_eq_false_iff_not,fun _ _=>Bool.and_eq_true_iff,fun a b=>by cases a<;>cases b<;>decide,fun a b=>by cases a<;>cases b<;>decide,fun a b=>by cases a<;>cases b<;>decide,fun a=>by cases a<;>decide,fun a=>by cases a<;>decide,fun _ _ _ _ _=>beq_iff_eq,fun _ _ _ _ _=>beq_eq_false_iff_ne,by decide,by decide⟩
abbrev tv:=@At.seq
abbrev DP:=@At.then_ret
abbrev BM:=@At.then_exit
abbrev Bo:=@At.block_end
abbrev DO:=@At.block_ret
abbrev BL:=@At.block_exit
abbrev Er:=@At.scope_ret
abbrev tu:=@xx
abbrev xR:=@pM
abbrev Ep:=@pJ
abbrev zF:=@sG
abbrev Eo:=@pL
abbrev BK:=@sH
abbrev Dx:=@xy
abbrev za:=@And.intro
class Zs (A:Prop) (B:outParam Prop):Prop where
 go:B→A
theorem zz {A B:Prop} [h:Zs A B] (b:B):A:=h.go b
section
variable {P:Program} {G:Es} {n:Cx} {S:DS} {Q:Exit→DS→Prop}
instance {y:Code}:Zs (At (U3 (fun S'=>DT P G n y S' Q) Q) .normal ⟨⟩ S) (DT P G n y S Q):=⟨At.seq⟩
instance {next:DS→Prop}:Zs (At (U3 next Q) .ret ⟨⟩ S) (At Q .ret ⟨⟩ S):=⟨At.then_ret⟩
instance {next:DS→Prop} {id:Nat}:Zs (At (U3 next Q) (.exit id) ⟨⟩ S) (At Q (.exit id) ⟨⟩ S):=⟨At.then_exit⟩
instance {id:Nat}:Zs (At (T3 id Q) .normal ⟨⟩ S) (At Q .normal ⟨⟩ S):=⟨At.block_end⟩
instance {id:Nat}:Zs (At (T3 id Q) .ret ⟨⟩ S) (At Q .ret ⟨⟩ S):=⟨At.block_ret⟩
instance {id:Nat}:Zs (At (T3 id Q) (.exit id) ⟨⟩ S) (At Q .normal ⟨⟩ S):=⟨At.block_exit⟩
instance :Zs (At (cM Q) .normal ⟨⟩ S) (At Q .normal ⟨⟩ S):=⟨At.scope_end⟩
instance :Zs (At (cM Q) .ret ⟨⟩ S) (At Q .ret ⟨⟩ S):=⟨At.scope_ret⟩
instance {id:Nat}:Zs (At (cM Q) (.exit id) ⟨⟩ S) (At Q (.exit id) ⟨⟩ S):=⟨At.scope_exit⟩
instance {x y:Code}:Zs (DT P G n (.seq x y) S Q) (DT P G n x S (U3 (fun S'=>DT P G n y S' Q) Q)):=⟨xx⟩
instance {id:Nat} {c:Code}:Zs (DT P G n (.block id c) S Q) (DT P G n c S (T3 id Q)):=⟨pM⟩
instance {c:Code}:Zs (DT P G n (.scope c) S Q) (DT P G n c S (cM Q)):=⟨pJ⟩
instance :Zs (DT P G n .skip S Q) (At Q .normal ⟨⟩ S):=⟨sG⟩
instance {l:Nat}:Zs (DT P G n (.label l) S Q) (At Q .normal ⟨⟩ S):=⟨pL⟩
instance {id:Nat}:Zs (DT P G n (.exit id) S Q) (At Q (.exit id) ⟨⟩ S):=⟨sH⟩
instance :Zs (DT P G n .ret S Q) (At Q .ret ⟨⟩ S):=⟨xy⟩
theorem zx {rs:List ResultVar} {K:DV→List DObj→Prop} {ds:List DV} (hq:K (L6 ds) S.objs) (h:L2 P S rs=some ds:=by simp -dsimp;exact rfl):At (zV P rs K) .ret ⟨⟩ S:=At.fn_ret h hq
theorem zy {rs:List ResultVar} {K:DV→List DObj→Prop} {ds:List DV} (hq:K (L6 ds) S.objs) (h:L2 P S rs=some ds:=by simp -dsimp;exact rfl):At (zV P rs K) .normal ⟨⟩ S:=At.fn_end h hq
theorem zr {rs:List ResultVar} {K:DV→List DObj→Prop} {ds:List DV} (hq:K (L6 ds) S.objs) (h:L2 P S rs=some ds:=by simp -dsimp[hs];exact rfl):At (zV P rs K) .ret ⟨⟩ S:=At.fn_ret h hq
theorem ze {rs:List ResultVar} {K:DV→List DObj→Prop} {ds:List DV} (hq:K (L6 ds) S.objs) (h:L2 P S rs=some ds:=by simp -dsimp[hs];exact rfl):At (zV P rs K) .normal ⟨⟩ S:=At.fn_end h hq
theorem m5 {c:Operand} {x y:Code} {b:Bool} (ht:b=true→DT P G n x S Q) (hf:b=false→DT P G n y S Q) (hc:m4 G S c=some (.one (.im (.raw (.bool b)))):=by exact rfl):DT P G n (.cond c x y) S Q:=O3 hc ht hf
theorem zM {l:List Oper} (id nt nq:Nat) (ks:List Nat)
 (h:yW P G (l.map (·.dst)) (l.take nq) S (fun S'=>mL P G (l.map (·.dst)) (l.drop nq) S' (fun S''=>At Q .normal ⟨⟩ (S''.keep ks)) ⟨⟩) ⟨⟩) (hm:P.follows .mixedOrders=true:=by exact mixed) (hnt:S.nt=nt:=by rfl) (hB:fE nt nq l=true:=by kernel_rfl):DT P G n (.region id l.toArray true) S Q:=lj nq ks hm hnt hB h
end
abbrev zP (P:Program) (G:Es) (f:FuncId) (av:List DV) (r:DV):Prop:=∀ objs:List DObj,DCall P G f av objs (fun d o=>d=r∧o=objs)
theorem zf {P:Program} {G:Es} {f:FuncId} {fn:Func} {c:Code} {nt:Nat} {args:List DV} {d0:DV} {rs:List ResultVar} (hf:P.funcs[f]?=some fn) (hnt:fn.ntmps=nt) (h:DT P G ⟨([]:List DObj).length,none⟩ c ⟨nt,cJ args 0,[]⟩ (zV P rs (fun d o=>aK 0 o d=d0))) (hb:fn.body=some c:=by exact rfl) (hargs:args.length≤nt:=by simp) (hrs:fn.results.toList=rs:=by exact rfl) (ha:∀ d∈args,ImV d:=by simp) (hd:ImV d0:=by simp):zP P G f args d0:=fun objs=>DCall.frame (l5 hf hb hnt hargs hrs h) ha hd objs
abbrev zp:=@CallE.pure
abbrev zt:=@CallE.thaw
abbrev zh:=@CallE.here
abbrev zq:=@az
abbrev zE:=@C7
theorem zw {G:Es} {n:Cx} {S S':DS} (ks:List Nat) (m:Nat) (h:(S.keep ks).drop m=S':=by simp) (hm:m≤S.objs.length:=by simp) (hn:n.n≤m:=by simp):Weak G n S S':=Weak.of_drop ks m hm hn h
theorem zv {G:Es} {n:Cx} {S S':DS} (ks:List Nat) (h:S.keep ks=S':=by simp):Weak G n S S':=Weak.of_keep ks h
theorem zn {G:Es} {n:Cx} {S:DS} {Q:Exit→DS→Prop} {ι:Type} {I:ι→DS} {m:ι→Nat} {i:ι} (j:ι) (h2:Weak G n S (I j)) (h1:m j<m i:=by first|omega|(simp only;omega)|(simp;omega)):At (U3 (fun S'=>xe G n I m i S') Q) .normal ⟨⟩ S:=At.round j h1 h2
end Go.Ab
namespace Go.Proofs
open Go Go.Ab Tryz
attribute [local simp] F0 setLp
theorem u7 {n:Int} (h1:-9223372036854775808≤n) (h2:n≤9223372036854775807):IntKind.i64.wrap n=n:=IntWalk.i64_in n ⟨h1,h2⟩
theorem zk (k:Nat) (h:k<4611686018427387904:=by omega):IntKind.i64.wrap ((k:Int)+1)=((k+1:Nat):Int):=u7 (by omega) (by omega)
variable {G:Es}
theorem bj (n lo hi:Int) (objs:List DObj):DCall prog G 148 [iv n,iv lo,iv hi] objs (fun d objs'=>d=bv (decide (lo≤n)&&decide (n≤hi))∧objs'=objs):=by
 refine DCall.frame ?_ (by simp) (by simp) objs
 refine l5 func148 rfl ntmps148 (by simp) rfl ?_
 simp only[iv]
 have hs:=trivial
 repeat' first|(with_reducible first|refine zz ?_|refine zr ?_|refine zE [0,1,2,6] ?_)|simp -dsimp[hs]|with_reducible refine o4 ?_ ?_<;>intro h<;>have h0:=h<;>(try simp only[l8] at h)<;>have h2:=h<;>(try simp at h2)<;>replace hs:=za h0 (za h (za h2 hs))
 all_goals simp[bv, *]
def idx (l:List Int) (x:Int):Int:=match l.idxOf? x with|some i=>i|none=>-1
theorem sm {l:List Int} {x:Int} {k:Nat} (h:l[k]?=some x) (hno:∀ j,j<k→l[j]?≠some x):idx l x=k:=by
 have:l.idxOf? x=some k:=by
  rw[List.idxOf?,List.findIdx?_eq_some_iff_getElem]
  obtain⟨hlt,he⟩:=List.getElem?_eq_some_iff.1 h
  refine⟨hlt,by simp[he],fun j hj=>?_⟩
  have:=hno j hj
  rw[List.getElem?_eq_getElem (by omega)] at this
  simpa using this
 simp[idx,this]
theorem wm {l:List Int} {x:Int} (hno:∀ j,j<l.length→l[j]?≠some x):idx l x=-1:=by
 have:l.idxOf? x=none:=by
  rw[List.idxOf?,List.findIdx?_eq_none_iff]
  intro y hy
  obtain⟨j,hj⟩:=List.mem_iff_getElem?.1 hy
  have hlt:=g9 hj
  have:=hno j hlt
  rw[hj] at this
  simpa using this
 simp[idx,this]
theorem bV (l:List Int) (x:Int) (hl:l.length<1000000) (objs:List DObj):DCall prog G 52 [H0 l,iv x] objs (fun d objs'=>d=iv (idx l x)∧objs'=objs):=by
 refine DCall.frame ?_ (by simp) (by simp) objs
 refine l5 func52 rfl ntmps52 (by simp) rfl ?_
 simp only[H0,iv]
 have hs:=trivial
 repeat' first|(with_reducible first|refine zz ?_|refine zE [0,1,4,5,9,17] ?_)|simp -dsimp[hs]
 refine j7 (ι:={ k:Nat // k≤l.length∧∀ j,j<k→l[j]?≠some x }) (fun k=>⟨19,[(0,H0 l),(1,iv x),(4,iv 0),(5,iv (k.1:Int))],[]⟩) (fun k=>l.length-k.1) ⟨0,by simp,by simp⟩ (zv [0,1,4,5] (by simp[H0,iv])) ?_
 rintro⟨k,hk,hno⟩
 simp only[H0,iv]
 by_cases hlt:k<l.length
 ·have hx:l[k]?=some l[k]:=by simp[hlt]
  have hw:=zk k
  have hs:=za hx hw
  repeat' first|(with_reducible first|refine zz ?_|refine zr ?_ (by simp -dsimp[encI,rI,hs];exact rfl)|refine zE [0,1,4,5,9,17] ?_)|simp -dsimp[encI,rI,hs]|refine m5 ?_ ?_<;>intro h<;>try simp only[l8] at h
  all_goals try clear hs
  all_goals try omega
  ·exact(sm (by rw[hx];simp[*]) hno).symm
  ·refine⟨⟨k+1,by omega,fun j hj=>?_⟩,?_,Weak.of_keep [0,1,4,5] (by simp[H0,iv])⟩
   ·by_cases e:j=k
    ·subst e;simp[hx, *]
    ·exact hno j (by omega)
   ·simp;omega
 ·have hs:=trivial
  repeat' first|(with_reducible first|refine zz ?_|refine zr ?_|refine zE [0,1,4,5,9,17] ?_)|simp -dsimp[hs]|refine m5 ?_ ?_<;>intro h<;>try simp only[l8] at h
  all_goals try omega
  exact(wm fun j hj=>hno j (by omega)).symm
end Go.Proofs
namespace Go.Proofs
open Go Go.Ab Tryz
attribute [local simp] F0 setLp
variable {G:Es}
theorem mixed:prog.follows .mixedOrders=true:=by kernel_rfl
def E4 (x:Issue):DV:=.agg ((j0 x).map .im)
attribute [simp] E4
theorem ya (l:List Itm):∀ e∈l.map l7,e.length=2:=by simp[l7]
theorem AD (l:List Dim):∀ e∈l.map l6,e.length=3:=by simp[l6]
theorem cC (x:Issue) (hi:x.items.length≤16) (hd:x.dims.length≤8) (objs:List DObj):DCall prog G 109 [E4 x] objs (fun d objs'=>d=E4 x∧objs'=objs):=by
 refine DCall.frame ?_ (by simp) (by simp) objs
 refine l5 func109 rfl ntmps109 (by simp) rfl ?_
 try simp only[E4]
 have h1:=ya x.items
 have h2:=AD x.dims
 have hs:=trivial
 repeat' first|(with_reducible first|refine zz ?_|refine And.intro (by omega) ?_|refine zr ?_ (by simp -dsimp[j0,rI,hs];exact rfl))|simp -dsimp[j0,rI,hs]|refine zM 1 14 9 [0,1,2] ?_|with_reducible refine zE [0,1,2] ?_
end Go.Proofs
namespace Go.Proofs
open Go Go.Ab Tryz
attribute [local simp] F0 setLp
variable {G:Es}
theorem ni (x:Issue):E4 x=.agg [.im (rI x.drawing),.im (rI x.letter),.im (.raw (.int .u8 x.kind)),.im (.sl (x.items.map l7)),.im (.sl (x.dims.map l6))]:=rfl
def dl (l:List Issue):Prop:=l.length≤80∧∀ x∈l,x.items.length≤16∧x.dims.length≤8
theorem zY (l:List Issue) (hl:dl l) (objs:List DObj):DCall prog G 54 [C8 l] objs (fun d objs'=>d=C8 l∧objs'=objs):=by
 refine DCall.frame ?_ (by simp) (by simp) objs
 refine l5 func54 rfl ntmps54 (by simp) rfl ?_
 obtain⟨hl1,hl2⟩:=hl
 simp only[C8]
 have hs:=trivial
 repeat' first|(with_reducible first|refine zz ?_|refine zE [0,1,2,3,4,9] ?_)|simp -dsimp[hs]
 all_goals try clear hs
 refine j7 (ι:={ p:Nat×Nat×Nat×Bool // p.1≤l.length∧(p.2.2.1=5∨p.2.2.2=true) }) (fun p=>⟨24,[(1,.one (.ptr 0 0)),(2,.one (.ptr 2 0)),(3,.one (.ptr 4 0)),(4,iv (p.1.1:Int))],[.row [.im (.sl (l.map j0))],.vec 0 [] 0 true,.row [.vec 1 0 0 0],.vec p.1.2.2.1 (o7 ((l.take p.1.1).map j0)) p.1.2.1 p.1.2.2.2,.row [.vec 3 p.1.2.1 0 p.1.1]]⟩) (fun p=>l.length-p.1.1) ⟨(0,0,0,true),by simp⟩ (zv [1,2,3,4] (by simp[iv])) ?_
 rintro⟨⟨k,g,sz,nl⟩,hk,hz⟩
 simp only at hk hz
 simp only[iv]
 have htk:(o7 ((l.map j0).take k)).take k=o7 ((l.map j0).take k):=List.take_of_length_le (by simp[p6];omega)
 by_cases hlt:k<l.length
 ·have hx:l[k]?=some l[k]:=by simp[hlt]
  have hw:=zk k
  have hc:=fun objs=>cC (G:=G) l[k] (hl2 _ (by simp)).1 (hl2 _ (by simp)).2 objs
  have hmin:min k l.length=k:=Nat.min_eq_left (by omega)
  simp only[ni] at hc
  have hs:=za hx (za hw (za hz hmin))
  repeat' first|(with_reducible first|refine zz ?_|refine And.intro (by omega) ?_|refine zr ?_ (by simp -dsimp[j0,rI,hs];exact rfl))|simp -dsimp[j0,rI,hs]|refine az hc ?_|refine zM 5 24 9 [0,1,2,3,4,9] ?_|with_reducible refine zE [0,1,2,3,4,9] ?_|refine m5 ?_ ?_<;>intro h<;>try simp only[l8] at h
  all_goals try clear hs
  all_goals try omega
  refine At.round ⟨(k+1,g+1,5,false),by simp;omega⟩ (by simp;omega) (Weak.of_drop [1,2,3,4] 5 (by simp) (by simp) ?_)
  have hs:(l.map j0).take (k+1)=(l.map j0).take k++[j0 l[k]]:=by
   rw[List.take_succ];simp[hx]
  simp[hs,htk,O8,j0,rI]
 ·have hkl:k=l.length:=by omega
  subst hkl
  have hall:(l.map j0).take l.length=l.map j0:=List.take_of_length_le (by simp)
  rw[hall] at htk
  have hs:=za hall htk
  repeat' first|(with_reducible first|refine zz ?_|refine zr ?_|refine zE [0,1,2,3,4,9] ?_)|simp -dsimp[hs]|refine m5 ?_ ?_<;>intro h<;>try simp only[l8] at h
  all_goals try clear hs
end Go.Proofs
namespace Go.Proofs
open Go Go.Ab Tryz
attribute [local simp] F0 setLp
variable {G:Es}
instance (l:List Issue):Decidable (dl l):=inferInstanceAs (Decidable (_∧_))
theorem yn (l:List Issue) (objs:List DObj):DCall prog G 59 [C8 l] objs (fun d objs'=>d=bv (!decide (dl l))∧objs'=objs):=by
 refine DCall.frame ?_ (by simp) (by simp) objs
 refine l5 func59 rfl ntmps59 (by simp) rfl ?_
 simp only[C8,bv]
 have hs:=trivial
 repeat' first|(with_reducible first|refine zz ?_|refine zr ?_|refine zE [0,1,2,3,7,12,32] ?_)|simp -dsimp[hs]|refine m5 ?_ ?_<;>intro h<;>try simp only[l8] at h
 all_goals try clear hs
 ·exact fun hs=>by have:=hs.1;omega
 ·have hl:l.length≤80:=by omega
  refine j7 (ι:={ k:Nat // k≤l.length∧∀ j x,j<k→l[j]?=some x→x.items.length≤16∧x.dims.length≤8 }) (fun p=>⟨33,[(1,.one (.ptr 0 0)),(3,iv (p.1:Int))],[.row [.im (.sl (l.map j0))]]⟩) (fun p=>l.length-p.1) ⟨0,by simp⟩ (zv [1,3] (by simp[iv])) ?_
  rintro⟨k,hk,hno⟩
  simp only[iv]
  by_cases hlt:k<l.length
  ·have hx:l[k]?=some l[k]:=by simp[hlt]
   have hw:=zk k
   have bad:16<l[k].items.length∨8<l[k].dims.length→¬ dl l:=fun h hs=>by have:=hs.2 l[k] (by simp);omega
   have hs:=za hx hw
   repeat' first|(with_reducible first|refine zz ?_|refine zr ?_ (by simp -dsimp[j0,rI,hs];exact rfl)|refine zE [0,1,2,3,7,12,32] ?_)|simp -dsimp[j0,rI,hs]|refine m5 ?_ ?_<;>intro h<;>try simp only[l8] at h|with_reducible refine o4 ?_ ?_<;>intro h<;>have h0:=h<;>(try simp only[l8] at h)<;>have h2:=h<;>(try simp at h2)<;>replace hs:=za h0 (za h (za h2 hs))
   all_goals try clear hs
   all_goals first
    | omega
    | exact bad (by omega)
    | skip
   refine zn ⟨k+1,by omega,fun j x hj hjx=>?_⟩ (zv [1,3])
   by_cases e:j=k
   ·subst e;rw[hx] at hjx;cases hjx;omega
   ·exact hno j x (by omega) hjx
  ·have hs:=hlt
   repeat' first|(with_reducible first|refine zz ?_|refine zr ?_|refine zE [0,1,2,3,7,12,32] ?_)|simp -dsimp[hs]|refine m5 ?_ ?_<;>intro h<;>try simp only[l8] at h
   all_goals try clear hs
   exact⟨hl,fun x hx'=>by
    obtain⟨j,hj⟩:=List.mem_iff_getElem?.1 hx'
    exact hno j x (by have:=g9 hj;omega) hj⟩
end Go.Proofs
namespace Go.Proofs
open Go Go.Ab Tryz
attribute [local simp] F0 setLp
variable {G:Es}
theorem qi (l r:List Int) (hl:l.length<1000000) (objs:List DObj):DCall prog G 10 [H0 l,H0 r] objs (fun d objs'=>d=bv (decide (l=r))∧objs'=objs):=by
 refine DCall.frame ?_ (by simp) (by simp) objs
 refine l5 func10 rfl ntmps10 (by simp) rfl ?_
 simp only[H0,bv]
 have hs:=trivial
 repeat' first|(with_reducible first|refine zz ?_|refine zr ?_|refine zE [0,1,4,5,10,14,25] ?_)|simp -dsimp[hs]|refine m5 ?_ ?_<;>intro h<;>try simp only[l8] at h
 ·rintro rfl;omega
 ·have hlen:l.length=r.length:=by omega
  refine j7 (ι:={ k:Nat // k≤l.length∧∀ j,j<k→l[j]?=r[j]? }) (fun p=>⟨26,[(0,H0 l),(1,H0 r),(5,iv (p.1:Int))],[]⟩) (fun p=>l.length-p.1) ⟨0,by simp⟩ (zv [0,1,5] (by simp[iv,H0])) ?_
  rintro⟨k,hk,hno⟩
  simp only[iv,H0]
  by_cases hlt:k<l.length
  ·have hx:l[k]?=some l[k]:=by simp[hlt]
   have hltr:k<r.length:=by omega
   have hy:r[k]?=some r[k]:=by simp[hltr]
   have hw:=zk k
   have hs:=za hx (za hy hw)
   repeat' first|(with_reducible first|refine zz ?_|refine zr ?_ (by simp -dsimp[encI,rI,hs];exact rfl))|simp -dsimp[encI,rI,hs]|refine zM 6 26 9 [0,1,4,5,10,14,25] ?_|with_reducible refine zE [0,1,4,5,10,14,25] ?_|refine m5 ?_ ?_<;>intro h<;>try simp only[l8] at h
   all_goals try omega
   ·rename_i h
    rintro rfl;exact h rfl
   ·rename_i h
    refine zn ⟨k+1,by omega,fun j hj=>?_⟩ (zv [0,1,5])
    by_cases e:j=k
    ·subst e;rw[hx,hy,h]
    ·exact hno j (by omega)
  ·have hs:=hlt
   repeat' first|(with_reducible first|refine zz ?_|refine zr ?_|refine zE [0,1,4,5,10,14,25] ?_)|simp -dsimp[hs]|refine m5 ?_ ?_<;>intro h<;>try simp only[l8] at h
   refine List.ext_getElem? fun j=>?_
   by_cases hj:j<k
   ·exact hno j hj
   ·rw[List.getElem?_eq_none (by omega),List.getElem?_eq_none (by omega)]
end Go.Proofs
namespace Go.Proofs
open Go Go.Ab Tryz
attribute [local simp] F0 setLp
variable {G:Es}
def ye (l:List Itm):DV:=.one (.im (.sl (l.map l7)))
attribute [simp] ye
theorem og (l r:List Itm) (hl:l.length<1000000) (objs:List DObj):DCall prog G 16 [ye l,ye r] objs (fun d objs'=>d=bv (decide (l=r))∧objs'=objs):=by
 refine DCall.frame ?_ (by simp) (by simp) objs
 refine l5 func16 rfl ntmps16 (by simp) rfl ?_
 simp only[ye,bv]
 have hs:=trivial
 repeat' first|(with_reducible first|refine zz ?_|refine zr ?_|refine zE [0,1,4,5,10,14,25] ?_)|simp -dsimp[hs]|refine m5 ?_ ?_<;>intro h<;>try simp only[l8] at h
 ·rintro rfl;omega
 ·have hlen:l.length=r.length:=by omega
  refine j7 (ι:={ k:Nat // k≤l.length∧∀ j,j<k→l[j]?=r[j]? }) (fun p=>⟨26,[(0,ye l),(1,ye r),(5,iv (p.1:Int))],[]⟩) (fun p=>l.length-p.1) ⟨0,by simp⟩ (zv [0,1,5] (by simp[iv,ye])) ?_
  rintro⟨k,hk,hno⟩
  simp only[iv,ye]
  by_cases hlt:k<l.length
  ·have hx:l[k]?=some l[k]:=by simp[hlt]
   have hltr:k<r.length:=by omega
   have hy:r[k]?=some r[k]:=by simp[hltr]
   have hw:=zk k
   have hs:=za hx (za hy hw)
   repeat' first|(with_reducible first|refine zz ?_|refine zr ?_ (by simp -dsimp[l7,rI,hs];exact rfl))|simp -dsimp[l7,rI,hs]|refine zM 6 26 9 [0,1,4,5,10,14,25] ?_|with_reducible refine zE [0,1,4,5,10,14,25] ?_|refine m5 ?_ ?_<;>intro h<;>try simp only[l8] at h
   all_goals try omega
   ·rename_i h
    rintro rfl;simp at h
   ·rename_i h
    refine zn ⟨k+1,by omega,fun j hj=>?_⟩ (zv [0,1,5])
    by_cases e:j=k
    ·subst e
     have:l[j]=r[j]:=by cases hc:l[j];cases hd:r[j];rw[hc,hd] at h;simp at h;simp[h]
     rw[hx,hy,this]
    ·exact hno j (by omega)
  ·have hs:=hlt
   repeat' first|(with_reducible first|refine zz ?_|refine zr ?_|refine zE [0,1,4,5,10,14,25] ?_)|simp -dsimp[hs]|refine m5 ?_ ?_<;>intro h<;>try simp only[l8] at h
   refine List.ext_getElem? fun j=>?_
   by_cases hj:j<k
   ·exact hno j hj
   ·rw[List.getElem?_eq_none (by omega),List.getElem?_eq_none (by omega)]
end Go.Proofs
namespace Go.Proofs
open Go Go.Ab Tryz
attribute [local simp] F0 setLp
variable {G:Es}
theorem oh (x y:Issue) (hx:x.items.length<1000000∧x.dims.length<1000000) (objs:List DObj):DCall prog G 14 [E4 x,E4 y] objs (fun d objs'=>d=bv (decide (x=y))∧objs'=objs):=by
 refine DCall.frame ?_ (by simp) (by simp) objs
 refine l5 func14 rfl ntmps14 (by simp) rfl ?_
 have hc:=fun objs=>og (G:=G) x.items y.items hx.1 objs
 simp only[ye] at hc
 simp only[E4,bv]
 have hs:=trivial
 repeat' first|(with_reducible first|refine zz ?_|refine zr ?_ (by simp -dsimp[j0,rI,bv,hs];exact rfl)|refine zE [0,1,2,3,4,5,41,46,59] ?_)|simp -dsimp[j0,rI,bv,hs]|refine CallE.pure hc ?_|refine m5 ?_ ?_<;>intro h<;>try simp only[l8] at h|with_reducible refine o4 ?_ ?_<;>intro h<;>have h0:=h<;>(try simp only[l8] at h)<;>have h2:=h<;>(try simp at h2)<;>replace hs:=za h0 (za h (za h2 hs))
 all_goals try clear hs
 all_goals try (rintro rfl;simp_all;done)
 obtain⟨hx1,hx2⟩:=hx
 have e1:x.drawing=y.drawing:=by assumption
 have e2:x.letter=y.letter:=by assumption
 have e3:x.kind=y.kind:=by assumption
 have e4:x.items=y.items:=by assumption
 have e5:x.dims.length=y.dims.length:=by omega
 refine j7 (ι:={ k:Nat // k≤x.dims.length∧∀ j,j<k→x.dims[j]?=y.dims[j]? }) (fun p=>⟨60,[(2,.one (.ptr 0 0)),(3,.one (.ptr 1 0)),(5,iv (p.1:Int))],[.row ((j0 x).map .im),.row ((j0 y).map .im)]⟩) (fun p=>x.dims.length-p.1) ⟨0,by simp⟩ (zv [2,3,5] (by simp[iv,j0,rI,← e1,← e2,← e3,← e4])) ?_
 rintro⟨k,hk,hno⟩
 simp only[iv,j0,rI,List.map_cons,List.map_nil]
 by_cases hlt:k<x.dims.length
 ·have hx:x.dims[k]?=some x.dims[k]:=by simp[hlt]
  have hltr:k<y.dims.length:=by omega
  have hy:y.dims[k]?=some y.dims[k]:=by simp[hltr]
  have hw:=zk k
  have hs:=za hx (za hy hw)
  repeat' first|(with_reducible first|refine zz ?_|refine zr ?_ (by simp -dsimp[l6,rI,hs];exact rfl))|simp -dsimp[l6,rI,hs]|refine zM 6 60 11 [0,1,2,3,4,5,41,46,59] ?_|with_reducible refine zE [0,1,2,3,4,5,41,46,59] ?_|refine m5 ?_ ?_<;>intro h<;>try simp only[l8] at h
  all_goals try omega
  ·rename_i h
   rintro rfl;simp at h
  ·rename_i h
   refine zn ⟨k+1,by omega,fun j hj=>?_⟩ (zv [2,3,5])
   by_cases e:j=k
   ·subst e
    have:x.dims[j]=y.dims[j]:=by cases hc:x.dims[j];cases hd:y.dims[j];rw[hc,hd] at h;simp at h;simp[h]
    rw[hx,hy,this]
   ·exact hno j (by omega)
 ·have hs:=hlt
  repeat' first|(with_reducible first|refine zz ?_|refine zr ?_|refine zE [0,1,2,3,4,5,41,46,59] ?_)|simp -dsimp[hs]|refine m5 ?_ ?_<;>intro h<;>try simp only[l8] at h
  have:x.dims=y.dims:=by
   refine List.ext_getElem? fun j=>?_
   by_cases hj:j<k
   ·exact hno j hj
   ·rw[List.getElem?_eq_none (by omega),List.getElem?_eq_none (by omega)]
  cases x;cases y;simp_all
end Go.Proofs
namespace Go.Proofs
open Go Go.Ab Tryz
attribute [local simp] F0 setLp
variable {G:Es}
theorem Ag (l r:List Issue) (hl:dl l) (objs:List DObj):DCall prog G 71 [C8 l,C8 r] objs (fun d objs'=>d=bv (decide (l=r))∧objs'=objs):=by
 refine DCall.frame ?_ (by simp) (by simp) objs
 refine l5 func71 rfl ntmps71 (by simp) rfl ?_
 obtain⟨hl1,hl2⟩:=hl
 simp only[C8,bv]
 have hs:=trivial
 repeat' first|(with_reducible first|refine zz ?_|refine zr ?_|refine zE [0,1,2,3,4,5,12,17,31] ?_)|simp -dsimp[hs]|refine m5 ?_ ?_<;>intro h<;>try simp only[l8] at h
 ·rintro rfl;omega
 ·have hlen:l.length=r.length:=by omega
  refine j7 (ι:={ k:Nat // k≤l.length∧∀ j,j<k→l[j]?=r[j]? }) (fun p=>⟨32,[(2,.one (.ptr 0 0)),(3,.one (.ptr 1 0)),(5,iv (p.1:Int))],[.row [.im (.sl (l.map j0))],.row [.im (.sl (r.map j0))]]⟩) (fun p=>l.length-p.1) ⟨0,by simp⟩ (zv [2,3,5] (by simp[iv])) ?_
  rintro⟨k,hk,hno⟩
  simp only[iv]
  by_cases hlt:k<l.length
  ·have hx:l[k]?=some l[k]:=by simp[hlt]
   have hltr:k<r.length:=by omega
   have hy:r[k]?=some r[k]:=by simp[hltr]
   have hw:=zk k
   have hb:=hl2 l[k] (by simp)
   have hc:=fun objs=>oh (G:=G) l[k] r[k] ⟨by omega,by omega⟩ objs
   simp only[ni] at hc
   have hs:=za hx (za hy hw)
   repeat' first|(with_reducible first|refine zz ?_|refine zr ?_ (by simp -dsimp[j0,rI,bv,hs];exact rfl))|simp -dsimp[j0,rI,bv,hs]|refine az hc ?_|refine zM 6 32 12 [0,1,2,3,4,5,12,17,31] ?_|with_reducible refine zE [0,1,2,3,4,5,12,17,31] ?_|refine m5 ?_ ?_<;>intro h<;>try simp only[l8] at h
   all_goals try omega
   ·rename_i h
    rintro rfl;simp at h
   ·rename_i h
    refine zn ⟨k+1,by omega,fun j hj=>?_⟩ (zv [2,3,5])
    by_cases e:j=k
    ·subst e;rw[hx,hy,h]
    ·exact hno j (by omega)
  ·have hs:=hlt
   repeat' first|(with_reducible first|refine zz ?_|refine zr ?_|refine zE [0,1,2,3,4,5,12,17,31] ?_)|simp -dsimp[hs]|refine m5 ?_ ?_<;>intro h<;>try simp only[l8] at h
   refine List.ext_getElem? fun j=>?_
   by_cases hj:j<k
   ·exact hno j hj
   ·rw[List.getElem?_eq_none (by omega),List.getElem?_eq_none (by omega)]
end Go.Proofs
namespace Go.Proofs
open Go Go.Ab Tryz
attribute [local simp] F0 setLp
variable {G:Es}
def R6:Issue:=⟨0,0,0,[],[]⟩
def A1 (l:List Issue) (d lt:Int):Option Issue:=l.find? fun x=>x.drawing==d&&x.letter==lt
def D7 (d lt:Int):DV:=.agg [.im (rI d),.im (rI lt)]
attribute [simp] D7
theorem AV (l:List Issue) (d lt:Int) (hl:l.length<1000000) (objs:List DObj):DCall prog G 51 [C8 l,D7 d lt] objs (fun r objs'=>r=.tup [E4 ((A1 l d lt).getD R6),bv (A1 l d lt).isSome]∧objs'=objs):=by
 refine DCall.frame ?_ (by simp) (by simp) objs
 refine l5 func51 rfl ntmps51 (by simp) rfl ?_
 simp only[C8,D7,bv,E4]
 have hs:=trivial
 repeat' first|(with_reducible first|refine zz ?_|refine zE [0,1,2,3,4,5,6,7,12,31] ?_)|simp -dsimp[hs]
 refine j7 (ι:={ k:Nat // k≤l.length∧A1 l d lt=A1 (l.drop k) d lt }) (fun p=>⟨34,[(2,.one (.ptr 0 0)),(3,.one (.ptr 1 0)),(4,.one (.ptr 4 0)),(6,iv (p.1:Int))],[.row [.im (.sl (l.map j0))],.row [.im (rI d),.im (rI lt)],.vec 0 [] 0 true,.vec 0 [] 0 true,.row ((rI 0 :: rI 0 :: [IC.raw (.int .u8 0)]).map .im++[.vec 2 0 0 0,.vec 3 0 0 0])]⟩) (fun p=>l.length-p.1) ⟨0,by simp⟩ (zv [2,3,4,6] (by simp[iv,rI])) ?_
 rintro⟨k,hk,hno⟩
 simp only[iv]
 by_cases hlt:k<l.length
 ·have hx:l[k]?=some l[k]:=by simp[hlt]
  have hw:=zk k
  have hcons:A1 l d lt=if (l[k].drawing==d&&l[k].letter==lt)=true then some l[k] else A1 (l.drop (k+1)) d lt:=by
   rw[hno,List.drop_eq_getElem_cons hlt]
   simp only[A1,List.find?_cons]
   split<;>simp_all
  have hs:=za hx hw
  repeat' first|(with_reducible first|refine zz ?_|refine zr ?_ (by simp -dsimp[j0,rI,hs];exact rfl)|refine zE [0,1,2,3,4,5,6,7,12,31] ?_)|simp -dsimp[j0,rI,hs]|refine m5 ?_ ?_<;>intro h<;>try simp only[l8] at h|with_reducible refine o4 ?_ ?_<;>intro h<;>have h0:=h<;>(try simp only[l8] at h)<;>have h2:=h<;>(try simp at h2)<;>replace hs:=za h0 (za h (za h2 hs))
  all_goals try clear hs
  all_goals try omega
  ·have hf:A1 l d lt=some l[k]:=by simp_all
   simp[hf, *]
  ·rename_i h
   have hf:A1 l d lt=A1 (l.drop (k+1)) d lt:=by rw[hcons];simp[h]
   exact zn ⟨k+1,by omega,hf⟩ (zw [2,3,4,6] 5 (by simp[rI]))
  ·rename_i h2 h
   have hf:A1 l d lt=A1 (l.drop (k+1)) d lt:=by rw[hcons];simp[h2]
   exact zn ⟨k+1,by omega,hf⟩ (zw [2,3,4,6] 5 (by simp[rI]))
 ·have hf:A1 l d lt=none:=by rw[hno,List.drop_eq_nil_of_le (by omega)];rfl
  have hs:=hlt
  repeat' first|(with_reducible first|refine zz ?_|refine zr ?_ (by simp -dsimp[j0,rI,hs];exact rfl)|refine zE [0,1,2,3,4,5,6,7,12,31] ?_)|simp -dsimp[j0,rI,hs]|refine m5 ?_ ?_<;>intro h<;>try simp only[l8] at h
  all_goals simp[hf,R6]
end Go.Proofs
namespace Go.Proofs
open Go Go.Ab Tryz
attribute [local simp] F0 setLp
variable {G:Es}
def lF {α:Type} (p:α→Bool) (l:List α):Int:=match l.findIdx? p with|some i=>i|none=>-1
theorem gg {α:Type} {p:α→Bool} {l:List α} {i:Nat} {x:α} (h:l[i]?=some x) (hp:p x=true) (hno:∀ (j:Nat) (x:α),j<i→l[j]?=some x→p x=false):lF p l=i:=by
 have:l.findIdx? p=some i:=by
  rw[List.findIdx?_eq_some_iff_getElem]
  obtain⟨hlt,he⟩:=List.getElem?_eq_some_iff.1 h
  refine⟨hlt,by rw[he];exact hp,fun j hj=>?_⟩
  have:=hno j l[j] hj (by simp)
  simp[this]
 simp[lF,this]
theorem jv {α:Type} {p:α→Bool} {l:List α} (hno:∀ (j:Nat) (x:α),l[j]?=some x→p x=false):lF p l=-1:=by
 have:l.findIdx? p=none:=by
  rw[List.findIdx?_eq_none_iff]
  intro y hy
  obtain⟨j,hj⟩:=List.mem_iff_getElem?.1 hy
  exact hno j y hj
 simp[lF,this]
theorem aM {α:Type} (p:α→Bool) (l:List α):decide (0≤lF p l)=l.any p:=by
 unfold lF
 split
 ·rename_i i h
  rw[List.findIdx?_eq_some_iff_getElem] at h
  obtain⟨hlt,hp,_⟩:=h
  have:l.any p=true:=List.any_eq_true.2 ⟨l[i],by simp,hp⟩
  simp[this]
 ·rename_i h
  rw[List.findIdx?_eq_none_iff] at h
  have:l.any p=false:=by rw[List.any_eq_false];intro x hx;simp[h x hx]
  simp[this]
def wd (x:Itm):DV:=.agg ((l7 x).map .im)
def H1 (x:Dim):DV:=.agg ((l6 x).map .im)
attribute [simp] wd H1
theorem lC (l:List Int) (p:Int→Bool) (k:Nat) (caps:List DC) (objs:List DObj) (hok:L4 prog k) (hf:∀ x∈l,DCall prog G k (iv x :: caps.map .one) objs (fun d o=>d=bv (p x)∧o=objs)) (hl:l.length<1000000):DCall prog G 129 [.one (.im (.sl (l.map encI))),.one (.fn (.func k) caps)] objs (fun d o=>d=iv (lF p l)∧o=objs):=by
 refine l5 func129 rfl ntmps129 (by simp) rfl ?_
 have hs:=trivial
 repeat' first|(with_reducible first|refine zz ?_|refine zE [0,1,4,5,7,8,9,16] ?_)|simp -dsimp[hs]
 refine j7 (ι:={ k:Nat // k≤l.length∧∀ j x,j<k→l[j]?=some x→p x=false }) (fun i=>⟨19,[(0,.one (.im (.sl (l.map encI)))),(1,.one (.fn (.func k) caps)),(7,iv (l.length:Int)),(8,iv (i.1:Int))],objs⟩) (fun i=>l.length-i.1) ⟨0,by simp⟩ (zv [0,1,7,8]) ?_
 rintro⟨i,hi,hno⟩
 simp only[iv]
 by_cases hlt:i<l.length
 ·have hx:l[i]?=some l[i]:=by simp[hlt]
  have hw:=zk i
  have hc:=hf l[i] (by simp)
  simp only[iv,encI,List.map_cons,List.map_nil,bv,rI] at hc
  have hs:=za hx (za hw hok)
  repeat' first|(with_reducible first|refine zz ?_|refine And.intro (by omega) ?_|refine zr ?_|refine zE [0,1,4,5,7,8,9,16] ?_)|simp -dsimp[hs]|refine CallE.here hc ?_|refine m5 ?_ ?_<;>intro h<;>try simp only[l8] at h|with_reducible refine And.intro ?_ ?_
  all_goals try omega
  ·exact(gg hx (by assumption) hno).symm
  ·exact At.round ⟨i+1,by omega,fun j x hj hjx=>by
    by_cases e:j=i
    ·subst e;rw[hx] at hjx;cases hjx;assumption
    ·exact hno j x (by omega) hjx⟩ (by simp;omega) (zv [0,1,7,8])
 ·have hs:=trivial
  repeat' first|(with_reducible first|refine zz ?_|refine zr ?_|refine zE [0,1,4,5,7,8,9,16] ?_)|simp -dsimp[hs]|refine m5 ?_ ?_<;>intro h<;>try simp only[l8] at h|with_reducible refine And.intro ?_ ?_
  all_goals try omega
  exact(jv fun j x hjx=>hno j x (by have:=g9 hjx;omega) hjx).symm
theorem H8 (l:List Int) (p:Int→Bool) (k:Nat) (caps:List DC) (objs:List DObj) (hok:L4 prog k) (hf:∀ x∈l,DCall prog G k (iv x :: caps.map .one) objs (fun d o=>d=bv (p x)∧o=objs)) (hl:l.length<1000000):DCall prog G 92 [.one (.im (.sl (l.map encI))),.one (.fn (.func k) caps)] objs (fun d o=>d=bv (l.any p)∧o=objs):=by
 refine l5 func92 rfl ntmps92 (by simp) rfl ?_
 have hc:=lC l p k caps objs hok hf hl
 repeat' first|(with_reducible first|refine zz ?_|refine zx ?_|refine zE [0,1,4] ?_)|simp -dsimp|refine CallE.here hc ?_|with_reducible refine And.intro ?_ ?_
 simp[aM]
theorem lB (l:List Itm) (p:Itm→Bool) (k:Nat) (caps:List DC) (objs:List DObj) (hok:L4 prog k) (hf:∀ x∈l,DCall prog G k (wd x :: caps.map .one) objs (fun d o=>d=bv (p x)∧o=objs)) (hl:l.length<1000000):DCall prog G 138 [.one (.im (.sl (l.map l7))),.one (.fn (.func k) caps)] objs (fun d o=>d=iv (lF p l)∧o=objs):=by
 refine l5 func138 rfl ntmps138 (by simp) rfl ?_
 have hs:=trivial
 repeat' first|(with_reducible first|refine zz ?_|refine zE [0,1,4,5,7,8,9,16] ?_)|simp -dsimp[hs]
 refine j7 (ι:={ k:Nat // k≤l.length∧∀ j x,j<k→l[j]?=some x→p x=false }) (fun i=>⟨19,[(0,.one (.im (.sl (l.map l7)))),(1,.one (.fn (.func k) caps)),(7,iv (l.length:Int)),(8,iv (i.1:Int))],objs⟩) (fun i=>l.length-i.1) ⟨0,by simp⟩ (zv [0,1,7,8]) ?_
 rintro⟨i,hi,hno⟩
 simp only[iv]
 by_cases hlt:i<l.length
 ·have hx:l[i]?=some l[i]:=by simp[hlt]
  have hw:=zk i
  have hc:=hf l[i] (by simp)
  simp only[wd,l7,List.map_cons,List.map_nil,bv,rI] at hc
  have hs:=za hx (za hw hok)
  repeat' first|(with_reducible first|refine zz ?_|refine And.intro (by omega) ?_|refine zr ?_|refine zE [0,1,4,5,7,8,9,16] ?_)|simp -dsimp[hs]|refine CallE.here hc ?_|refine m5 ?_ ?_<;>intro h<;>try simp only[l8] at h|with_reducible refine And.intro ?_ ?_
  all_goals try omega
  ·exact(gg hx (by assumption) hno).symm
  ·exact At.round ⟨i+1,by omega,fun j x hj hjx=>by
    by_cases e:j=i
    ·subst e;rw[hx] at hjx;cases hjx;assumption
    ·exact hno j x (by omega) hjx⟩ (by simp;omega) (zv [0,1,7,8])
 ·have hs:=trivial
  repeat' first|(with_reducible first|refine zz ?_|refine zr ?_|refine zE [0,1,4,5,7,8,9,16] ?_)|simp -dsimp[hs]|refine m5 ?_ ?_<;>intro h<;>try simp only[l8] at h|with_reducible refine And.intro ?_ ?_
  all_goals try omega
  exact(jv fun j x hjx=>hno j x (by have:=g9 hjx;omega) hjx).symm
theorem iu (l:List Itm) (p:Itm→Bool) (k:Nat) (caps:List DC) (objs:List DObj) (hok:L4 prog k) (hf:∀ x∈l,DCall prog G k (wd x :: caps.map .one) objs (fun d o=>d=bv (p x)∧o=objs)) (hl:l.length<1000000):DCall prog G 102 [.one (.im (.sl (l.map l7))),.one (.fn (.func k) caps)] objs (fun d o=>d=bv (l.any p)∧o=objs):=by
 refine l5 func102 rfl ntmps102 (by simp) rfl ?_
 have hc:=lB l p k caps objs hok hf hl
 repeat' first|(with_reducible first|refine zz ?_|refine zx ?_|refine zE [0,1,4] ?_)|simp -dsimp|refine CallE.here hc ?_|with_reducible refine And.intro ?_ ?_
 simp[aM]
theorem lD (l:List Dim) (p:Dim→Bool) (k:Nat) (caps:List DC) (objs:List DObj) (hok:L4 prog k) (hf:∀ x∈l,DCall prog G k (H1 x :: caps.map .one) objs (fun d o=>d=bv (p x)∧o=objs)) (hl:l.length<1000000):DCall prog G 211 [.one (.im (.sl (l.map l6))),.one (.fn (.func k) caps)] objs (fun d o=>d=iv (lF p l)∧o=objs):=by
 refine l5 func211 rfl ntmps211 (by simp) rfl ?_
 have hs:=trivial
 repeat' first|(with_reducible first|refine zz ?_|refine zE [0,1,4,5,7,8,9,16] ?_)|simp -dsimp[hs]
 refine j7 (ι:={ k:Nat // k≤l.length∧∀ j x,j<k→l[j]?=some x→p x=false }) (fun i=>⟨19,[(0,.one (.im (.sl (l.map l6)))),(1,.one (.fn (.func k) caps)),(7,iv (l.length:Int)),(8,iv (i.1:Int))],objs⟩) (fun i=>l.length-i.1) ⟨0,by simp⟩ (zv [0,1,7,8]) ?_
 rintro⟨i,hi,hno⟩
 simp only[iv]
 by_cases hlt:i<l.length
 ·have hx:l[i]?=some l[i]:=by simp[hlt]
  have hw:=zk i
  have hc:=hf l[i] (by simp)
  simp only[H1,l6,List.map_cons,List.map_nil,bv,rI] at hc
  have hs:=za hx (za hw hok)
  repeat' first|(with_reducible first|refine zz ?_|refine And.intro (by omega) ?_|refine zr ?_|refine zE [0,1,4,5,7,8,9,16] ?_)|simp -dsimp[hs]|refine CallE.here hc ?_|refine m5 ?_ ?_<;>intro h<;>try simp only[l8] at h|with_reducible refine And.intro ?_ ?_
  all_goals try omega
  ·exact(gg hx (by assumption) hno).symm
  ·exact At.round ⟨i+1,by omega,fun j x hj hjx=>by
    by_cases e:j=i
    ·subst e;rw[hx] at hjx;cases hjx;assumption
    ·exact hno j x (by omega) hjx⟩ (by simp;omega) (zv [0,1,7,8])
 ·have hs:=trivial
  repeat' first|(with_reducible first|refine zz ?_|refine zr ?_|refine zE [0,1,4,5,7,8,9,16] ?_)|simp -dsimp[hs]|refine m5 ?_ ?_<;>intro h<;>try simp only[l8] at h|with_reducible refine And.intro ?_ ?_
  all_goals try omega
  exact(jv fun j x hjx=>hno j x (by have:=g9 hjx;omega) hjx).symm
theorem iw (l:List Dim) (p:Dim→Bool) (k:Nat) (caps:List DC) (objs:List DObj) (hok:L4 prog k) (hf:∀ x∈l,DCall prog G k (H1 x :: caps.map .one) objs (fun d o=>d=bv (p x)∧o=objs)) (hl:l.length<1000000):DCall prog G 209 [.one (.im (.sl (l.map l6))),.one (.fn (.func k) caps)] objs (fun d o=>d=bv (l.any p)∧o=objs):=by
 refine l5 func209 rfl ntmps209 (by simp) rfl ?_
 have hc:=lD l p k caps objs hok hf hl
 repeat' first|(with_reducible first|refine zz ?_|refine zx ?_|refine zE [0,1,4] ?_)|simp -dsimp|refine CallE.here hc ?_|with_reducible refine And.intro ?_ ?_
 simp[aM]
theorem mB (l:List Itm) (hl:l.length<1000000) (objs:List DObj):DCall prog G 108 [.one (.im (.sl (l.map l7)))] objs (fun d objs'=>d=.one (.im (.sl (l.map l7)))∧objs'=objs):=by
 refine DCall.frame ?_ (by simp) (by simp) objs
 refine l5 func108 rfl ntmps108 (by simp) rfl ?_
 repeat' first|(with_reducible first|refine zz ?_|refine And.intro (by omega) ?_|refine zx ?_|refine zE [0,2,4] ?_)|simp -dsimp|refine m5 ?_ ?_<;>intro h<;>try simp only[l8] at h|with_reducible refine S9 (fun h=>?_);(try simp only[List.map_eq_nil_iff] at h);(try subst h);try simp -dsimp|with_reducible refine And.intro ?_ ?_
 all_goals omega
theorem mC (l:List Dim) (hl:l.length<1000000) (objs:List DObj):DCall prog G 46 [.one (.im (.sl (l.map l6)))] objs (fun d objs'=>d=.one (.im (.sl (l.map l6)))∧objs'=objs):=by
 refine DCall.frame ?_ (by simp) (by simp) objs
 refine l5 func46 rfl ntmps46 (by simp) rfl ?_
 repeat' first|(with_reducible first|refine zz ?_|refine And.intro (by omega) ?_|refine zx ?_|refine zE [0,2,4] ?_)|simp -dsimp|refine m5 ?_ ?_<;>intro h<;>try simp only[l8] at h|with_reducible refine S9 (fun h=>?_);(try simp only[List.map_eq_nil_iff] at h);(try subst h);try simp -dsimp|with_reducible refine And.intro ?_ ?_
 all_goals omega
end Go.Proofs
namespace Go.Proofs
open Go Go.Ab Tryz
attribute [local simp] F0 setLp
variable {G:Es}
theorem tR (x lo hi:Int):DCall prog G 137 (iv x :: [DC.ptr 0 0,DC.ptr 1 0].map .one) [.row [.im (rI lo)],.row [.im (rI hi)]] (fun d o=>d=bv (decide (x<lo)||decide (hi<x))∧o=[.row [.im (rI lo)],.row [.im (rI hi)]]):=by
 refine l5 func137 rfl ntmps137 (by simp) rfl ?_
 simp only[rI]
 have hs:=trivial
 repeat' first|(with_reducible first|refine zz ?_|refine zr ?_|refine zE [0,1,2,4] ?_)|simp -dsimp[hs]|with_reducible refine o4 ?_ ?_<;>intro h<;>have h0:=h<;>(try simp only[l8] at h)<;>have h2:=h<;>(try simp at h2)<;>replace hs:=za h0 (za h (za h2 hs))|with_reducible refine And.intro ?_ ?_
 all_goals try clear hs
 all_goals simp[*]
theorem ah (lo hi:Int) (l:List Int) (hl:l.length<1000000):zP prog G 101 [iv lo,iv hi,H0 l] (bv (l.all fun x=>decide (lo≤x)&&decide (x≤hi))):=by
 refine zf func101 ntmps101 ?_
 try simp only[iv,iv,H0]
 have hc:=H8 (G:=G) l (fun x=>decide (x<lo)||decide (hi<x)) 137 [.ptr 0 0,.ptr 1 0] [.row [.im (rI lo)],.row [.im (rI hi)]] (by simp) (fun x _=>tR x lo hi) hl
 simp only[rI] at hc
 repeat' first|(with_reducible first|refine zz ?_|refine zx ?_|refine zE [0,1,2,3,4,6] ?_)|simp -dsimp|refine CallE.here hc ?_
 rw[Bool.eq_iff_iff];simp
 exact exists_congr fun x=>and_congr_right fun _=>by omega
theorem wi (x lo hi:Int):DCall prog G 181 (iv x :: [DC.ptr 0 0,DC.ptr 1 0].map .one) [.row [.im (rI lo)],.row [.im (rI hi)]] (fun d o=>d=bv (decide (x<lo)||decide (hi<x))∧o=[.row [.im (rI lo)],.row [.im (rI hi)]]):=by
 refine l5 func181 rfl ntmps181 (by simp) rfl ?_
 simp only[rI]
 have hs:=trivial
 repeat' first|(with_reducible first|refine zz ?_|refine zr ?_|refine zE [0,1,2,4] ?_)|simp -dsimp[hs]|with_reducible refine o4 ?_ ?_<;>intro h<;>have h0:=h<;>(try simp only[l8] at h)<;>have h2:=h<;>(try simp at h2)<;>replace hs:=za h0 (za h (za h2 hs))|with_reducible refine And.intro ?_ ?_
 all_goals try clear hs
 all_goals simp[*]
theorem sk (lo hi:Int) (l:List Int) (hl:l.length<1000000):zP prog G 170 [iv lo,iv hi,H0 l] (bv (l.all fun x=>decide (lo≤x)&&decide (x≤hi))):=by
 refine zf func170 ntmps170 ?_
 try simp only[iv,iv,H0]
 have hc:=H8 (G:=G) l (fun x=>decide (x<lo)||decide (hi<x)) 181 [.ptr 0 0,.ptr 1 0] [.row [.im (rI lo)],.row [.im (rI hi)]] (by simp) (fun x _=>wi x lo hi) hl
 simp only[rI] at hc
 repeat' first|(with_reducible first|refine zz ?_|refine zx ?_|refine zE [0,1,2,3,4,6] ?_)|simp -dsimp|refine CallE.here hc ?_
 rw[Bool.eq_iff_iff];simp
 exact exists_congr fun x=>and_congr_right fun _=>by omega
def D8 (d:Dim):Bool:=decide (0≤d.nominal)&&decide (d.nominal≤1000000000)&&(decide (0≤d.lower)&&decide (d.lower≤1000000000))&&(decide (0≤d.upper)&&decide (d.upper≤1000000000))&&decide (d.lower≤d.upper)
theorem iF (d:Dim):zP prog G 143 [H1 d] (iv (if D8 d then 0 else 10)):=by
 refine zf func143 ntmps143 ?_
 try simp only[H1]
 have hc:=sk (G:=G) 0 1000000000 [d.nominal,d.lower,d.upper] (by simp)
 have hs:=trivial
 repeat' first|(with_reducible first|refine zz ?_|refine zr ?_|refine zE [0,1,2,18] ?_)|simp -dsimp[hs]|refine zt hc ?_ ?_ ?_;(focus simp;done);focus (simp;done)|refine m5 ?_ ?_<;>intro h<;>try simp only[l8] at h|with_reducible refine o4 ?_ ?_<;>intro h<;>have h0:=h<;>(try simp only[l8] at h)<;>have h2:=h<;>(try simp at h2)<;>replace hs:=za h0 (za h (za h2 hs))
 all_goals try clear hs
 all_goals simp_all [D8]
 all_goals omega
def Aj (x:Issue):DV:=D7 x.drawing x.letter
attribute [simp] Aj
theorem nY (x:Issue):zP prog G 107 [E4 x] (Aj x):=by
 refine zf func107 ntmps107 ?_
 try simp only[E4]
 repeat' first|(with_reducible first|refine zz ?_|refine zx ?_|refine zE [0,1,2] ?_)|simp -dsimp
theorem wJ (x:Issue) (hi:x.items.length≤16) (hd:x.dims.length≤8):zP prog G 50 [E4 x] (E4 x):=by
 refine zf func50 ntmps50 ?_
 try simp only[E4]
 have h1:=mB (G:=G) x.items (by omega)
 have h2:=mC (G:=G) x.dims (by omega)
 repeat' first|(with_reducible first|refine zz ?_|refine zx ?_)|simp -dsimp|refine zq h1 ?_|refine zq h2 ?_|refine zM 1 12 7 [0,1,2] ?_|with_reducible refine zE [0,1,2] ?_
def wK (x:Issue):Bool:=(decide (1≤x.drawing)&&decide (x.drawing≤9999))&&(decide (1≤x.letter)&&decide (x.letter≤8))
theorem Cq (x:Issue):zP prog G 205 [E4 x] (bv (wK x)):=by
 refine zf func205 ntmps205 ?_
 try simp only[E4]
 have c1:=ah (G:=G) 1 9999 [x.drawing] (by simp)
 have c2:=ah (G:=G) 1 8 [x.letter] (by simp)
 have hs:=trivial
 repeat' first|(with_reducible first|refine zz ?_|refine zr ?_|refine zE [0,1,2] ?_)|simp -dsimp[hs]|refine zt c1 ?_ ?_ ?_;(focus simp;done);focus (simp;done)|refine zt c2 ?_ ?_ ?_;(focus simp;done);focus (simp;done)|with_reducible refine o4 ?_ ?_<;>intro h<;>have h0:=h<;>(try simp only[l8] at h)<;>have h2:=h<;>(try simp at h2)<;>replace hs:=za h0 (za h (za h2 hs))
 all_goals try clear hs
 all_goals simp_all [wK]
 all_goals omega
def yK (x:Issue):Bool:=if x.kind=1 then (decide (1≤x.items.length)&&decide (x.items.length≤8))&&decide (x.dims.length=0) else (decide (2≤x.kind)&&decide (x.kind≤3))&&decide (x.dims.length≤4)&&decide (x.items.length=0)
theorem Cp (x:Issue) (hk:0≤x.kind∧x.kind≤255):zP prog G 206 [E4 x] (bv (yK x)):=by
 refine zf func206 ntmps206 ?_
 try simp only[E4]
 have c1:=ah (G:=G) 1 8 [(x.items.length:Int)] (by simp)
 have c2:=ah (G:=G) 2 3 [x.kind] (by simp)
 have hw:IntKind.i64.wrap x.kind=x.kind:=u7 (by omega) (by omega)
 have hs:=hw
 repeat' first|(with_reducible first|refine zz ?_|refine zr ?_|refine zE [0,1,2,5] ?_)|simp -dsimp[hs]|refine zt c1 ?_ ?_ ?_;(focus simp;done);focus (simp;done)|refine zt c2 ?_ ?_ ?_;(focus simp;done);focus (simp;done)|refine m5 ?_ ?_<;>intro h<;>try simp only[l8] at h|with_reducible refine o4 ?_ ?_<;>intro h<;>have h0:=h<;>(try simp only[l8] at h)<;>have h2:=h<;>(try simp at h2)<;>replace hs:=za h0 (za h (za h2 hs))
 all_goals try clear hs
 all_goals simp_all [yK]
 all_goals omega
theorem Bd (d:Dim):zP prog G 210 [H1 d] (bv (!D8 d)):=by
 refine zf func210 ntmps210 ?_
 try simp only[H1]
 have h1:=iF (G:=G) d
 cases hd:D8 d<;>simp only[hd] at h1
 ·repeat' first|(with_reducible first|refine zz ?_|refine zx ?_|refine zE [0,1,2] ?_)|simp -dsimp|refine zp h1 ?_
 ·repeat' first|(with_reducible first|refine zz ?_|refine zx ?_|refine zE [0,1,2] ?_)|simp -dsimp|refine zp h1 ?_
theorem Cn (x:Issue) (hl:x.dims.length<1000000):zP prog G 208 [E4 x] (bv (x.dims.all D8)):=by
 refine zf func208 ntmps208 ?_
 try simp only[E4]
 have c1:=fun objs=>DCall.fnArg2 (cs:=[]) (iw (G:=G) x.dims (fun d=>!D8 d) 210 [] objs (by simp) (fun d _=>Bd d objs) hl)
 repeat' first|(with_reducible first|refine zz ?_|refine zx ?_|refine zE [0,1,2] ?_)|simp -dsimp|refine zp c1 ?_
 rw[Bool.eq_iff_iff];simp
end Go.Proofs
namespace Go.Proofs
open Go Go.Ab Tryz
attribute [local simp] F0 setLp
variable {G:Es}
theorem fY (x:Int):zP prog G 128 [iv x] (bv false):=by
 refine zf func128 ntmps128 ?_
 try simp only[iv]
 repeat' first|(with_reducible first|refine zz ?_|refine zx ?_|refine zE [0,2] ?_)|simp -dsimp
theorem oQ (x:Int):zP prog G 169 [iv x] (bv false):=by
 refine zf func169 ntmps169 ?_
 try simp only[iv]
 repeat' first|(with_reducible first|refine zz ?_|refine zx ?_|refine zE [0,2] ?_)|simp -dsimp
theorem AC (x y:Int):zP prog G 168 [iv x,iv y] (bv (decide (x<y))):=by
 refine zf func168 ntmps168 ?_
 try simp only[iv,iv]
 have c1:=fY (G:=G) x
 have c2:=fY (G:=G) y
 repeat' first|(with_reducible first|refine zz ?_|refine zx ?_|refine zE [0,1,4] ?_)|simp -dsimp|refine zp c1 ?_
 all_goals simp_all
def cz (x y:Int):Int:=if x<y then -1 else if y<x then 1 else 0
theorem iy (x y:Int):zP prog G 91 [iv x,iv y] (iv (cz x y)):=by
 refine zf func91 ntmps91 ?_
 try simp only[iv,iv]
 have c1:=fY (G:=G) x
 have c2:=fY (G:=G) y
 repeat' first|(with_reducible first|refine zz ?_|refine zx ?_|refine zE [0,1,4,5,6,11,12,13,16,19] ?_)|simp -dsimp|refine zp c1 ?_|refine zp c2 ?_|refine m5 ?_ ?_<;>intro h<;>try simp only[l8] at h
 all_goals simp_all [cz]
 all_goals omega
theorem kR (x:Issue) (n:Int):zP prog G 142 [E4 x,iv n] (iv (cz x.drawing n)):=by
 refine zf func142 ntmps142 ?_
 try simp only[E4,iv]
 have c1:=iy (G:=G) x.drawing n
 repeat' first|(with_reducible first|refine zz ?_|refine zx ?_|refine zE [0,1,2,4] ?_)|simp -dsimp|refine zp c1 ?_
end Go.Proofs
namespace Go.Proofs
open Go Go.Ab Tryz
attribute [local simp] F0 setLp
variable {G:Es}
def F4 (d:Int):Int→List Itm→Bool
 | _,[]=>true
 | prev,y :: r=>(decide (1≤y.drawing)&&decide (y.drawing≤9999))&&(decide (1≤y.count)&&decide (y.count≤20)) && !decide (y.drawing=d)&&decide (prev<y.drawing)&&F4 d y.drawing r
def pv (l:List Itm):Nat→Int
 | 0=>0
 | k+1=>((l[k]?).map (·.drawing)).getD 0
theorem Co (x:Issue) (hl:x.items.length<1000000):zP prog G 207 [E4 x] (bv (F4 x.drawing 0 x.items)):=by
 refine zf func207 ntmps207 ?_
 try simp only[E4]
 have hs:=trivial
 repeat' first|(with_reducible first|refine zz ?_|refine zE [0,1,2,3,4,6,7,8,9,47] ?_)|simp -dsimp[hs]
 refine j7 (ι:={ k:Nat // k≤x.items.length∧F4 x.drawing 0 x.items=F4 x.drawing (pv x.items k) (x.items.drop k) }) (fun p=>⟨49,[(1,.one (.ptr 0 0)),(6,.one (.im (.sl (x.items.map l7)))),(7,iv (x.items.length:Int)),(8,iv (p.1:Int))],[.row ((j0 x).map .im)]⟩) (fun p=>x.items.length-p.1) ⟨0,by simp[pv]⟩ (zv [1,6,7,8]) ?_
 rintro⟨k,hk,hno⟩
 simp only[iv,j0,rI,List.map_cons,List.map_nil]
 by_cases hlt:k<x.items.length
 ·have hx:x.items[k]?=some x.items[k]:=by simp[hlt]
  have hw:=zk k
  have hw2:IntKind.i64.wrap ((k:Int)-1)=(k:Int)-1:=u7 (by omega) (by omega)
  have c1:=ah (G:=G) 1 9999 [x.items[k].drawing] (by simp)
  have c2:=ah (G:=G) 1 20 [x.items[k].count] (by simp)
  have hcons:F4 x.drawing 0 x.items=((decide (1≤x.items[k].drawing)&&decide (x.items[k].drawing≤9999))&&(decide (1≤x.items[k].count)&&decide (x.items[k].count≤20)) && !decide (x.items[k].drawing=x.drawing)&&decide (pv x.items k<x.items[k].drawing)&&F4 x.drawing x.items[k].drawing (x.items.drop (k+1))):=by
   rw[hno,List.drop_eq_getElem_cons hlt,F4]
  have hpv1:pv x.items (k+1)=x.items[k].drawing:=by simp[pv,hx]
  by_cases hk0:0<k
  ·have hkx:x.items[k-1]?=some x.items[k-1]:=by simp
   have hcast:(k:Int)-1=((k-1:Nat):Int):=by omega
   have hw3:IntKind.i64.wrap ((k:Int)-1)=((k-1:Nat):Int):=by rw[hw2,hcast]
   have hpv0:pv x.items k=x.items[k-1].drawing:=by
    obtain⟨j,rfl⟩:∃ j,k=j+1:=⟨k-1,by omega⟩
    have:x.items[j]?=some x.items[j]:=by simp
    simp[pv,this]
   rw[hpv0] at hcons
   have hs:=za hx (za hw (za hw3 (za hkx hk0)))
   repeat' first|(with_reducible first|refine zz ?_|refine zr ?_)|simp -dsimp[hs]|refine zq c1 ?_|refine zq c2 ?_|refine zM 4 49 35 [0,1,2,3,4,6,7,8,9,47] ?_|with_reducible refine zE [0,1,2,3,4,6,7,8,9,47] ?_|refine m5 ?_ ?_<;>intro h<;>try simp only[l8] at h|with_reducible refine o4 ?_ ?_<;>intro h<;>have h0:=h<;>(try simp only[l8] at h)<;>have h2:=h<;>(try simp at h2)<;>replace hs:=za h0 (za h (za h2 hs))
   all_goals try clear hs
   all_goals try omega
   all_goals first
    | (refine zn ⟨k+1,by omega,by clear hno;rw[hcons,hpv1];clear hcons;simp_all;try omega⟩ (zw [1,6,7,8] 1))
    | (clear hno;rw[hcons];clear hcons;simp_all;try omega)
  ·have hpv0:pv x.items k=0:=by
    obtain rfl:k=0:=by omega
    rfl
   rw[hpv0] at hcons
   have hs:=za hx (za hw hk0)
   repeat' first|(with_reducible first|refine zz ?_|refine zr ?_)|simp -dsimp[hs]|refine zq c1 ?_|refine zq c2 ?_|refine zM 4 49 35 [0,1,2,3,4,6,7,8,9,47] ?_|with_reducible refine zE [0,1,2,3,4,6,7,8,9,47] ?_|refine m5 ?_ ?_<;>intro h<;>try simp only[l8] at h|with_reducible refine o4 ?_ ?_<;>intro h<;>have h0:=h<;>(try simp only[l8] at h)<;>have h2:=h<;>(try simp at h2)<;>replace hs:=za h0 (za h (za h2 hs))
   all_goals try clear hs
   all_goals try omega
   all_goals first
    | (refine zn ⟨k+1,by omega,by clear hno;rw[hcons,hpv1];clear hcons;simp_all;try omega⟩ (zw [1,6,7,8] 1))
    | (clear hno;rw[hcons];clear hcons;simp_all;try omega)
 ·have hs:=trivial
  repeat' first|(with_reducible first|refine zz ?_|refine zr ?_|refine zE [0,1,2,3,4,6,7,8,9,47] ?_)|simp -dsimp[hs]|refine m5 ?_ ?_<;>intro h<;>try simp only[l8] at h
  all_goals try omega
  rw[hno,List.drop_eq_nil_of_le (by omega)];rfl
end Go.Proofs
namespace Go.Proofs
open Go Go.Ab Tryz
attribute [local simp] F0 setLp
variable {G:Es}
def lb (l:List Int) (x:Int):Nat:=(l.filter fun y=>decide (y<x)).length
theorem oK (l:List Int) (x:Int):lb l x≤l.length:=List.length_filter_le _ _
theorem bR:∀ {l:List Int} {x:Int},l.Pairwise (·≤·)→∀ (i:Nat) (y:Int),l[i]?=some y→(y<x↔i<lb l x)
 | [],x,_,i,y,h=>by simp at h
 | a :: l,x,hs,i,y,h=>by
   simp only[List.pairwise_cons] at hs
   by_cases ha:a<x
   ·have e:lb (a :: l) x=lb l x+1:=by simp[lb,ha]
    rw[e]
    cases i with
    | zero=>simp at h;subst h;simp[ha]
    | succ i =>
      have:=bR (x:=x) hs.2 i y (by simpa using h)
      omega
   ·have hall:∀ z∈l,¬ z<x:=fun z hz=>by have:=hs.1 z hz;omega
    have e:lb (a :: l) x=0:=by
     have hf:l.filter (fun y=>decide (y<x))=[]:=by
      rw[List.filter_eq_nil_iff];intro z hz;simpa using hall z hz
     simp[lb,ha,hf]
    rw[e]
    cases i with
    | zero=>simp at h;subst h;simp[ha]
    | succ i =>
      have:=hall y (List.mem_of_getElem? (by simpa using h))
      omega
theorem vU {l:List Int} {x:Int} (hs:l.Pairwise (·≤·)):x∈l↔l[lb l x]?=some x:=by
 constructor
 ·intro h
  obtain⟨i,hi⟩:=List.mem_iff_getElem?.1 h
  have h1:=bR (x:=x) hs i x hi
  have h2:lb l x≤i:=by omega
  have hlt:=g9 hi
  have h3:l[lb l x]?=some l[lb l x]:=by simp
  have h4:=bR (x:=x) hs _ _ h3
  have h5:l[lb l x]≤x:=by
   by_cases e:lb l x=i
   ·have:l[lb l x]?=some x:=by rw[e];exact hi
    rw[h3] at this;simp at this;omega
   ·have:=(List.pairwise_iff_getElem.1 hs) (lb l x) i (by omega) hlt (by omega)
    have h6:=(List.getElem?_eq_some_iff.1 hi).2
    omega
  rw[h3]
  congr 1
  omega
 ·exact fun h=>List.mem_of_getElem? h
theorem tx:(2:Int) ^ min 1 IntKind.u64.bits=2:=rfl
attribute [simp] tx
theorem BE {n:Int} (h1:0≤n) (h2:n≤18446744073709551615):IntKind.u64.wrap n=n:=IntWalk.u64_in n ⟨h1,h2⟩
theorem uo (l:List Int) (x:Int) (hs:l.Pairwise (·≤·)) (hl:l.length<1000000):zP prog G 139 [H0 l,iv x] (.tup [iv (lb l x),bv (decide (x∈l))]):=by
 refine zf func139 ntmps139 ?_
 try simp only[H0,iv]
 have hlb:=oK l x
 have hs:=trivial
 repeat' first|(with_reducible first|refine zz ?_|refine zE [0,1,4,5,6,7,8,9,15,27] ?_)|simp -dsimp[hs]
 all_goals try clear hs
 refine j7 (ι:={ p:Nat×Nat // p.1≤lb l x∧lb l x≤p.2∧p.2≤l.length }) (fun p=>⟨54,[(0,H0 l),(1,iv x),(6,iv (l.length:Int)),(7,iv (p.1.1:Int)),(8,iv (p.1.2:Int))],[]⟩) (fun p=>p.1.2-p.1.1) ⟨(0,l.length),by simp;omega⟩ (zv [0,1,6,7,8]) ?_
 rintro⟨⟨i,j⟩,h1,h2,h3⟩
 simp only at h1 h2 h3
 simp only[iv,H0]
 have hw1:IntKind.i64.wrap ((i:Int)+(j:Int))=(i:Int)+(j:Int):=u7 (by omega) (by omega)
 have hw2:IntKind.u64.wrap ((i:Int)+(j:Int))=(i:Int)+(j:Int):=BE (by omega) (by omega)
 have hd:((i:Int)+(j:Int)).fdiv 2=(((i+j) / 2:Nat):Int):=by
  rw[Int.fdiv_eq_ediv_of_nonneg _ (by omega)];omega
 have hw3:IntKind.i64.wrap ((((i+j) / 2:Nat):Int))=(((i+j) / 2:Nat):Int):=u7 (by omega) (by omega)
 have hw4:IntKind.i64.wrap ((((i+j) / 2:Nat):Int)+1)=(((i+j) / 2+1:Nat):Int):=u7 (by omega) (by omega)
 by_cases hlt:i<j
 ·generalize hm:(i+j) / 2=m at hd hw3 hw4
  have hx:l[m]?=some l[m]:=by simp
  have hsp:=bR (x:=x) hs m l[m] hx
  have c1:=AC (G:=G) l[m] x
  by_cases hc:l[m]<x
  ·simp only[hc,decide_true] at c1
   have hs:=za hx (za hw1 (za hw2 (za hw3 (za hw4 (za hd hm)))))
   repeat' first|(with_reducible first|refine zz ?_|refine zr ?_|refine zE [0,1,4,5,6,7,8,9,15,27] ?_)|simp -dsimp[hs]|refine zp c1 ?_|refine m5 ?_ ?_<;>intro h<;>try simp only[l8] at h|with_reducible refine o4 ?_ ?_<;>intro h<;>have h0:=h<;>(try simp only[l8] at h)<;>have h2:=h<;>(try simp at h2)<;>replace hs:=za h0 (za h (za h2 hs))
   all_goals try clear hs
   all_goals try omega
   exact zn ⟨(m+1,j),by simp;omega⟩ (zv [0,1,6,7,8])
  ·simp only[hc,decide_false] at c1
   have hs:=za hx (za hw1 (za hw2 (za hw3 (za hw4 (za hd hm)))))
   repeat' first|(with_reducible first|refine zz ?_|refine zr ?_|refine zE [0,1,4,5,6,7,8,9,15,27] ?_)|simp -dsimp[hs]|refine zp c1 ?_|refine m5 ?_ ?_<;>intro h<;>try simp only[l8] at h|with_reducible refine o4 ?_ ?_<;>intro h<;>have h0:=h<;>(try simp only[l8] at h)<;>have h2:=h<;>(try simp at h2)<;>replace hs:=za h0 (za h (za h2 hs))
   all_goals try clear hs
   all_goals try omega
   exact zn ⟨(i,m),by simp;omega⟩ (zv [0,1,6,7,8])
 ·have hi:i=lb l x:=by omega
  subst hi
  have c2:=oQ (G:=G) x
  have hmem:=vU (x:=x) hs
  by_cases hn:lb l x<l.length
  ·have hx:l[lb l x]?=some l[lb l x]:=by simp[hn]
   have c1:=oQ (G:=G) l[lb l x]
   rw[hx] at hmem
   have hs:=za hx (za hlt hn)
   repeat' first|(with_reducible first|refine zz ?_|refine zr ?_|refine zE [0,1,4,5,6,7,8,9,15,27] ?_)|simp -dsimp[hs]|refine zp c1 ?_|refine m5 ?_ ?_<;>intro h<;>try simp only[l8] at h|with_reducible refine o4 ?_ ?_<;>intro h<;>have h0:=h<;>(try simp only[l8] at h)<;>have h2:=h<;>(try simp at h2)<;>replace hs:=za h0 (za h (za h2 hs))
   all_goals try clear hs
   all_goals try omega
   all_goals simp_all
  ·rw[List.getElem?_eq_none (by omega)] at hmem
   have hs:=za hlt hn
   repeat' first|(with_reducible first|refine zz ?_|refine zr ?_|refine zE [0,1,4,5,6,7,8,9,15,27] ?_)|simp -dsimp[hs]|refine m5 ?_ ?_<;>intro h<;>try simp only[l8] at h
   all_goals try clear hs
   all_goals try omega
   all_goals simp_all
end Go.Proofs
namespace Go.Proofs
open Go Go.Ab Tryz
attribute [local simp] F0 setLp
variable {G:Es}
theorem fg (l:List Issue) (x:Int) (hs:(l.map (·.drawing)).Pairwise (·≤·)) (hl:l.length<1000000):zP prog G 141 [.one (.im (.sl (l.map j0))),iv x,.one (.im (.fn (.func 142) []))] (.tup [iv (lb (l.map (·.drawing)) x),bv (decide (x∈l.map (·.drawing)))]):=by
 refine zf func141 ntmps141 ?_
 try simp only[iv]
 have hlb:=oK (l.map (·.drawing)) x
 simp only[List.length_map] at hlb
 have hs:=trivial
 repeat' first|(with_reducible first|refine zz ?_|refine zE [0,1,2,6,7,8,9,10,11,17,31] ?_)|simp -dsimp[hs]
 all_goals try clear hs
 refine j7 (ι:={ p:Nat×Nat // p.1≤lb (l.map (·.drawing)) x∧lb (l.map (·.drawing)) x≤p.2∧p.2≤l.length }) (fun p=>⟨49,[(0,.one (.im (.sl (l.map j0)))),(1,iv x),(2,.one (.im (.fn (.func 142) []))),(8,iv (l.length:Int)),(9,iv (p.1.1:Int)),(10,iv (p.1.2:Int))],[]⟩) (fun p=>p.1.2-p.1.1) ⟨(0,l.length),by simp;omega⟩ (zv [0,1,2,8,9,10]) ?_
 rintro⟨⟨i,j⟩,h1,h2,h3⟩
 simp only at h1 h2 h3
 simp only[iv,H0]
 have hw1:IntKind.i64.wrap ((i:Int)+(j:Int))=(i:Int)+(j:Int):=u7 (by omega) (by omega)
 have hw2:IntKind.u64.wrap ((i:Int)+(j:Int))=(i:Int)+(j:Int):=BE (by omega) (by omega)
 have hd:((i:Int)+(j:Int)).fdiv 2=(((i+j) / 2:Nat):Int):=by
  rw[Int.fdiv_eq_ediv_of_nonneg _ (by omega)];omega
 have hw3:IntKind.i64.wrap ((((i+j) / 2:Nat):Int))=(((i+j) / 2:Nat):Int):=u7 (by omega) (by omega)
 have hw4:IntKind.i64.wrap ((((i+j) / 2:Nat):Int)+1)=(((i+j) / 2+1:Nat):Int):=u7 (by omega) (by omega)
 by_cases hlt:i<j
 ·generalize hm:(i+j) / 2=m at hd hw3 hw4
  have hx:l[m]?=some l[m]:=by simp
  have hsp:=bR (x:=x) hs m l[m].drawing (by simp[hx])
  have c1:=kR (G:=G) l[m] x
  by_cases hc:l[m].drawing<x
  ·have hcm:cz l[m].drawing x=-1:=by simp[cz,hc]
   rw[hcm] at c1
   have hs:=za hx (za hw1 (za hw2 (za hw3 (za hw4 (za hd hm)))))
   repeat' first|(with_reducible first|refine zz ?_|refine zr ?_|refine zE [0,1,2,6,7,8,9,10,11,17,31] ?_)|simp -dsimp[hs]|refine zp c1 ?_|refine m5 ?_ ?_<;>intro h<;>try simp only[l8] at h|with_reducible refine o4 ?_ ?_<;>intro h<;>have h0:=h<;>(try simp only[l8] at h)<;>have h2:=h<;>(try simp at h2)<;>replace hs:=za h0 (za h (za h2 hs))
   all_goals try clear hs
   all_goals try omega
   exact zn ⟨(m+1,j),by simp;omega⟩ (zv [0,1,2,8,9,10])
  ·have hcm:¬ cz l[m].drawing x<0:=by simp only[cz,hc,if_false];split<;>omega
   generalize cz l[m].drawing x=q at c1 hcm
   have hs:=za hx (za hw1 (za hw2 (za hw3 (za hw4 (za hd hm)))))
   repeat' first|(with_reducible first|refine zz ?_|refine zr ?_|refine zE [0,1,2,6,7,8,9,10,11,17,31] ?_)|simp -dsimp[hs]|refine zp c1 ?_|refine m5 ?_ ?_<;>intro h<;>try simp only[l8] at h|with_reducible refine o4 ?_ ?_<;>intro h<;>have h0:=h<;>(try simp only[l8] at h)<;>have h2:=h<;>(try simp at h2)<;>replace hs:=za h0 (za h (za h2 hs))
   all_goals try clear hs
   all_goals try omega
   exact zn ⟨(i,m),by simp;omega⟩ (zv [0,1,2,8,9,10])
 ·have hi:i=lb (l.map (·.drawing)) x:=by omega
  subst hi
  have hmem:=vU (x:=x) hs
  by_cases hn:lb (l.map (·.drawing)) x<l.length
  ·have hx:l[lb (l.map (·.drawing)) x]?=some l[lb (l.map (·.drawing)) x]:=by simp[hn]
   have c1:=kR (G:=G) l[lb (l.map (·.drawing)) x] x
   have hq:decide (cz l[lb (l.map (·.drawing)) x].drawing x=0)=decide (x∈l.map (·.drawing)):=by
    rw[decide_eq_decide,hmem,List.getElem?_map,hx]
    simp only[cz,Option.map_some,Option.some.injEq]
    split<;>(try split)<;>omega
   generalize cz l[lb (l.map (·.drawing)) x].drawing x=q at c1 hq
   have hs:=za hx (za hlt hn)
   repeat' first|(with_reducible first|refine zz ?_|refine zr ?_|refine zE [0,1,2,6,7,8,9,10,11,17,31] ?_)|simp -dsimp[hs]|refine zp c1 ?_|refine m5 ?_ ?_<;>intro h<;>try simp only[l8] at h
   all_goals try clear hs
   all_goals try omega
   all_goals simp_all
  ·rw[List.getElem?_eq_none (by simp;omega)] at hmem
   have hs:=za hlt hn
   repeat' first|(with_reducible first|refine zz ?_|refine zr ?_|refine zE [0,1,2,6,7,8,9,10,11,17,31] ?_)|simp -dsimp[hs]|refine m5 ?_ ?_<;>intro h<;>try simp only[l8] at h
   all_goals try clear hs
   all_goals try omega
   all_goals simp_all
def A2 (l:List Issue) (ds:List Int):IC:=.ip [.sl (l.map j0),.sl (ds.map encI)]
theorem wn (l:List Issue) (ds:List Int) (n:Int) (hs:ds.Pairwise (·≤·)) (hl:ds.length<1000000):zP prog G 104 [.one (.im (A2 l ds)),iv n] (bv (decide (n∈ds))):=by
 refine zf func104 ntmps104 ?_
 try simp only[iv]
 have c1:=uo (G:=G) ds n hs hl
 simp only[A2]
 have hs:=trivial
 repeat' first|(with_reducible first|refine zz ?_|refine zr ?_|refine zE [0,1,4,6] ?_)|simp -dsimp[hs]|refine zp c1 ?_
 all_goals try clear hs
theorem kD (b:IC) (n:Int):zP prog G 106 [.one (.im b),iv n] (.one (.im (.fn (.func 140) [.ip [b],.ip [rI n]]))):=by
 refine zf func106 ntmps106 ?_
 try simp only[iv]
 repeat' first|(with_reducible first|refine zz ?_|refine zx ?_|refine zE [0,1,2,3,4] ?_)|simp -dsimp
end Go.Proofs
namespace Go.Ab
open Go
@[simp] theorem zO {α:Type} (objs:List DObj) (l:List α) (f:α→List IC) (k sz:Nat) (h:k≤l.length) (hf:∀ x,(f x).length=sz) :
 F0 objs (.im (.sl (l.map f))) (k:Int) none sz=some (.im (.sl ((l.drop k).map f))):=by
 simp only[F0,Option.getD_none,List.length_map,Int.toNat_natCast,Int.natCast_eq_zero]
 rw[if_pos (by omega)]
 split
 ·rename_i hk;subst hk
  simp[List.take_of_length_le]
 ·by_cases hk:k<l.length
  ·simp[hk,hf,List.take_of_length_le,List.map_drop]
  ·have he:k=l.length:=by omega
   subst he
   simp
@[simp] theorem zN {α:Type} (objs:List DObj) (l:List α) (f:α→List IC) (k sz:Nat) (h:k≤l.length) :
 F0 objs (.im (.sl (l.map f))) 0 (some (k:Int)) sz=some (.im (.sl ((l.take k).map f))):=by
 simp only[F0,Option.getD_some,List.length_map,Int.toNat_natCast]
 rw[if_pos (by omega),if_pos trivial,List.map_take]
theorem qS (objs:List DObj) (o g off len:Nat) (lo:Int) (hi:Option Int) (sz:Nat):F0 objs (.vec o g off len) lo hi sz=if 0≤lo∧lo≤hi.getD len∧hi.getD len≤len then match objs[o]? with
 | some (.vec z _ g' _)=>if g=g'∧(z=sz∨len=0) then some (.vec o g (off+lo.toNat) ((hi.getD len).toNat-lo.toNat)) else none
 | _=>none
 else none:=rfl
attribute [simp] qS
def LoopD.at (r:LoopD) (st:LoopState) (pend:Option Code):LoopD:={ r with st:=st,pend:=pend }
theorem LoopD.at_st (r:LoopD) (st:LoopState) (pend:Option Code):(r.at st pend).st=st:=rfl
theorem LoopD.at_pend (r:LoopD) (st:LoopState) (pend:Option Code):(r.at st pend).pend=pend:=rfl
theorem LoopD.at_nt (r:LoopD) (st:LoopState) (pend:Option Code):(r.at st pend).nt=r.nt:=rfl
theorem LoopD.at_tm (r:LoopD) (st:LoopState) (pend:Option Code):(r.at st pend).tm=r.tm:=rfl
theorem LoopD.at_ps (r:LoopD) (st:LoopState) (pend:Option Code):(r.at st pend).ps=r.ps:=rfl
theorem LoopD.at_asg (r:LoopD) (st:LoopState) (pend:Option Code):(r.at st pend).asg=r.asg:=rfl
theorem LoopD.at_body (r:LoopD) (st:LoopState) (pend:Option Code):(r.at st pend).body=r.body:=rfl
theorem LoopD.at_at (r:LoopD) (st st':LoopState) (pend pend':Option Code):(r.at st pend).at st' pend'=r.at st' pend':=rfl
attribute [simp] LoopD.at_st LoopD.at_pend LoopD.at_nt LoopD.at_tm LoopD.at_ps LoopD.at_asg LoopD.at_body LoopD.at_at
theorem vq (objs:List DObj) (o:Nat) (st:LoopState) (pend:Option Code):setLp objs o st pend=match objs[o]? with
 | some (.loop r)=>objs.set o (.loop (r.at st pend))
 | _=>objs:=rfl
attribute [simp] vq
theorem Z5 {P:Program} {G:Es} {o:Nat} {xs:List DV} {objs:List DObj} {C:DV→List DObj→Prop} {t:Tok C} (h:W8 P G o xs objs C objs[o]?):ld P G o xs objs C t:=h
theorem ee {P:Program} {G:Es} {o m:Nat} {body:Code} {C:DV→List DObj→Prop} {A:DS→Prop} {Q:Exit→DS→Prop} {t:Tok (U3 (fun S'=>A S'∧Bl P G o m body C S') Q)} {S:DS} (h1:A S)
 (h2:DT P G ⟨m,some o⟩ body { S with objs:=setLp S.objs o .busy none } (nJ o C)):At (U3 (fun S'=>A S'∧Bl P G o m body C S') Q) .normal t S:=⟨h1,h2⟩
end Go.Ab
namespace Go.Proofs
open Go Go.Ab Tryz
variable {G:Es}
theorem qg {l:List Issue} {d:Int} (hs:(l.map (·.drawing)).Pairwise (·≤·)):∀ x∈l.drop (lb (l.map (·.drawing)) d),d≤x.drawing:=by
 intro x hx
 obtain⟨i,hi⟩:=List.mem_iff_getElem?.1 hx
 rw[List.getElem?_drop] at hi
 have:=bR (x:=d) hs _ x.drawing (by rw[List.getElem?_map,hi];rfl)
 omega
theorem qf {l:List Issue} {d:Int} (hs:(l.map (·.drawing)).Pairwise (·≤·)):∀ x∈l.take (lb (l.map (·.drawing)) d),x.drawing<d:=by
 intro x hx
 obtain⟨i,hi⟩:=List.mem_iff_getElem?.1 hx
 have hlt:i<lb (l.map (·.drawing)) d:=by
  have:=(List.getElem?_eq_some_iff.1 hi).1
  simp at this;omega
 rw[List.getElem?_take_of_lt hlt] at hi
 exact(bR (x:=d) hs i x.drawing (by rw[List.getElem?_map,hi];rfl)).2 hlt
theorem vu {l:List Issue} {d:Int} (lt:Int) (hs:(l.map (·.drawing)).Pairwise (·≤·)):A1 l d lt=A1 (l.drop (lb (l.map (·.drawing)) d)) d lt:=by
 conv=>lhs;rw[← List.take_append_drop (lb (l.map (·.drawing)) d) l]
 simp only[A1,List.find?_append]
 rw[List.find?_eq_none.2 fun x hx=>?_]
 ·rfl
 ·have:=qf hs x hx
  simp;omega
theorem sC (l:List Issue) (ds:List Int) (d lt:Int) (hs:(l.map (·.drawing)).Pairwise (·≤·)) (hl:l.length<1000000):zP prog G 49 [.one (.im (A2 l ds)),D7 d lt] (.tup [E4 ((A1 l d lt).getD R6),bv (A1 l d lt).isSome]):=by
 refine zf func49 ntmps49 ?_
 try simp only[D7]
 simp only[D7,A2]
 have c1:=kD (G:=G) (A2 l ds) d
 simp only[A2] at c1
 have hs:=trivial
 repeat' first|(with_reducible first|refine zz ?_|refine zE [0,1,3,4,5,6,10,11,15] ?_)|simp -dsimp[hs]|refine zp c1 ?_
 all_goals try clear hs
 refine R2 (f:=140) (by simp;exact rfl) (by rfl) call140 ?_
 generalize hR:LoopD.mk _ _ _ _ _ _ _=R
 have hR1:R.st=.ready:=by rw[← hR]
 have hR2:R.pend=none:=by rw[← hR]
 have hR3:R.at .ready none=R:=by rw[← hR];rfl
 have hR4:=(congrArg LoopD.nt hR).symm
 have hR5:=(congrArg LoopD.tm hR).symm
 have hR6:=(congrArg LoopD.ps hR).symm
 have hR7:=(congrArg LoopD.asg hR).symm
 have hR8:=(congrArg LoopD.body hR).symm
 dsimp only at hR4 hR5 hR6 hR7 hR8
 clear hR
 refine l5 func140 rfl ntmps140 (by simp) rfl ?_
 have hR9:∀ objs:List DObj,(R.tm.map fun x=>(x.1,aK 6 objs x.2))=R.tm:=by intro objs;rw[hR5];simp
 have hlb:=oK (l.map (·.drawing)) d
 rw[List.length_map] at hlb
 have c2:=fg (G:=G) l d hs hl
 have hs:=za hR1 (za hR2 (za hR3 hlb))
 repeat' first|with_reducible refine zz ?_|simp -dsimp[hs]|refine zq c2 ?_|refine zM 0 41 12 [0,1,2,4,7,24,25,26,27,39] ?_|with_reducible refine zE [0,1,2,3,4,5,6,7,10,11,15,24,25,26,27,39] ?_
 all_goals try clear hs
 rw[← List.map_drop]
 have hge:=qg (d:=d) hs
 have hfs:=vu (d:=d) lt hs
 have hss:((l.drop (lb (l.map (·.drawing)) d)).map (·.drawing)).Pairwise (·≤·):=by rw[List.map_drop];exact hs.drop
 have hsl:l.length-lb (l.map (·.drawing)) d=(l.drop (lb (l.map (·.drawing)) d)).length:=by simp
 rw[hsl]
 have hsl2:(l.drop (lb (l.map (·.drawing)) d)).length<1000000:=by simp;omega
 generalize l.drop (lb (l.map (·.drawing)) d)=s at hge hfs hss hsl2 ⊢
 refine j7 (ι:={ k:Nat // k≤s.length∧A1 l d lt=A1 (s.drop k) d lt }) (fun p=>⟨41,[(0,.one (.yld 5)),(2,.one (.im (.ip [rI d]))),(24,.one (.im (.sl (s.map j0)))),(25,iv (s.length:Int)),(26,iv (p.1:Int))],[.row [.im (rI d),.im (rI lt)],.vec 0 [] 0 true,.vec 0 [] 0 true,.row ((rI 0 :: rI 0 :: [IC.raw (.int .u8 0)]).map .im++[.vec 1 0 0 0,.vec 2 0 0 0]),.row [.im (rB false)],.loop R]⟩) (fun p=>s.length-p.1) ⟨0,by simp[hfs]⟩ (zv [0,2,24,25,26]) ?_
 rintro⟨k,hk,hno⟩
 simp only[iv]
 by_cases hlt:k<s.length
 ·have hx:s[k]?=some s[k]:=by simp[hlt]
  have hw:=zk k
  have hcons:A1 l d lt=if (s[k].drawing==d&&s[k].letter==lt)=true then some s[k] else A1 (s.drop (k+1)) d lt:=by
   rw[hno,List.drop_eq_getElem_cons hlt]
   simp only[A1,List.find?_cons]
   split<;>simp_all
  by_cases hd:s[k].drawing=d
  ·have c3:=nY (G:=G) s[k]
   simp only[Aj,E4,j0,rI,List.map_cons,List.map_nil,hd] at c3
   have hs:=za hR1 (za hR2 (za hR3 (za hx (za hw (za hd hlt)))))
   repeat' first|(with_reducible first|refine zz ?_|refine zr ?_ (by simp -dsimp[A6,hs];exact rfl))|simp -dsimp[A6,hs]|with_reducible refine At.yield_end ?_;simp -dsimp[hs]|with_reducible refine At.yield_ret ?_;simp -dsimp[hs]|refine ee ?_ ?_<;>simp -dsimp[hs]|refine Z5 ?_;simp -dsimp[W8,hR4,hR5,hR6,hR7,hR8,hs]|with_reducible show A6 _ _ _ _ _ _ _ _;simp -dsimp[A6,hs]|refine zq c3 ?_|refine zM 3 18 4 [0,1,3,4,5,6,10,11,15] ?_|with_reducible refine zE [0,1,2,3,4,5,6,7,10,11,15,24,25,26,27,39] ?_|refine m5 ?_ ?_<;>intro h<;>try simp only[l8] at h
   all_goals try clear hs
   ·have h:s[k].letter=lt:=by assumption
    have hf:A1 l d lt=some s[k]:=by rw[hcons,if_pos (by simp[hd,h])]
    simp[hf,hd]
   ·have h:¬ s[k].letter=lt:=by assumption
    have hf:A1 l d lt=A1 (s.drop (k+1)) d lt:=by rw[hcons,if_neg (by simp[hd,h])]
    exact zn ⟨k+1,by omega,hf⟩ (zw [0,2,24,25,26] 6 (by simp[hR9]))
  ·have hnone:A1 l d lt=none:=by
    rw[hno,A1,List.find?_eq_none]
    intro x hxm
    obtain⟨i,hi⟩:=List.mem_iff_getElem?.1 hxm
    rw[List.getElem?_drop] at hi
    have h1:s[k].drawing≤x.drawing:=by
     rcases Nat.eq_zero_or_pos i with rfl|hp
     ·rw[Nat.add_zero,hx] at hi;cases hi;exact Int.le_refl _
     ·have hlt2:=(List.getElem?_eq_some_iff.1 hi).1
      have:=(List.pairwise_iff_getElem.1 hss) k (k+i) (by simpa using hlt) (by simpa using hlt2) (by omega)
      have h6:=(List.getElem?_eq_some_iff.1 hi).2
      simp at this;rw[h6] at this;exact this
    have h2:=hge s[k] (List.getElem_mem hlt)
    simp;omega
   have hs:=za hR1 (za hR2 (za hR3 (za hx (za hw (za hd hlt)))))
   repeat' first|(with_reducible first|refine zz ?_|refine zr ?_ (by simp -dsimp[A6,hs];exact rfl)|refine zE [0,1,2,3,4,5,6,7,10,11,15,24,25,26,27,39] ?_)|simp -dsimp[A6,hs]|with_reducible show A6 _ _ _ _ _ _ _ _;simp -dsimp[A6,hs]|refine m5 ?_ ?_<;>intro h<;>try simp only[l8] at h
   all_goals try clear hs
   all_goals simp[hnone,R6]
 ·have hnone:A1 l d lt=none:=by rw[hno,List.drop_eq_nil_of_le (by omega)];rfl
  have hs:=za hR1 (za hR2 (za hR3 hlt))
  repeat' first|(with_reducible first|refine zz ?_|refine zr ?_ (by simp -dsimp[A6,hs];exact rfl)|refine ze ?_ (by simp -dsimp[A6,hs];exact rfl)|refine zE [0,1,2,3,4,5,6,7,10,11,15,24,25,26,27,39] ?_)|simp -dsimp[A6,hs]|with_reducible show A6 _ _ _ _ _ _ _ _;simp -dsimp[A6,hs]|refine m5 ?_ ?_<;>intro h<;>try simp only[l8] at h
  all_goals try clear hs
  all_goals simp[hnone,R6]
end Go.Proofs
namespace Go.Ab
open Go
def kI (n:Int):List Value:=[.int .i64 n]
def n7 (m:List (Int×Int)) (n:Int):Int:=match m with
 | []=>0
 | p :: r=>if p.1=n then p.2 else n7 r n
def N1 (n v:Int):List (Int×Int)→List (Int×Int)
 | []=>[(n,v)]
 | p :: r=>if p.1=n then (n,v) :: r else p :: N1 n v r
def N2 (m:List (Int×Int)):List (List Value×List DC):=m.map fun p=>(kI p.1,[.im (rI p.2)])
def R4 (m:List (Int×Int)):List (List Value×List IC):=m.map fun p=>(kI p.1,[rI p.2])
def L0 (l:List Int):List (List Value×List DC):=l.map fun n=>(kI n,[.im (rB true)])
def pc (l:List Int):List (List Value×List IC):=l.map fun n=>(kI n,[rB true])
def qd (n:Int) (l:List Int):List Int:=if n∈l then l else l++[n]
theorem bc (n m:Int):B1 [.int .i64 n] (kI m)=decide (m=n):=by
 simp only[kI,B1,Bool.and_true]
 rw[Bool.eq_iff_iff];simp[eq_comm]
@[simp] theorem CY (m:List (Int×Int)) (n:Int):aC [.int .i64 n] (N2 m) [.im (.raw (.int .i64 0))]=[.im (.raw (.int .i64 (n7 m n)))]:=by
 induction m with
 | nil=>rfl
 | cons p r ih =>
   have e:N2 (p :: r)=(kI p.1,[.im (rI p.2)]) :: N2 r:=rfl
   rw[e]
   simp only[aC,bu,n7,bc,decide_eq_true_eq] at ih ⊢
   split
   ·rfl
   ·exact ih
@[simp] theorem CU (m:List (Int×Int)) (n v:Int):S6 [.int .i64 n] [.im (.raw (.int .i64 v))] (N2 m)=N2 (N1 n v m):=by
 induction m with
 | nil=>rfl
 | cons p r ih =>
   have e:N2 (p :: r)=(kI p.1,[.im (rI p.2)]) :: N2 r:=rfl
   rw[e]
   simp only[S6,N1,bc,decide_eq_true_eq] at ih ⊢
   split
   ·rfl
   ·rw[ih];rfl
@[simp] theorem CX (l:List Int) (n:Int):aC [.int .i64 n] (L0 l) [.im (.raw (.bool false))]=[.im (.raw (.bool (decide (n∈l))))]:=by
 induction l with
 | nil=>rfl
 | cons p r ih =>
   have e:L0 (p :: r)=(kI p,[.im (rB true)]) :: L0 r:=rfl
   rw[e]
   simp only[aC,bu,bc,decide_eq_true_eq] at ih ⊢
   split
   ·rename_i h;simp[h]
   ·rename_i h
    rw[ih]
    have:(n∈p :: r)=(n∈r):=propext ⟨fun h'=>(List.mem_cons.1 h').resolve_left fun e=>h e.symm,List.mem_cons_of_mem _⟩
    simp only[this]
@[simp] theorem CT (l:List Int) (n:Int):S6 [.int .i64 n] [.im (.raw (.bool true))] (L0 l)=L0 (qd n l):=by
 have gen:∀ l:List Int,(n∈l→S6 [.int .i64 n] [.im (.raw (.bool true))] (L0 l)=L0 l)∧(n∉l→S6 [.int .i64 n] [.im (.raw (.bool true))] (L0 l)=L0 (l++[n])):=by
  intro l
  induction l with
  | nil=>exact⟨fun h=>by simp at h,fun _=>rfl⟩
  | cons p r ih =>
    have e:L0 (p :: r)=(kI p,[.im (rB true)]) :: L0 r:=rfl
    rw[e]
    simp only[S6,bc,decide_eq_true_eq]
    constructor
    ·intro h
     split
     ·rename_i hp;rw[hp];rfl
     ·rename_i hp
      rw[ih.1 ((List.mem_cons.1 h).resolve_left fun e=>hp e.symm)]
    ·intro h
     rw[if_neg fun e=>h (by simp[e]),ih.2 fun e=>h (by simp[e])];rfl
 unfold qd
 split
 ·exact(gen l).1 ‹_›
 ·exact(gen l).2 ‹_›
@[simp] theorem Da (l:List Int) (n:Int):fQ [.int .i64 n] (L0 l)=L0 (l.erase n):=by
 induction l with
 | nil=>rfl
 | cons p r ih =>
   have e:L0 (p :: r)=(kI p,[.im (rB true)]) :: L0 r:=rfl
   rw[e]
   simp only[fQ,bc,decide_eq_true_eq]
   split
   ·rename_i h;subst h;simp
   ·rename_i h
    rw[ih,List.erase_cons_tail (by simpa using h)];rfl
@[simp] theorem Ck (l:List Int):(L0 l).length=l.length:=by simp[L0]
@[simp] theorem Cl (l:List (Int×Int)):(N2 l).length=l.length:=by simp[N2]
@[simp] theorem AI (m:List (Int×Int)):ga (R4 m)=N2 m:=by simp[ga,R4,N2]
@[simp] theorem AH (l:List Int):ga (pc l)=L0 l:=by simp[ga,pc,L0]
@[simp] theorem De (k n:Nat) (objs:List DObj) (m:List (Int×Int)):G2 (fun x:List Value×List DC=>(G2 (frz (k+1) n objs) x.2).map fun l=>(x.1,l)) (N2 m)=some (R4 m):=by
 induction m with
 | nil=>rfl
 | cons p r ih =>
   have e:N2 (p :: r)=(kI p.1,[.im (rI p.2)]) :: N2 r:=rfl
   rw[e]
   simp[G2,ih,R4]
@[simp] theorem Dc (k n:Nat) (objs:List DObj) (l:List Int):G2 (fun x:List Value×List DC=>(G2 (frz (k+1) n objs) x.2).map fun l=>(x.1,l)) (L0 l)=some (pc l):=by
 induction l with
 | nil=>rfl
 | cons p r ih =>
   have e:L0 (p :: r)=(kI p,[.im (rB true)]) :: L0 r:=rfl
   rw[e]
   simp[G2,ih,pc]
@[simp] theorem BW (n:Nat) (objs:List DObj) (m:List (Int×Int)):((N2 m).map fun x=>(x.1,x.2.map (fz n objs)))=N2 m:=by
 simp[N2,fz,DC.lt]
@[simp] theorem BU (n:Nat) (objs:List DObj) (l:List Int):((L0 l).map fun x=>(x.1,x.2.map (fz n objs)))=L0 l:=by
 simp[L0,fz,DC.lt]
end Go.Ab
