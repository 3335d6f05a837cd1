/- Part 12 of the proofs. -/
import Derived.Test.YtjodaihiogfkbaaGreatDoorV08
import Derived.Test.YtjodaihiogfkbaaGreatDoorV11
set_option linter.all false
set_option linter.deprecated false
set_option maxHeartbeats 100000000
namespace Go.Ab
open Go
structure Dim where
 nominal:Int
 lower:Int
 upper:Int
 deriving DecidableEq
structure Itm where
 drawing:Int
 count:Int
 deriving DecidableEq
structure Issue where
 drawing:Int
 letter:Int
 kind:Int
 items:List Itm
 dims:List Dim
 deriving DecidableEq
def rI (n:Int):IC:=.raw (.int .i64 n)
def rB (b:Bool):IC:=.raw (.bool b)
def B0 (d:Dim):List IC:=[rI d.nominal,rI d.lower,rI d.upper]
def A4 (x:Itm):List IC:=[rI x.drawing,rI x.count]
def g9 (x:Issue):List IC:=[rI x.drawing,rI x.letter,.raw (.int .u8 x.kind),.sl (x.items.map A4),.sl (x.dims.map B0)]
def encI (n:Int):List IC:=[rI n]
def iv (n:Int):DV:=.one (.im (.raw (.int .i64 n)))
def bv (b:Bool):DV:=.one (.im (.raw (.bool b)))
def s6 (l:List Int):DV:=.one (.im (.sl (l.map encI)))
def G7 (l:List Issue):DV:=.agg [.im (.sl (l.map g9))]
attribute [simp] iv bv s6 G7 rI rB B0 A4 g9 encI
attribute [simp] ow gl jN Z7 jK gp jL gq oq ou jM eT np E5 eW gU
attribute [simp] qE H2 Z6 gu j5 Z4 o4 DS.put C6 C8 gT wo Fm om qc kY kX sM bQ ot zQ bT rz DV.cells dY F9 zcells bn P9 aj dw P7 DS.keep Bc A9 K9 oo L6 cI eY fzVL W9
theorem T5 {p:Prop} {Q:Exit→DS→Prop} {e:Exit} {t:Tok Q} {S:DS} (h:p→At Q e t S):p→At Q e t S:=h
theorem wl (objs:List DObj) (l:List (List IC)):dn objs (.im (.sl l))=some (l8 l):=rfl
theorem sJ (objs:List DObj) (o g off len:Nat):dn objs (.vec o g off len)=match objs[o]? with
 | some (.vec _ es g' _)=>if g=g'∧off+len≤es.length then some ((es.drop off).take len) else none
 | _=>none:=by unfold dn;rfl
attribute [simp] wl sJ
attribute [simp] ImV.one
theorem Dr (l:List DC):ImV (.agg l)↔∀ d∈l,∃ c,d=.im c:=⟨fun h=>by cases h;assumption,.agg l⟩
theorem Dq (l:List DV):ImV (.tup l)↔∀ d∈l,ImV d:=⟨fun h=>by cases h;assumption,.tup l⟩
attribute [simp] Dr Dq
attribute [simp] CO CN cO e9 A1 vi Dj P8 Op.operands Call.operands
attribute [simp] qS AM lS HM pick br lu iJ ol eK
attribute [simp] Cp eU p6 zg vu EQ jE Q6 DS.drop S8 qR
theorem Iy (a b:Int):(a==b)=decide (a=b):=by by_cases h:a=b<;>simp[h]
theorem Ix (a b:Int):(a != b)=!decide (a=b):=by by_cases h:a=b<;>simp[h]
attribute [simp] Iy Ix
theorem EX {n o off:Nat} {objs:List DObj} (h:o<n):fz n objs (.ptr o off)=.ptr o off:=by simp[fz,DC.lt,h]
theorem Fa {n o g i off:Nat} {objs:List DObj} (h:o<n):fz n objs (.ept o g i off)=.ept o g i off:=by simp[fz,DC.lt,h]
theorem EW {n o g off len:Nat} {objs:List DObj} (h:o<n):fz n objs (.vec o g off len)=.vec o g off len:=by simp[fz,DC.lt,h]
theorem yT (x:List IC) (l:List (List IC)):l8 (x :: l)=x.map .im :: l8 l:=rfl
theorem pL (l:List (List IC)) (n:Nat):(∀ e∈l8 l,e.length=n)↔∀ e∈l,e.length=n:=by
 constructor
 ·intro h e he
  have:=h (e.map .im) (by simp only[l8,List.mem_map];exact⟨e,he,rfl⟩)
  simpa using this
 ·exact fun h=>ew h
attribute [simp] pL
theorem xr {α:Type} (f:α→List IC) (l:List α):(l8 (l.map f)).take l.length=l8 (l.map f):=List.take_of_length_le (by simp[p6])
attribute [simp] EX Fa EW yT xr
def yf:Option IC→DC
 | some c=>.im c
 | none=>.dead
theorem CA {n o g off len:Nat} {objs:List DObj} (h:n≤o):fz n objs (.vec o g off len)=yf (frz 20 n objs (.vec o g off len)):=by
 have h1:DC.lt n (.vec o g off len)=false:=by simp[DC.lt];omega
 simp only[fz,h1]
 cases frz 20 n objs (.vec o g off len)<;>rfl
theorem CB {n o off:Nat} {objs:List DObj} (h:n≤o):fz n objs (.ptr o off)=yf (frz 20 n objs (.ptr o off)):=by
 have h1:DC.lt n (.ptr o off)=false:=by simp[DC.lt];omega
 simp only[fz,h1]
 cases frz 20 n objs (.ptr o off)<;>rfl
theorem Fd (k n:Nat) (objs:List DObj) (c:IC):frz (k+1) n objs (.im c)=some c:=rfl
theorem CG (k n o g off len:Nat) (objs:List DObj):frz (k+1) n objs (.vec o g off len)=if n≤o then match objs[o]? with
 | some (.vec _ es g' _)=>if g=g'∧off+len≤es.length then (D4 (D4 (frz k n objs)) ((es.drop off).take len)).map .sl else none
 | _=>none
 else none:=rfl
theorem CH (k n o off:Nat) (objs:List DObj):frz (k+1) n objs (.ptr o off)=if n≤o then match objs[o]? with
 | some (.row c)=>if off≤c.length then (D4 (frz k n objs) (c.drop off)).map .ip else none
 | _=>none
 else none:=rfl
theorem Ht {n:Nat} {f:Fn} {caps:List DC} {objs:List DObj}:fz n objs (.fn f caps)=if DC.ltL n caps=true then .fn f caps else yf (frz 20 n objs (.fn f caps)):=by
 have h1:DC.lt n (.fn f caps)=DC.ltL n caps:=rfl
 simp only[fz,h1]
 split
 ·rfl
 ·cases frz 20 n objs (.fn f caps)<;>rfl
theorem Fe (k n:Nat) (objs:List DObj) (f:Fn) (caps:List DC):frz (k+1) n objs (.fn f caps)=(D4 (frz k n objs) caps).map (.fn f):=rfl
theorem EY {n o:Nat} {objs:List DObj} (h:o<n):fz n objs (.map o)=.map o:=by simp[fz,DC.lt,h]
theorem CD {n o:Nat} {objs:List DObj} (h:n≤o):fz n objs (.map o)=yf (frz 20 n objs (.map o)):=by
 have h1:DC.lt n (.map o)=false:=by simp[DC.lt];omega
 simp only[fz,h1]
 cases frz 20 n objs (.map o)<;>rfl
theorem CI (k n o:Nat) (objs:List DObj):frz (k+1) n objs (.map o)=if n≤o then match objs[o]? with
 | some (.map ks es)=>(D4 (fun x=>(D4 (frz k n objs) x.2).map fun l=>(x.1,l)) es).map (.mp (L3 ks))
 | _=>none
 else none:=rfl
theorem EV {n o:Nat} {objs:List DObj} (h:o<n):fz n objs (.yld o)=.yld o:=by simp[fz,DC.lt,h]
theorem EZ {n o:Nat} {objs:List DObj} (h:o<n):fz n objs (.itr o)=.itr o:=by simp[fz,DC.lt,h]
attribute [simp] Ht Fe EY CD CI EV EZ DC.ltL DC.lt
attribute [simp] yf CA CB Fd CG CH D4
theorem i7:(∀ (p:Prop) [Decidable p],decide p=true↔p)∧(∀ (p:Prop) [Decidable p],decide p=false↔¬p)∧(∀ a b:Bool,(a&&b)=true↔a=true∧b=true)∧(∀ a b:Bool,(a&&b)=false↔a=false∨b=false)∧(∀ a b:Bool,(a||b)=true↔a=true∨b=true)∧(∀ a b:Bool,(a||b)=false↔a=false∧b=false)∧(∀ a:Bool,(!a)=true↔a=false)∧(∀ a:Bool,(!a)=false↔a=true)∧(∀ (α:Type) [BEq α] [LawfulBEq α] (a b:α),(a==b)=true↔a=b)∧(∀ (α:Type) [BEq α] [LawfulBEq α] (a b:α),(a==b)=false↔a≠b)∧(false=true↔False)∧(true=false↔False):=
 ⟨fun _=>decide_eq_true_iff,fun _=>decide_eq_false_iff_not,fun _ _=>Bool.and_eq_true_iff,fun a b=>by cases a<;>cases b<;>decide,fun a b=>by cases a<;>cases b<;>decide,fun a b=>by cases a<;>cases b<;>decide,fun a=>by cases a<;>decide,fun a=>by cases a<;>decide,fun _ _ _ _ _=>beq_iff_eq,fun _ _ _ _ _=>beq_eq_false_iff_ne,by decide,by decide⟩
abbrev uZ:=@At.seq
abbrev Jr:=@At.then_ret
abbrev Gt:=@At.then_exit
abbrev FK:=@At.block_end
abbrev Jq:=@At.block_ret
abbrev Gs:=@At.block_exit
abbrev IQ:=@At.block_out
abbrev JN:=@At.scope_ret
abbrev uY:=@AZ
abbrev BH:=@qO
abbrev JM:=@qM
abbrev Dw:=@uw
abbrev JL:=@qN
abbrev Gr:=@ux
abbrev IP:=@Ba
abbrev za:=@And.intro
class Zs (A:Prop) (B:outParam Prop):Prop where
 go:B→A
theorem zz {A B:Prop} [h:Zs A B] (b:B):A:=h.go b
section
variable {P:Program} {G:JO} {n:Cx} {S:DS} {Q:Exit→DS→Prop}
instance {y:Code}:Zs (At (W9 (fun S'=>DT P G n y S' Q) Q) .normal ⟨⟩ S) (DT P G n y S Q):=⟨At.seq⟩
instance {next:DS→Prop}:Zs (At (W9 next Q) .ret ⟨⟩ S) (At Q .ret ⟨⟩ S):=⟨At.then_ret⟩
instance {next:DS→Prop} {id:Nat}:Zs (At (W9 next Q) (.exit id) ⟨⟩ S) (At Q (.exit id) ⟨⟩ S):=⟨At.then_exit⟩
instance {id:Nat}:Zs (At (W8 id Q) .normal ⟨⟩ S) (At Q .normal ⟨⟩ S):=⟨At.block_end⟩
instance {id:Nat}:Zs (At (W8 id Q) .ret ⟨⟩ S) (At Q .ret ⟨⟩ S):=⟨At.block_ret⟩
instance {id:Nat}:Zs (At (W8 id Q) (.exit id) ⟨⟩ S) (At Q .normal ⟨⟩ S):=⟨At.block_exit⟩
instance :Zs (At (cL Q) .normal ⟨⟩ S) (At Q .normal ⟨⟩ S):=⟨At.scope_end⟩
instance :Zs (At (cL Q) .ret ⟨⟩ S) (At Q .ret ⟨⟩ S):=⟨At.scope_ret⟩
instance {id:Nat}:Zs (At (cL Q) (.exit id) ⟨⟩ S) (At Q (.exit id) ⟨⟩ S):=⟨At.scope_exit⟩
instance {x y:Code}:Zs (DT P G n (.seq x y) S Q) (DT P G n x S (W9 (fun S'=>DT P G n y S' Q) Q)):=⟨AZ⟩
instance {id:Nat} {c:Code}:Zs (DT P G n (.block id c) S Q) (DT P G n c S (W8 id Q)):=⟨qO⟩
instance {c:Code}:Zs (DT P G n (.scope c) S Q) (DT P G n c S (cL Q)):=⟨qM⟩
instance :Zs (DT P G n .skip S Q) (At Q .normal ⟨⟩ S):=⟨uw⟩
instance {l:Nat}:Zs (DT P G n (.label l) S Q) (At Q .normal ⟨⟩ S):=⟨qN⟩
instance {id:Nat}:Zs (DT P G n (.exit id) S Q) (At Q (.exit id) ⟨⟩ S):=⟨ux⟩
instance :Zs (DT P G n .ret S Q) (At Q .ret ⟨⟩ S):=⟨Ba⟩
theorem zx {rs:List ResultVar} {K:DV→List DObj→Prop} {ds:List DV} (hq:K (L6 ds) S.objs) (h:K9 P S rs=some ds:=by simp -dsimp;exact rfl):At (DO P rs K) .ret ⟨⟩ S:=At.fn_ret h hq
theorem zy {rs:List ResultVar} {K:DV→List DObj→Prop} {ds:List DV} (hq:K (L6 ds) S.objs) (h:K9 P S rs=some ds:=by simp -dsimp;exact rfl):At (DO P rs K) .normal ⟨⟩ S:=At.fn_end h hq
theorem zr {rs:List ResultVar} {K:DV→List DObj→Prop} {ds:List DV} (hq:K (L6 ds) S.objs) (h:K9 P S rs=some ds:=by simp -dsimp[hs];exact rfl):At (DO P rs K) .ret ⟨⟩ S:=At.fn_ret h hq
theorem ze {rs:List ResultVar} {K:DV→List DObj→Prop} {ds:List DV} (hq:K (L6 ds) S.objs) (h:K9 P S rs=some ds:=by simp -dsimp[hs];exact rfl):At (DO P rs K) .normal ⟨⟩ S:=At.fn_end h hq
theorem i9 {c:Operand} {x y:Code} {b:Bool} (ht:b=true→DT P G n x S Q) (hf:b=false→DT P G n y S Q) (hc:j5 G S c=some (.one (.im (.raw (.bool b)))):=by exact rfl):DT P G n (.cond c x y) S Q:=N6 hc ht hf
theorem zM {l:List Oper} (id nt nq:Nat) (ks:List Nat)
 (h:Dj P G (l.map (·.dst)) (l.take nq) S (fun S'=>qE P G (l.map (·.dst)) (l.drop nq) S' (fun S''=>At Q .normal ⟨⟩ (S''.keep ks)) ⟨⟩) ⟨⟩) (hm:P.follows .mixedOrders=true:=by exact mixed) (hnt:S.nt=nt:=by rfl) (hB:fH nt nq l=true:=by kernel_rfl):DT P G n (.region id l.toArray true) S Q:=lI nq ks hm hnt hB h
end
abbrev zP (P:Program) (G:JO) (f:FuncId) (av:List DV) (r:DV):Prop:=∀ objs:List DObj,DCall P G f av objs (fun d o=>d=r∧o=objs)
theorem zf {P:Program} {G:JO} {f:FuncId} {fn:Func} {c:Code} {nt:Nat} {args:List DV} {d0:DV} {rs:List ResultVar} (hf:P.funcs[f]?=some fn) (hnt:fn.ntmps=nt) (h:DT P G ⟨([]:List DObj).length,none⟩ c ⟨nt,cI args 0,[]⟩ (DO P rs (fun d o=>eY 0 o d=d0))) (hb:fn.body=some c:=by exact rfl) (hargs:args.length≤nt:=by simp) (hrs:fn.results.toList=rs:=by exact rfl) (ha:∀ d∈args,ImV d:=by simp) (hd:ImV d0:=by simp):zP P G f args d0:=fun objs=>DCall.frame (h9 hf hb hnt hargs hrs h) ha hd objs
abbrev zp:=@CallE.pure
abbrev zt:=@CallE.thaw
abbrev zh:=@CallE.here
abbrev zq:=@lE
abbrev zE:=@B6
theorem zw {G:JO} {n:Cx} {S S':DS} (ks:List Nat) (m:Nat) (h:(S.keep ks).drop m=S':=by simp) (hm:m≤S.objs.length:=by simp) (hn:n.n≤m:=by simp):Weak G n S S':=Weak.of_drop ks m hm hn h
theorem zv {G:JO} {n:Cx} {S S':DS} (ks:List Nat) (h:S.keep ks=S':=by simp):Weak G n S S':=Weak.of_keep ks h
theorem zn {G:JO} {n:Cx} {S:DS} {Q:Exit→DS→Prop} {ι:Type} {I:ι→DS} {m:ι→Nat} {i:ι} (j:ι) (h2:Weak G n S (I j)) (h1:m j<m i:=by first|omega|(simp only;omega)|(simp;omega)):At (W9 (fun S'=>AP G n I m i S') Q) .normal ⟨⟩ S:=At.round j h1 h2
end Go.Ab
namespace Go.Proofs
open Go Go.Ab Tryz
attribute [local simp] D5 setLp
theorem o3 {n:Int} (h1:-9223372036854775808≤n) (h2:n≤9223372036854775807):IntKind.i64.wrap n=n:=IntWalk.i64_in n ⟨h1,h2⟩
theorem zk (k:Nat) (h:k<4611686018427387904:=by omega):IntKind.i64.wrap ((k:Int)+1)=((k+1:Nat):Int):=o3 (by omega) (by omega)
variable {G:JO}
theorem cB (n lo hi:Int) (objs:List DObj):DCall prog G 165 [iv n,iv lo,iv hi] objs (fun d objs'=>d=bv (decide (lo≤n)&&decide (n≤hi))∧objs'=objs):=by
 refine DCall.frame ?_ (by simp) (by simp) objs
 refine h9 func165 rfl ntmps165 (by simp) rfl ?_
 simp only[iv]
 have hs:=trivial
 repeat' first|(with_reducible first|refine zz ?_|refine zr ?_|refine zE [0,1,2,6] ?_)|simp -dsimp[hs]|with_reducible refine j0 ?_ ?_<;>intro h<;>have h0:=h<;>(try simp only[i7] at h)<;>have h2:=h<;>(try simp at h2)<;>replace hs:=za h0 (za h (za h2 hs))
 all_goals simp[bv, *]
def idx (l:List Int) (x:Int):Int:=match l.idxOf? x with|some i=>i|none=>-1
theorem ub {l:List Int} {x:Int} {k:Nat} (h:l[k]?=some x) (hno:∀ j,j<k→l[j]?≠some x):idx l x=k:=by
 have:l.idxOf? x=some k:=by
  rw[List.idxOf?,List.findIdx?_eq_some_iff_getElem]
  obtain⟨hlt,he⟩:=List.getElem?_eq_some_iff.1 h
  refine⟨hlt,by simp[he],fun j hj=>?_⟩
  have:=hno j hj
  rw[List.getElem?_eq_getElem (by omega)] at this
  simpa using this
 simp[idx,this]
theorem yU {l:List Int} {x:Int} (hno:∀ j,j<l.length→l[j]?≠some x):idx l x=-1:=by
 have:l.idxOf? x=none:=by
  rw[List.idxOf?,List.findIdx?_eq_none_iff]
  intro y hy
  obtain⟨j,hj⟩:=List.mem_iff_getElem?.1 hy
  have hlt:=e7 hj
  have:=hno j hlt
  rw[hj] at this
  simpa using this
 simp[idx,this]
theorem nV (l:List Int) (x:Int) (hl:l.length<1000000) (objs:List DObj):DCall prog G 147 [s6 l,iv x] objs (fun d objs'=>d=iv (idx l x)∧objs'=objs):=by
 refine DCall.frame ?_ (by simp) (by simp) objs
 refine h9 func147 rfl ntmps147 (by simp) rfl ?_
 simp only[s6,iv]
 have hs:=trivial
 repeat' first|(with_reducible first|refine zz ?_|refine zE [0,1,4,5,9,17] ?_)|simp -dsimp[hs]
 refine i6 (ι:={ k:Nat // k≤l.length∧∀ j,j<k→l[j]?≠some x }) (fun k=>⟨19,[(0,s6 l),(1,iv x),(4,iv 0),(5,iv (k.1:Int))],[]⟩) (fun k=>l.length-k.1) ⟨0,by simp,by simp⟩ (zv [0,1,4,5] (by simp[s6,iv])) ?_
 rintro⟨k,hk,hno⟩
 simp only[s6,iv]
 by_cases hlt:k<l.length
 ·have hx:l[k]?=some l[k]:=by simp[hlt]
  have hw:=zk k
  have hs:=za hx hw
  repeat' first|(with_reducible first|refine zz ?_|refine zr ?_ (by simp -dsimp[encI,rI,hs];exact rfl)|refine zE [0,1,4,5,9,17] ?_)|simp -dsimp[encI,rI,hs]|refine i9 ?_ ?_<;>intro h<;>try simp only[i7] at h
  all_goals try clear hs
  all_goals try omega
  ·exact(ub (by rw[hx];simp[*]) hno).symm
  ·refine⟨⟨k+1,by omega,fun j hj=>?_⟩,?_,Weak.of_keep [0,1,4,5] (by simp[s6,iv])⟩
   ·by_cases e:j=k
    ·subst e;simp[hx, *]
    ·exact hno j (by omega)
   ·simp;omega
 ·have hs:=trivial
  repeat' first|(with_reducible first|refine zz ?_|refine zr ?_|refine zE [0,1,4,5,9,17] ?_)|simp -dsimp[hs]|refine i9 ?_ ?_<;>intro h<;>try simp only[i7] at h
  all_goals try omega
  exact(yU fun j hj=>hno j (by omega)).symm
end Go.Proofs
namespace Go.Proofs
open Go Go.Ab Tryz
attribute [local simp] D5 setLp
variable {G:JO}
theorem mixed:prog.follows .mixedOrders=true:=by kernel_rfl
def O0 (x:Issue):DV:=.agg ((g9 x).map .im)
attribute [simp] O0
end Go.Proofs
namespace Go.Proofs
open Go Go.Ab
attribute [local simp] D5 setLp
variable {G:JO}
def lD (l:List Issue):Prop:=l.length≤80∧∀ x∈l,x.items.length≤16∧x.dims.length≤8
end Go.Proofs
namespace Go.Proofs
open Go Go.Ab Tryz
attribute [local simp] D5 setLp
variable {G:JO}
instance (l:List Issue):Decidable (lD l):=inferInstanceAs (Decidable (_∧_))
theorem Cz (l:List Issue) (objs:List DObj):DCall prog G 189 [G7 l] objs (fun d objs'=>d=bv (!decide (lD l))∧objs'=objs):=by
 refine DCall.frame ?_ (by simp) (by simp) objs
 refine h9 func189 rfl ntmps189 (by simp) rfl ?_
 simp only[G7,bv]
 have hs:=trivial
 repeat' first|(with_reducible first|refine zz ?_|refine zr ?_|refine zE [0,1,2,3,7,12,32] ?_)|simp -dsimp[hs]|refine i9 ?_ ?_<;>intro h<;>try simp only[i7] at h
 all_goals try clear hs
 ·exact fun hs=>by have:=hs.1;omega
 ·have hl:l.length≤80:=by omega
  refine i6 (ι:={ k:Nat // k≤l.length∧∀ j x,j<k→l[j]?=some x→x.items.length≤16∧x.dims.length≤8 }) (fun p=>⟨33,[(1,.one (.ptr 0 0)),(3,iv (p.1:Int))],[.row [.im (.sl (l.map g9))]]⟩) (fun p=>l.length-p.1) ⟨0,by simp⟩ (zv [1,3] (by simp[iv])) ?_
  rintro⟨k,hk,hno⟩
  simp only[iv]
  by_cases hlt:k<l.length
  ·have hx:l[k]?=some l[k]:=by simp[hlt]
   have hw:=zk k
   have bad:16<l[k].items.length∨8<l[k].dims.length→¬ lD l:=fun h hs=>by have:=hs.2 l[k] (by simp);omega
   have hs:=za hx hw
   repeat' first|(with_reducible first|refine zz ?_|refine zr ?_ (by simp -dsimp[g9,rI,hs];exact rfl)|refine zE [0,1,2,3,7,12,32] ?_)|simp -dsimp[g9,rI,hs]|refine i9 ?_ ?_<;>intro h<;>try simp only[i7] at h|with_reducible refine j0 ?_ ?_<;>intro h<;>have h0:=h<;>(try simp only[i7] at h)<;>have h2:=h<;>(try simp at h2)<;>replace hs:=za h0 (za h (za h2 hs))
   all_goals try clear hs
   all_goals first
    | omega
    | exact bad (by omega)
    | skip
   refine zn ⟨k+1,by omega,fun j x hj hjx=>?_⟩ (zv [1,3])
   by_cases e:j=k
   ·subst e;rw[hx] at hjx;cases hjx;omega
   ·exact hno j x (by omega) hjx
  ·have hs:=hlt
   repeat' first|(with_reducible first|refine zz ?_|refine zr ?_|refine zE [0,1,2,3,7,12,32] ?_)|simp -dsimp[hs]|refine i9 ?_ ?_<;>intro h<;>try simp only[i7] at h
   all_goals try clear hs
   exact⟨hl,fun x hx'=>by
    obtain⟨j,hj⟩:=List.mem_iff_getElem?.1 hx'
    exact hno j x (by have:=e7 hj;omega) hj⟩
end Go.Proofs
namespace Go.Proofs
open Go Go.Ab Tryz
attribute [local simp] D5 setLp
variable {G:JO}
theorem rj (l r:List Int) (hl:l.length<1000000) (objs:List DObj):DCall prog G 25 [s6 l,s6 r] objs (fun d objs'=>d=bv (decide (l=r))∧objs'=objs):=by
 refine DCall.frame ?_ (by simp) (by simp) objs
 refine h9 func25 rfl ntmps25 (by simp) rfl ?_
 simp only[s6,bv]
 have hs:=trivial
 repeat' first|(with_reducible first|refine zz ?_|refine zr ?_|refine zE [0,1,4,5,10,14,25] ?_)|simp -dsimp[hs]|refine i9 ?_ ?_<;>intro h<;>try simp only[i7] at h
 ·rintro rfl;omega
 ·have hlen:l.length=r.length:=by omega
  refine i6 (ι:={ k:Nat // k≤l.length∧∀ j,j<k→l[j]?=r[j]? }) (fun p=>⟨26,[(0,s6 l),(1,s6 r),(5,iv (p.1:Int))],[]⟩) (fun p=>l.length-p.1) ⟨0,by simp⟩ (zv [0,1,5] (by simp[iv,s6])) ?_
  rintro⟨k,hk,hno⟩
  simp only[iv,s6]
  by_cases hlt:k<l.length
  ·have hx:l[k]?=some l[k]:=by simp[hlt]
   have hltr:k<r.length:=by omega
   have hy:r[k]?=some r[k]:=by simp[hltr]
   have hw:=zk k
   have hs:=za hx (za hy hw)
   repeat' first|(with_reducible first|refine zz ?_|refine zr ?_ (by simp -dsimp[encI,rI,hs];exact rfl))|simp -dsimp[encI,rI,hs]|refine zM 6 26 9 [0,1,4,5,10,14,25] ?_|with_reducible refine zE [0,1,4,5,10,14,25] ?_|refine i9 ?_ ?_<;>intro h<;>try simp only[i7] at h
   all_goals try omega
   ·rename_i h
    rintro rfl;exact h rfl
   ·rename_i h
    refine zn ⟨k+1,by omega,fun j hj=>?_⟩ (zv [0,1,5])
    by_cases e:j=k
    ·subst e;rw[hx,hy,h]
    ·exact hno j (by omega)
  ·have hs:=hlt
   repeat' first|(with_reducible first|refine zz ?_|refine zr ?_|refine zE [0,1,4,5,10,14,25] ?_)|simp -dsimp[hs]|refine i9 ?_ ?_<;>intro h<;>try simp only[i7] at h
   refine List.ext_getElem? fun j=>?_
   by_cases hj:j<k
   ·exact hno j hj
   ·rw[List.getElem?_eq_none (by omega),List.getElem?_eq_none (by omega)]
end Go.Proofs
namespace Go.Proofs
open Go Go.Ab
attribute [local simp] D5 setLp
variable {G:JO}
def Jw (l:List Itm):DV:=.one (.im (.sl (l.map A4)))
attribute [simp] Jw
end Go.Proofs
namespace Go.Proofs
open Go Go.Ab
attribute [local simp] D5 setLp
variable {G:JO}
end Go.Proofs
namespace Go.Proofs
open Go Go.Ab
attribute [local simp] D5 setLp
variable {G:JO}
end Go.Proofs
namespace Go.Proofs
open Go Go.Ab Tryz
attribute [local simp] D5 setLp
variable {G:JO}
def J7:Issue:=⟨0,0,0,[],[]⟩
def n8 (l:List Issue) (d lt:Int):Option Issue:=l.find? fun x=>x.drawing==d&&x.letter==lt
def C3 (d lt:Int):DV:=.agg [.im (rI d),.im (rI lt)]
attribute [simp] C3
theorem ss (l:List Issue) (d lt:Int) (hl:l.length<1000000) (objs:List DObj):DCall prog G 171 [G7 l,C3 d lt] objs (fun r objs'=>r=.tup [O0 ((n8 l d lt).getD J7),bv (n8 l d lt).isSome]∧objs'=objs):=by
 refine DCall.frame ?_ (by simp) (by simp) objs
 refine h9 func171 rfl ntmps171 (by simp) rfl ?_
 simp only[G7,C3,bv,O0]
 have hs:=trivial
 repeat' first|(with_reducible first|refine zz ?_|refine zE [0,1,2,3,4,5,6,7,12,31] ?_)|simp -dsimp[hs]
 refine i6 (ι:={ k:Nat // k≤l.length∧n8 l d lt=n8 (l.drop k) d lt }) (fun p=>⟨34,[(2,.one (.ptr 0 0)),(3,.one (.ptr 1 0)),(4,.one (.ptr 4 0)),(6,iv (p.1:Int))],[.row [.im (.sl (l.map g9))],.row [.im (rI d),.im (rI lt)],.vec 0 [] 0 true,.vec 0 [] 0 true,.row ((rI 0 :: rI 0 :: [IC.raw (.int .u8 0)]).map .im++[.vec 2 0 0 0,.vec 3 0 0 0])]⟩) (fun p=>l.length-p.1) ⟨0,by simp⟩ (zv [2,3,4,6] (by simp[iv,rI])) ?_
 rintro⟨k,hk,hno⟩
 simp only[iv]
 by_cases hlt:k<l.length
 ·have hx:l[k]?=some l[k]:=by simp[hlt]
  have hw:=zk k
  have hcons:n8 l d lt=if (l[k].drawing==d&&l[k].letter==lt)=true then some l[k] else n8 (l.drop (k+1)) d lt:=by
   rw[hno,List.drop_eq_getElem_cons hlt]
   simp only[n8,List.find?_cons]
   split<;>simp_all
  have hs:=za hx hw
  repeat' first|(with_reducible first|refine zz ?_|refine zr ?_ (by simp -dsimp[g9,rI,hs];exact rfl)|refine zE [0,1,2,3,4,5,6,7,12,31] ?_)|simp -dsimp[g9,rI,hs]|refine i9 ?_ ?_<;>intro h<;>try simp only[i7] at h|with_reducible refine j0 ?_ ?_<;>intro h<;>have h0:=h<;>(try simp only[i7] at h)<;>have h2:=h<;>(try simp at h2)<;>replace hs:=za h0 (za h (za h2 hs))
  all_goals try clear hs
  all_goals try omega
  ·have hf:n8 l d lt=some l[k]:=by simp_all
   simp[hf, *]
  ·rename_i h
   have hf:n8 l d lt=n8 (l.drop (k+1)) d lt:=by rw[hcons];simp[h]
   exact zn ⟨k+1,by omega,hf⟩ (zw [2,3,4,6] 5 (by simp[rI]))
  ·rename_i h2 h
   have hf:n8 l d lt=n8 (l.drop (k+1)) d lt:=by rw[hcons];simp[h2]
   exact zn ⟨k+1,by omega,hf⟩ (zw [2,3,4,6] 5 (by simp[rI]))
 ·have hf:n8 l d lt=none:=by rw[hno,List.drop_eq_nil_of_le (by omega)];rfl
  have hs:=hlt
  repeat' first|(with_reducible first|refine zz ?_|refine zr ?_ (by simp -dsimp[g9,rI,hs];exact rfl)|refine zE [0,1,2,3,4,5,6,7,12,31] ?_)|simp -dsimp[g9,rI,hs]|refine i9 ?_ ?_<;>intro h<;>try simp only[i7] at h
  all_goals simp[hf,J7]
end Go.Proofs
namespace Go.Proofs
open Go Go.Ab Tryz
attribute [local simp] D5 setLp
variable {G:JO}
def H9 {α:Type} (p:α→Bool) (l:List α):Int:=match l.findIdx? p with|some i=>i|none=>-1
theorem K8 {α:Type} {p:α→Bool} {l:List α} {i:Nat} {x:α} (h:l[i]?=some x) (hp:p x=true) (hno:∀ (j:Nat) (x:α),j<i→l[j]?=some x→p x=false):H9 p l=i:=by
 have:l.findIdx? p=some i:=by
  rw[List.findIdx?_eq_some_iff_getElem]
  obtain⟨hlt,he⟩:=List.getElem?_eq_some_iff.1 h
  refine⟨hlt,by rw[he];exact hp,fun j hj=>?_⟩
  have:=hno j l[j] hj (by simp)
  simp[this]
 simp[H9,this]
theorem Q8 {α:Type} {p:α→Bool} {l:List α} (hno:∀ (j:Nat) (x:α),l[j]?=some x→p x=false):H9 p l=-1:=by
 have:l.findIdx? p=none:=by
  rw[List.findIdx?_eq_none_iff]
  intro y hy
  obtain⟨j,hj⟩:=List.mem_iff_getElem?.1 hy
  exact hno j y hj
 simp[H9,this]
theorem A3 {α:Type} (p:α→Bool) (l:List α):decide (0≤H9 p l)=l.any p:=by
 unfold H9
 split
 ·rename_i i h
  rw[List.findIdx?_eq_some_iff_getElem] at h
  obtain⟨hlt,hp,_⟩:=h
  have:l.any p=true:=List.any_eq_true.2 ⟨l[i],by simp,hp⟩
  simp[this]
 ·rename_i h
  rw[List.findIdx?_eq_none_iff] at h
  have:l.any p=false:=by rw[List.any_eq_false];intro x hx;simp[h x hx]
  simp[this]
def yI (x:Itm):DV:=.agg ((A4 x).map .im)
def T6 (x:Dim):DV:=.agg ((B0 x).map .im)
attribute [simp] yI T6
theorem ev (l:List Int) (p:Int→Bool) (k:Nat) (caps:List DC) (objs:List DObj) (hok:C7 prog k) (hf:∀ x∈l,DCall prog G k (iv x :: caps.map .one) objs (fun d o=>d=bv (p x)∧o=objs)) (hl:l.length<1000000):DCall prog G 188 [.one (.im (.sl (l.map encI))),.one (.fn (.func k) caps)] objs (fun d o=>d=iv (H9 p l)∧o=objs):=by
 refine h9 func188 rfl ntmps188 (by simp) rfl ?_
 have hs:=trivial
 repeat' first|(with_reducible first|refine zz ?_|refine zE [0,1,4,5,7,8,9,16] ?_)|simp -dsimp[hs]
 refine i6 (ι:={ k:Nat // k≤l.length∧∀ j x,j<k→l[j]?=some x→p x=false }) (fun i=>⟨19,[(0,.one (.im (.sl (l.map encI)))),(1,.one (.fn (.func k) caps)),(7,iv (l.length:Int)),(8,iv (i.1:Int))],objs⟩) (fun i=>l.length-i.1) ⟨0,by simp⟩ (zv [0,1,7,8]) ?_
 rintro⟨i,hi,hno⟩
 simp only[iv]
 by_cases hlt:i<l.length
 ·have hx:l[i]?=some l[i]:=by simp[hlt]
  have hw:=zk i
  have hc:=hf l[i] (by simp)
  simp only[iv,encI,List.map_cons,List.map_nil,bv,rI] at hc
  have hs:=za hx (za hw hok)
  repeat' first|(with_reducible first|refine zz ?_|refine And.intro (by omega) ?_|refine zr ?_|refine zE [0,1,4,5,7,8,9,16] ?_)|simp -dsimp[hs]|refine CallE.here hc ?_|refine i9 ?_ ?_<;>intro h<;>try simp only[i7] at h|with_reducible refine And.intro ?_ ?_
  all_goals try omega
  ·exact(K8 hx (by assumption) hno).symm
  ·exact At.round ⟨i+1,by omega,fun j x hj hjx=>by
    by_cases e:j=i
    ·subst e;rw[hx] at hjx;cases hjx;assumption
    ·exact hno j x (by omega) hjx⟩ (by simp;omega) (zv [0,1,7,8])
 ·have hs:=trivial
  repeat' first|(with_reducible first|refine zz ?_|refine zr ?_|refine zE [0,1,4,5,7,8,9,16] ?_)|simp -dsimp[hs]|refine i9 ?_ ?_<;>intro h<;>try simp only[i7] at h|with_reducible refine And.intro ?_ ?_
  all_goals try omega
  exact(Q8 fun j x hjx=>hno j x (by have:=e7 hjx;omega) hjx).symm
theorem C0 (l:List Int) (p:Int→Bool) (k:Nat) (caps:List DC) (objs:List DObj) (hok:C7 prog k) (hf:∀ x∈l,DCall prog G k (iv x :: caps.map .one) objs (fun d o=>d=bv (p x)∧o=objs)) (hl:l.length<1000000):DCall prog G 122 [.one (.im (.sl (l.map encI))),.one (.fn (.func k) caps)] objs (fun d o=>d=bv (l.any p)∧o=objs):=by
 refine h9 func122 rfl ntmps122 (by simp) rfl ?_
 have hc:=ev l p k caps objs hok hf hl
 repeat' first|(with_reducible first|refine zz ?_|refine zx ?_|refine zE [0,1,4] ?_)|simp -dsimp|refine CallE.here hc ?_|with_reducible refine And.intro ?_ ?_
 simp[A3]
theorem lT (l:List Itm) (p:Itm→Bool) (k:Nat) (caps:List DC) (objs:List DObj) (hok:C7 prog k) (hf:∀ x∈l,DCall prog G k (yI x :: caps.map .one) objs (fun d o=>d=bv (p x)∧o=objs)) (hl:l.length<1000000):DCall prog G 279 [.one (.im (.sl (l.map A4))),.one (.fn (.func k) caps)] objs (fun d o=>d=iv (H9 p l)∧o=objs):=by
 refine h9 func279 rfl ntmps279 (by simp) rfl ?_
 have hs:=trivial
 repeat' first|(with_reducible first|refine zz ?_|refine zE [0,1,4,5,7,8,9,16] ?_)|simp -dsimp[hs]
 refine i6 (ι:={ k:Nat // k≤l.length∧∀ j x,j<k→l[j]?=some x→p x=false }) (fun i=>⟨19,[(0,.one (.im (.sl (l.map A4)))),(1,.one (.fn (.func k) caps)),(7,iv (l.length:Int)),(8,iv (i.1:Int))],objs⟩) (fun i=>l.length-i.1) ⟨0,by simp⟩ (zv [0,1,7,8]) ?_
 rintro⟨i,hi,hno⟩
 simp only[iv]
 by_cases hlt:i<l.length
 ·have hx:l[i]?=some l[i]:=by simp[hlt]
  have hw:=zk i
  have hc:=hf l[i] (by simp)
  simp only[yI,A4,List.map_cons,List.map_nil,bv,rI] at hc
  have hs:=za hx (za hw hok)
  repeat' first|(with_reducible first|refine zz ?_|refine And.intro (by omega) ?_|refine zr ?_|refine zE [0,1,4,5,7,8,9,16] ?_)|simp -dsimp[hs]|refine CallE.here hc ?_|refine i9 ?_ ?_<;>intro h<;>try simp only[i7] at h|with_reducible refine And.intro ?_ ?_
  all_goals try omega
  ·exact(K8 hx (by assumption) hno).symm
  ·exact At.round ⟨i+1,by omega,fun j x hj hjx=>by
    by_cases e:j=i
    ·subst e;rw[hx] at hjx;cases hjx;assumption
    ·exact hno j x (by omega) hjx⟩ (by simp;omega) (zv [0,1,7,8])
 ·have hs:=trivial
  repeat' first|(with_reducible first|refine zz ?_|refine zr ?_|refine zE [0,1,4,5,7,8,9,16] ?_)|simp -dsimp[hs]|refine i9 ?_ ?_<;>intro h<;>try simp only[i7] at h|with_reducible refine And.intro ?_ ?_
  all_goals try omega
  exact(Q8 fun j x hjx=>hno j x (by have:=e7 hjx;omega) hjx).symm
theorem iA (l:List Itm) (p:Itm→Bool) (k:Nat) (caps:List DC) (objs:List DObj) (hok:C7 prog k) (hf:∀ x∈l,DCall prog G k (yI x :: caps.map .one) objs (fun d o=>d=bv (p x)∧o=objs)) (hl:l.length<1000000):DCall prog G 223 [.one (.im (.sl (l.map A4))),.one (.fn (.func k) caps)] objs (fun d o=>d=bv (l.any p)∧o=objs):=by
 refine h9 func223 rfl ntmps223 (by simp) rfl ?_
 have hc:=lT l p k caps objs hok hf hl
 repeat' first|(with_reducible first|refine zz ?_|refine zx ?_|refine zE [0,1,4] ?_)|simp -dsimp|refine CallE.here hc ?_|with_reducible refine And.intro ?_ ?_
 simp[A3]
theorem lV (l:List Dim) (p:Dim→Bool) (k:Nat) (caps:List DC) (objs:List DObj) (hok:C7 prog k) (hf:∀ x∈l,DCall prog G k (T6 x :: caps.map .one) objs (fun d o=>d=bv (p x)∧o=objs)) (hl:l.length<1000000):DCall prog G 363 [.one (.im (.sl (l.map B0))),.one (.fn (.func k) caps)] objs (fun d o=>d=iv (H9 p l)∧o=objs):=by
 refine h9 func363 rfl ntmps363 (by simp) rfl ?_
 have hs:=trivial
 repeat' first|(with_reducible first|refine zz ?_|refine zE [0,1,4,5,7,8,9,16] ?_)|simp -dsimp[hs]
 refine i6 (ι:={ k:Nat // k≤l.length∧∀ j x,j<k→l[j]?=some x→p x=false }) (fun i=>⟨19,[(0,.one (.im (.sl (l.map B0)))),(1,.one (.fn (.func k) caps)),(7,iv (l.length:Int)),(8,iv (i.1:Int))],objs⟩) (fun i=>l.length-i.1) ⟨0,by simp⟩ (zv [0,1,7,8]) ?_
 rintro⟨i,hi,hno⟩
 simp only[iv]
 by_cases hlt:i<l.length
 ·have hx:l[i]?=some l[i]:=by simp[hlt]
  have hw:=zk i
  have hc:=hf l[i] (by simp)
  simp only[T6,B0,List.map_cons,List.map_nil,bv,rI] at hc
  have hs:=za hx (za hw hok)
  repeat' first|(with_reducible first|refine zz ?_|refine And.intro (by omega) ?_|refine zr ?_|refine zE [0,1,4,5,7,8,9,16] ?_)|simp -dsimp[hs]|refine CallE.here hc ?_|refine i9 ?_ ?_<;>intro h<;>try simp only[i7] at h|with_reducible refine And.intro ?_ ?_
  all_goals try omega
  ·exact(K8 hx (by assumption) hno).symm
  ·exact At.round ⟨i+1,by omega,fun j x hj hjx=>by
    by_cases e:j=i
    ·subst e;rw[hx] at hjx;cases hjx;assumption
    ·exact hno j x (by omega) hjx⟩ (by simp;omega) (zv [0,1,7,8])
 ·have hs:=trivial
  repeat' first|(with_reducible first|refine zz ?_|refine zr ?_|refine zE [0,1,4,5,7,8,9,16] ?_)|simp -dsimp[hs]|refine i9 ?_ ?_<;>intro h<;>try simp only[i7] at h|with_reducible refine And.intro ?_ ?_
  all_goals try omega
  exact(Q8 fun j x hjx=>hno j x (by have:=e7 hjx;omega) hjx).symm
theorem iC (l:List Dim) (p:Dim→Bool) (k:Nat) (caps:List DC) (objs:List DObj) (hok:C7 prog k) (hf:∀ x∈l,DCall prog G k (T6 x :: caps.map .one) objs (fun d o=>d=bv (p x)∧o=objs)) (hl:l.length<1000000):DCall prog G 361 [.one (.im (.sl (l.map B0))),.one (.fn (.func k) caps)] objs (fun d o=>d=bv (l.any p)∧o=objs):=by
 refine h9 func361 rfl ntmps361 (by simp) rfl ?_
 have hc:=lV l p k caps objs hok hf hl
 repeat' first|(with_reducible first|refine zz ?_|refine zx ?_|refine zE [0,1,4] ?_)|simp -dsimp|refine CallE.here hc ?_|with_reducible refine And.intro ?_ ?_
 simp[A3]
theorem ws (l:List Itm) (hl:l.length<1000000) (objs:List DObj):DCall prog G 109 [.one (.im (.sl (l.map A4)))] objs (fun d objs'=>d=.one (.im (.sl (l.map A4)))∧objs'=objs):=by
 refine DCall.frame ?_ (by simp) (by simp) objs
 refine h9 func109 rfl ntmps109 (by simp) rfl ?_
 repeat' first|(with_reducible first|refine zz ?_|refine And.intro (by omega) ?_|refine zx ?_|refine zE [0,2,4] ?_)|simp -dsimp|refine i9 ?_ ?_<;>intro h<;>try simp only[i7] at h|with_reducible refine T5 (fun h=>?_);(try simp only[List.map_eq_nil_iff] at h);(try subst h);try simp -dsimp|with_reducible refine And.intro ?_ ?_
 all_goals omega
theorem wt (l:List Dim) (hl:l.length<1000000) (objs:List DObj):DCall prog G 110 [.one (.im (.sl (l.map B0)))] objs (fun d objs'=>d=.one (.im (.sl (l.map B0)))∧objs'=objs):=by
 refine DCall.frame ?_ (by simp) (by simp) objs
 refine h9 func110 rfl ntmps110 (by simp) rfl ?_
 repeat' first|(with_reducible first|refine zz ?_|refine And.intro (by omega) ?_|refine zx ?_|refine zE [0,2,4] ?_)|simp -dsimp|refine i9 ?_ ?_<;>intro h<;>try simp only[i7] at h|with_reducible refine T5 (fun h=>?_);(try simp only[List.map_eq_nil_iff] at h);(try subst h);try simp -dsimp|with_reducible refine And.intro ?_ ?_
 all_goals omega
end Go.Proofs
namespace Go.Proofs
open Go Go.Ab Tryz
attribute [local simp] D5 setLp
variable {G:JO}
theorem yS (x lo hi:Int):DCall prog G 236 (iv x :: [DC.ptr 0 0,DC.ptr 1 0].map .one) [.row [.im (rI lo)],.row [.im (rI hi)]] (fun d o=>d=bv (decide (x<lo)||decide (hi<x))∧o=[.row [.im (rI lo)],.row [.im (rI hi)]]):=by
 refine h9 func236 rfl ntmps236 (by simp) rfl ?_
 simp only[rI]
 have hs:=trivial
 repeat' first|(with_reducible first|refine zz ?_|refine zr ?_|refine zE [0,1,2,4] ?_)|simp -dsimp[hs]|with_reducible refine j0 ?_ ?_<;>intro h<;>have h0:=h<;>(try simp only[i7] at h)<;>have h2:=h<;>(try simp at h2)<;>replace hs:=za h0 (za h (za h2 hs))|with_reducible refine And.intro ?_ ?_
 all_goals try clear hs
 all_goals simp[*]
theorem fZ (lo hi:Int) (l:List Int) (hl:l.length<1000000):zP prog G 194 [iv lo,iv hi,s6 l] (bv (l.all fun x=>decide (lo≤x)&&decide (x≤hi))):=by
 refine zf func194 ntmps194 ?_
 try simp only[iv,iv,s6]
 have hc:=C0 (G:=G) l (fun x=>decide (x<lo)||decide (hi<x)) 236 [.ptr 0 0,.ptr 1 0] [.row [.im (rI lo)],.row [.im (rI hi)]] (by simp) (fun x _=>yS x lo hi) hl
 simp only[rI] at hc
 repeat' first|(with_reducible first|refine zz ?_|refine zx ?_|refine zE [0,1,2,3,4,6] ?_)|simp -dsimp|refine CallE.here hc ?_
 rw[Bool.eq_iff_iff];simp
 exact exists_congr fun x=>and_congr_right fun _=>by omega
theorem vK (x lo hi:Int):DCall prog G 278 (iv x :: [DC.ptr 0 0,DC.ptr 1 0].map .one) [.row [.im (rI lo)],.row [.im (rI hi)]] (fun d o=>d=bv (decide (x<lo)||decide (hi<x))∧o=[.row [.im (rI lo)],.row [.im (rI hi)]]):=by
 refine h9 func278 rfl ntmps278 (by simp) rfl ?_
 simp only[rI]
 have hs:=trivial
 repeat' first|(with_reducible first|refine zz ?_|refine zr ?_|refine zE [0,1,2,4] ?_)|simp -dsimp[hs]|with_reducible refine j0 ?_ ?_<;>intro h<;>have h0:=h<;>(try simp only[i7] at h)<;>have h2:=h<;>(try simp at h2)<;>replace hs:=za h0 (za h (za h2 hs))|with_reducible refine And.intro ?_ ?_
 all_goals try clear hs
 all_goals simp[*]
theorem Z3 (lo hi:Int) (l:List Int) (hl:l.length<1000000):zP prog G 222 [iv lo,iv hi,s6 l] (bv (l.all fun x=>decide (lo≤x)&&decide (x≤hi))):=by
 refine zf func222 ntmps222 ?_
 try simp only[iv,iv,s6]
 have hc:=C0 (G:=G) l (fun x=>decide (x<lo)||decide (hi<x)) 278 [.ptr 0 0,.ptr 1 0] [.row [.im (rI lo)],.row [.im (rI hi)]] (by simp) (fun x _=>vK x lo hi) hl
 simp only[rI] at hc
 repeat' first|(with_reducible first|refine zz ?_|refine zx ?_|refine zE [0,1,2,3,4,6] ?_)|simp -dsimp|refine CallE.here hc ?_
 rw[Bool.eq_iff_iff];simp
 exact exists_congr fun x=>and_congr_right fun _=>by omega
theorem yR (x lo hi:Int):DCall prog G 178 (iv x :: [DC.ptr 0 0,DC.ptr 1 0].map .one) [.row [.im (rI lo)],.row [.im (rI hi)]] (fun d o=>d=bv (decide (x<lo)||decide (hi<x))∧o=[.row [.im (rI lo)],.row [.im (rI hi)]]):=by
 refine h9 func178 rfl ntmps178 (by simp) rfl ?_
 simp only[rI]
 have hs:=trivial
 repeat' first|(with_reducible first|refine zz ?_|refine zr ?_|refine zE [0,1,2,4] ?_)|simp -dsimp[hs]|with_reducible refine j0 ?_ ?_<;>intro h<;>have h0:=h<;>(try simp only[i7] at h)<;>have h2:=h<;>(try simp at h2)<;>replace hs:=za h0 (za h (za h2 hs))|with_reducible refine And.intro ?_ ?_
 all_goals try clear hs
 all_goals simp[*]
theorem ua (lo hi:Int) (l:List Int) (hl:l.length<1000000):zP prog G 116 [iv lo,iv hi,s6 l] (bv (l.all fun x=>decide (lo≤x)&&decide (x≤hi))):=by
 refine zf func116 ntmps116 ?_
 try simp only[iv,iv,s6]
 have hc:=C0 (G:=G) l (fun x=>decide (x<lo)||decide (hi<x)) 178 [.ptr 0 0,.ptr 1 0] [.row [.im (rI lo)],.row [.im (rI hi)]] (by simp) (fun x _=>yR x lo hi) hl
 simp only[rI] at hc
 repeat' first|(with_reducible first|refine zz ?_|refine zx ?_|refine zE [0,1,2,3,4,6] ?_)|simp -dsimp|refine CallE.here hc ?_
 rw[Bool.eq_iff_iff];simp
 exact exists_congr fun x=>and_congr_right fun _=>by omega
def C9 (d:Dim):Bool:=decide (0≤d.nominal)&&decide (d.nominal≤1000000000)&&(decide (0≤d.lower)&&decide (d.lower≤1000000000))&&(decide (0≤d.upper)&&decide (d.upper≤1000000000))&&decide (d.lower≤d.upper)
theorem V4 (d:Dim):zP prog G 117 [T6 d] (iv (if C9 d then 0 else 10)):=by
 refine zf func117 ntmps117 ?_
 try simp only[T6]
 have hc:=ua (G:=G) 0 1000000000 [d.nominal,d.lower,d.upper] (by simp)
 have hs:=trivial
 repeat' first|(with_reducible first|refine zz ?_|refine zr ?_|refine zE [0,1,2,18] ?_)|simp -dsimp[hs]|refine zt hc ?_ ?_ ?_;(focus simp;done);focus (simp;done)|refine i9 ?_ ?_<;>intro h<;>try simp only[i7] at h|with_reducible refine j0 ?_ ?_<;>intro h<;>have h0:=h<;>(try simp only[i7] at h)<;>have h2:=h<;>(try simp at h2)<;>replace hs:=za h0 (za h (za h2 hs))
 all_goals try clear hs
 all_goals simp_all [C9]
 all_goals omega
def Ef (x:Issue):DV:=C3 x.drawing x.letter
attribute [simp] Ef
theorem oZ (x:Issue):zP prog G 228 [O0 x] (Ef x):=by
 refine zf func228 ntmps228 ?_
 try simp only[O0]
 repeat' first|(with_reducible first|refine zz ?_|refine zx ?_|refine zE [0,1,2] ?_)|simp -dsimp
theorem zT (x:Issue) (hi:x.items.length≤16) (hd:x.dims.length≤8):zP prog G 177 [O0 x] (O0 x):=by
 refine zf func177 ntmps177 ?_
 try simp only[O0]
 have h1:=ws (G:=G) x.items (by omega)
 have h2:=wt (G:=G) x.dims (by omega)
 repeat' first|(with_reducible first|refine zz ?_|refine zx ?_)|simp -dsimp|refine zq h1 ?_|refine zq h2 ?_|refine zM 1 12 7 [0,1,2] ?_|with_reducible refine zE [0,1,2] ?_
def zX (x:Issue):Bool:=(decide (1≤x.drawing)&&decide (x.drawing≤9999))&&(decide (1≤x.letter)&&decide (x.letter≤8))
theorem HG (x:Issue):zP prog G 357 [O0 x] (bv (zX x)):=by
 refine zf func357 ntmps357 ?_
 try simp only[O0]
 have c1:=Z3 (G:=G) 1 9999 [x.drawing] (by simp)
 have c2:=Z3 (G:=G) 1 8 [x.letter] (by simp)
 have hs:=trivial
 repeat' first|(with_reducible first|refine zz ?_|refine zr ?_|refine zE [0,1,2] ?_)|simp -dsimp[hs]|refine zt c1 ?_ ?_ ?_;(focus simp;done);focus (simp;done)|refine zt c2 ?_ ?_ ?_;(focus simp;done);focus (simp;done)|with_reducible refine j0 ?_ ?_<;>intro h<;>have h0:=h<;>(try simp only[i7] at h)<;>have h2:=h<;>(try simp at h2)<;>replace hs:=za h0 (za h (za h2 hs))
 all_goals try clear hs
 all_goals simp_all [zX]
 all_goals omega
def Bg (x:Issue):Bool:=if x.kind=1 then (decide (1≤x.items.length)&&decide (x.items.length≤8))&&decide (x.dims.length=0) else (decide (2≤x.kind)&&decide (x.kind≤3))&&decide (x.dims.length≤4)&&decide (x.items.length=0)
theorem HF (x:Issue) (hk:0≤x.kind∧x.kind≤255):zP prog G 358 [O0 x] (bv (Bg x)):=by
 refine zf func358 ntmps358 ?_
 try simp only[O0]
 have c1:=Z3 (G:=G) 1 8 [(x.items.length:Int)] (by simp)
 have c2:=Z3 (G:=G) 2 3 [x.kind] (by simp)
 have hw:IntKind.i64.wrap x.kind=x.kind:=o3 (by omega) (by omega)
 have hs:=hw
 repeat' first|(with_reducible first|refine zz ?_|refine zr ?_|refine zE [0,1,2,5] ?_)|simp -dsimp[hs]|refine zt c1 ?_ ?_ ?_;(focus simp;done);focus (simp;done)|refine zt c2 ?_ ?_ ?_;(focus simp;done);focus (simp;done)|refine i9 ?_ ?_<;>intro h<;>try simp only[i7] at h|with_reducible refine j0 ?_ ?_<;>intro h<;>have h0:=h<;>(try simp only[i7] at h)<;>have h2:=h<;>(try simp at h2)<;>replace hs:=za h0 (za h (za h2 hs))
 all_goals try clear hs
 all_goals simp_all [Bg]
 all_goals omega
theorem Fv (d:Dim):zP prog G 362 [T6 d] (bv (!C9 d)):=by
 refine zf func362 ntmps362 ?_
 try simp only[T6]
 have h1:=V4 (G:=G) d
 cases hd:C9 d<;>simp only[hd] at h1
 ·repeat' first|(with_reducible first|refine zz ?_|refine zx ?_|refine zE [0,1,2] ?_)|simp -dsimp|refine zp h1 ?_
 ·repeat' first|(with_reducible first|refine zz ?_|refine zx ?_|refine zE [0,1,2] ?_)|simp -dsimp|refine zp h1 ?_
theorem HD (x:Issue) (hl:x.dims.length<1000000):zP prog G 360 [O0 x] (bv (x.dims.all C9)):=by
 refine zf func360 ntmps360 ?_
 try simp only[O0]
 have c1:=fun objs=>DCall.fnArg2 (cs:=[]) (iC (G:=G) x.dims (fun d=>!C9 d) 362 [] objs (by simp) (fun d _=>Fv d objs) hl)
 repeat' first|(with_reducible first|refine zz ?_|refine zx ?_|refine zE [0,1,2] ?_)|simp -dsimp|refine zp c1 ?_
 rw[Bool.eq_iff_iff];simp
end Go.Proofs
namespace Go.Proofs
open Go Go.Ab Tryz
attribute [local simp] D5 setLp
variable {G:JO}
theorem fY (x:Int):zP prog G 239 [iv x] (bv false):=by
 refine zf func239 ntmps239 ?_
 try simp only[iv]
 repeat' first|(with_reducible first|refine zz ?_|refine zx ?_|refine zE [0,2] ?_)|simp -dsimp
theorem pI (x:Int):zP prog G 197 [iv x] (bv false):=by
 refine zf func197 ntmps197 ?_
 try simp only[iv]
 repeat' first|(with_reducible first|refine zz ?_|refine zx ?_|refine zE [0,2] ?_)|simp -dsimp
theorem EM (x y:Int):zP prog G 196 [iv x,iv y] (bv (decide (x<y))):=by
 refine zf func196 ntmps196 ?_
 try simp only[iv,iv]
 have c1:=fY (G:=G) x
 have c2:=fY (G:=G) y
 repeat' first|(with_reducible first|refine zz ?_|refine zx ?_|refine zE [0,1,4] ?_)|simp -dsimp|refine zp c1 ?_
 all_goals simp_all
def ed (x y:Int):Int:=if x<y then -1 else if y<x then 1 else 0
theorem iD (x y:Int):zP prog G 283 [iv x,iv y] (iv (ed x y)):=by
 refine zf func283 ntmps283 ?_
 try simp only[iv,iv]
 have c1:=fY (G:=G) x
 have c2:=fY (G:=G) y
 repeat' first|(with_reducible first|refine zz ?_|refine zx ?_|refine zE [0,1,4,5,6,11,12,13,16,19] ?_)|simp -dsimp|refine zp c1 ?_|refine zp c2 ?_|refine i9 ?_ ?_<;>intro h<;>try simp only[i7] at h
 all_goals simp_all [ed]
 all_goals omega
theorem ld (x:Issue) (n:Int):zP prog G 282 [O0 x,iv n] (iv (ed x.drawing n)):=by
 refine zf func282 ntmps282 ?_
 try simp only[O0,iv]
 have c1:=iD (G:=G) x.drawing n
 repeat' first|(with_reducible first|refine zz ?_|refine zx ?_|refine zE [0,1,2,4] ?_)|simp -dsimp|refine zp c1 ?_
end Go.Proofs
namespace Go.Proofs
open Go Go.Ab Tryz
attribute [local simp] D5 setLp
variable {G:JO}
def E4 (d:Int):Int→List Itm→Bool
 | _,[]=>true
 | prev,y :: r=>(decide (1≤y.drawing)&&decide (y.drawing≤9999))&&(decide (1≤y.count)&&decide (y.count≤20)) && !decide (y.drawing=d)&&decide (prev<y.drawing)&&E4 d y.drawing r
def pv (l:List Itm):Nat→Int
 | 0=>0
 | k+1=>((l[k]?).map (·.drawing)).getD 0
theorem HE (x:Issue) (hl:x.items.length<1000000):zP prog G 359 [O0 x] (bv (E4 x.drawing 0 x.items)):=by
 refine zf func359 ntmps359 ?_
 try simp only[O0]
 have hs:=trivial
 repeat' first|(with_reducible first|refine zz ?_|refine zE [0,1,2,3,4,6,7,8,9,47] ?_)|simp -dsimp[hs]
 refine i6 (ι:={ k:Nat // k≤x.items.length∧E4 x.drawing 0 x.items=E4 x.drawing (pv x.items k) (x.items.drop k) }) (fun p=>⟨49,[(1,.one (.ptr 0 0)),(6,.one (.im (.sl (x.items.map A4)))),(7,iv (x.items.length:Int)),(8,iv (p.1:Int))],[.row ((g9 x).map .im)]⟩) (fun p=>x.items.length-p.1) ⟨0,by simp[pv]⟩ (zv [1,6,7,8]) ?_
 rintro⟨k,hk,hno⟩
 simp only[iv,g9,rI,List.map_cons,List.map_nil]
 by_cases hlt:k<x.items.length
 ·have hx:x.items[k]?=some x.items[k]:=by simp[hlt]
  have hw:=zk k
  have hw2:IntKind.i64.wrap ((k:Int)-1)=(k:Int)-1:=o3 (by omega) (by omega)
  have c1:=Z3 (G:=G) 1 9999 [x.items[k].drawing] (by simp)
  have c2:=Z3 (G:=G) 1 20 [x.items[k].count] (by simp)
  have hcons:E4 x.drawing 0 x.items=((decide (1≤x.items[k].drawing)&&decide (x.items[k].drawing≤9999))&&(decide (1≤x.items[k].count)&&decide (x.items[k].count≤20)) && !decide (x.items[k].drawing=x.drawing)&&decide (pv x.items k<x.items[k].drawing)&&E4 x.drawing x.items[k].drawing (x.items.drop (k+1))):=by
   rw[hno,List.drop_eq_getElem_cons hlt,E4]
  have hpv1:pv x.items (k+1)=x.items[k].drawing:=by simp[pv,hx]
  by_cases hk0:0<k
  ·have hkx:x.items[k-1]?=some x.items[k-1]:=by simp
   have hcast:(k:Int)-1=((k-1:Nat):Int):=by omega
   have hw3:IntKind.i64.wrap ((k:Int)-1)=((k-1:Nat):Int):=by rw[hw2,hcast]
   have hpv0:pv x.items k=x.items[k-1].drawing:=by
    obtain⟨j,rfl⟩:∃ j,k=j+1:=⟨k-1,by omega⟩
    have:x.items[j]?=some x.items[j]:=by simp
    simp[pv,this]
   rw[hpv0] at hcons
   have hs:=za hx (za hw (za hw3 (za hkx hk0)))
   repeat' first|(with_reducible first|refine zz ?_|refine zr ?_)|simp -dsimp[hs]|refine zq c1 ?_|refine zq c2 ?_|refine zM 4 49 35 [0,1,2,3,4,6,7,8,9,47] ?_|with_reducible refine zE [0,1,2,3,4,6,7,8,9,47] ?_|refine i9 ?_ ?_<;>intro h<;>try simp only[i7] at h|with_reducible refine j0 ?_ ?_<;>intro h<;>have h0:=h<;>(try simp only[i7] at h)<;>have h2:=h<;>(try simp at h2)<;>replace hs:=za h0 (za h (za h2 hs))
   all_goals try clear hs
   all_goals try omega
   all_goals first
    | (refine zn ⟨k+1,by omega,by clear hno;rw[hcons,hpv1];clear hcons;simp_all;try omega⟩ (zw [1,6,7,8] 1))
    | (clear hno;rw[hcons];clear hcons;simp_all;try omega)
  ·have hpv0:pv x.items k=0:=by
    obtain rfl:k=0:=by omega
    rfl
   rw[hpv0] at hcons
   have hs:=za hx (za hw hk0)
   repeat' first|(with_reducible first|refine zz ?_|refine zr ?_)|simp -dsimp[hs]|refine zq c1 ?_|refine zq c2 ?_|refine zM 4 49 35 [0,1,2,3,4,6,7,8,9,47] ?_|with_reducible refine zE [0,1,2,3,4,6,7,8,9,47] ?_|refine i9 ?_ ?_<;>intro h<;>try simp only[i7] at h|with_reducible refine j0 ?_ ?_<;>intro h<;>have h0:=h<;>(try simp only[i7] at h)<;>have h2:=h<;>(try simp at h2)<;>replace hs:=za h0 (za h (za h2 hs))
   all_goals try clear hs
   all_goals try omega
   all_goals first
    | (refine zn ⟨k+1,by omega,by clear hno;rw[hcons,hpv1];clear hcons;simp_all;try omega⟩ (zw [1,6,7,8] 1))
    | (clear hno;rw[hcons];clear hcons;simp_all;try omega)
 ·have hs:=trivial
  repeat' first|(with_reducible first|refine zz ?_|refine zr ?_|refine zE [0,1,2,3,4,6,7,8,9,47] ?_)|simp -dsimp[hs]|refine i9 ?_ ?_<;>intro h<;>try simp only[i7] at h
  all_goals try omega
  rw[hno,List.drop_eq_nil_of_le (by omega)];rfl
end Go.Proofs
namespace Go.Proofs
open Go Go.Ab Tryz
attribute [local simp] D5 setLp
variable {G:JO}
def lb (l:List Int) (x:Int):Nat:=(l.filter fun y=>decide (y<x)).length
theorem pE (l:List Int) (x:Int):lb l x≤l.length:=List.length_filter_le _ _
theorem bM:∀ {l:List Int} {x:Int},l.Pairwise (·≤·)→∀ (i:Nat) (y:Int),l[i]?=some y→(y<x↔i<lb l x)
 | [],x,_,i,y,h=>by simp at h
 | a :: l,x,hs,i,y,h=>by
   simp only[List.pairwise_cons] at hs
   by_cases ha:a<x
   ·have e:lb (a :: l) x=lb l x+1:=by simp[lb,ha]
    rw[e]
    cases i with
    | zero=>simp at h;subst h;simp[ha]
    | succ i =>
      have:=bM (x:=x) hs.2 i y (by simpa using h)
      omega
   ·have hall:∀ z∈l,¬ z<x:=fun z hz=>by have:=hs.1 z hz;omega
    have e:lb (a :: l) x=0:=by
     have hf:l.filter (fun y=>decide (y<x))=[]:=by
      rw[List.filter_eq_nil_iff];intro z hz;simpa using hall z hz
     simp[lb,ha,hf]
    rw[e]
    cases i with
    | zero=>simp at h;subst h;simp[ha]
    | succ i =>
      have:=hall y (List.mem_of_getElem? (by simpa using h))
      omega
theorem rR {l:List Int} {x:Int} (hs:l.Pairwise (·≤·)):x∈l↔l[lb l x]?=some x:=by
 constructor
 ·intro h
  obtain⟨i,hi⟩:=List.mem_iff_getElem?.1 h
  have h1:=bM (x:=x) hs i x hi
  have h2:lb l x≤i:=by omega
  have hlt:=e7 hi
  have h3:l[lb l x]?=some l[lb l x]:=by simp
  have h4:=bM (x:=x) hs _ _ h3
  have h5:l[lb l x]≤x:=by
   by_cases e:lb l x=i
   ·have:l[lb l x]?=some x:=by rw[e];exact hi
    rw[h3] at this;simp at this;omega
   ·have:=(List.pairwise_iff_getElem.1 hs) (lb l x) i (by omega) hlt (by omega)
    have h6:=(List.getElem?_eq_some_iff.1 hi).2
    omega
  rw[h3]
  congr 1
  omega
 ·exact fun h=>List.mem_of_getElem? h
theorem ve:(2:Int) ^ min 1 IntKind.u64.bits=2:=rfl
attribute [simp] ve
theorem Ga {n:Int} (h1:0≤n) (h2:n≤18446744073709551615):IntKind.u64.wrap n=n:=IntWalk.u64_in n ⟨h1,h2⟩
theorem mZ (l:List Int) (x:Int) (hs:l.Pairwise (·≤·)) (hl:l.length<1000000):zP prog G 133 [s6 l,iv x] (.tup [iv (lb l x),bv (decide (x∈l))]):=by
 refine zf func133 ntmps133 ?_
 try simp only[s6,iv]
 have hlb:=pE l x
 have hs:=trivial
 repeat' first|(with_reducible first|refine zz ?_|refine zE [0,1,4,5,6,7,8,9,15,27] ?_)|simp -dsimp[hs]
 all_goals try clear hs
 refine i6 (ι:={ p:Nat×Nat // p.1≤lb l x∧lb l x≤p.2∧p.2≤l.length }) (fun p=>⟨54,[(0,s6 l),(1,iv x),(6,iv (l.length:Int)),(7,iv (p.1.1:Int)),(8,iv (p.1.2:Int))],[]⟩) (fun p=>p.1.2-p.1.1) ⟨(0,l.length),by simp;omega⟩ (zv [0,1,6,7,8]) ?_
 rintro⟨⟨i,j⟩,h1,h2,h3⟩
 simp only at h1 h2 h3
 simp only[iv,s6]
 have hw1:IntKind.i64.wrap ((i:Int)+(j:Int))=(i:Int)+(j:Int):=o3 (by omega) (by omega)
 have hw2:IntKind.u64.wrap ((i:Int)+(j:Int))=(i:Int)+(j:Int):=Ga (by omega) (by omega)
 have hd:((i:Int)+(j:Int)).fdiv 2=(((i+j) / 2:Nat):Int):=by
  rw[Int.fdiv_eq_ediv_of_nonneg _ (by omega)];omega
 have hw3:IntKind.i64.wrap ((((i+j) / 2:Nat):Int))=(((i+j) / 2:Nat):Int):=o3 (by omega) (by omega)
 have hw4:IntKind.i64.wrap ((((i+j) / 2:Nat):Int)+1)=(((i+j) / 2+1:Nat):Int):=o3 (by omega) (by omega)
 by_cases hlt:i<j
 ·generalize hm:(i+j) / 2=m at hd hw3 hw4
  have hx:l[m]?=some l[m]:=by simp
  have hsp:=bM (x:=x) hs m l[m] hx
  have c1:=EM (G:=G) l[m] x
  by_cases hc:l[m]<x
  ·simp only[hc,decide_true] at c1
   have hs:=za hx (za hw1 (za hw2 (za hw3 (za hw4 (za hd hm)))))
   repeat' first|(with_reducible first|refine zz ?_|refine zr ?_|refine zE [0,1,4,5,6,7,8,9,15,27] ?_)|simp -dsimp[hs]|refine zp c1 ?_|refine i9 ?_ ?_<;>intro h<;>try simp only[i7] at h|with_reducible refine j0 ?_ ?_<;>intro h<;>have h0:=h<;>(try simp only[i7] at h)<;>have h2:=h<;>(try simp at h2)<;>replace hs:=za h0 (za h (za h2 hs))
   all_goals try clear hs
   all_goals try omega
   exact zn ⟨(m+1,j),by simp;omega⟩ (zv [0,1,6,7,8])
  ·simp only[hc,decide_false] at c1
   have hs:=za hx (za hw1 (za hw2 (za hw3 (za hw4 (za hd hm)))))
   repeat' first|(with_reducible first|refine zz ?_|refine zr ?_|refine zE [0,1,4,5,6,7,8,9,15,27] ?_)|simp -dsimp[hs]|refine zp c1 ?_|refine i9 ?_ ?_<;>intro h<;>try simp only[i7] at h|with_reducible refine j0 ?_ ?_<;>intro h<;>have h0:=h<;>(try simp only[i7] at h)<;>have h2:=h<;>(try simp at h2)<;>replace hs:=za h0 (za h (za h2 hs))
   all_goals try clear hs
   all_goals try omega
   exact zn ⟨(i,m),by simp;omega⟩ (zv [0,1,6,7,8])
 ·have hi:i=lb l x:=by omega
  subst hi
  have c2:=pI (G:=G) x
  have hmem:=rR (x:=x) hs
  by_cases hn:lb l x<l.length
  ·have hx:l[lb l x]?=some l[lb l x]:=by simp[hn]
   have c1:=pI (G:=G) l[lb l x]
   rw[hx] at hmem
   have hs:=za hx (za hlt hn)
   repeat' first|(with_reducible first|refine zz ?_|refine zr ?_|refine zE [0,1,4,5,6,7,8,9,15,27] ?_)|simp -dsimp[hs]|refine zp c1 ?_|refine i9 ?_ ?_<;>intro h<;>try simp only[i7] at h|with_reducible refine j0 ?_ ?_<;>intro h<;>have h0:=h<;>(try simp only[i7] at h)<;>have h2:=h<;>(try simp at h2)<;>replace hs:=za h0 (za h (za h2 hs))
   all_goals try clear hs
   all_goals try omega
   all_goals simp_all
  ·rw[List.getElem?_eq_none (by omega)] at hmem
   have hs:=za hlt hn
   repeat' first|(with_reducible first|refine zz ?_|refine zr ?_|refine zE [0,1,4,5,6,7,8,9,15,27] ?_)|simp -dsimp[hs]|refine i9 ?_ ?_<;>intro h<;>try simp only[i7] at h
   all_goals try clear hs
   all_goals try omega
   all_goals simp_all
end Go.Proofs
namespace Go.Proofs
open Go Go.Ab Tryz
attribute [local simp] D5 setLp
variable {G:JO}
theorem fi (l:List Issue) (x:Int) (hs:(l.map (·.drawing)).Pairwise (·≤·)) (hl:l.length<1000000):zP prog G 281 [.one (.im (.sl (l.map g9))),iv x,.one (.im (.fn (.func 282) []))] (.tup [iv (lb (l.map (·.drawing)) x),bv (decide (x∈l.map (·.drawing)))]):=by
 refine zf func281 ntmps281 ?_
 try simp only[iv]
 have hlb:=pE (l.map (·.drawing)) x
 simp only[List.length_map] at hlb
 have hs:=trivial
 repeat' first|(with_reducible first|refine zz ?_|refine zE [0,1,2,6,7,8,9,10,11,17,31] ?_)|simp -dsimp[hs]
 all_goals try clear hs
 refine i6 (ι:={ p:Nat×Nat // p.1≤lb (l.map (·.drawing)) x∧lb (l.map (·.drawing)) x≤p.2∧p.2≤l.length }) (fun p=>⟨49,[(0,.one (.im (.sl (l.map g9)))),(1,iv x),(2,.one (.im (.fn (.func 282) []))),(8,iv (l.length:Int)),(9,iv (p.1.1:Int)),(10,iv (p.1.2:Int))],[]⟩) (fun p=>p.1.2-p.1.1) ⟨(0,l.length),by simp;omega⟩ (zv [0,1,2,8,9,10]) ?_
 rintro⟨⟨i,j⟩,h1,h2,h3⟩
 simp only at h1 h2 h3
 simp only[iv,s6]
 have hw1:IntKind.i64.wrap ((i:Int)+(j:Int))=(i:Int)+(j:Int):=o3 (by omega) (by omega)
 have hw2:IntKind.u64.wrap ((i:Int)+(j:Int))=(i:Int)+(j:Int):=Ga (by omega) (by omega)
 have hd:((i:Int)+(j:Int)).fdiv 2=(((i+j) / 2:Nat):Int):=by
  rw[Int.fdiv_eq_ediv_of_nonneg _ (by omega)];omega
 have hw3:IntKind.i64.wrap ((((i+j) / 2:Nat):Int))=(((i+j) / 2:Nat):Int):=o3 (by omega) (by omega)
 have hw4:IntKind.i64.wrap ((((i+j) / 2:Nat):Int)+1)=(((i+j) / 2+1:Nat):Int):=o3 (by omega) (by omega)
 by_cases hlt:i<j
 ·generalize hm:(i+j) / 2=m at hd hw3 hw4
  have hx:l[m]?=some l[m]:=by simp
  have hsp:=bM (x:=x) hs m l[m].drawing (by simp[hx])
  have c1:=ld (G:=G) l[m] x
  by_cases hc:l[m].drawing<x
  ·have hcm:ed l[m].drawing x=-1:=by simp[ed,hc]
   rw[hcm] at c1
   have hs:=za hx (za hw1 (za hw2 (za hw3 (za hw4 (za hd hm)))))
   repeat' first|(with_reducible first|refine zz ?_|refine zr ?_|refine zE [0,1,2,6,7,8,9,10,11,17,31] ?_)|simp -dsimp[hs]|refine zp c1 ?_|refine i9 ?_ ?_<;>intro h<;>try simp only[i7] at h|with_reducible refine j0 ?_ ?_<;>intro h<;>have h0:=h<;>(try simp only[i7] at h)<;>have h2:=h<;>(try simp at h2)<;>replace hs:=za h0 (za h (za h2 hs))
   all_goals try clear hs
   all_goals try omega
   exact zn ⟨(m+1,j),by simp;omega⟩ (zv [0,1,2,8,9,10])
  ·have hcm:¬ ed l[m].drawing x<0:=by simp only[ed,hc,if_false];split<;>omega
   generalize ed l[m].drawing x=q at c1 hcm
   have hs:=za hx (za hw1 (za hw2 (za hw3 (za hw4 (za hd hm)))))
   repeat' first|(with_reducible first|refine zz ?_|refine zr ?_|refine zE [0,1,2,6,7,8,9,10,11,17,31] ?_)|simp -dsimp[hs]|refine zp c1 ?_|refine i9 ?_ ?_<;>intro h<;>try simp only[i7] at h|with_reducible refine j0 ?_ ?_<;>intro h<;>have h0:=h<;>(try simp only[i7] at h)<;>have h2:=h<;>(try simp at h2)<;>replace hs:=za h0 (za h (za h2 hs))
   all_goals try clear hs
   all_goals try omega
   exact zn ⟨(i,m),by simp;omega⟩ (zv [0,1,2,8,9,10])
 ·have hi:i=lb (l.map (·.drawing)) x:=by omega
  subst hi
  have hmem:=rR (x:=x) hs
  by_cases hn:lb (l.map (·.drawing)) x<l.length
  ·have hx:l[lb (l.map (·.drawing)) x]?=some l[lb (l.map (·.drawing)) x]:=by simp[hn]
   have c1:=ld (G:=G) l[lb (l.map (·.drawing)) x] x
   have hq:decide (ed l[lb (l.map (·.drawing)) x].drawing x=0)=decide (x∈l.map (·.drawing)):=by
    rw[decide_eq_decide,hmem,List.getElem?_map,hx]
    simp only[ed,Option.map_some,Option.some.injEq]
    split<;>(try split)<;>omega
   generalize ed l[lb (l.map (·.drawing)) x].drawing x=q at c1 hq
   have hs:=za hx (za hlt hn)
   repeat' first|(with_reducible first|refine zz ?_|refine zr ?_|refine zE [0,1,2,6,7,8,9,10,11,17,31] ?_)|simp -dsimp[hs]|refine zp c1 ?_|refine i9 ?_ ?_<;>intro h<;>try simp only[i7] at h
   all_goals try clear hs
   all_goals try omega
   all_goals simp_all
  ·rw[List.getElem?_eq_none (by simp;omega)] at hmem
   have hs:=za hlt hn
   repeat' first|(with_reducible first|refine zz ?_|refine zr ?_|refine zE [0,1,2,6,7,8,9,10,11,17,31] ?_)|simp -dsimp[hs]|refine i9 ?_ ?_<;>intro h<;>try simp only[i7] at h
   all_goals try clear hs
   all_goals try omega
   all_goals simp_all
def v6 (l:List Issue) (ds:List Int):IC:=.ip [.sl (l.map g9),.sl (ds.map encI)]
theorem yY (l:List Issue) (ds:List Int) (n:Int) (hs:ds.Pairwise (·≤·)) (hl:ds.length<1000000):zP prog G 225 [.one (.im (v6 l ds)),iv n] (bv (decide (n∈ds))):=by
 refine zf func225 ntmps225 ?_
 try simp only[iv]
 have c1:=mZ (G:=G) ds n hs hl
 simp only[v6]
 have hs:=trivial
 repeat' first|(with_reducible first|refine zz ?_|refine zr ?_|refine zE [0,1,4,6] ?_)|simp -dsimp[hs]|refine zp c1 ?_
 all_goals try clear hs
theorem kN (b:IC) (n:Int):zP prog G 227 [.one (.im b),iv n] (.one (.im (.fn (.func 280) [.ip [b],.ip [rI n]]))):=by
 refine zf func227 ntmps227 ?_
 try simp only[iv]
 repeat' first|(with_reducible first|refine zz ?_|refine zx ?_|refine zE [0,1,2,3,4] ?_)|simp -dsimp
end Go.Proofs
namespace Go.Ab
open Go
@[simp] theorem DK {α:Type} (objs:List DObj) (l:List α) (f:α→List IC) (k sz:Nat) (h:k≤l.length) (hf:∀ x,(f x).length=sz) :
 D5 objs (.im (.sl (l.map f))) (k:Int) none sz=some (.im (.sl ((l.drop k).map f))):=by
 simp only[D5,Option.getD_none,List.length_map,Int.toNat_natCast,Int.natCast_eq_zero]
 rw[if_pos (by omega)]
 split
 ·rename_i hk;subst hk
  simp[List.take_of_length_le]
 ·by_cases hk:k<l.length
  ·simp[hk,hf,List.take_of_length_le,List.map_drop]
  ·have he:k=l.length:=by omega
   subst he
   simp
@[simp] theorem DJ {α:Type} (objs:List DObj) (l:List α) (f:α→List IC) (k sz:Nat) (h:k≤l.length) :
 D5 objs (.im (.sl (l.map f))) 0 (some (k:Int)) sz=some (.im (.sl ((l.take k).map f))):=by
 simp only[D5,Option.getD_some,List.length_map,Int.toNat_natCast]
 rw[if_pos (by omega),if_pos trivial,List.map_take]
theorem sE (objs:List DObj) (o g off len:Nat) (lo:Int) (hi:Option Int) (sz:Nat):D5 objs (.vec o g off len) lo hi sz=if 0≤lo∧lo≤hi.getD len∧hi.getD len≤len then match objs[o]? with
 | some (.vec z _ g' _)=>if g=g'∧(z=sz∨len=0) then some (.vec o g (off+lo.toNat) ((hi.getD len).toNat-lo.toNat)) else none
 | _=>none
 else none:=rfl
attribute [simp] sE
def LoopD.at (r:LoopD) (st:LoopState) (pend:Option Code):LoopD:={ r with st:=st,pend:=pend }
theorem LoopD.at_st (r:LoopD) (st:LoopState) (pend:Option Code):(r.at st pend).st=st:=rfl
theorem LoopD.at_pend (r:LoopD) (st:LoopState) (pend:Option Code):(r.at st pend).pend=pend:=rfl
theorem LoopD.at_nt (r:LoopD) (st:LoopState) (pend:Option Code):(r.at st pend).nt=r.nt:=rfl
theorem LoopD.at_tm (r:LoopD) (st:LoopState) (pend:Option Code):(r.at st pend).tm=r.tm:=rfl
theorem LoopD.at_ps (r:LoopD) (st:LoopState) (pend:Option Code):(r.at st pend).ps=r.ps:=rfl
theorem LoopD.at_asg (r:LoopD) (st:LoopState) (pend:Option Code):(r.at st pend).asg=r.asg:=rfl
theorem LoopD.at_body (r:LoopD) (st:LoopState) (pend:Option Code):(r.at st pend).body=r.body:=rfl
theorem LoopD.at_at (r:LoopD) (st st':LoopState) (pend pend':Option Code):(r.at st pend).at st' pend'=r.at st' pend':=rfl
attribute [simp] LoopD.at_st LoopD.at_pend LoopD.at_nt LoopD.at_tm LoopD.at_ps LoopD.at_asg LoopD.at_body LoopD.at_at
theorem xB (objs:List DObj) (o:Nat) (st:LoopState) (pend:Option Code):setLp objs o st pend=match objs[o]? with
 | some (.loop r)=>objs.set o (.loop (r.at st pend))
 | _=>objs:=rfl
attribute [simp] xB
theorem P2 {P:Program} {G:JO} {o:Nat} {xs:List DV} {objs:List DObj} {C:DV→List DObj→Prop} {t:Tok C} (h:R7 P G o xs objs C objs[o]?):lz P G o xs objs C t:=h
theorem ay {P:Program} {G:JO} {o m:Nat} {body:Code} {C:DV→List DObj→Prop} {A:DS→Prop} {Q:Exit→DS→Prop} {t:Tok (W9 (fun S'=>A S'∧FJ P G o m body C S') Q)} {S:DS} (h1:A S)
 (h2:DT P G ⟨m,some o⟩ body { S with objs:=setLp S.objs o .busy none } (oD o C)):At (W9 (fun S'=>A S'∧FJ P G o m body C S') Q) .normal t S:=⟨h1,h2⟩
end Go.Ab
namespace Go.Proofs
open Go Go.Ab Tryz
variable {G:JO}
theorem ri {l:List Issue} {d:Int} (hs:(l.map (·.drawing)).Pairwise (·≤·)):∀ x∈l.drop (lb (l.map (·.drawing)) d),d≤x.drawing:=by
 intro x hx
 obtain⟨i,hi⟩:=List.mem_iff_getElem?.1 hx
 rw[List.getElem?_drop] at hi
 have:=bM (x:=d) hs _ x.drawing (by rw[List.getElem?_map,hi];rfl)
 omega
theorem rh {l:List Issue} {d:Int} (hs:(l.map (·.drawing)).Pairwise (·≤·)):∀ x∈l.take (lb (l.map (·.drawing)) d),x.drawing<d:=by
 intro x hx
 obtain⟨i,hi⟩:=List.mem_iff_getElem?.1 hx
 have hlt:i<lb (l.map (·.drawing)) d:=by
  have:=(List.getElem?_eq_some_iff.1 hi).1
  simp at this;omega
 rw[List.getElem?_take_of_lt hlt] at hi
 exact(bM (x:=d) hs i x.drawing (by rw[List.getElem?_map,hi];rfl)).2 hlt
theorem xD {l:List Issue} {d:Int} (lt:Int) (hs:(l.map (·.drawing)).Pairwise (·≤·)):n8 l d lt=n8 (l.drop (lb (l.map (·.drawing)) d)) d lt:=by
 conv=>lhs;rw[← List.take_append_drop (lb (l.map (·.drawing)) d) l]
 simp only[n8,List.find?_append]
 rw[List.find?_eq_none.2 fun x hx=>?_]
 ·rfl
 ·have:=rh hs x hx
  simp;omega
theorem uo (l:List Issue) (ds:List Int) (d lt:Int) (hs:(l.map (·.drawing)).Pairwise (·≤·)) (hl:l.length<1000000):zP prog G 176 [.one (.im (v6 l ds)),C3 d lt] (.tup [O0 ((n8 l d lt).getD J7),bv (n8 l d lt).isSome]):=by
 refine zf func176 ntmps176 ?_
 try simp only[C3]
 simp only[C3,v6]
 have c1:=kN (G:=G) (v6 l ds) d
 simp only[v6] at c1
 have hs:=trivial
 repeat' first|(with_reducible first|refine zz ?_|refine zE [0,1,3,4,5,6,10,11,15] ?_)|simp -dsimp[hs]|refine zp c1 ?_
 all_goals try clear hs
 refine R8 (f:=280) (by simp;exact rfl) (by rfl) call280 ?_
 generalize hR:LoopD.mk _ _ _ _ _ _ _=R
 have hR1:R.st=.ready:=by rw[← hR]
 have hR2:R.pend=none:=by rw[← hR]
 have hR3:R.at .ready none=R:=by rw[← hR];rfl
 have hR4:=(congrArg LoopD.nt hR).symm
 have hR5:=(congrArg LoopD.tm hR).symm
 have hR6:=(congrArg LoopD.ps hR).symm
 have hR7:=(congrArg LoopD.asg hR).symm
 have hR8:=(congrArg LoopD.body hR).symm
 dsimp only at hR4 hR5 hR6 hR7 hR8
 clear hR
 refine h9 func280 rfl ntmps280 (by simp) rfl ?_
 have hR9:∀ objs:List DObj,(R.tm.map fun x=>(x.1,eY 6 objs x.2))=R.tm:=by intro objs;rw[hR5];simp
 have hlb:=pE (l.map (·.drawing)) d
 rw[List.length_map] at hlb
 have c2:=fi (G:=G) l d hs hl
 have hs:=za hR1 (za hR2 (za hR3 hlb))
 repeat' first|with_reducible refine zz ?_|simp -dsimp[hs]|refine zq c2 ?_|refine zM 0 41 12 [0,1,2,4,7,24,25,26,27,39] ?_|with_reducible refine zE [0,1,2,3,4,5,6,7,10,11,15,24,25,26,27,39] ?_
 all_goals try clear hs
 rw[← List.map_drop]
 have hge:=ri (d:=d) hs
 have hfs:=xD (d:=d) lt hs
 have hss:((l.drop (lb (l.map (·.drawing)) d)).map (·.drawing)).Pairwise (·≤·):=by rw[List.map_drop];exact hs.drop
 have hsl:l.length-lb (l.map (·.drawing)) d=(l.drop (lb (l.map (·.drawing)) d)).length:=by simp
 rw[hsl]
 have hsl2:(l.drop (lb (l.map (·.drawing)) d)).length<1000000:=by simp;omega
 generalize l.drop (lb (l.map (·.drawing)) d)=s at hge hfs hss hsl2 ⊢
 refine i6 (ι:={ k:Nat // k≤s.length∧n8 l d lt=n8 (s.drop k) d lt }) (fun p=>⟨41,[(0,.one (.yld 5)),(2,.one (.im (.ip [rI d]))),(24,.one (.im (.sl (s.map g9)))),(25,iv (s.length:Int)),(26,iv (p.1:Int))],[.row [.im (rI d),.im (rI lt)],.vec 0 [] 0 true,.vec 0 [] 0 true,.row ((rI 0 :: rI 0 :: [IC.raw (.int .u8 0)]).map .im++[.vec 1 0 0 0,.vec 2 0 0 0]),.row [.im (rB false)],.loop R]⟩) (fun p=>s.length-p.1) ⟨0,by simp[hfs]⟩ (zv [0,2,24,25,26]) ?_
 rintro⟨k,hk,hno⟩
 simp only[iv]
 by_cases hlt:k<s.length
 ·have hx:s[k]?=some s[k]:=by simp[hlt]
  have hw:=zk k
  have hcons:n8 l d lt=if (s[k].drawing==d&&s[k].letter==lt)=true then some s[k] else n8 (s.drop (k+1)) d lt:=by
   rw[hno,List.drop_eq_getElem_cons hlt]
   simp only[n8,List.find?_cons]
   split<;>simp_all
  by_cases hd:s[k].drawing=d
  ·have c3:=oZ (G:=G) s[k]
   simp only[Ef,O0,g9,rI,List.map_cons,List.map_nil,hd] at c3
   have hs:=za hR1 (za hR2 (za hR3 (za hx (za hw (za hd hlt)))))
   repeat' first|(with_reducible first|refine zz ?_|refine zr ?_ (by simp -dsimp[B9,hs];exact rfl))|simp -dsimp[B9,hs]|with_reducible refine At.yield_end ?_;simp -dsimp[hs]|with_reducible refine At.yield_ret ?_;simp -dsimp[hs]|refine ay ?_ ?_<;>simp -dsimp[hs]|refine P2 ?_;simp -dsimp[R7,hR4,hR5,hR6,hR7,hR8,hs]|with_reducible show B9 _ _ _ _ _ _ _ _;simp -dsimp[B9,hs]|refine zq c3 ?_|refine zM 3 18 4 [0,1,3,4,5,6,10,11,15] ?_|with_reducible refine zE [0,1,2,3,4,5,6,7,10,11,15,24,25,26,27,39] ?_|refine i9 ?_ ?_<;>intro h<;>try simp only[i7] at h
   all_goals try clear hs
   ·have h:s[k].letter=lt:=by assumption
    have hf:n8 l d lt=some s[k]:=by rw[hcons,if_pos (by simp[hd,h])]
    simp[hf,hd]
   ·have h:¬ s[k].letter=lt:=by assumption
    have hf:n8 l d lt=n8 (s.drop (k+1)) d lt:=by rw[hcons,if_neg (by simp[hd,h])]
    exact zn ⟨k+1,by omega,hf⟩ (zw [0,2,24,25,26] 6 (by simp[hR9]))
  ·have hnone:n8 l d lt=none:=by
    rw[hno,n8,List.find?_eq_none]
    intro x hxm
    obtain⟨i,hi⟩:=List.mem_iff_getElem?.1 hxm
    rw[List.getElem?_drop] at hi
    have h1:s[k].drawing≤x.drawing:=by
     rcases Nat.eq_zero_or_pos i with rfl|hp
     ·rw[Nat.add_zero,hx] at hi;cases hi;exact Int.le_refl _
     ·have hlt2:=(List.getElem?_eq_some_iff.1 hi).1
      have:=(List.pairwise_iff_getElem.1 hss) k (k+i) (by simpa using hlt) (by simpa using hlt2) (by omega)
      have h6:=(List.getElem?_eq_some_iff.1 hi).2
      simp at this;rw[h6] at this;exact this
    have h2:=hge s[k] (List.getElem_mem hlt)
    simp;omega
   have hs:=za hR1 (za hR2 (za hR3 (za hx (za hw (za hd hlt)))))
   repeat' first|(with_reducible first|refine zz ?_|refine zr ?_ (by simp -dsimp[B9,hs];exact rfl)|refine zE [0,1,2,3,4,5,6,7,10,11,15,24,25,26,27,39] ?_)|simp -dsimp[B9,hs]|with_reducible show B9 _ _ _ _ _ _ _ _;simp -dsimp[B9,hs]|refine i9 ?_ ?_<;>intro h<;>try simp only[i7] at h
   all_goals try clear hs
   all_goals simp[hnone,J7]
 ·have hnone:n8 l d lt=none:=by rw[hno,List.drop_eq_nil_of_le (by omega)];rfl
  have hs:=za hR1 (za hR2 (za hR3 hlt))
  repeat' first|(with_reducible first|refine zz ?_|refine zr ?_ (by simp -dsimp[B9,hs];exact rfl)|refine ze ?_ (by simp -dsimp[B9,hs];exact rfl)|refine zE [0,1,2,3,4,5,6,7,10,11,15,24,25,26,27,39] ?_)|simp -dsimp[B9,hs]|with_reducible show B9 _ _ _ _ _ _ _ _;simp -dsimp[B9,hs]|refine i9 ?_ ?_<;>intro h<;>try simp only[i7] at h
  all_goals try clear hs
  all_goals simp[hnone,J7]
end Go.Proofs
namespace Go.Ab
open Go
def kI (n:Int):List Value:=[.int .i64 n]
def l9 (m:List (Int×Int)) (n:Int):Int:=match m with
 | []=>0
 | p :: r=>if p.1=n then p.2 else l9 r n
def L8 (n v:Int):List (Int×Int)→List (Int×Int)
 | []=>[(n,v)]
 | p :: r=>if p.1=n then (n,v) :: r else p :: L8 n v r
def L9 (m:List (Int×Int)):List (List Value×List DC):=m.map fun p=>(kI p.1,[.im (rI p.2)])
def Z5 (m:List (Int×Int)):List (List Value×List IC):=m.map fun p=>(kI p.1,[rI p.2])
def I3 (l:List Int):List (List Value×List DC):=l.map fun n=>(kI n,[.im (rB true)])
def pX (l:List Int):List (List Value×List IC):=l.map fun n=>(kI n,[rB true])
def nw (n:Int) (l:List Int):List Int:=if n∈l then l else l++[n]
theorem af (n m:Int):A1 [.int .i64 n] (kI m)=decide (m=n):=by
 simp only[kI,A1,Bool.and_true]
 rw[Bool.eq_iff_iff];simp[eq_comm]
@[simp] theorem Io (m:List (Int×Int)) (n:Int):M7 [.int .i64 n] (L9 m) [.im (.raw (.int .i64 0))]=[.im (.raw (.int .i64 (l9 m n)))]:=by
 induction m with
 | nil=>rfl
 | cons p r ih =>
   have e:L9 (p :: r)=(kI p.1,[.im (rI p.2)]) :: L9 r:=rfl
   rw[e]
   simp only[M7,Q3,l9,af,decide_eq_true_eq] at ih ⊢
   split
   ·rfl
   ·exact ih
@[simp] theorem Ij (m:List (Int×Int)) (n v:Int):P4 [.int .i64 n] [.im (.raw (.int .i64 v))] (L9 m)=L9 (L8 n v m):=by
 induction m with
 | nil=>rfl
 | cons p r ih =>
   have e:L9 (p :: r)=(kI p.1,[.im (rI p.2)]) :: L9 r:=rfl
   rw[e]
   simp only[P4,L8,af,decide_eq_true_eq] at ih ⊢
   split
   ·rfl
   ·rw[ih];rfl
@[simp] theorem Im (l:List Int) (n:Int):M7 [.int .i64 n] (I3 l) [.im (.raw (.bool false))]=[.im (.raw (.bool (decide (n∈l))))]:=by
 induction l with
 | nil=>rfl
 | cons p r ih =>
   have e:I3 (p :: r)=(kI p,[.im (rB true)]) :: I3 r:=rfl
   rw[e]
   simp only[M7,Q3,af,decide_eq_true_eq] at ih ⊢
   split
   ·rename_i h;simp[h]
   ·rename_i h
    rw[ih]
    have:(n∈p :: r)=(n∈r):=propext ⟨fun h'=>(List.mem_cons.1 h').resolve_left fun e=>h e.symm,List.mem_cons_of_mem _⟩
    simp only[this]
@[simp] theorem Ii (l:List Int) (n:Int):P4 [.int .i64 n] [.im (.raw (.bool true))] (I3 l)=I3 (nw n l):=by
 have gen:∀ l:List Int,(n∈l→P4 [.int .i64 n] [.im (.raw (.bool true))] (I3 l)=I3 l)∧(n∉l→P4 [.int .i64 n] [.im (.raw (.bool true))] (I3 l)=I3 (l++[n])):=by
  intro l
  induction l with
  | nil=>exact⟨fun h=>by simp at h,fun _=>rfl⟩
  | cons p r ih =>
    have e:I3 (p :: r)=(kI p,[.im (rB true)]) :: I3 r:=rfl
    rw[e]
    simp only[P4,af,decide_eq_true_eq]
    constructor
    ·intro h
     split
     ·rename_i hp;rw[hp];rfl
     ·rename_i hp
      rw[ih.1 ((List.mem_cons.1 h).resolve_left fun e=>hp e.symm)]
    ·intro h
     rw[if_neg fun e=>h (by simp[e]),ih.2 fun e=>h (by simp[e])];rfl
 unfold nw
 split
 ·exact(gen l).1 ‹_›
 ·exact(gen l).2 ‹_›
@[simp] theorem Iq (l:List Int) (n:Int):fQ [.int .i64 n] (I3 l)=I3 (l.erase n):=by
 induction l with
 | nil=>rfl
 | cons p r ih =>
   have e:I3 (p :: r)=(kI p,[.im (rB true)]) :: I3 r:=rfl
   rw[e]
   simp only[fQ,af,decide_eq_true_eq]
   split
   ·rename_i h;subst h;simp
   ·rename_i h
    rw[ih,List.erase_cons_tail (by simpa using h)];rfl
@[simp] theorem Hu (l:List Int):(I3 l).length=l.length:=by simp[I3]
@[simp] theorem Hv (l:List (Int×Int)):(L9 l).length=l.length:=by simp[L9]
@[simp] theorem ET (m:List (Int×Int)):eW (Z5 m)=L9 m:=by simp[eW,Z5,L9]
@[simp] theorem ES (l:List Int):eW (pX l)=I3 l:=by simp[eW,pX,I3]
@[simp] theorem Iu (k n:Nat) (objs:List DObj) (m:List (Int×Int)):D4 (fun x:List Value×List DC=>(D4 (frz (k+1) n objs) x.2).map fun l=>(x.1,l)) (L9 m)=some (Z5 m):=by
 induction m with
 | nil=>rfl
 | cons p r ih =>
   have e:L9 (p :: r)=(kI p.1,[.im (rI p.2)]) :: L9 r:=rfl
   rw[e]
   simp[D4,ih,Z5]
@[simp] theorem Is (k n:Nat) (objs:List DObj) (l:List Int):D4 (fun x:List Value×List DC=>(D4 (frz (k+1) n objs) x.2).map fun l=>(x.1,l)) (I3 l)=some (pX l):=by
 induction l with
 | nil=>rfl
 | cons p r ih =>
   have e:I3 (p :: r)=(kI p,[.im (rB true)]) :: I3 r:=rfl
   rw[e]
   simp[D4,ih,pX]
@[simp] theorem GX (n:Nat) (objs:List DObj) (m:List (Int×Int)):((L9 m).map fun x=>(x.1,x.2.map (fz n objs)))=L9 m:=by
 simp[L9,fz,DC.lt]
@[simp] theorem GV (n:Nat) (objs:List DObj) (l:List Int):((I3 l).map fun x=>(x.1,x.2.map (fz n objs)))=I3 l:=by
 simp[I3,fz,DC.lt]
end Go.Ab
