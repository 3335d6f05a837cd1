/- Part 12 of the proofs. -/
import Derived.Test.YtjodaihiogfkbaaGreatDoorR08
import Derived.Test.YtjodaihiogfkbaaGreatDoorR11
set_option linter.all false
set_option linter.deprecated false
set_option maxHeartbeats 100000000
namespace Go.Ab
open Go
structure Dim where
 nominal:Int
 lower:Int
 upper:Int
 deriving DecidableEq
structure Itm where
 drawing:Int
 count:Int
 deriving DecidableEq
structure Issue where
 drawing:Int
 letter:Int
 kind:Int
 items:List Itm
 dims:List Dim
 deriving DecidableEq
def rI (n:Int):IC:=.raw (.int .i64 n)
def rB (b:Bool):IC:=.raw (.bool b)
def E5 (d:Dim):List IC:=[rI d.nominal,rI d.lower,rI d.upper]
def B5 (x:Itm):List IC:=[rI x.drawing,rI x.count]
def g9 (x:Issue):List IC:=[rI x.drawing,rI x.letter,.raw (.int .u8 x.kind),.sl (x.items.map B5),.sl (x.dims.map E5)]
def encI (n:Int):List IC:=[rI n]
def iv (n:Int):DV:=.one (.im (.raw (.int .i64 n)))
def bv (b:Bool):DV:=.one (.im (.raw (.bool b)))
def u9 (l:List Int):DV:=.one (.im (.sl (l.map encI)))
def I1 (l:List Issue):DV:=.agg [.im (.sl (l.map g9))]
attribute [simp] iv bv u9 I1 rI rB E5 B5 g9 encI
attribute [simp] oW gI jY aw jV gJ jW gK oT oV jX fq nR F9 fu iB
attribute [simp] rf I3 au gO j5 aq p5 DS.put D7 E2 iA wV Gc oR qA lz lw tp cm oU AI cq rX DV.cells eE G9 zcells bJ S4 aG dQ R7 DS.keep BN C0 M8 oS N2 cZ fw fzVL Y2
theorem V4 {p:Prop} {Q:Exit→DS→Prop} {e:Exit} {t:Tok Q} {S:DS} (h:p→At Q e t S):p→At Q e t S:=h
theorem wS (objs:List DObj) (l:List (List IC)):dM objs (.im (.sl l))=some (l8 l):=rfl
theorem tj (objs:List DObj) (o g off len:Nat):dM objs (.vec o g off len)=match objs[o]? with
 | some (.vec _ es g' _)=>if g=g'∧off+len≤es.length then some ((es.drop off).take len) else none
 | _=>none:=by unfold dM;rfl
attribute [simp] wS tj
attribute [simp] ImV.one
theorem Eh (l:List DC):ImV (.agg l)↔∀ d∈l,∃ c,d=.im c:=⟨fun h=>by cases h;assumption,.agg l⟩
theorem Eg (l:List DV):ImV (.tup l)↔∀ d∈l,ImV d:=⟨fun h=>by cases h;assumption,.tup l⟩
attribute [simp] Eh Eg
attribute [simp] Dx Dv di e9 A8 vS DZ R9 Op.operands Call.operands
attribute [simp] rC Bx mq IB pick bM lS ja oQ fe
attribute [simp] CY fr q9 An wd FE jP S9 DS.drop U5 rz
theorem Jm (a b:Int):(a==b)=decide (a=b):=by by_cases h:a=b<;>simp[h]
theorem Jl (a b:Int):(a != b)=!decide (a=b):=by by_cases h:a=b<;>simp[h]
attribute [simp] Jm Jl
theorem FL {n o off:Nat} {objs:List DObj} (h:o<n):fz n objs (.ptr o off)=.ptr o off:=by simp[fz,DC.lt,h]
theorem FO {n o g i off:Nat} {objs:List DObj} (h:o<n):fz n objs (.ept o g i off)=.ept o g i off:=by simp[fz,DC.lt,h]
theorem FK {n o g off len:Nat} {objs:List DObj} (h:o<n):fz n objs (.vec o g off len)=.vec o g off len:=by simp[fz,DC.lt,h]
theorem Ae (x:List IC) (l:List (List IC)):l8 (x :: l)=x.map .im :: l8 l:=rfl
theorem ql (l:List (List IC)) (n:Nat):(∀ e∈l8 l,e.length=n)↔∀ e∈l,e.length=n:=by
 constructor
 ·intro h e he
  have:=h (e.map .im) (by simp only[l8,List.mem_map];exact⟨e,he,rfl⟩)
  simpa using this
 ·exact fun h=>eU h
attribute [simp] ql
theorem ye {α:Type} (f:α→List IC) (l:List α):(l8 (l.map f)).take l.length=l8 (l.map f):=List.take_of_length_le (by simp[q9])
attribute [simp] FL FO FK Ae ye
def yX:Option IC→DC
 | some c=>.im c
 | none=>.dead
theorem Di {n o g off len:Nat} {objs:List DObj} (h:n≤o):fz n objs (.vec o g off len)=yX (frz 20 n objs (.vec o g off len)):=by
 have h1:DC.lt n (.vec o g off len)=false:=by simp[DC.lt];omega
 simp only[fz,h1]
 cases frz 20 n objs (.vec o g off len)<;>rfl
theorem Dj {n o off:Nat} {objs:List DObj} (h:n≤o):fz n objs (.ptr o off)=yX (frz 20 n objs (.ptr o off)):=by
 have h1:DC.lt n (.ptr o off)=false:=by simp[DC.lt];omega
 simp only[fz,h1]
 cases frz 20 n objs (.ptr o off)<;>rfl
theorem FR (k n:Nat) (objs:List DObj) (c:IC):frz (k+1) n objs (.im c)=some c:=rfl
theorem Do (k n o g off len:Nat) (objs:List DObj):frz (k+1) n objs (.vec o g off len)=if n≤o then match objs[o]? with
 | some (.vec _ es g' _)=>if g=g'∧off+len≤es.length then (E4 (E4 (frz k n objs)) ((es.drop off).take len)).map .sl else none
 | _=>none
 else none:=rfl
theorem Dp (k n o off:Nat) (objs:List DObj):frz (k+1) n objs (.ptr o off)=if n≤o then match objs[o]? with
 | some (.row c)=>if off≤c.length then (E4 (frz k n objs) (c.drop off)).map .ip else none
 | _=>none
 else none:=rfl
theorem Ij {n:Nat} {f:Fn} {caps:List DC} {objs:List DObj}:fz n objs (.fn f caps)=if DC.ltL n caps=true then .fn f caps else yX (frz 20 n objs (.fn f caps)):=by
 have h1:DC.lt n (.fn f caps)=DC.ltL n caps:=rfl
 simp only[fz,h1]
 split
 ·rfl
 ·cases frz 20 n objs (.fn f caps)<;>rfl
theorem FT (k n:Nat) (objs:List DObj) (f:Fn) (caps:List DC):frz (k+1) n objs (.fn f caps)=(E4 (frz k n objs) caps).map (.fn f):=rfl
theorem FM {n o:Nat} {objs:List DObj} (h:o<n):fz n objs (.map o)=.map o:=by simp[fz,DC.lt,h]
theorem Dl {n o:Nat} {objs:List DObj} (h:n≤o):fz n objs (.map o)=yX (frz 20 n objs (.map o)):=by
 have h1:DC.lt n (.map o)=false:=by simp[DC.lt];omega
 simp only[fz,h1]
 cases frz 20 n objs (.map o)<;>rfl
theorem Dq (k n o:Nat) (objs:List DObj):frz (k+1) n objs (.map o)=if n≤o then match objs[o]? with
 | some (.map ks es)=>(E4 (fun x=>(E4 (frz k n objs) x.2).map fun l=>(x.1,l)) es).map (.mp (M9 ks))
 | _=>none
 else none:=rfl
theorem FJ {n o:Nat} {objs:List DObj} (h:o<n):fz n objs (.yld o)=.yld o:=by simp[fz,DC.lt,h]
theorem FN {n o:Nat} {objs:List DObj} (h:o<n):fz n objs (.itr o)=.itr o:=by simp[fz,DC.lt,h]
attribute [simp] Ij FT FM Dl Dq FJ FN DC.ltL DC.lt
attribute [simp] yX Di Dj FR Do Dp E4
theorem i7:(∀ (p:Prop) [Decidable p],decide p=true↔p)∧(∀ (p:Prop) [Decidable p],decide p=false↔¬p)∧(∀ a b:Bool,(a&&b)=true↔a=true∧b=true)∧(∀ a b:Bool,(a&&b)=false↔a=false∨b=false)∧(∀ a b:Bool,(a||b)=true↔a=true∨b=true)∧(∀ a b:Bool,(a||b)=false↔a=false∧b=false)∧(∀ a:Bool,(!a)=true↔a=false)∧(∀ a:Bool,(!a)=false↔a=true)∧(∀ (α:Type) [BEq α] [LawfulBEq α] (a b:α),(a==b)=true↔a=b)∧(∀ (α:Type) [BEq α] [LawfulBEq α] (a b:α),(a==b)=false↔a≠b)∧(false=true↔False)∧(true=false↔False):=
 ⟨fun _=>decide_eq_true_iff,fun _=>decide_eq_false_iff_not,fun _ _=>Bool.and_eq_true_iff,fun a b=>by cases a<;>cases b<;>decide,fun a b=>by cases a<;>cases b<;>decide,fun a b=>by cases a<;>cases b<;>decide,fun a=>by cases a<;>decide,fun a=>by cases a<;>decide,fun _ _ _ _ _=>beq_iff_eq,fun _ _ _ _ _=>beq_eq_false_iff_ne,by decide,by decide⟩
abbrev vJ:=@At.seq
abbrev Kf:=@At.then_ret
abbrev Hg:=@At.then_exit
abbrev GA:=@At.block_end
abbrev Ke:=@At.block_ret
abbrev Hf:=@At.block_exit
abbrev JE:=@At.block_out
abbrev KA:=@At.scope_ret
abbrev vI:=@BK
abbrev Cp:=@rt
abbrev Kz:=@rp
abbrev El:=@uZ
abbrev Ky:=@rq
abbrev He:=@vb
abbrev JD:=@BL
abbrev za:=@And.intro
class Zs (A:Prop) (B:outParam Prop):Prop where
 go:B→A
theorem zz {A B:Prop} [h:Zs A B] (b:B):A:=h.go b
section
variable {P:Program} {G:KB} {n:Cx} {S:DS} {Q:Exit→DS→Prop}
instance {y:Code}:Zs (At (Y2 (fun S'=>DT P G n y S' Q) Q) .normal ⟨⟩ S) (DT P G n y S Q):=⟨At.seq⟩
instance {next:DS→Prop}:Zs (At (Y2 next Q) .ret ⟨⟩ S) (At Q .ret ⟨⟩ S):=⟨At.then_ret⟩
instance {next:DS→Prop} {id:Nat}:Zs (At (Y2 next Q) (.exit id) ⟨⟩ S) (At Q (.exit id) ⟨⟩ S):=⟨At.then_exit⟩
instance {id:Nat}:Zs (At (Y1 id Q) .normal ⟨⟩ S) (At Q .normal ⟨⟩ S):=⟨At.block_end⟩
instance {id:Nat}:Zs (At (Y1 id Q) .ret ⟨⟩ S) (At Q .ret ⟨⟩ S):=⟨At.block_ret⟩
instance {id:Nat}:Zs (At (Y1 id Q) (.exit id) ⟨⟩ S) (At Q .normal ⟨⟩ S):=⟨At.block_exit⟩
instance :Zs (At (de Q) .normal ⟨⟩ S) (At Q .normal ⟨⟩ S):=⟨At.scope_end⟩
instance :Zs (At (de Q) .ret ⟨⟩ S) (At Q .ret ⟨⟩ S):=⟨At.scope_ret⟩
instance {id:Nat}:Zs (At (de Q) (.exit id) ⟨⟩ S) (At Q (.exit id) ⟨⟩ S):=⟨At.scope_exit⟩
instance {x y:Code}:Zs (DT P G n (.seq x y) S Q) (DT P G n x S (Y2 (fun S'=>DT P G n y S' Q) Q)):=⟨BK⟩
instance {id:Nat} {c:Code}:Zs (DT P G n (.block id c) S Q) (DT P G n c S (Y1 id Q)):=⟨rt⟩
instance {c:Code}:Zs (DT P G n (.scope c) S Q) (DT P G n c S (de Q)):=⟨rp⟩
instance :Zs (DT P G n .skip S Q) (At Q .normal ⟨⟩ S):=⟨uZ⟩
instance {l:Nat}:Zs (DT P G n (.label l) S Q) (At Q .normal ⟨⟩ S):=⟨rq⟩
instance {id:Nat}:Zs (DT P G n (.exit id) S Q) (At Q (.exit id) ⟨⟩ S):=⟨vb⟩
instance :Zs (DT P G n .ret S Q) (At Q .ret ⟨⟩ S):=⟨BL⟩
theorem zx {rs:List ResultVar} {K:DV→List DObj→Prop} {ds:List DV} (hq:K (N2 ds) S.objs) (h:M8 P S rs=some ds:=by simp -dsimp;exact rfl):At (EE P rs K) .ret ⟨⟩ S:=At.fn_ret h hq
theorem zy {rs:List ResultVar} {K:DV→List DObj→Prop} {ds:List DV} (hq:K (N2 ds) S.objs) (h:M8 P S rs=some ds:=by simp -dsimp;exact rfl):At (EE P rs K) .normal ⟨⟩ S:=At.fn_end h hq
theorem zr {rs:List ResultVar} {K:DV→List DObj→Prop} {ds:List DV} (hq:K (N2 ds) S.objs) (h:M8 P S rs=some ds:=by simp -dsimp[hs];exact rfl):At (EE P rs K) .ret ⟨⟩ S:=At.fn_ret h hq
theorem ze {rs:List ResultVar} {K:DV→List DObj→Prop} {ds:List DV} (hq:K (N2 ds) S.objs) (h:M8 P S rs=some ds:=by simp -dsimp[hs];exact rfl):At (EE P rs K) .normal ⟨⟩ S:=At.fn_end h hq
theorem i9 {c:Operand} {x y:Code} {b:Bool} (ht:b=true→DT P G n x S Q) (hf:b=false→DT P G n y S Q) (hc:j5 G S c=some (.one (.im (.raw (.bool b)))):=by exact rfl):DT P G n (.cond c x y) S Q:=P2 hc ht hf
theorem zM {l:List Oper} (id nt nq:Nat) (ks:List Nat)
 (h:DZ P G (l.map (·.dst)) (l.take nq) S (fun S'=>rf P G (l.map (·.dst)) (l.drop nq) S' (fun S''=>At Q .normal ⟨⟩ (S''.keep ks)) ⟨⟩) ⟨⟩) (hm:P.follows .mixedOrders=true:=by exact mixed) (hnt:S.nt=nt:=by rfl) (hB:gc nt nq l=true:=by kernel_rfl):DT P G n (.region id l.toArray true) S Q:=md nq ks hm hnt hB h
end
abbrev zP (P:Program) (G:KB) (f:FuncId) (av:List DV) (r:DV):Prop:=∀ objs:List DObj,DCall P G f av objs (fun d o=>d=r∧o=objs)
theorem zf {P:Program} {G:KB} {f:FuncId} {fn:Func} {c:Code} {nt:Nat} {args:List DV} {d0:DV} {rs:List ResultVar} (hf:P.funcs[f]?=some fn) (hnt:fn.ntmps=nt) (h:DT P G ⟨([]:List DObj).length,none⟩ c ⟨nt,cZ args 0,[]⟩ (EE P rs (fun d o=>fw 0 o d=d0))) (hb:fn.body=some c:=by exact rfl) (hargs:args.length≤nt:=by simp) (hrs:fn.results.toList=rs:=by exact rfl) (ha:∀ d∈args,ImV d:=by simp) (hd:ImV d0:=by simp):zP P G f args d0:=fun objs=>DCall.frame (h9 hf hb hnt hargs hrs h) ha hd objs
abbrev zp:=@CallE.pure
abbrev zt:=@CallE.thaw
abbrev zh:=@CallE.here
abbrev zq:=@lZ
abbrev zE:=@C4
theorem zw {G:KB} {n:Cx} {S S':DS} (ks:List Nat) (m:Nat) (h:(S.keep ks).drop m=S':=by simp) (hm:m≤S.objs.length:=by simp) (hn:n.n≤m:=by simp):Weak G n S S':=Weak.of_drop ks m hm hn h
theorem zv {G:KB} {n:Cx} {S S':DS} (ks:List Nat) (h:S.keep ks=S':=by simp):Weak G n S S':=Weak.of_keep ks h
theorem zn {G:KB} {n:Cx} {S:DS} {Q:Exit→DS→Prop} {ι:Type} {I:ι→DS} {m:ι→Nat} {i:ι} (j:ι) (h2:Weak G n S (I j)) (h1:m j<m i:=by first|omega|(simp only;omega)|(simp;omega)):At (Y2 (fun S'=>BA G n I m i S') Q) .normal ⟨⟩ S:=At.round j h1 h2
end Go.Ab
namespace Go.Proofs
open Go Go.Ab Tryz
attribute [local simp] E6 setLp
theorem o5 {n:Int} (h1:-9223372036854775808≤n) (h2:n≤9223372036854775807):IntKind.i64.wrap n=n:=IntWalk.i64_in n ⟨h1,h2⟩
theorem zk (k:Nat) (h:k<4611686018427387904:=by omega):IntKind.i64.wrap ((k:Int)+1)=((k+1:Nat):Int):=o5 (by omega) (by omega)
variable {G:KB}
theorem cS (n lo hi:Int) (objs:List DObj):DCall prog G 165 [iv n,iv lo,iv hi] objs (fun d objs'=>d=bv (decide (lo≤n)&&decide (n≤hi))∧objs'=objs):=by
 refine DCall.frame ?_ (by simp) (by simp) objs
 refine h9 func165 rfl ntmps165 (by simp) rfl ?_
 simp only[iv]
 have hs:=trivial
 repeat' first|(with_reducible first|refine zz ?_|refine zr ?_|refine zE [0,1,2,6] ?_)|simp -dsimp[hs]|with_reducible refine j0 ?_ ?_<;>intro h<;>have h0:=h<;>(try simp only[i7] at h)<;>have h2:=h<;>(try simp at h2)<;>replace hs:=za h0 (za h (za h2 hs))
 all_goals simp[bv, *]
def idx (l:List Int) (x:Int):Int:=match l.idxOf? x with|some i=>i|none=>-1
theorem uE {l:List Int} {x:Int} {k:Nat} (h:l[k]?=some x) (hno:∀ j,j<k→l[j]?≠some x):idx l x=k:=by
 have:l.idxOf? x=some k:=by
  rw[List.idxOf?,List.findIdx?_eq_some_iff_getElem]
  obtain⟨hlt,he⟩:=List.getElem?_eq_some_iff.1 h
  refine⟨hlt,by simp[he],fun j hj=>?_⟩
  have:=hno j hj
  rw[List.getElem?_eq_getElem (by omega)] at this
  simpa using this
 simp[idx,this]
theorem Af {l:List Int} {x:Int} (hno:∀ j,j<l.length→l[j]?≠some x):idx l x=-1:=by
 have:l.idxOf? x=none:=by
  rw[List.idxOf?,List.findIdx?_eq_none_iff]
  intro y hy
  obtain⟨j,hj⟩:=List.mem_iff_getElem?.1 hy
  have hlt:=e7 hj
  have:=hno j hlt
  rw[hj] at this
  simpa using this
 simp[idx,this]
theorem oE (l:List Int) (x:Int) (hl:l.length<1000000) (objs:List DObj):DCall prog G 147 [u9 l,iv x] objs (fun d objs'=>d=iv (idx l x)∧objs'=objs):=by
 refine DCall.frame ?_ (by simp) (by simp) objs
 refine h9 func147 rfl ntmps147 (by simp) rfl ?_
 simp only[u9,iv]
 have hs:=trivial
 repeat' first|(with_reducible first|refine zz ?_|refine zE [0,1,4,5,9,17] ?_)|simp -dsimp[hs]
 refine i6 (ι:={ k:Nat // k≤l.length∧∀ j,j<k→l[j]?≠some x }) (fun k=>⟨19,[(0,u9 l),(1,iv x),(4,iv 0),(5,iv (k.1:Int))],[]⟩) (fun k=>l.length-k.1) ⟨0,by simp,by simp⟩ (zv [0,1,4,5] (by simp[u9,iv])) ?_
 rintro⟨k,hk,hno⟩
 simp only[u9,iv]
 by_cases hlt:k<l.length
 ·have hx:l[k]?=some l[k]:=by simp[hlt]
  have hw:=zk k
  have hs:=za hx hw
  repeat' first|(with_reducible first|refine zz ?_|refine zr ?_ (by simp -dsimp[encI,rI,hs];exact rfl)|refine zE [0,1,4,5,9,17] ?_)|simp -dsimp[encI,rI,hs]|refine i9 ?_ ?_<;>intro h<;>try simp only[i7] at h
  all_goals try clear hs
  all_goals try omega
  ·exact(uE (by rw[hx];simp[*]) hno).symm
  ·refine⟨⟨k+1,by omega,fun j hj=>?_⟩,?_,Weak.of_keep [0,1,4,5] (by simp[u9,iv])⟩
   ·by_cases e:j=k
    ·subst e;simp[hx, *]
    ·exact hno j (by omega)
   ·simp;omega
 ·have hs:=trivial
  repeat' first|(with_reducible first|refine zz ?_|refine zr ?_|refine zE [0,1,4,5,9,17] ?_)|simp -dsimp[hs]|refine i9 ?_ ?_<;>intro h<;>try simp only[i7] at h
  all_goals try omega
  exact(Af fun j hj=>hno j (by omega)).symm
end Go.Proofs
namespace Go.Proofs
open Go Go.Ab Tryz
attribute [local simp] E6 setLp
variable {G:KB}
theorem mixed:prog.follows .mixedOrders=true:=by kernel_rfl
def P6 (x:Issue):DV:=.agg ((g9 x).map .im)
attribute [simp] P6
end Go.Proofs
namespace Go.Proofs
open Go Go.Ab
attribute [local simp] E6 setLp
variable {G:KB}
def lY (l:List Issue):Prop:=l.length≤80∧∀ x∈l,x.items.length≤16∧x.dims.length≤8
end Go.Proofs
namespace Go.Proofs
open Go Go.Ab Tryz
attribute [local simp] E6 setLp
variable {G:KB}
instance (l:List Issue):Decidable (lY l):=inferInstanceAs (Decidable (_∧_))
theorem Dh (l:List Issue) (objs:List DObj):DCall prog G 189 [I1 l] objs (fun d objs'=>d=bv (!decide (lY l))∧objs'=objs):=by
 refine DCall.frame ?_ (by simp) (by simp) objs
 refine h9 func189 rfl ntmps189 (by simp) rfl ?_
 simp only[I1,bv]
 have hs:=trivial
 repeat' first|(with_reducible first|refine zz ?_|refine zr ?_|refine zE [0,1,2,3,7,12,32] ?_)|simp -dsimp[hs]|refine i9 ?_ ?_<;>intro h<;>try simp only[i7] at h
 all_goals try clear hs
 ·exact fun hs=>by have:=hs.1;omega
 ·have hl:l.length≤80:=by omega
  refine i6 (ι:={ k:Nat // k≤l.length∧∀ j x,j<k→l[j]?=some x→x.items.length≤16∧x.dims.length≤8 }) (fun p=>⟨33,[(1,.one (.ptr 0 0)),(3,iv (p.1:Int))],[.row [.im (.sl (l.map g9))]]⟩) (fun p=>l.length-p.1) ⟨0,by simp⟩ (zv [1,3] (by simp[iv])) ?_
  rintro⟨k,hk,hno⟩
  simp only[iv]
  by_cases hlt:k<l.length
  ·have hx:l[k]?=some l[k]:=by simp[hlt]
   have hw:=zk k
   have bad:16<l[k].items.length∨8<l[k].dims.length→¬ lY l:=fun h hs=>by have:=hs.2 l[k] (by simp);omega
   have hs:=za hx hw
   repeat' first|(with_reducible first|refine zz ?_|refine zr ?_ (by simp -dsimp[g9,rI,hs];exact rfl)|refine zE [0,1,2,3,7,12,32] ?_)|simp -dsimp[g9,rI,hs]|refine i9 ?_ ?_<;>intro h<;>try simp only[i7] at h|with_reducible refine j0 ?_ ?_<;>intro h<;>have h0:=h<;>(try simp only[i7] at h)<;>have h2:=h<;>(try simp at h2)<;>replace hs:=za h0 (za h (za h2 hs))
   all_goals try clear hs
   all_goals first
    | omega
    | exact bad (by omega)
    | skip
   refine zn ⟨k+1,by omega,fun j x hj hjx=>?_⟩ (zv [1,3])
   by_cases e:j=k
   ·subst e;rw[hx] at hjx;cases hjx;omega
   ·exact hno j x (by omega) hjx
  ·have hs:=hlt
   repeat' first|(with_reducible first|refine zz ?_|refine zr ?_|refine zE [0,1,2,3,7,12,32] ?_)|simp -dsimp[hs]|refine i9 ?_ ?_<;>intro h<;>try simp only[i7] at h
   all_goals try clear hs
   exact⟨hl,fun x hx'=>by
    obtain⟨j,hj⟩:=List.mem_iff_getElem?.1 hx'
    exact hno j x (by have:=e7 hj;omega) hj⟩
end Go.Proofs
namespace Go.Proofs
open Go Go.Ab Tryz
attribute [local simp] E6 setLp
variable {G:KB}
theorem rQ (l r:List Int) (hl:l.length<1000000) (objs:List DObj):DCall prog G 25 [u9 l,u9 r] objs (fun d objs'=>d=bv (decide (l=r))∧objs'=objs):=by
 refine DCall.frame ?_ (by simp) (by simp) objs
 refine h9 func25 rfl ntmps25 (by simp) rfl ?_
 simp only[u9,bv]
 have hs:=trivial
 repeat' first|(with_reducible first|refine zz ?_|refine zr ?_|refine zE [0,1,4,5,10,14,25] ?_)|simp -dsimp[hs]|refine i9 ?_ ?_<;>intro h<;>try simp only[i7] at h
 ·rintro rfl;omega
 ·have hlen:l.length=r.length:=by omega
  refine i6 (ι:={ k:Nat // k≤l.length∧∀ j,j<k→l[j]?=r[j]? }) (fun p=>⟨26,[(0,u9 l),(1,u9 r),(5,iv (p.1:Int))],[]⟩) (fun p=>l.length-p.1) ⟨0,by simp⟩ (zv [0,1,5] (by simp[iv,u9])) ?_
  rintro⟨k,hk,hno⟩
  simp only[iv,u9]
  by_cases hlt:k<l.length
  ·have hx:l[k]?=some l[k]:=by simp[hlt]
   have hltr:k<r.length:=by omega
   have hy:r[k]?=some r[k]:=by simp[hltr]
   have hw:=zk k
   have hs:=za hx (za hy hw)
   repeat' first|(with_reducible first|refine zz ?_|refine zr ?_ (by simp -dsimp[encI,rI,hs];exact rfl))|simp -dsimp[encI,rI,hs]|refine zM 6 26 9 [0,1,4,5,10,14,25] ?_|with_reducible refine zE [0,1,4,5,10,14,25] ?_|refine i9 ?_ ?_<;>intro h<;>try simp only[i7] at h
   all_goals try omega
   ·rename_i h
    rintro rfl;exact h rfl
   ·rename_i h
    refine zn ⟨k+1,by omega,fun j hj=>?_⟩ (zv [0,1,5])
    by_cases e:j=k
    ·subst e;rw[hx,hy,h]
    ·exact hno j (by omega)
  ·have hs:=hlt
   repeat' first|(with_reducible first|refine zz ?_|refine zr ?_|refine zE [0,1,4,5,10,14,25] ?_)|simp -dsimp[hs]|refine i9 ?_ ?_<;>intro h<;>try simp only[i7] at h
   refine List.ext_getElem? fun j=>?_
   by_cases hj:j<k
   ·exact hno j hj
   ·rw[List.getElem?_eq_none (by omega),List.getElem?_eq_none (by omega)]
end Go.Proofs
namespace Go.Proofs
open Go Go.Ab
attribute [local simp] E6 setLp
variable {G:KB}
def Kj (l:List Itm):DV:=.one (.im (.sl (l.map B5)))
attribute [simp] Kj
end Go.Proofs
namespace Go.Proofs
open Go Go.Ab
attribute [local simp] E6 setLp
variable {G:KB}
end Go.Proofs
namespace Go.Proofs
open Go Go.Ab
attribute [local simp] E6 setLp
variable {G:KB}
end Go.Proofs
namespace Go.Proofs
open Go Go.Ab Tryz
attribute [local simp] E6 setLp
variable {G:KB}
def J7:Issue:=⟨0,0,0,[],[]⟩
def o6 (l:List Issue) (d lt:Int):Option Issue:=l.find? fun x=>x.drawing==d&&x.letter==lt
def D6 (d lt:Int):DV:=.agg [.im (rI d),.im (rI lt)]
attribute [simp] D6
theorem sV (l:List Issue) (d lt:Int) (hl:l.length<1000000) (objs:List DObj):DCall prog G 171 [I1 l,D6 d lt] objs (fun r objs'=>r=.tup [P6 ((o6 l d lt).getD J7),bv (o6 l d lt).isSome]∧objs'=objs):=by
 refine DCall.frame ?_ (by simp) (by simp) objs
 refine h9 func171 rfl ntmps171 (by simp) rfl ?_
 simp only[I1,D6,bv,P6]
 have hs:=trivial
 repeat' first|(with_reducible first|refine zz ?_|refine zE [0,1,2,3,4,5,6,7,12,31] ?_)|simp -dsimp[hs]
 refine i6 (ι:={ k:Nat // k≤l.length∧o6 l d lt=o6 (l.drop k) d lt }) (fun p=>⟨34,[(2,.one (.ptr 0 0)),(3,.one (.ptr 1 0)),(4,.one (.ptr 4 0)),(6,iv (p.1:Int))],[.row [.im (.sl (l.map g9))],.row [.im (rI d),.im (rI lt)],.vec 0 [] 0 true,.vec 0 [] 0 true,.row ((rI 0 :: rI 0 :: [IC.raw (.int .u8 0)]).map .im++[.vec 2 0 0 0,.vec 3 0 0 0])]⟩) (fun p=>l.length-p.1) ⟨0,by simp⟩ (zv [2,3,4,6] (by simp[iv,rI])) ?_
 rintro⟨k,hk,hno⟩
 simp only[iv]
 by_cases hlt:k<l.length
 ·have hx:l[k]?=some l[k]:=by simp[hlt]
  have hw:=zk k
  have hcons:o6 l d lt=if (l[k].drawing==d&&l[k].letter==lt)=true then some l[k] else o6 (l.drop (k+1)) d lt:=by
   rw[hno,List.drop_eq_getElem_cons hlt]
   simp only[o6,List.find?_cons]
   split<;>simp_all
  have hs:=za hx hw
  repeat' first|(with_reducible first|refine zz ?_|refine zr ?_ (by simp -dsimp[g9,rI,hs];exact rfl)|refine zE [0,1,2,3,4,5,6,7,12,31] ?_)|simp -dsimp[g9,rI,hs]|refine i9 ?_ ?_<;>intro h<;>try simp only[i7] at h|with_reducible refine j0 ?_ ?_<;>intro h<;>have h0:=h<;>(try simp only[i7] at h)<;>have h2:=h<;>(try simp at h2)<;>replace hs:=za h0 (za h (za h2 hs))
  all_goals try clear hs
  all_goals try omega
  ·have hf:o6 l d lt=some l[k]:=by simp_all
   simp[hf, *]
  ·rename_i h
   have hf:o6 l d lt=o6 (l.drop (k+1)) d lt:=by rw[hcons];simp[h]
   exact zn ⟨k+1,by omega,hf⟩ (zw [2,3,4,6] 5 (by simp[rI]))
  ·rename_i h2 h
   have hf:o6 l d lt=o6 (l.drop (k+1)) d lt:=by rw[hcons];simp[h2]
   exact zn ⟨k+1,by omega,hf⟩ (zw [2,3,4,6] 5 (by simp[rI]))
 ·have hf:o6 l d lt=none:=by rw[hno,List.drop_eq_nil_of_le (by omega)];rfl
  have hs:=hlt
  repeat' first|(with_reducible first|refine zz ?_|refine zr ?_ (by simp -dsimp[g9,rI,hs];exact rfl)|refine zE [0,1,2,3,4,5,6,7,12,31] ?_)|simp -dsimp[g9,rI,hs]|refine i9 ?_ ?_<;>intro h<;>try simp only[i7] at h
  all_goals simp[hf,J7]
end Go.Proofs
namespace Go.Proofs
open Go Go.Ab Tryz
attribute [local simp] E6 setLp
variable {G:KB}
def I7 {α:Type} (p:α→Bool) (l:List α):Int:=match l.findIdx? p with|some i=>i|none=>-1
theorem M7 {α:Type} {p:α→Bool} {l:List α} {i:Nat} {x:α} (h:l[i]?=some x) (hp:p x=true) (hno:∀ (j:Nat) (x:α),j<i→l[j]?=some x→p x=false):I7 p l=i:=by
 have:l.findIdx? p=some i:=by
  rw[List.findIdx?_eq_some_iff_getElem]
  obtain⟨hlt,he⟩:=List.getElem?_eq_some_iff.1 h
  refine⟨hlt,by rw[he];exact hp,fun j hj=>?_⟩
  have:=hno j l[j] hj (by simp)
  simp[this]
 simp[I7,this]
theorem T1 {α:Type} {p:α→Bool} {l:List α} (hno:∀ (j:Nat) (x:α),l[j]?=some x→p x=false):I7 p l=-1:=by
 have:l.findIdx? p=none:=by
  rw[List.findIdx?_eq_none_iff]
  intro y hy
  obtain⟨j,hj⟩:=List.mem_iff_getElem?.1 hy
  exact hno j y hj
 simp[I7,this]
theorem B4 {α:Type} (p:α→Bool) (l:List α):decide (0≤I7 p l)=l.any p:=by
 unfold I7
 split
 ·rename_i i h
  rw[List.findIdx?_eq_some_iff_getElem] at h
  obtain⟨hlt,hp,_⟩:=h
  have:l.any p=true:=List.any_eq_true.2 ⟨l[i],by simp,hp⟩
  simp[this]
 ·rename_i h
  rw[List.findIdx?_eq_none_iff] at h
  have:l.any p=false:=by rw[List.any_eq_false];intro x hx;simp[h x hx]
  simp[this]
def zS (x:Itm):DV:=.agg ((B5 x).map .im)
def gL (x:Dim):DV:=.agg ((E5 x).map .im)
attribute [simp] zS gL
theorem eT (l:List Int) (p:Int→Bool) (k:Nat) (caps:List DC) (objs:List DObj) (hok:E1 prog k) (hf:∀ x∈l,DCall prog G k (iv x :: caps.map .one) objs (fun d o=>d=bv (p x)∧o=objs)) (hl:l.length<1000000):DCall prog G 188 [.one (.im (.sl (l.map encI))),.one (.fn (.func k) caps)] objs (fun d o=>d=iv (I7 p l)∧o=objs):=by
 refine h9 func188 rfl ntmps188 (by simp) rfl ?_
 have hs:=trivial
 repeat' first|(with_reducible first|refine zz ?_|refine zE [0,1,4,5,7,8,9,16] ?_)|simp -dsimp[hs]
 refine i6 (ι:={ k:Nat // k≤l.length∧∀ j x,j<k→l[j]?=some x→p x=false }) (fun i=>⟨19,[(0,.one (.im (.sl (l.map encI)))),(1,.one (.fn (.func k) caps)),(7,iv (l.length:Int)),(8,iv (i.1:Int))],objs⟩) (fun i=>l.length-i.1) ⟨0,by simp⟩ (zv [0,1,7,8]) ?_
 rintro⟨i,hi,hno⟩
 simp only[iv]
 by_cases hlt:i<l.length
 ·have hx:l[i]?=some l[i]:=by simp[hlt]
  have hw:=zk i
  have hc:=hf l[i] (by simp)
  simp only[iv,encI,List.map_cons,List.map_nil,bv,rI] at hc
  have hs:=za hx (za hw hok)
  repeat' first|(with_reducible first|refine zz ?_|refine And.intro (by omega) ?_|refine zr ?_|refine zE [0,1,4,5,7,8,9,16] ?_)|simp -dsimp[hs]|refine CallE.here hc ?_|refine i9 ?_ ?_<;>intro h<;>try simp only[i7] at h|with_reducible refine And.intro ?_ ?_
  all_goals try omega
  ·exact(M7 hx (by assumption) hno).symm
  ·exact At.round ⟨i+1,by omega,fun j x hj hjx=>by
    by_cases e:j=i
    ·subst e;rw[hx] at hjx;cases hjx;assumption
    ·exact hno j x (by omega) hjx⟩ (by simp;omega) (zv [0,1,7,8])
 ·have hs:=trivial
  repeat' first|(with_reducible first|refine zz ?_|refine zr ?_|refine zE [0,1,4,5,7,8,9,16] ?_)|simp -dsimp[hs]|refine i9 ?_ ?_<;>intro h<;>try simp only[i7] at h|with_reducible refine And.intro ?_ ?_
  all_goals try omega
  exact(T1 fun j x hjx=>hno j x (by have:=e7 hjx;omega) hjx).symm
theorem C9 (l:List Int) (p:Int→Bool) (k:Nat) (caps:List DC) (objs:List DObj) (hok:E1 prog k) (hf:∀ x∈l,DCall prog G k (iv x :: caps.map .one) objs (fun d o=>d=bv (p x)∧o=objs)) (hl:l.length<1000000):DCall prog G 122 [.one (.im (.sl (l.map encI))),.one (.fn (.func k) caps)] objs (fun d o=>d=bv (l.any p)∧o=objs):=by
 refine h9 func122 rfl ntmps122 (by simp) rfl ?_
 have hc:=eT l p k caps objs hok hf hl
 repeat' first|(with_reducible first|refine zz ?_|refine zx ?_|refine zE [0,1,4] ?_)|simp -dsimp|refine CallE.here hc ?_|with_reducible refine And.intro ?_ ?_
 simp[B4]
theorem mr (l:List Itm) (p:Itm→Bool) (k:Nat) (caps:List DC) (objs:List DObj) (hok:E1 prog k) (hf:∀ x∈l,DCall prog G k (zS x :: caps.map .one) objs (fun d o=>d=bv (p x)∧o=objs)) (hl:l.length<1000000):DCall prog G 279 [.one (.im (.sl (l.map B5))),.one (.fn (.func k) caps)] objs (fun d o=>d=iv (I7 p l)∧o=objs):=by
 refine h9 func279 rfl ntmps279 (by simp) rfl ?_
 have hs:=trivial
 repeat' first|(with_reducible first|refine zz ?_|refine zE [0,1,4,5,7,8,9,16] ?_)|simp -dsimp[hs]
 refine i6 (ι:={ k:Nat // k≤l.length∧∀ j x,j<k→l[j]?=some x→p x=false }) (fun i=>⟨19,[(0,.one (.im (.sl (l.map B5)))),(1,.one (.fn (.func k) caps)),(7,iv (l.length:Int)),(8,iv (i.1:Int))],objs⟩) (fun i=>l.length-i.1) ⟨0,by simp⟩ (zv [0,1,7,8]) ?_
 rintro⟨i,hi,hno⟩
 simp only[iv]
 by_cases hlt:i<l.length
 ·have hx:l[i]?=some l[i]:=by simp[hlt]
  have hw:=zk i
  have hc:=hf l[i] (by simp)
  simp only[zS,B5,List.map_cons,List.map_nil,bv,rI] at hc
  have hs:=za hx (za hw hok)
  repeat' first|(with_reducible first|refine zz ?_|refine And.intro (by omega) ?_|refine zr ?_|refine zE [0,1,4,5,7,8,9,16] ?_)|simp -dsimp[hs]|refine CallE.here hc ?_|refine i9 ?_ ?_<;>intro h<;>try simp only[i7] at h|with_reducible refine And.intro ?_ ?_
  all_goals try omega
  ·exact(M7 hx (by assumption) hno).symm
  ·exact At.round ⟨i+1,by omega,fun j x hj hjx=>by
    by_cases e:j=i
    ·subst e;rw[hx] at hjx;cases hjx;assumption
    ·exact hno j x (by omega) hjx⟩ (by simp;omega) (zv [0,1,7,8])
 ·have hs:=trivial
  repeat' first|(with_reducible first|refine zz ?_|refine zr ?_|refine zE [0,1,4,5,7,8,9,16] ?_)|simp -dsimp[hs]|refine i9 ?_ ?_<;>intro h<;>try simp only[i7] at h|with_reducible refine And.intro ?_ ?_
  all_goals try omega
  exact(T1 fun j x hjx=>hno j x (by have:=e7 hjx;omega) hjx).symm
theorem iT (l:List Itm) (p:Itm→Bool) (k:Nat) (caps:List DC) (objs:List DObj) (hok:E1 prog k) (hf:∀ x∈l,DCall prog G k (zS x :: caps.map .one) objs (fun d o=>d=bv (p x)∧o=objs)) (hl:l.length<1000000):DCall prog G 223 [.one (.im (.sl (l.map B5))),.one (.fn (.func k) caps)] objs (fun d o=>d=bv (l.any p)∧o=objs):=by
 refine h9 func223 rfl ntmps223 (by simp) rfl ?_
 have hc:=mr l p k caps objs hok hf hl
 repeat' first|(with_reducible first|refine zz ?_|refine zx ?_|refine zE [0,1,4] ?_)|simp -dsimp|refine CallE.here hc ?_|with_reducible refine And.intro ?_ ?_
 simp[B4]
theorem mu (l:List Dim) (p:Dim→Bool) (k:Nat) (caps:List DC) (objs:List DObj) (hok:E1 prog k) (hf:∀ x∈l,DCall prog G k (gL x :: caps.map .one) objs (fun d o=>d=bv (p x)∧o=objs)) (hl:l.length<1000000):DCall prog G 363 [.one (.im (.sl (l.map E5))),.one (.fn (.func k) caps)] objs (fun d o=>d=iv (I7 p l)∧o=objs):=by
 refine h9 func363 rfl ntmps363 (by simp) rfl ?_
 have hs:=trivial
 repeat' first|(with_reducible first|refine zz ?_|refine zE [0,1,4,5,7,8,9,16] ?_)|simp -dsimp[hs]
 refine i6 (ι:={ k:Nat // k≤l.length∧∀ j x,j<k→l[j]?=some x→p x=false }) (fun i=>⟨19,[(0,.one (.im (.sl (l.map E5)))),(1,.one (.fn (.func k) caps)),(7,iv (l.length:Int)),(8,iv (i.1:Int))],objs⟩) (fun i=>l.length-i.1) ⟨0,by simp⟩ (zv [0,1,7,8]) ?_
 rintro⟨i,hi,hno⟩
 simp only[iv]
 by_cases hlt:i<l.length
 ·have hx:l[i]?=some l[i]:=by simp[hlt]
  have hw:=zk i
  have hc:=hf l[i] (by simp)
  simp only[gL,E5,List.map_cons,List.map_nil,bv,rI] at hc
  have hs:=za hx (za hw hok)
  repeat' first|(with_reducible first|refine zz ?_|refine And.intro (by omega) ?_|refine zr ?_|refine zE [0,1,4,5,7,8,9,16] ?_)|simp -dsimp[hs]|refine CallE.here hc ?_|refine i9 ?_ ?_<;>intro h<;>try simp only[i7] at h|with_reducible refine And.intro ?_ ?_
  all_goals try omega
  ·exact(M7 hx (by assumption) hno).symm
  ·exact At.round ⟨i+1,by omega,fun j x hj hjx=>by
    by_cases e:j=i
    ·subst e;rw[hx] at hjx;cases hjx;assumption
    ·exact hno j x (by omega) hjx⟩ (by simp;omega) (zv [0,1,7,8])
 ·have hs:=trivial
  repeat' first|(with_reducible first|refine zz ?_|refine zr ?_|refine zE [0,1,4,5,7,8,9,16] ?_)|simp -dsimp[hs]|refine i9 ?_ ?_<;>intro h<;>try simp only[i7] at h|with_reducible refine And.intro ?_ ?_
  all_goals try omega
  exact(T1 fun j x hjx=>hno j x (by have:=e7 hjx;omega) hjx).symm
theorem iV (l:List Dim) (p:Dim→Bool) (k:Nat) (caps:List DC) (objs:List DObj) (hok:E1 prog k) (hf:∀ x∈l,DCall prog G k (gL x :: caps.map .one) objs (fun d o=>d=bv (p x)∧o=objs)) (hl:l.length<1000000):DCall prog G 361 [.one (.im (.sl (l.map E5))),.one (.fn (.func k) caps)] objs (fun d o=>d=bv (l.any p)∧o=objs):=by
 refine h9 func361 rfl ntmps361 (by simp) rfl ?_
 have hc:=mu l p k caps objs hok hf hl
 repeat' first|(with_reducible first|refine zz ?_|refine zx ?_|refine zE [0,1,4] ?_)|simp -dsimp|refine CallE.here hc ?_|with_reducible refine And.intro ?_ ?_
 simp[B4]
theorem wZ (l:List Itm) (hl:l.length<1000000) (objs:List DObj):DCall prog G 109 [.one (.im (.sl (l.map B5)))] objs (fun d objs'=>d=.one (.im (.sl (l.map B5)))∧objs'=objs):=by
 refine DCall.frame ?_ (by simp) (by simp) objs
 refine h9 func109 rfl ntmps109 (by simp) rfl ?_
 repeat' first|(with_reducible first|refine zz ?_|refine And.intro (by omega) ?_|refine zx ?_|refine zE [0,2,4] ?_)|simp -dsimp|refine i9 ?_ ?_<;>intro h<;>try simp only[i7] at h|with_reducible refine V4 (fun h=>?_);(try simp only[List.map_eq_nil_iff] at h);(try subst h);try simp -dsimp|with_reducible refine And.intro ?_ ?_
 all_goals omega
theorem xc (l:List Dim) (hl:l.length<1000000) (objs:List DObj):DCall prog G 110 [.one (.im (.sl (l.map E5)))] objs (fun d objs'=>d=.one (.im (.sl (l.map E5)))∧objs'=objs):=by
 refine DCall.frame ?_ (by simp) (by simp) objs
 refine h9 func110 rfl ntmps110 (by simp) rfl ?_
 repeat' first|(with_reducible first|refine zz ?_|refine And.intro (by omega) ?_|refine zx ?_|refine zE [0,2,4] ?_)|simp -dsimp|refine i9 ?_ ?_<;>intro h<;>try simp only[i7] at h|with_reducible refine V4 (fun h=>?_);(try simp only[List.map_eq_nil_iff] at h);(try subst h);try simp -dsimp|with_reducible refine And.intro ?_ ?_
 all_goals omega
end Go.Proofs
namespace Go.Proofs
open Go Go.Ab Tryz
attribute [local simp] E6 setLp
variable {G:KB}
theorem Ad (x lo hi:Int):DCall prog G 236 (iv x :: [DC.ptr 0 0,DC.ptr 1 0].map .one) [.row [.im (rI lo)],.row [.im (rI hi)]] (fun d o=>d=bv (decide (x<lo)||decide (hi<x))∧o=[.row [.im (rI lo)],.row [.im (rI hi)]]):=by
 refine h9 func236 rfl ntmps236 (by simp) rfl ?_
 simp only[rI]
 have hs:=trivial
 repeat' first|(with_reducible first|refine zz ?_|refine zr ?_|refine zE [0,1,2,4] ?_)|simp -dsimp[hs]|with_reducible refine j0 ?_ ?_<;>intro h<;>have h0:=h<;>(try simp only[i7] at h)<;>have h2:=h<;>(try simp at h2)<;>replace hs:=za h0 (za h (za h2 hs))|with_reducible refine And.intro ?_ ?_
 all_goals try clear hs
 all_goals simp[*]
theorem gy (lo hi:Int) (l:List Int) (hl:l.length<1000000):zP prog G 194 [iv lo,iv hi,u9 l] (bv (l.all fun x=>decide (lo≤x)&&decide (x≤hi))):=by
 refine zf func194 ntmps194 ?_
 try simp only[iv,iv,u9]
 have hc:=C9 (G:=G) l (fun x=>decide (x<lo)||decide (hi<x)) 236 [.ptr 0 0,.ptr 1 0] [.row [.im (rI lo)],.row [.im (rI hi)]] (by simp) (fun x _=>Ad x lo hi) hl
 simp only[rI] at hc
 repeat' first|(with_reducible first|refine zz ?_|refine zx ?_|refine zE [0,1,2,3,4,6] ?_)|simp -dsimp|refine CallE.here hc ?_
 rw[Bool.eq_iff_iff];simp
 exact exists_congr fun x=>and_congr_right fun _=>by omega
theorem wt (x lo hi:Int):DCall prog G 278 (iv x :: [DC.ptr 0 0,DC.ptr 1 0].map .one) [.row [.im (rI lo)],.row [.im (rI hi)]] (fun d o=>d=bv (decide (x<lo)||decide (hi<x))∧o=[.row [.im (rI lo)],.row [.im (rI hi)]]):=by
 refine h9 func278 rfl ntmps278 (by simp) rfl ?_
 simp only[rI]
 have hs:=trivial
 repeat' first|(with_reducible first|refine zz ?_|refine zr ?_|refine zE [0,1,2,4] ?_)|simp -dsimp[hs]|with_reducible refine j0 ?_ ?_<;>intro h<;>have h0:=h<;>(try simp only[i7] at h)<;>have h2:=h<;>(try simp at h2)<;>replace hs:=za h0 (za h (za h2 hs))|with_reducible refine And.intro ?_ ?_
 all_goals try clear hs
 all_goals simp[*]
theorem ao (lo hi:Int) (l:List Int) (hl:l.length<1000000):zP prog G 222 [iv lo,iv hi,u9 l] (bv (l.all fun x=>decide (lo≤x)&&decide (x≤hi))):=by
 refine zf func222 ntmps222 ?_
 try simp only[iv,iv,u9]
 have hc:=C9 (G:=G) l (fun x=>decide (x<lo)||decide (hi<x)) 278 [.ptr 0 0,.ptr 1 0] [.row [.im (rI lo)],.row [.im (rI hi)]] (by simp) (fun x _=>wt x lo hi) hl
 simp only[rI] at hc
 repeat' first|(with_reducible first|refine zz ?_|refine zx ?_|refine zE [0,1,2,3,4,6] ?_)|simp -dsimp|refine CallE.here hc ?_
 rw[Bool.eq_iff_iff];simp
 exact exists_congr fun x=>and_congr_right fun _=>by omega
theorem Ac (x lo hi:Int):DCall prog G 178 (iv x :: [DC.ptr 0 0,DC.ptr 1 0].map .one) [.row [.im (rI lo)],.row [.im (rI hi)]] (fun d o=>d=bv (decide (x<lo)||decide (hi<x))∧o=[.row [.im (rI lo)],.row [.im (rI hi)]]):=by
 refine h9 func178 rfl ntmps178 (by simp) rfl ?_
 simp only[rI]
 have hs:=trivial
 repeat' first|(with_reducible first|refine zz ?_|refine zr ?_|refine zE [0,1,2,4] ?_)|simp -dsimp[hs]|with_reducible refine j0 ?_ ?_<;>intro h<;>have h0:=h<;>(try simp only[i7] at h)<;>have h2:=h<;>(try simp at h2)<;>replace hs:=za h0 (za h (za h2 hs))|with_reducible refine And.intro ?_ ?_
 all_goals try clear hs
 all_goals simp[*]
theorem CX (lo hi:Int) (l:List Int) (hl:l.length<1000000):zP prog G 116 [iv lo,iv hi,u9 l] (bv (l.all fun x=>decide (lo≤x)&&decide (x≤hi))):=by
 refine zf func116 ntmps116 ?_
 try simp only[iv,iv,u9]
 have hc:=C9 (G:=G) l (fun x=>decide (x<lo)||decide (hi<x)) 178 [.ptr 0 0,.ptr 1 0] [.row [.im (rI lo)],.row [.im (rI hi)]] (by simp) (fun x _=>Ac x lo hi) hl
 simp only[rI] at hc
 repeat' first|(with_reducible first|refine zz ?_|refine zx ?_|refine zE [0,1,2,3,4,6] ?_)|simp -dsimp|refine CallE.here hc ?_
 rw[Bool.eq_iff_iff];simp
 exact exists_congr fun x=>and_congr_right fun _=>by omega
def J5 (d:Dim):Bool:=decide (0≤d.nominal)&&decide (d.nominal≤1000000000)&&(decide (0≤d.lower)&&decide (d.lower≤1000000000))&&(decide (0≤d.upper)&&decide (d.upper≤1000000000))&&decide (d.lower≤d.upper)
theorem pC (d:Dim):zP prog G 117 [gL d] (iv (if J5 d then 0 else 10)):=by
 refine zf func117 ntmps117 ?_
 try simp only[gL]
 have hc:=CX (G:=G) 0 1000000000 [d.nominal,d.lower,d.upper] (by simp)
 have hs:=trivial
 repeat' first|(with_reducible first|refine zz ?_|refine zr ?_|refine zE [0,1,2,18] ?_)|simp -dsimp[hs]|refine zt hc ?_ ?_ ?_;(focus simp;done);focus (simp;done)|refine i9 ?_ ?_<;>intro h<;>try simp only[i7] at h|with_reducible refine j0 ?_ ?_<;>intro h<;>have h0:=h<;>(try simp only[i7] at h)<;>have h2:=h<;>(try simp at h2)<;>replace hs:=za h0 (za h (za h2 hs))
 all_goals try clear hs
 all_goals simp_all [J5]
 all_goals omega
def ET (x:Issue):DV:=D6 x.drawing x.letter
attribute [simp] ET
theorem pF (x:Issue):zP prog G 228 [P6 x] (ET x):=by
 refine zf func228 ntmps228 ?_
 try simp only[P6]
 repeat' first|(with_reducible first|refine zz ?_|refine zx ?_|refine zE [0,1,2] ?_)|simp -dsimp
theorem AL (x:Issue) (hi:x.items.length≤16) (hd:x.dims.length≤8):zP prog G 177 [P6 x] (P6 x):=by
 refine zf func177 ntmps177 ?_
 try simp only[P6]
 have h1:=wZ (G:=G) x.items (by omega)
 have h2:=xc (G:=G) x.dims (by omega)
 repeat' first|(with_reducible first|refine zz ?_|refine zx ?_)|simp -dsimp|refine zq h1 ?_|refine zq h2 ?_|refine zM 1 12 7 [0,1,2] ?_|with_reducible refine zE [0,1,2] ?_
def AO (x:Issue):Bool:=(decide (1≤x.drawing)&&decide (x.drawing≤9999))&&(decide (1≤x.letter)&&decide (x.letter≤8))
theorem Iw (x:Issue):zP prog G 357 [P6 x] (bv (AO x)):=by
 refine zf func357 ntmps357 ?_
 try simp only[P6]
 have c1:=ao (G:=G) 1 9999 [x.drawing] (by simp)
 have c2:=ao (G:=G) 1 8 [x.letter] (by simp)
 have hs:=trivial
 repeat' first|(with_reducible first|refine zz ?_|refine zr ?_|refine zE [0,1,2] ?_)|simp -dsimp[hs]|refine zt c1 ?_ ?_ ?_;(focus simp;done);focus (simp;done)|refine zt c2 ?_ ?_ ?_;(focus simp;done);focus (simp;done)|with_reducible refine j0 ?_ ?_<;>intro h<;>have h0:=h<;>(try simp only[i7] at h)<;>have h2:=h<;>(try simp at h2)<;>replace hs:=za h0 (za h (za h2 hs))
 all_goals try clear hs
 all_goals simp_all [AO]
 all_goals omega
def BP (x:Issue):Bool:=if x.kind=1 then (decide (1≤x.items.length)&&decide (x.items.length≤8))&&decide (x.dims.length=0) else (decide (2≤x.kind)&&decide (x.kind≤3))&&decide (x.dims.length≤4)&&decide (x.items.length=0)
theorem Iv (x:Issue) (hk:0≤x.kind∧x.kind≤255):zP prog G 358 [P6 x] (bv (BP x)):=by
 refine zf func358 ntmps358 ?_
 try simp only[P6]
 have c1:=ao (G:=G) 1 8 [(x.items.length:Int)] (by simp)
 have c2:=ao (G:=G) 2 3 [x.kind] (by simp)
 have hw:IntKind.i64.wrap x.kind=x.kind:=o5 (by omega) (by omega)
 have hs:=hw
 repeat' first|(with_reducible first|refine zz ?_|refine zr ?_|refine zE [0,1,2,5] ?_)|simp -dsimp[hs]|refine zt c1 ?_ ?_ ?_;(focus simp;done);focus (simp;done)|refine zt c2 ?_ ?_ ?_;(focus simp;done);focus (simp;done)|refine i9 ?_ ?_<;>intro h<;>try simp only[i7] at h|with_reducible refine j0 ?_ ?_<;>intro h<;>have h0:=h<;>(try simp only[i7] at h)<;>have h2:=h<;>(try simp at h2)<;>replace hs:=za h0 (za h (za h2 hs))
 all_goals try clear hs
 all_goals simp_all [BP]
 all_goals omega
theorem Gj (d:Dim):zP prog G 362 [gL d] (bv (!J5 d)):=by
 refine zf func362 ntmps362 ?_
 try simp only[gL]
 have h1:=pC (G:=G) d
 cases hd:J5 d<;>simp only[hd] at h1
 ·repeat' first|(with_reducible first|refine zz ?_|refine zx ?_|refine zE [0,1,2] ?_)|simp -dsimp|refine zp h1 ?_
 ·repeat' first|(with_reducible first|refine zz ?_|refine zx ?_|refine zE [0,1,2] ?_)|simp -dsimp|refine zp h1 ?_
theorem It (x:Issue) (hl:x.dims.length<1000000):zP prog G 360 [P6 x] (bv (x.dims.all J5)):=by
 refine zf func360 ntmps360 ?_
 try simp only[P6]
 have c1:=fun objs=>DCall.fnArg2 (cs:=[]) (iV (G:=G) x.dims (fun d=>!J5 d) 362 [] objs (by simp) (fun d _=>Gj d objs) hl)
 repeat' first|(with_reducible first|refine zz ?_|refine zx ?_|refine zE [0,1,2] ?_)|simp -dsimp|refine zp c1 ?_
 rw[Bool.eq_iff_iff];simp
end Go.Proofs
namespace Go.Proofs
open Go Go.Ab Tryz
attribute [local simp] E6 setLp
variable {G:KB}
theorem gx (x:Int):zP prog G 239 [iv x] (bv false):=by
 refine zf func239 ntmps239 ?_
 try simp only[iv]
 repeat' first|(with_reducible first|refine zz ?_|refine zx ?_|refine zE [0,2] ?_)|simp -dsimp
theorem qi (x:Int):zP prog G 197 [iv x] (bv false):=by
 refine zf func197 ntmps197 ?_
 try simp only[iv]
 repeat' first|(with_reducible first|refine zz ?_|refine zx ?_|refine zE [0,2] ?_)|simp -dsimp
theorem FA (x y:Int):zP prog G 196 [iv x,iv y] (bv (decide (x<y))):=by
 refine zf func196 ntmps196 ?_
 try simp only[iv,iv]
 have c1:=gx (G:=G) x
 have c2:=gx (G:=G) y
 repeat' first|(with_reducible first|refine zz ?_|refine zx ?_|refine zE [0,1,4] ?_)|simp -dsimp|refine zp c1 ?_
 all_goals simp_all
def eH (x y:Int):Int:=if x<y then -1 else if y<x then 1 else 0
theorem iW (x y:Int):zP prog G 283 [iv x,iv y] (iv (eH x y)):=by
 refine zf func283 ntmps283 ?_
 try simp only[iv,iv]
 have c1:=gx (G:=G) x
 have c2:=gx (G:=G) y
 repeat' first|(with_reducible first|refine zz ?_|refine zx ?_|refine zE [0,1,4,5,6,11,12,13,16,19] ?_)|simp -dsimp|refine zp c1 ?_|refine zp c2 ?_|refine i9 ?_ ?_<;>intro h<;>try simp only[i7] at h
 all_goals simp_all [eH]
 all_goals omega
theorem lG (x:Issue) (n:Int):zP prog G 282 [P6 x,iv n] (iv (eH x.drawing n)):=by
 refine zf func282 ntmps282 ?_
 try simp only[P6,iv]
 have c1:=iW (G:=G) x.drawing n
 repeat' first|(with_reducible first|refine zz ?_|refine zx ?_|refine zE [0,1,2,4] ?_)|simp -dsimp|refine zp c1 ?_
end Go.Proofs
namespace Go.Proofs
open Go Go.Ab Tryz
attribute [local simp] E6 setLp
variable {G:KB}
def F7 (d:Int):Int→List Itm→Bool
 | _,[]=>true
 | prev,y :: r=>(decide (1≤y.drawing)&&decide (y.drawing≤9999))&&(decide (1≤y.count)&&decide (y.count≤20)) && !decide (y.drawing=d)&&decide (prev<y.drawing)&&F7 d y.drawing r
def pv (l:List Itm):Nat→Int
 | 0=>0
 | k+1=>((l[k]?).map (·.drawing)).getD 0
theorem Iu (x:Issue) (hl:x.items.length<1000000):zP prog G 359 [P6 x] (bv (F7 x.drawing 0 x.items)):=by
 refine zf func359 ntmps359 ?_
 try simp only[P6]
 have hs:=trivial
 repeat' first|(with_reducible first|refine zz ?_|refine zE [0,1,2,3,4,6,7,8,9,47] ?_)|simp -dsimp[hs]
 refine i6 (ι:={ k:Nat // k≤x.items.length∧F7 x.drawing 0 x.items=F7 x.drawing (pv x.items k) (x.items.drop k) }) (fun p=>⟨49,[(1,.one (.ptr 0 0)),(6,.one (.im (.sl (x.items.map B5)))),(7,iv (x.items.length:Int)),(8,iv (p.1:Int))],[.row ((g9 x).map .im)]⟩) (fun p=>x.items.length-p.1) ⟨0,by simp[pv]⟩ (zv [1,6,7,8]) ?_
 rintro⟨k,hk,hno⟩
 simp only[iv,g9,rI,List.map_cons,List.map_nil]
 by_cases hlt:k<x.items.length
 ·have hx:x.items[k]?=some x.items[k]:=by simp[hlt]
  have hw:=zk k
  have hw2:IntKind.i64.wrap ((k:Int)-1)=(k:Int)-1:=o5 (by omega) (by omega)
  have c1:=ao (G:=G) 1 9999 [x.items[k].drawing] (by simp)
  have c2:=ao (G:=G) 1 20 [x.items[k].count] (by simp)
  have hcons:F7 x.drawing 0 x.items=((decide (1≤x.items[k].drawing)&&decide (x.items[k].drawing≤9999))&&(decide (1≤x.items[k].count)&&decide (x.items[k].count≤20)) && !decide (x.items[k].drawing=x.drawing)&&decide (pv x.items k<x.items[k].drawing)&&F7 x.drawing x.items[k].drawing (x.items.drop (k+1))):=by
   rw[hno,List.drop_eq_getElem_cons hlt,F7]
  have hpv1:pv x.items (k+1)=x.items[k].drawing:=by simp[pv,hx]
  by_cases hk0:0<k
  ·have hkx:x.items[k-1]?=some x.items[k-1]:=by simp
   have hcast:(k:Int)-1=((k-1:Nat):Int):=by omega
   have hw3:IntKind.i64.wrap ((k:Int)-1)=((k-1:Nat):Int):=by rw[hw2,hcast]
   have hpv0:pv x.items k=x.items[k-1].drawing:=by
    obtain⟨j,rfl⟩:∃ j,k=j+1:=⟨k-1,by omega⟩
    have:x.items[j]?=some x.items[j]:=by simp
    simp[pv,this]
   rw[hpv0] at hcons
   have hs:=za hx (za hw (za hw3 (za hkx hk0)))
   repeat' first|(with_reducible first|refine zz ?_|refine zr ?_)|simp -dsimp[hs]|refine zq c1 ?_|refine zq c2 ?_|refine zM 4 49 35 [0,1,2,3,4,6,7,8,9,47] ?_|with_reducible refine zE [0,1,2,3,4,6,7,8,9,47] ?_|refine i9 ?_ ?_<;>intro h<;>try simp only[i7] at h|with_reducible refine j0 ?_ ?_<;>intro h<;>have h0:=h<;>(try simp only[i7] at h)<;>have h2:=h<;>(try simp at h2)<;>replace hs:=za h0 (za h (za h2 hs))
   all_goals try clear hs
   all_goals try omega
   all_goals first
    | (refine zn ⟨k+1,by omega,by clear hno;rw[hcons,hpv1];clear hcons;simp_all;try omega⟩ (zw [1,6,7,8] 1))
    | (clear hno;rw[hcons];clear hcons;simp_all;try omega)
  ·have hpv0:pv x.items k=0:=by
    obtain rfl:k=0:=by omega
    rfl
   rw[hpv0] at hcons
   have hs:=za hx (za hw hk0)
   repeat' first|(with_reducible first|refine zz ?_|refine zr ?_)|simp -dsimp[hs]|refine zq c1 ?_|refine zq c2 ?_|refine zM 4 49 35 [0,1,2,3,4,6,7,8,9,47] ?_|with_reducible refine zE [0,1,2,3,4,6,7,8,9,47] ?_|refine i9 ?_ ?_<;>intro h<;>try simp only[i7] at h|with_reducible refine j0 ?_ ?_<;>intro h<;>have h0:=h<;>(try simp only[i7] at h)<;>have h2:=h<;>(try simp at h2)<;>replace hs:=za h0 (za h (za h2 hs))
   all_goals try clear hs
   all_goals try omega
   all_goals first
    | (refine zn ⟨k+1,by omega,by clear hno;rw[hcons,hpv1];clear hcons;simp_all;try omega⟩ (zw [1,6,7,8] 1))
    | (clear hno;rw[hcons];clear hcons;simp_all;try omega)
 ·have hs:=trivial
  repeat' first|(with_reducible first|refine zz ?_|refine zr ?_|refine zE [0,1,2,3,4,6,7,8,9,47] ?_)|simp -dsimp[hs]|refine i9 ?_ ?_<;>intro h<;>try simp only[i7] at h
  all_goals try omega
  rw[hno,List.drop_eq_nil_of_le (by omega)];rfl
end Go.Proofs
namespace Go.Proofs
open Go Go.Ab Tryz
attribute [local simp] E6 setLp
variable {G:KB}
def lb (l:List Int) (x:Int):Nat:=(l.filter fun y=>decide (y<x)).length
theorem qe (l:List Int) (x:Int):lb l x≤l.length:=List.length_filter_le _ _
theorem ce:∀ {l:List Int} {x:Int},l.Pairwise (·≤·)→∀ (i:Nat) (y:Int),l[i]?=some y→(y<x↔i<lb l x)
 | [],x,_,i,y,h=>by simp at h
 | a :: l,x,hs,i,y,h=>by
   simp only[List.pairwise_cons] at hs
   by_cases ha:a<x
   ·have e:lb (a :: l) x=lb l x+1:=by simp[lb,ha]
    rw[e]
    cases i with
    | zero=>simp at h;subst h;simp[ha]
    | succ i =>
      have:=ce (x:=x) hs.2 i y (by simpa using h)
      omega
   ·have hall:∀ z∈l,¬ z<x:=fun z hz=>by have:=hs.1 z hz;omega
    have e:lb (a :: l) x=0:=by
     have hf:l.filter (fun y=>decide (y<x))=[]:=by
      rw[List.filter_eq_nil_iff];intro z hz;simpa using hall z hz
     simp[lb,ha,hf]
    rw[e]
    cases i with
    | zero=>simp at h;subst h;simp[ha]
    | succ i =>
      have:=hall y (List.mem_of_getElem? (by simpa using h))
      omega
theorem sv {l:List Int} {x:Int} (hs:l.Pairwise (·≤·)):x∈l↔l[lb l x]?=some x:=by
 constructor
 ·intro h
  obtain⟨i,hi⟩:=List.mem_iff_getElem?.1 h
  have h1:=ce (x:=x) hs i x hi
  have h2:lb l x≤i:=by omega
  have hlt:=e7 hi
  have h3:l[lb l x]?=some l[lb l x]:=by simp
  have h4:=ce (x:=x) hs _ _ h3
  have h5:l[lb l x]≤x:=by
   by_cases e:lb l x=i
   ·have:l[lb l x]?=some x:=by rw[e];exact hi
    rw[h3] at this;simp at this;omega
   ·have:=(List.pairwise_iff_getElem.1 hs) (lb l x) i (by omega) hlt (by omega)
    have h6:=(List.getElem?_eq_some_iff.1 hi).2
    omega
  rw[h3]
  congr 1
  omega
 ·exact fun h=>List.mem_of_getElem? h
theorem vM:(2:Int) ^ min 1 IntKind.u64.bits=2:=rfl
attribute [simp] vM
theorem GQ {n:Int} (h1:0≤n) (h2:n≤18446744073709551615):IntKind.u64.wrap n=n:=IntWalk.u64_in n ⟨h1,h2⟩
theorem nH (l:List Int) (x:Int) (hs:l.Pairwise (·≤·)) (hl:l.length<1000000):zP prog G 133 [u9 l,iv x] (.tup [iv (lb l x),bv (decide (x∈l))]):=by
 refine zf func133 ntmps133 ?_
 try simp only[u9,iv]
 have hlb:=qe l x
 have hs:=trivial
 repeat' first|(with_reducible first|refine zz ?_|refine zE [0,1,4,5,6,7,8,9,15,27] ?_)|simp -dsimp[hs]
 all_goals try clear hs
 refine i6 (ι:={ p:Nat×Nat // p.1≤lb l x∧lb l x≤p.2∧p.2≤l.length }) (fun p=>⟨54,[(0,u9 l),(1,iv x),(6,iv (l.length:Int)),(7,iv (p.1.1:Int)),(8,iv (p.1.2:Int))],[]⟩) (fun p=>p.1.2-p.1.1) ⟨(0,l.length),by simp;omega⟩ (zv [0,1,6,7,8]) ?_
 rintro⟨⟨i,j⟩,h1,h2,h3⟩
 simp only at h1 h2 h3
 simp only[iv,u9]
 have hw1:IntKind.i64.wrap ((i:Int)+(j:Int))=(i:Int)+(j:Int):=o5 (by omega) (by omega)
 have hw2:IntKind.u64.wrap ((i:Int)+(j:Int))=(i:Int)+(j:Int):=GQ (by omega) (by omega)
 have hd:((i:Int)+(j:Int)).fdiv 2=(((i+j) / 2:Nat):Int):=by
  rw[Int.fdiv_eq_ediv_of_nonneg _ (by omega)];omega
 have hw3:IntKind.i64.wrap ((((i+j) / 2:Nat):Int))=(((i+j) / 2:Nat):Int):=o5 (by omega) (by omega)
 have hw4:IntKind.i64.wrap ((((i+j) / 2:Nat):Int)+1)=(((i+j) / 2+1:Nat):Int):=o5 (by omega) (by omega)
 by_cases hlt:i<j
 ·generalize hm:(i+j) / 2=m at hd hw3 hw4
  have hx:l[m]?=some l[m]:=by simp
  have hsp:=ce (x:=x) hs m l[m] hx
  have c1:=FA (G:=G) l[m] x
  by_cases hc:l[m]<x
  ·simp only[hc,decide_true] at c1
   have hs:=za hx (za hw1 (za hw2 (za hw3 (za hw4 (za hd hm)))))
   repeat' first|(with_reducible first|refine zz ?_|refine zr ?_|refine zE [0,1,4,5,6,7,8,9,15,27] ?_)|simp -dsimp[hs]|refine zp c1 ?_|refine i9 ?_ ?_<;>intro h<;>try simp only[i7] at h|with_reducible refine j0 ?_ ?_<;>intro h<;>have h0:=h<;>(try simp only[i7] at h)<;>have h2:=h<;>(try simp at h2)<;>replace hs:=za h0 (za h (za h2 hs))
   all_goals try clear hs
   all_goals try omega
   exact zn ⟨(m+1,j),by simp;omega⟩ (zv [0,1,6,7,8])
  ·simp only[hc,decide_false] at c1
   have hs:=za hx (za hw1 (za hw2 (za hw3 (za hw4 (za hd hm)))))
   repeat' first|(with_reducible first|refine zz ?_|refine zr ?_|refine zE [0,1,4,5,6,7,8,9,15,27] ?_)|simp -dsimp[hs]|refine zp c1 ?_|refine i9 ?_ ?_<;>intro h<;>try simp only[i7] at h|with_reducible refine j0 ?_ ?_<;>intro h<;>have h0:=h<;>(try simp only[i7] at h)<;>have h2:=h<;>(try simp at h2)<;>replace hs:=za h0 (za h (za h2 hs))
   all_goals try clear hs
   all_goals try omega
   exact zn ⟨(i,m),by simp;omega⟩ (zv [0,1,6,7,8])
 ·have hi:i=lb l x:=by omega
  subst hi
  have c2:=qi (G:=G) x
  have hmem:=sv (x:=x) hs
  by_cases hn:lb l x<l.length
  ·have hx:l[lb l x]?=some l[lb l x]:=by simp[hn]
   have c1:=qi (G:=G) l[lb l x]
   rw[hx] at hmem
   have hs:=za hx (za hlt hn)
   repeat' first|(with_reducible first|refine zz ?_|refine zr ?_|refine zE [0,1,4,5,6,7,8,9,15,27] ?_)|simp -dsimp[hs]|refine zp c1 ?_|refine i9 ?_ ?_<;>intro h<;>try simp only[i7] at h|with_reducible refine j0 ?_ ?_<;>intro h<;>have h0:=h<;>(try simp only[i7] at h)<;>have h2:=h<;>(try simp at h2)<;>replace hs:=za h0 (za h (za h2 hs))
   all_goals try clear hs
   all_goals try omega
   all_goals simp_all
  ·rw[List.getElem?_eq_none (by omega)] at hmem
   have hs:=za hlt hn
   repeat' first|(with_reducible first|refine zz ?_|refine zr ?_|refine zE [0,1,4,5,6,7,8,9,15,27] ?_)|simp -dsimp[hs]|refine i9 ?_ ?_<;>intro h<;>try simp only[i7] at h
   all_goals try clear hs
   all_goals try omega
   all_goals simp_all
end Go.Proofs
namespace Go.Proofs
open Go Go.Ab Tryz
attribute [local simp] E6 setLp
variable {G:KB}
theorem fH (l:List Issue) (x:Int) (hs:(l.map (·.drawing)).Pairwise (·≤·)) (hl:l.length<1000000):zP prog G 281 [.one (.im (.sl (l.map g9))),iv x,.one (.im (.fn (.func 282) []))] (.tup [iv (lb (l.map (·.drawing)) x),bv (decide (x∈l.map (·.drawing)))]):=by
 refine zf func281 ntmps281 ?_
 try simp only[iv]
 have hlb:=qe (l.map (·.drawing)) x
 simp only[List.length_map] at hlb
 have hs:=trivial
 repeat' first|(with_reducible first|refine zz ?_|refine zE [0,1,2,6,7,8,9,10,11,17,31] ?_)|simp -dsimp[hs]
 all_goals try clear hs
 refine i6 (ι:={ p:Nat×Nat // p.1≤lb (l.map (·.drawing)) x∧lb (l.map (·.drawing)) x≤p.2∧p.2≤l.length }) (fun p=>⟨49,[(0,.one (.im (.sl (l.map g9)))),(1,iv x),(2,.one (.im (.fn (.func 282) []))),(8,iv (l.length:Int)),(9,iv (p.1.1:Int)),(10,iv (p.1.2:Int))],[]⟩) (fun p=>p.1.2-p.1.1) ⟨(0,l.length),by simp;omega⟩ (zv [0,1,2,8,9,10]) ?_
 rintro⟨⟨i,j⟩,h1,h2,h3⟩
 simp only at h1 h2 h3
 simp only[iv,u9]
 have hw1:IntKind.i64.wrap ((i:Int)+(j:Int))=(i:Int)+(j:Int):=o5 (by omega) (by omega)
 have hw2:IntKind.u64.wrap ((i:Int)+(j:Int))=(i:Int)+(j:Int):=GQ (by omega) (by omega)
 have hd:((i:Int)+(j:Int)).fdiv 2=(((i+j) / 2:Nat):Int):=by
  rw[Int.fdiv_eq_ediv_of_nonneg _ (by omega)];omega
 have hw3:IntKind.i64.wrap ((((i+j) / 2:Nat):Int))=(((i+j) / 2:Nat):Int):=o5 (by omega) (by omega)
 have hw4:IntKind.i64.wrap ((((i+j) / 2:Nat):Int)+1)=(((i+j) / 2+1:Nat):Int):=o5 (by omega) (by omega)
 by_cases hlt:i<j
 ·generalize hm:(i+j) / 2=m at hd hw3 hw4
  have hx:l[m]?=some l[m]:=by simp
  have hsp:=ce (x:=x) hs m l[m].drawing (by simp[hx])
  have c1:=lG (G:=G) l[m] x
  by_cases hc:l[m].drawing<x
  ·have hcm:eH l[m].drawing x=-1:=by simp[eH,hc]
   rw[hcm] at c1
   have hs:=za hx (za hw1 (za hw2 (za hw3 (za hw4 (za hd hm)))))
   repeat' first|(with_reducible first|refine zz ?_|refine zr ?_|refine zE [0,1,2,6,7,8,9,10,11,17,31] ?_)|simp -dsimp[hs]|refine zp c1 ?_|refine i9 ?_ ?_<;>intro h<;>try simp only[i7] at h|with_reducible refine j0 ?_ ?_<;>intro h<;>have h0:=h<;>(try simp only[i7] at h)<;>have h2:=h<;>(try simp at h2)<;>replace hs:=za h0 (za h (za h2 hs))
   all_goals try clear hs
   all_goals try omega
   exact zn ⟨(m+1,j),by simp;omega⟩ (zv [0,1,2,8,9,10])
  ·have hcm:¬ eH l[m].drawing x<0:=by simp only[eH,hc,if_false];split<;>omega
   generalize eH l[m].drawing x=q at c1 hcm
   have hs:=za hx (za hw1 (za hw2 (za hw3 (za hw4 (za hd hm)))))
   repeat' first|(with_reducible first|refine zz ?_|refine zr ?_|refine zE [0,1,2,6,7,8,9,10,11,17,31] ?_)|simp -dsimp[hs]|refine zp c1 ?_|refine i9 ?_ ?_<;>intro h<;>try simp only[i7] at h|with_reducible refine j0 ?_ ?_<;>intro h<;>have h0:=h<;>(try simp only[i7] at h)<;>have h2:=h<;>(try simp at h2)<;>replace hs:=za h0 (za h (za h2 hs))
   all_goals try clear hs
   all_goals try omega
   exact zn ⟨(i,m),by simp;omega⟩ (zv [0,1,2,8,9,10])
 ·have hi:i=lb (l.map (·.drawing)) x:=by omega
  subst hi
  have hmem:=sv (x:=x) hs
  by_cases hn:lb (l.map (·.drawing)) x<l.length
  ·have hx:l[lb (l.map (·.drawing)) x]?=some l[lb (l.map (·.drawing)) x]:=by simp[hn]
   have c1:=lG (G:=G) l[lb (l.map (·.drawing)) x] x
   have hq:decide (eH l[lb (l.map (·.drawing)) x].drawing x=0)=decide (x∈l.map (·.drawing)):=by
    rw[decide_eq_decide,hmem,List.getElem?_map,hx]
    simp only[eH,Option.map_some,Option.some.injEq]
    split<;>(try split)<;>omega
   generalize eH l[lb (l.map (·.drawing)) x].drawing x=q at c1 hq
   have hs:=za hx (za hlt hn)
   repeat' first|(with_reducible first|refine zz ?_|refine zr ?_|refine zE [0,1,2,6,7,8,9,10,11,17,31] ?_)|simp -dsimp[hs]|refine zp c1 ?_|refine i9 ?_ ?_<;>intro h<;>try simp only[i7] at h
   all_goals try clear hs
   all_goals try omega
   all_goals simp_all
  ·rw[List.getElem?_eq_none (by simp;omega)] at hmem
   have hs:=za hlt hn
   repeat' first|(with_reducible first|refine zz ?_|refine zr ?_|refine zE [0,1,2,6,7,8,9,10,11,17,31] ?_)|simp -dsimp[hs]|refine i9 ?_ ?_<;>intro h<;>try simp only[i7] at h
   all_goals try clear hs
   all_goals try omega
   all_goals simp_all
def A1 (l:List Issue) (ds:List Int):IC:=.ip [.sl (l.map g9),.sl (ds.map encI)]
theorem Aj (l:List Issue) (ds:List Int) (n:Int) (hs:ds.Pairwise (·≤·)) (hl:ds.length<1000000):zP prog G 225 [.one (.im (A1 l ds)),iv n] (bv (decide (n∈ds))):=by
 refine zf func225 ntmps225 ?_
 try simp only[iv]
 have c1:=nH (G:=G) ds n hs hl
 simp only[A1]
 have hs:=trivial
 repeat' first|(with_reducible first|refine zz ?_|refine zr ?_|refine zE [0,1,4,6] ?_)|simp -dsimp[hs]|refine zp c1 ?_
 all_goals try clear hs
theorem lh (b:IC) (n:Int):zP prog G 227 [.one (.im b),iv n] (.one (.im (.fn (.func 280) [.ip [b],.ip [rI n]]))):=by
 refine zf func227 ntmps227 ?_
 try simp only[iv]
 repeat' first|(with_reducible first|refine zz ?_|refine zx ?_|refine zE [0,1,2,3,4] ?_)|simp -dsimp
end Go.Proofs
namespace Go.Ab
open Go
@[simp] theorem EA {α:Type} (objs:List DObj) (l:List α) (f:α→List IC) (k sz:Nat) (h:k≤l.length) (hf:∀ x,(f x).length=sz) :
 E6 objs (.im (.sl (l.map f))) (k:Int) none sz=some (.im (.sl ((l.drop k).map f))):=by
 simp only[E6,Option.getD_none,List.length_map,Int.toNat_natCast,Int.natCast_eq_zero]
 rw[if_pos (by omega)]
 split
 ·rename_i hk;subst hk
  simp[List.take_of_length_le]
 ·by_cases hk:k<l.length
  ·simp[hk,hf,List.take_of_length_le,List.map_drop]
  ·have he:k=l.length:=by omega
   subst he
   simp
@[simp] theorem Ez {α:Type} (objs:List DObj) (l:List α) (f:α→List IC) (k sz:Nat) (h:k≤l.length) :
 E6 objs (.im (.sl (l.map f))) 0 (some (k:Int)) sz=some (.im (.sl ((l.take k).map f))):=by
 simp only[E6,Option.getD_some,List.length_map,Int.toNat_natCast]
 rw[if_pos (by omega),if_pos trivial,List.map_take]
theorem tc (objs:List DObj) (o g off len:Nat) (lo:Int) (hi:Option Int) (sz:Nat):E6 objs (.vec o g off len) lo hi sz=if 0≤lo∧lo≤hi.getD len∧hi.getD len≤len then match objs[o]? with
 | some (.vec z _ g' _)=>if g=g'∧(z=sz∨len=0) then some (.vec o g (off+lo.toNat) ((hi.getD len).toNat-lo.toNat)) else none
 | _=>none
 else none:=rfl
attribute [simp] tc
def LoopD.at (r:LoopD) (st:LoopState) (pend:Option Code):LoopD:={ r with st:=st,pend:=pend }
theorem LoopD.at_st (r:LoopD) (st:LoopState) (pend:Option Code):(r.at st pend).st=st:=rfl
theorem LoopD.at_pend (r:LoopD) (st:LoopState) (pend:Option Code):(r.at st pend).pend=pend:=rfl
theorem LoopD.at_nt (r:LoopD) (st:LoopState) (pend:Option Code):(r.at st pend).nt=r.nt:=rfl
theorem LoopD.at_tm (r:LoopD) (st:LoopState) (pend:Option Code):(r.at st pend).tm=r.tm:=rfl
theorem LoopD.at_ps (r:LoopD) (st:LoopState) (pend:Option Code):(r.at st pend).ps=r.ps:=rfl
theorem LoopD.at_asg (r:LoopD) (st:LoopState) (pend:Option Code):(r.at st pend).asg=r.asg:=rfl
theorem LoopD.at_body (r:LoopD) (st:LoopState) (pend:Option Code):(r.at st pend).body=r.body:=rfl
theorem LoopD.at_at (r:LoopD) (st st':LoopState) (pend pend':Option Code):(r.at st pend).at st' pend'=r.at st' pend':=rfl
attribute [simp] LoopD.at_st LoopD.at_pend LoopD.at_nt LoopD.at_tm LoopD.at_ps LoopD.at_asg LoopD.at_body LoopD.at_at
theorem yn (objs:List DObj) (o:Nat) (st:LoopState) (pend:Option Code):setLp objs o st pend=match objs[o]? with
 | some (.loop r)=>objs.set o (.loop (r.at st pend))
 | _=>objs:=rfl
attribute [simp] yn
theorem R2 {P:Program} {G:KB} {o:Nat} {xs:List DV} {objs:List DObj} {C:DV→List DObj→Prop} {t:Tok C} (h:T8 P G o xs objs C objs[o]?):lU P G o xs objs C t:=h
theorem aQ {P:Program} {G:KB} {o m:Nat} {body:Code} {C:DV→List DObj→Prop} {A:DS→Prop} {Q:Exit→DS→Prop} {t:Tok (Y2 (fun S'=>A S'∧Gz P G o m body C S') Q)} {S:DS} (h1:A S)
 (h2:DT P G ⟨m,some o⟩ body { S with objs:=setLp S.objs o .busy none } (pf o C)):At (Y2 (fun S'=>A S'∧Gz P G o m body C S') Q) .normal t S:=⟨h1,h2⟩
end Go.Ab
namespace Go.Proofs
open Go Go.Ab Tryz
variable {G:KB}
theorem rP {l:List Issue} {d:Int} (hs:(l.map (·.drawing)).Pairwise (·≤·)):∀ x∈l.drop (lb (l.map (·.drawing)) d),d≤x.drawing:=by
 intro x hx
 obtain⟨i,hi⟩:=List.mem_iff_getElem?.1 hx
 rw[List.getElem?_drop] at hi
 have:=ce (x:=d) hs _ x.drawing (by rw[List.getElem?_map,hi];rfl)
 omega
theorem rO {l:List Issue} {d:Int} (hs:(l.map (·.drawing)).Pairwise (·≤·)):∀ x∈l.take (lb (l.map (·.drawing)) d),x.drawing<d:=by
 intro x hx
 obtain⟨i,hi⟩:=List.mem_iff_getElem?.1 hx
 have hlt:i<lb (l.map (·.drawing)) d:=by
  have:=(List.getElem?_eq_some_iff.1 hi).1
  simp at this;omega
 rw[List.getElem?_take_of_lt hlt] at hi
 exact(ce (x:=d) hs i x.drawing (by rw[List.getElem?_map,hi];rfl)).2 hlt
theorem yq {l:List Issue} {d:Int} (lt:Int) (hs:(l.map (·.drawing)).Pairwise (·≤·)):o6 l d lt=o6 (l.drop (lb (l.map (·.drawing)) d)) d lt:=by
 conv=>lhs;rw[← List.take_append_drop (lb (l.map (·.drawing)) d) l]
 simp only[o6,List.find?_append]
 rw[List.find?_eq_none.2 fun x hx=>?_]
 ·rfl
 ·have:=rO hs x hx
  simp;omega
theorem uS (l:List Issue) (ds:List Int) (d lt:Int) (hs:(l.map (·.drawing)).Pairwise (·≤·)) (hl:l.length<1000000):zP prog G 176 [.one (.im (A1 l ds)),D6 d lt] (.tup [P6 ((o6 l d lt).getD J7),bv (o6 l d lt).isSome]):=by
 refine zf func176 ntmps176 ?_
 try simp only[D6]
 simp only[D6,A1]
 have c1:=lh (G:=G) (A1 l ds) d
 simp only[A1] at c1
 have hs:=trivial
 repeat' first|(with_reducible first|refine zz ?_|refine zE [0,1,3,4,5,6,10,11,15] ?_)|simp -dsimp[hs]|refine zp c1 ?_
 all_goals try clear hs
 refine U0 (f:=280) (by simp;exact rfl) (by rfl) call280 ?_
 generalize hR:LoopD.mk _ _ _ _ _ _ _=R
 have hR1:R.st=.ready:=by rw[← hR]
 have hR2:R.pend=none:=by rw[← hR]
 have hR3:R.at .ready none=R:=by rw[← hR];rfl
 have hR4:=(congrArg LoopD.nt hR).symm
 have hR5:=(congrArg LoopD.tm hR).symm
 have hR6:=(congrArg LoopD.ps hR).symm
 have hR7:=(congrArg LoopD.asg hR).symm
 have hR8:=(congrArg LoopD.body hR).symm
 dsimp only at hR4 hR5 hR6 hR7 hR8
 clear hR
 refine h9 func280 rfl ntmps280 (by simp) rfl ?_
 have hR9:∀ objs:List DObj,(R.tm.map fun x=>(x.1,fw 6 objs x.2))=R.tm:=by intro objs;rw[hR5];simp
 have hlb:=qe (l.map (·.drawing)) d
 rw[List.length_map] at hlb
 have c2:=fH (G:=G) l d hs hl
 have hs:=za hR1 (za hR2 (za hR3 hlb))
 repeat' first|with_reducible refine zz ?_|simp -dsimp[hs]|refine zq c2 ?_|refine zM 0 41 12 [0,1,2,4,7,24,25,26,27,39] ?_|with_reducible refine zE [0,1,2,3,4,5,6,7,10,11,15,24,25,26,27,39] ?_
 all_goals try clear hs
 rw[← List.map_drop]
 have hge:=rP (d:=d) hs
 have hfs:=yq (d:=d) lt hs
 have hss:((l.drop (lb (l.map (·.drawing)) d)).map (·.drawing)).Pairwise (·≤·):=by rw[List.map_drop];exact hs.drop
 have hsl:l.length-lb (l.map (·.drawing)) d=(l.drop (lb (l.map (·.drawing)) d)).length:=by simp
 rw[hsl]
 have hsl2:(l.drop (lb (l.map (·.drawing)) d)).length<1000000:=by simp;omega
 generalize l.drop (lb (l.map (·.drawing)) d)=s at hge hfs hss hsl2 ⊢
 refine i6 (ι:={ k:Nat // k≤s.length∧o6 l d lt=o6 (s.drop k) d lt }) (fun p=>⟨41,[(0,.one (.yld 5)),(2,.one (.im (.ip [rI d]))),(24,.one (.im (.sl (s.map g9)))),(25,iv (s.length:Int)),(26,iv (p.1:Int))],[.row [.im (rI d),.im (rI lt)],.vec 0 [] 0 true,.vec 0 [] 0 true,.row ((rI 0 :: rI 0 :: [IC.raw (.int .u8 0)]).map .im++[.vec 1 0 0 0,.vec 2 0 0 0]),.row [.im (rB false)],.loop R]⟩) (fun p=>s.length-p.1) ⟨0,by simp[hfs]⟩ (zv [0,2,24,25,26]) ?_
 rintro⟨k,hk,hno⟩
 simp only[iv]
 by_cases hlt:k<s.length
 ·have hx:s[k]?=some s[k]:=by simp[hlt]
  have hw:=zk k
  have hcons:o6 l d lt=if (s[k].drawing==d&&s[k].letter==lt)=true then some s[k] else o6 (s.drop (k+1)) d lt:=by
   rw[hno,List.drop_eq_getElem_cons hlt]
   simp only[o6,List.find?_cons]
   split<;>simp_all
  by_cases hd:s[k].drawing=d
  ·have c3:=pF (G:=G) s[k]
   simp only[ET,P6,g9,rI,List.map_cons,List.map_nil,hd] at c3
   have hs:=za hR1 (za hR2 (za hR3 (za hx (za hw (za hd hlt)))))
   repeat' first|(with_reducible first|refine zz ?_|refine zr ?_ (by simp -dsimp[C8,hs];exact rfl))|simp -dsimp[C8,hs]|with_reducible refine At.yield_end ?_;simp -dsimp[hs]|with_reducible refine At.yield_ret ?_;simp -dsimp[hs]|refine aQ ?_ ?_<;>simp -dsimp[hs]|refine R2 ?_;simp -dsimp[T8,hR4,hR5,hR6,hR7,hR8,hs]|with_reducible show C8 _ _ _ _ _ _ _ _;simp -dsimp[C8,hs]|refine zq c3 ?_|refine zM 3 18 4 [0,1,3,4,5,6,10,11,15] ?_|with_reducible refine zE [0,1,2,3,4,5,6,7,10,11,15,24,25,26,27,39] ?_|refine i9 ?_ ?_<;>intro h<;>try simp only[i7] at h
   all_goals try clear hs
   ·have h:s[k].letter=lt:=by assumption
    have hf:o6 l d lt=some s[k]:=by rw[hcons,if_pos (by simp[hd,h])]
    simp[hf,hd]
   ·have h:¬ s[k].letter=lt:=by assumption
    have hf:o6 l d lt=o6 (s.drop (k+1)) d lt:=by rw[hcons,if_neg (by simp[hd,h])]
    exact zn ⟨k+1,by omega,hf⟩ (zw [0,2,24,25,26] 6 (by simp[hR9]))
  ·have hnone:o6 l d lt=none:=by
    rw[hno,o6,List.find?_eq_none]
    intro x hxm
    obtain⟨i,hi⟩:=List.mem_iff_getElem?.1 hxm
    rw[List.getElem?_drop] at hi
    have h1:s[k].drawing≤x.drawing:=by
     rcases Nat.eq_zero_or_pos i with rfl|hp
     ·rw[Nat.add_zero,hx] at hi;cases hi;exact Int.le_refl _
     ·have hlt2:=(List.getElem?_eq_some_iff.1 hi).1
      have:=(List.pairwise_iff_getElem.1 hss) k (k+i) (by simpa using hlt) (by simpa using hlt2) (by omega)
      have h6:=(List.getElem?_eq_some_iff.1 hi).2
      simp at this;rw[h6] at this;exact this
    have h2:=hge s[k] (List.getElem_mem hlt)
    simp;omega
   have hs:=za hR1 (za hR2 (za hR3 (za hx (za hw (za hd hlt)))))
   repeat' first|(with_reducible first|refine zz ?_|refine zr ?_ (by simp -dsimp[C8,hs];exact rfl)|refine zE [0,1,2,3,4,5,6,7,10,11,15,24,25,26,27,39] ?_)|simp -dsimp[C8,hs]|with_reducible show C8 _ _ _ _ _ _ _ _;simp -dsimp[C8,hs]|refine i9 ?_ ?_<;>intro h<;>try simp only[i7] at h
   all_goals try clear hs
   all_goals simp[hnone,J7]
 ·have hnone:o6 l d lt=none:=by rw[hno,List.drop_eq_nil_of_le (by omega)];rfl
  have hs:=za hR1 (za hR2 (za hR3 hlt))
  repeat' first|(with_reducible first|refine zz ?_|refine zr ?_ (by simp -dsimp[C8,hs];exact rfl)|refine ze ?_ (by simp -dsimp[C8,hs];exact rfl)|refine zE [0,1,2,3,4,5,6,7,10,11,15,24,25,26,27,39] ?_)|simp -dsimp[C8,hs]|with_reducible show C8 _ _ _ _ _ _ _ _;simp -dsimp[C8,hs]|refine i9 ?_ ?_<;>intro h<;>try simp only[i7] at h
  all_goals try clear hs
  all_goals simp[hnone,J7]
end Go.Proofs
namespace Go.Ab
open Go
def kI (n:Int):List Value:=[.int .i64 n]
def l9 (m:List (Int×Int)) (n:Int):Int:=match m with
 | []=>0
 | p :: r=>if p.1=n then p.2 else l9 r n
def N7 (n v:Int):List (Int×Int)→List (Int×Int)
 | []=>[(n,v)]
 | p :: r=>if p.1=n then (n,v) :: r else p :: N7 n v r
def N8 (m:List (Int×Int)):List (List Value×List DC):=m.map fun p=>(kI p.1,[.im (rI p.2)])
def ar (m:List (Int×Int)):List (List Value×List IC):=m.map fun p=>(kI p.1,[rI p.2])
def J2 (l:List Int):List (List Value×List DC):=l.map fun n=>(kI n,[.im (rB true)])
def qv (l:List Int):List (List Value×List IC):=l.map fun n=>(kI n,[rB true])
def nV (n:Int) (l:List Int):List Int:=if n∈l then l else l++[n]
theorem aD (n m:Int):A8 [.int .i64 n] (kI m)=decide (m=n):=by
 simp only[kI,A8,Bool.and_true]
 rw[Bool.eq_iff_iff];simp[eq_comm]
@[simp] theorem Jc (m:List (Int×Int)) (n:Int):O3 [.int .i64 n] (N8 m) [.im (.raw (.int .i64 0))]=[.im (.raw (.int .i64 (l9 m n)))]:=by
 induction m with
 | nil=>rfl
 | cons p r ih =>
   have e:N8 (p :: r)=(kI p.1,[.im (rI p.2)]) :: N8 r:=rfl
   rw[e]
   simp only[O3,S7,l9,aD,decide_eq_true_eq] at ih ⊢
   split
   ·rfl
   ·exact ih
@[simp] theorem IX (m:List (Int×Int)) (n v:Int):R4 [.int .i64 n] [.im (.raw (.int .i64 v))] (N8 m)=N8 (N7 n v m):=by
 induction m with
 | nil=>rfl
 | cons p r ih =>
   have e:N8 (p :: r)=(kI p.1,[.im (rI p.2)]) :: N8 r:=rfl
   rw[e]
   simp only[R4,N7,aD,decide_eq_true_eq] at ih ⊢
   split
   ·rfl
   ·rw[ih];rfl
@[simp] theorem Ja (l:List Int) (n:Int):O3 [.int .i64 n] (J2 l) [.im (.raw (.bool false))]=[.im (.raw (.bool (decide (n∈l))))]:=by
 induction l with
 | nil=>rfl
 | cons p r ih =>
   have e:J2 (p :: r)=(kI p,[.im (rB true)]) :: J2 r:=rfl
   rw[e]
   simp only[O3,S7,aD,decide_eq_true_eq] at ih ⊢
   split
   ·rename_i h;simp[h]
   ·rename_i h
    rw[ih]
    have:(n∈p :: r)=(n∈r):=propext ⟨fun h'=>(List.mem_cons.1 h').resolve_left fun e=>h e.symm,List.mem_cons_of_mem _⟩
    simp only[this]
@[simp] theorem IW (l:List Int) (n:Int):R4 [.int .i64 n] [.im (.raw (.bool true))] (J2 l)=J2 (nV n l):=by
 have gen:∀ l:List Int,(n∈l→R4 [.int .i64 n] [.im (.raw (.bool true))] (J2 l)=J2 l)∧(n∉l→R4 [.int .i64 n] [.im (.raw (.bool true))] (J2 l)=J2 (l++[n])):=by
  intro l
  induction l with
  | nil=>exact⟨fun h=>by simp at h,fun _=>rfl⟩
  | cons p r ih =>
    have e:J2 (p :: r)=(kI p,[.im (rB true)]) :: J2 r:=rfl
    rw[e]
    simp only[R4,aD,decide_eq_true_eq]
    constructor
    ·intro h
     split
     ·rename_i hp;rw[hp];rfl
     ·rename_i hp
      rw[ih.1 ((List.mem_cons.1 h).resolve_left fun e=>hp e.symm)]
    ·intro h
     rw[if_neg fun e=>h (by simp[e]),ih.2 fun e=>h (by simp[e])];rfl
 unfold nV
 split
 ·exact(gen l).1 ‹_›
 ·exact(gen l).2 ‹_›
@[simp] theorem Je (l:List Int) (n:Int):gp [.int .i64 n] (J2 l)=J2 (l.erase n):=by
 induction l with
 | nil=>rfl
 | cons p r ih =>
   have e:J2 (p :: r)=(kI p,[.im (rB true)]) :: J2 r:=rfl
   rw[e]
   simp only[gp,aD,decide_eq_true_eq]
   split
   ·rename_i h;subst h;simp
   ·rename_i h
    rw[ih,List.erase_cons_tail (by simpa using h)];rfl
@[simp] theorem Ik (l:List Int):(J2 l).length=l.length:=by simp[J2]
@[simp] theorem Il (l:List (Int×Int)):(N8 l).length=l.length:=by simp[N8]
@[simp] theorem FH (m:List (Int×Int)):fu (ar m)=N8 m:=by simp[fu,ar,N8]
@[simp] theorem FG (l:List Int):fu (qv l)=J2 l:=by simp[fu,qv,J2]
@[simp] theorem Ji (k n:Nat) (objs:List DObj) (m:List (Int×Int)):E4 (fun x:List Value×List DC=>(E4 (frz (k+1) n objs) x.2).map fun l=>(x.1,l)) (N8 m)=some (ar m):=by
 induction m with
 | nil=>rfl
 | cons p r ih =>
   have e:N8 (p :: r)=(kI p.1,[.im (rI p.2)]) :: N8 r:=rfl
   rw[e]
   simp[E4,ih,ar]
@[simp] theorem Jg (k n:Nat) (objs:List DObj) (l:List Int):E4 (fun x:List Value×List DC=>(E4 (frz (k+1) n objs) x.2).map fun l=>(x.1,l)) (J2 l)=some (qv l):=by
 induction l with
 | nil=>rfl
 | cons p r ih =>
   have e:J2 (p :: r)=(kI p,[.im (rB true)]) :: J2 r:=rfl
   rw[e]
   simp[E4,ih,qv]
@[simp] theorem HL (n:Nat) (objs:List DObj) (m:List (Int×Int)):((N8 m).map fun x=>(x.1,x.2.map (fz n objs)))=N8 m:=by
 simp[N8,fz,DC.lt]
@[simp] theorem HJ (n:Nat) (objs:List DObj) (l:List Int):((J2 l).map fun x=>(x.1,x.2.map (fz n objs)))=J2 l:=by
 simp[J2,fz,DC.lt]
end Go.Ab
