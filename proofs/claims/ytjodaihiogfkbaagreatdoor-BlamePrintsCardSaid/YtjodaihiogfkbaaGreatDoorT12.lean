/- Part 12 of the proofs. -/
import Derived.Test.YtjodaihiogfkbaaGreatDoorT08
import Derived.Test.YtjodaihiogfkbaaGreatDoorT11
set_option linter.all false
set_option linter.deprecated false
set_option maxHeartbeats 100000000
namespace Go.Ab
open Go
structure Dim where
 nominal:Int
 lower:Int
 upper:Int
 deriving DecidableEq
structure Itm where
 drawing:Int
 count:Int
 deriving DecidableEq
structure Issue where
 drawing:Int
 letter:Int
 kind:Int
 items:List Itm
 dims:List Dim
 deriving DecidableEq
def rI (n:Int):IC:=.raw (.int .i64 n)
def rB (b:Bool):IC:=.raw (.bool b)
def D7 (d:Dim):List IC:=[rI d.nominal,rI d.lower,rI d.upper]
def A4 (x:Itm):List IC:=[rI x.drawing,rI x.count]
def e9 (x:Issue):List IC:=[rI x.drawing,rI x.letter,.raw (.int .u8 x.kind),.sl (x.items.map A4),.sl (x.dims.map D7)]
def encI (n:Int):List IC:=[rI n]
def iv (n:Int):DV:=.one (.im (.raw (.int .i64 n)))
def bv (b:Bool):DV:=.one (.im (.raw (.bool b)))
def r7 (l:List Int):DV:=.one (.im (.sl (l.map encI)))
def G9 (l:List Issue):DV:=.agg [.im (.sl (l.map e9))]
attribute [simp] iv bv r7 G9 rI rB D7 A4 e9 encI
attribute [simp] oK gI kc ac jZ gJ ka gK oG oJ kb fi nH E8 fm iz
attribute [simp] qS H2 ab gO j5 Z9 o8 DS.put C9 D5 iy wF FD oE qp lz lw tb bY oH Ad ce rQ DV.cells ep F9 zcells bu Q8 aq dF Q6 DS.keep Bo A9 L3 oF L9 cR eO fzVL X3
theorem T8 {p:Prop} {Q:Exit→DS→Prop} {e:Exit} {t:Tok Q} {S:DS} (h:p→At Q e t S):p→At Q e t S:=h
theorem wC (objs:List DObj) (l:List (List IC)):dB objs (.im (.sl l))=some (l7 l):=rfl
theorem sY (objs:List DObj) (o g off len:Nat):dB objs (.vec o g off len)=match objs[o]? with
 | some (.vec _ es g' _)=>if g=g'∧off+len≤es.length then some ((es.drop off).take len) else none
 | _=>none:=by unfold dB;rfl
attribute [simp] wC sY
attribute [simp] ImV.one
theorem DH (l:List DC):ImV (.agg l)↔∀ d∈l,∃ c,d=.im c:=⟨fun h=>by cases h;assumption,.agg l⟩
theorem DG (l:List DV):ImV (.tup l)↔∀ d∈l,ImV d:=⟨fun h=>by cases h;assumption,.tup l⟩
attribute [simp] DH DG
attribute [simp] Da CZ cX h9 A1 vD Dy Q7 Op.operands Call.operands
attribute [simp] rk AY mg Ia pick bC lM ja oD eY
attribute [simp] CA fj q9 zI vN Fh jT R2 DS.drop T1 ri
theorem IP (a b:Int):(a==b)=decide (a=b):=by by_cases h:a=b<;>simp[h]
theorem IN (a b:Int):(a != b)=!decide (a=b):=by by_cases h:a=b<;>simp[h]
attribute [simp] IP IN
theorem Fp {n o off:Nat} {objs:List DObj} (h:o<n):fz n objs (.ptr o off)=.ptr o off:=by simp[fz,DC.lt,h]
theorem Fs {n o g i off:Nat} {objs:List DObj} (h:o<n):fz n objs (.ept o g i off)=.ept o g i off:=by simp[fz,DC.lt,h]
theorem Fo {n o g off len:Nat} {objs:List DObj} (h:o<n):fz n objs (.vec o g off len)=.vec o g off len:=by simp[fz,DC.lt,h]
theorem zu (x:List IC) (l:List (List IC)):l7 (x :: l)=x.map .im :: l7 l:=rfl
theorem qa (l:List (List IC)) (n:Nat):(∀ e∈l7 l,e.length=n)↔∀ e∈l,e.length=n:=by
 constructor
 ·intro h e he
  have:=h (e.map .im) (by simp only[l7,List.mem_map];exact⟨e,he,rfl⟩)
  simpa using this
 ·exact fun h=>eM h
attribute [simp] qa
theorem xL {α:Type} (f:α→List IC) (l:List α):(l7 (l.map f)).take l.length=l7 (l.map f):=List.take_of_length_le (by simp[q9])
attribute [simp] Fp Fs Fo zu xL
def yx:Option IC→DC
 | some c=>.im c
 | none=>.dead
theorem CJ {n o g off len:Nat} {objs:List DObj} (h:n≤o):fz n objs (.vec o g off len)=yx (frz 20 n objs (.vec o g off len)):=by
 have h1:DC.lt n (.vec o g off len)=false:=by simp[DC.lt];omega
 simp only[fz,h1]
 cases frz 20 n objs (.vec o g off len)<;>rfl
theorem CL {n o off:Nat} {objs:List DObj} (h:n≤o):fz n objs (.ptr o off)=yx (frz 20 n objs (.ptr o off)):=by
 have h1:DC.lt n (.ptr o off)=false:=by simp[DC.lt];omega
 simp only[fz,h1]
 cases frz 20 n objs (.ptr o off)<;>rfl
theorem Fv (k n:Nat) (objs:List DObj) (c:IC):frz (k+1) n objs (.im c)=some c:=rfl
theorem CR (k n o g off len:Nat) (objs:List DObj):frz (k+1) n objs (.vec o g off len)=if n≤o then match objs[o]? with
 | some (.vec _ es g' _)=>if g=g'∧off+len≤es.length then (D6 (D6 (frz k n objs)) ((es.drop off).take len)).map .sl else none
 | _=>none
 else none:=rfl
theorem CS (k n o off:Nat) (objs:List DObj):frz (k+1) n objs (.ptr o off)=if n≤o then match objs[o]? with
 | some (.row c)=>if off≤c.length then (D6 (frz k n objs) (c.drop off)).map .ip else none
 | _=>none
 else none:=rfl
theorem HG {n:Nat} {f:Fn} {caps:List DC} {objs:List DObj}:fz n objs (.fn f caps)=if DC.ltL n caps=true then .fn f caps else yx (frz 20 n objs (.fn f caps)):=by
 have h1:DC.lt n (.fn f caps)=DC.ltL n caps:=rfl
 simp only[fz,h1]
 split
 ·rfl
 ·cases frz 20 n objs (.fn f caps)<;>rfl
theorem Fw (k n:Nat) (objs:List DObj) (f:Fn) (caps:List DC):frz (k+1) n objs (.fn f caps)=(D6 (frz k n objs) caps).map (.fn f):=rfl
theorem Fq {n o:Nat} {objs:List DObj} (h:o<n):fz n objs (.map o)=.map o:=by simp[fz,DC.lt,h]
theorem CN {n o:Nat} {objs:List DObj} (h:n≤o):fz n objs (.map o)=yx (frz 20 n objs (.map o)):=by
 have h1:DC.lt n (.map o)=false:=by simp[DC.lt];omega
 simp only[fz,h1]
 cases frz 20 n objs (.map o)<;>rfl
theorem CT (k n o:Nat) (objs:List DObj):frz (k+1) n objs (.map o)=if n≤o then match objs[o]? with
 | some (.map ks es)=>(D6 (fun x=>(D6 (frz k n objs) x.2).map fun l=>(x.1,l)) es).map (.mp (L5 ks))
 | _=>none
 else none:=rfl
theorem Fm {n o:Nat} {objs:List DObj} (h:o<n):fz n objs (.yld o)=.yld o:=by simp[fz,DC.lt,h]
theorem Fr {n o:Nat} {objs:List DObj} (h:o<n):fz n objs (.itr o)=.itr o:=by simp[fz,DC.lt,h]
attribute [simp] HG Fw Fq CN CT Fm Fr DC.ltL DC.lt
attribute [simp] yx CJ CL Fv CR CS D6
theorem i7:(∀ (p:Prop) [Decidable p],decide p=true↔p)∧(∀ (p:Prop) [Decidable p],decide p=false↔¬p)∧(∀ a b:Bool,(a&&b)=true↔a=true∧b=true)∧(∀ a b:Bool,(a&&b)=false↔a=false∨b=false)∧(∀ a b:Bool,(a||b)=true↔a=true∨b=true)∧(∀ a b:Bool,(a||b)=false↔a=false∧b=false)∧(∀ a:Bool,(!a)=true↔a=false)∧(∀ a:Bool,(!a)=false↔a=true)∧(∀ (α:Type) [BEq α] [LawfulBEq α] (a b:α),(a==b)=true↔a=b)∧(∀ (α:Type) [BEq α] [LawfulBEq α] (a b:α),(a==b)=false↔a≠b)∧(false=true↔False)∧(true=false↔False):=
 ⟨fun _=>decide_eq_true_iff,fun _=>decide_eq_false_iff_not,fun _ _=>Bool.and_eq_true_iff,fun a b=>by cases a<;>cases b<;>decide,fun a b=>by cases a<;>cases b<;>decide,fun a b=>by cases a<;>cases b<;>decide,fun a=>by cases a<;>decide,fun a=>by cases a<;>decide,fun _ _ _ _ _=>beq_iff_eq,fun _ _ _ _ _=>beq_eq_false_iff_ne,by decide,by decide⟩
abbrev vq:=@At.seq
abbrev JF:=@At.then_ret
abbrev GG:=@At.then_exit
abbrev FZ:=@At.block_end
abbrev JE:=@At.block_ret
abbrev GF:=@At.block_exit
abbrev Je:=@At.block_out
abbrev Kb:=@At.scope_ret
abbrev vp:=@Bl
abbrev BR:=@rf
abbrev Ka:=@rc
abbrev DL:=@uM
abbrev JZ:=@re
abbrev GE:=@uN
abbrev Jd:=@Bm
abbrev za:=@And.intro
class Zs (A:Prop) (B:outParam Prop):Prop where
 go:B→A
theorem zz {A B:Prop} [h:Zs A B] (b:B):A:=h.go b
section
variable {P:Program} {G:Kc} {n:Cx} {S:DS} {Q:Exit→DS→Prop}
instance {y:Code}:Zs (At (X3 (fun S'=>DT P G n y S' Q) Q) .normal ⟨⟩ S) (DT P G n y S Q):=⟨At.seq⟩
instance {next:DS→Prop}:Zs (At (X3 next Q) .ret ⟨⟩ S) (At Q .ret ⟨⟩ S):=⟨At.then_ret⟩
instance {next:DS→Prop} {id:Nat}:Zs (At (X3 next Q) (.exit id) ⟨⟩ S) (At Q (.exit id) ⟨⟩ S):=⟨At.then_exit⟩
instance {id:Nat}:Zs (At (X2 id Q) .normal ⟨⟩ S) (At Q .normal ⟨⟩ S):=⟨At.block_end⟩
instance {id:Nat}:Zs (At (X2 id Q) .ret ⟨⟩ S) (At Q .ret ⟨⟩ S):=⟨At.block_ret⟩
instance {id:Nat}:Zs (At (X2 id Q) (.exit id) ⟨⟩ S) (At Q .normal ⟨⟩ S):=⟨At.block_exit⟩
instance :Zs (At (cU Q) .normal ⟨⟩ S) (At Q .normal ⟨⟩ S):=⟨At.scope_end⟩
instance :Zs (At (cU Q) .ret ⟨⟩ S) (At Q .ret ⟨⟩ S):=⟨At.scope_ret⟩
instance {id:Nat}:Zs (At (cU Q) (.exit id) ⟨⟩ S) (At Q (.exit id) ⟨⟩ S):=⟨At.scope_exit⟩
instance {x y:Code}:Zs (DT P G n (.seq x y) S Q) (DT P G n x S (X3 (fun S'=>DT P G n y S' Q) Q)):=⟨Bl⟩
instance {id:Nat} {c:Code}:Zs (DT P G n (.block id c) S Q) (DT P G n c S (X2 id Q)):=⟨rf⟩
instance {c:Code}:Zs (DT P G n (.scope c) S Q) (DT P G n c S (cU Q)):=⟨rc⟩
instance :Zs (DT P G n .skip S Q) (At Q .normal ⟨⟩ S):=⟨uM⟩
instance {l:Nat}:Zs (DT P G n (.label l) S Q) (At Q .normal ⟨⟩ S):=⟨re⟩
instance {id:Nat}:Zs (DT P G n (.exit id) S Q) (At Q (.exit id) ⟨⟩ S):=⟨uN⟩
instance :Zs (DT P G n .ret S Q) (At Q .ret ⟨⟩ S):=⟨Bm⟩
theorem zx {rs:List ResultVar} {K:DV→List DObj→Prop} {ds:List DV} (hq:K (L9 ds) S.objs) (h:L3 P S rs=some ds:=by simp -dsimp;exact rfl):At (Ef P rs K) .ret ⟨⟩ S:=At.fn_ret h hq
theorem zy {rs:List ResultVar} {K:DV→List DObj→Prop} {ds:List DV} (hq:K (L9 ds) S.objs) (h:L3 P S rs=some ds:=by simp -dsimp;exact rfl):At (Ef P rs K) .normal ⟨⟩ S:=At.fn_end h hq
theorem zr {rs:List ResultVar} {K:DV→List DObj→Prop} {ds:List DV} (hq:K (L9 ds) S.objs) (h:L3 P S rs=some ds:=by simp -dsimp[hs];exact rfl):At (Ef P rs K) .ret ⟨⟩ S:=At.fn_ret h hq
theorem ze {rs:List ResultVar} {K:DV→List DObj→Prop} {ds:List DV} (hq:K (L9 ds) S.objs) (h:L3 P S rs=some ds:=by simp -dsimp[hs];exact rfl):At (Ef P rs K) .normal ⟨⟩ S:=At.fn_end h hq
theorem i9 {c:Operand} {x y:Code} {b:Bool} (ht:b=true→DT P G n x S Q) (hf:b=false→DT P G n y S Q) (hc:j5 G S c=some (.one (.im (.raw (.bool b)))):=by exact rfl):DT P G n (.cond c x y) S Q:=O4 hc ht hf
theorem zM {l:List Oper} (id nt nq:Nat) (ks:List Nat)
 (h:Dy P G (l.map (·.dst)) (l.take nq) S (fun S'=>qS P G (l.map (·.dst)) (l.drop nq) S' (fun S''=>At Q .normal ⟨⟩ (S''.keep ks)) ⟨⟩) ⟨⟩) (hm:P.follows .mixedOrders=true:=by exact mixed) (hnt:S.nt=nt:=by rfl) (hB:fW nt nq l=true:=by kernel_rfl):DT P G n (.region id l.toArray true) S Q:=lX nq ks hm hnt hB h
end
abbrev zP (P:Program) (G:Kc) (f:FuncId) (av:List DV) (r:DV):Prop:=∀ objs:List DObj,DCall P G f av objs (fun d o=>d=r∧o=objs)
theorem zf {P:Program} {G:Kc} {f:FuncId} {fn:Func} {c:Code} {nt:Nat} {args:List DV} {d0:DV} {rs:List ResultVar} (hf:P.funcs[f]?=some fn) (hnt:fn.ntmps=nt) (h:DT P G ⟨([]:List DObj).length,none⟩ c ⟨nt,cR args 0,[]⟩ (Ef P rs (fun d o=>eO 0 o d=d0))) (hb:fn.body=some c:=by exact rfl) (hargs:args.length≤nt:=by simp) (hrs:fn.results.toList=rs:=by exact rfl) (ha:∀ d∈args,ImV d:=by simp) (hd:ImV d0:=by simp):zP P G f args d0:=fun objs=>DCall.frame (g9 hf hb hnt hargs hrs h) ha hd objs
abbrev zp:=@CallE.pure
abbrev zt:=@CallE.thaw
abbrev zh:=@CallE.here
abbrev zq:=@lT
abbrev zE:=@B7
theorem zw {G:Kc} {n:Cx} {S S':DS} (ks:List Nat) (m:Nat) (h:(S.keep ks).drop m=S':=by simp) (hm:m≤S.objs.length:=by simp) (hn:n.n≤m:=by simp):Weak G n S S':=Weak.of_drop ks m hm hn h
theorem zv {G:Kc} {n:Cx} {S S':DS} (ks:List Nat) (h:S.keep ks=S':=by simp):Weak G n S S':=Weak.of_keep ks h
theorem zn {G:Kc} {n:Cx} {S:DS} {Q:Exit→DS→Prop} {ι:Type} {I:ι→DS} {m:ι→Nat} {i:ι} (j:ι) (h2:Weak G n S (I j)) (h1:m j<m i:=by first|omega|(simp only;omega)|(simp;omega)):At (X3 (fun S'=>Bb G n I m i S') Q) .normal ⟨⟩ S:=At.round j h1 h2
end Go.Ab
namespace Go.Proofs
open Go Go.Ab Tryz
attribute [local simp] D8 setLp
theorem o4 {n:Int} (h1:-9223372036854775808≤n) (h2:n≤9223372036854775807):IntKind.i64.wrap n=n:=IntWalk.i64_in n ⟨h1,h2⟩
theorem zk (k:Nat) (h:k<4611686018427387904:=by omega):IntKind.i64.wrap ((k:Int)+1)=((k+1:Nat):Int):=o4 (by omega) (by omega)
variable {G:Kc}
theorem cJ (n lo hi:Int) (objs:List DObj):DCall prog G 165 [iv n,iv lo,iv hi] objs (fun d objs'=>d=bv (decide (lo≤n)&&decide (n≤hi))∧objs'=objs):=by
 refine DCall.frame ?_ (by simp) (by simp) objs
 refine g9 func165 rfl ntmps165 (by simp) rfl ?_
 simp only[iv]
 have hs:=trivial
 repeat' first|(with_reducible first|refine zz ?_|refine zr ?_|refine zE [0,1,2,6] ?_)|simp -dsimp[hs]|with_reducible refine j0 ?_ ?_<;>intro h<;>have h0:=h<;>(try simp only[i7] at h)<;>have h2:=h<;>(try simp at h2)<;>replace hs:=za h0 (za h (za h2 hs))
 all_goals simp[bv, *]
def idx (l:List Int) (x:Int):Int:=match l.idxOf? x with|some i=>i|none=>-1
theorem ur {l:List Int} {x:Int} {k:Nat} (h:l[k]?=some x) (hno:∀ j,j<k→l[j]?≠some x):idx l x=k:=by
 have:l.idxOf? x=some k:=by
  rw[List.idxOf?,List.findIdx?_eq_some_iff_getElem]
  obtain⟨hlt,he⟩:=List.getElem?_eq_some_iff.1 h
  refine⟨hlt,by simp[he],fun j hj=>?_⟩
  have:=hno j hj
  rw[List.getElem?_eq_getElem (by omega)] at this
  simpa using this
 simp[idx,this]
theorem zA {l:List Int} {x:Int} (hno:∀ j,j<l.length→l[j]?≠some x):idx l x=-1:=by
 have:l.idxOf? x=none:=by
  rw[List.idxOf?,List.findIdx?_eq_none_iff]
  intro y hy
  obtain⟨j,hj⟩:=List.mem_iff_getElem?.1 hy
  have hlt:=e7 hj
  have:=hno j hlt
  rw[hj] at this
  simpa using this
 simp[idx,this]
theorem oo (l:List Int) (x:Int) (hl:l.length<1000000) (objs:List DObj):DCall prog G 147 [r7 l,iv x] objs (fun d objs'=>d=iv (idx l x)∧objs'=objs):=by
 refine DCall.frame ?_ (by simp) (by simp) objs
 refine g9 func147 rfl ntmps147 (by simp) rfl ?_
 simp only[r7,iv]
 have hs:=trivial
 repeat' first|(with_reducible first|refine zz ?_|refine zE [0,1,4,5,9,17] ?_)|simp -dsimp[hs]
 refine i6 (ι:={ k:Nat // k≤l.length∧∀ j,j<k→l[j]?≠some x }) (fun k=>⟨19,[(0,r7 l),(1,iv x),(4,iv 0),(5,iv (k.1:Int))],[]⟩) (fun k=>l.length-k.1) ⟨0,by simp,by simp⟩ (zv [0,1,4,5] (by simp[r7,iv])) ?_
 rintro⟨k,hk,hno⟩
 simp only[r7,iv]
 by_cases hlt:k<l.length
 ·have hx:l[k]?=some l[k]:=by simp[hlt]
  have hw:=zk k
  have hs:=za hx hw
  repeat' first|(with_reducible first|refine zz ?_|refine zr ?_ (by simp -dsimp[encI,rI,hs];exact rfl)|refine zE [0,1,4,5,9,17] ?_)|simp -dsimp[encI,rI,hs]|refine i9 ?_ ?_<;>intro h<;>try simp only[i7] at h
  all_goals try clear hs
  all_goals try omega
  ·exact(ur (by rw[hx];simp[*]) hno).symm
  ·refine⟨⟨k+1,by omega,fun j hj=>?_⟩,?_,Weak.of_keep [0,1,4,5] (by simp[r7,iv])⟩
   ·by_cases e:j=k
    ·subst e;simp[hx, *]
    ·exact hno j (by omega)
   ·simp;omega
 ·have hs:=trivial
  repeat' first|(with_reducible first|refine zz ?_|refine zr ?_|refine zE [0,1,4,5,9,17] ?_)|simp -dsimp[hs]|refine i9 ?_ ?_<;>intro h<;>try simp only[i7] at h
  all_goals try omega
  exact(zA fun j hj=>hno j (by omega)).symm
end Go.Proofs
namespace Go.Proofs
open Go Go.Ab Tryz
attribute [local simp] D8 setLp
variable {G:Kc}
theorem mixed:prog.follows .mixedOrders=true:=by kernel_rfl
def O8 (x:Issue):DV:=.agg ((e9 x).map .im)
attribute [simp] O8
end Go.Proofs
namespace Go.Proofs
open Go Go.Ab
attribute [local simp] D8 setLp
variable {G:Kc}
def lS (l:List Issue):Prop:=l.length≤80∧∀ x∈l,x.items.length≤16∧x.dims.length≤8
end Go.Proofs
namespace Go.Proofs
open Go Go.Ab Tryz
attribute [local simp] D8 setLp
variable {G:Kc}
instance (l:List Issue):Decidable (lS l):=inferInstanceAs (Decidable (_∧_))
theorem CI (l:List Issue) (objs:List DObj):DCall prog G 189 [G9 l] objs (fun d objs'=>d=bv (!decide (lS l))∧objs'=objs):=by
 refine DCall.frame ?_ (by simp) (by simp) objs
 refine g9 func189 rfl ntmps189 (by simp) rfl ?_
 simp only[G9,bv]
 have hs:=trivial
 repeat' first|(with_reducible first|refine zz ?_|refine zr ?_|refine zE [0,1,2,3,7,12,32] ?_)|simp -dsimp[hs]|refine i9 ?_ ?_<;>intro h<;>try simp only[i7] at h
 all_goals try clear hs
 ·exact fun hs=>by have:=hs.1;omega
 ·have hl:l.length≤80:=by omega
  refine i6 (ι:={ k:Nat // k≤l.length∧∀ j x,j<k→l[j]?=some x→x.items.length≤16∧x.dims.length≤8 }) (fun p=>⟨33,[(1,.one (.ptr 0 0)),(3,iv (p.1:Int))],[.row [.im (.sl (l.map e9))]]⟩) (fun p=>l.length-p.1) ⟨0,by simp⟩ (zv [1,3] (by simp[iv])) ?_
  rintro⟨k,hk,hno⟩
  simp only[iv]
  by_cases hlt:k<l.length
  ·have hx:l[k]?=some l[k]:=by simp[hlt]
   have hw:=zk k
   have bad:16<l[k].items.length∨8<l[k].dims.length→¬ lS l:=fun h hs=>by have:=hs.2 l[k] (by simp);omega
   have hs:=za hx hw
   repeat' first|(with_reducible first|refine zz ?_|refine zr ?_ (by simp -dsimp[e9,rI,hs];exact rfl)|refine zE [0,1,2,3,7,12,32] ?_)|simp -dsimp[e9,rI,hs]|refine i9 ?_ ?_<;>intro h<;>try simp only[i7] at h|with_reducible refine j0 ?_ ?_<;>intro h<;>have h0:=h<;>(try simp only[i7] at h)<;>have h2:=h<;>(try simp at h2)<;>replace hs:=za h0 (za h (za h2 hs))
   all_goals try clear hs
   all_goals first
    | omega
    | exact bad (by omega)
    | skip
   refine zn ⟨k+1,by omega,fun j x hj hjx=>?_⟩ (zv [1,3])
   by_cases e:j=k
   ·subst e;rw[hx] at hjx;cases hjx;omega
   ·exact hno j x (by omega) hjx
  ·have hs:=hlt
   repeat' first|(with_reducible first|refine zz ?_|refine zr ?_|refine zE [0,1,2,3,7,12,32] ?_)|simp -dsimp[hs]|refine i9 ?_ ?_<;>intro h<;>try simp only[i7] at h
   all_goals try clear hs
   exact⟨hl,fun x hx'=>by
    obtain⟨j,hj⟩:=List.mem_iff_getElem?.1 hx'
    exact hno j x (by have:=e7 hj;omega) hj⟩
end Go.Proofs
namespace Go.Proofs
open Go Go.Ab Tryz
attribute [local simp] D8 setLp
variable {G:Kc}
theorem kE (l r:List Int) (hl:l.length<1000000) (objs:List DObj):DCall prog G 25 [r7 l,r7 r] objs (fun d objs'=>d=bv (decide (l=r))∧objs'=objs):=by
 refine DCall.frame ?_ (by simp) (by simp) objs
 refine g9 func25 rfl ntmps25 (by simp) rfl ?_
 simp only[r7,bv]
 have hs:=trivial
 repeat' first|(with_reducible first|refine zz ?_|refine zr ?_|refine zE [0,1,4,5,10,14,25] ?_)|simp -dsimp[hs]|refine i9 ?_ ?_<;>intro h<;>try simp only[i7] at h
 ·rintro rfl;omega
 ·have hlen:l.length=r.length:=by omega
  refine i6 (ι:={ k:Nat // k≤l.length∧∀ j,j<k→l[j]?=r[j]? }) (fun p=>⟨26,[(0,r7 l),(1,r7 r),(5,iv (p.1:Int))],[]⟩) (fun p=>l.length-p.1) ⟨0,by simp⟩ (zv [0,1,5] (by simp[iv,r7])) ?_
  rintro⟨k,hk,hno⟩
  simp only[iv,r7]
  by_cases hlt:k<l.length
  ·have hx:l[k]?=some l[k]:=by simp[hlt]
   have hltr:k<r.length:=by omega
   have hy:r[k]?=some r[k]:=by simp[hltr]
   have hw:=zk k
   have hs:=za hx (za hy hw)
   repeat' first|(with_reducible first|refine zz ?_|refine zr ?_ (by simp -dsimp[encI,rI,hs];exact rfl))|simp -dsimp[encI,rI,hs]|refine zM 6 26 9 [0,1,4,5,10,14,25] ?_|with_reducible refine zE [0,1,4,5,10,14,25] ?_|refine i9 ?_ ?_<;>intro h<;>try simp only[i7] at h
   all_goals try omega
   ·rename_i h
    rintro rfl;exact h rfl
   ·rename_i h
    refine zn ⟨k+1,by omega,fun j hj=>?_⟩ (zv [0,1,5])
    by_cases e:j=k
    ·subst e;rw[hx,hy,h]
    ·exact hno j (by omega)
  ·have hs:=hlt
   repeat' first|(with_reducible first|refine zz ?_|refine zr ?_|refine zE [0,1,4,5,10,14,25] ?_)|simp -dsimp[hs]|refine i9 ?_ ?_<;>intro h<;>try simp only[i7] at h
   refine List.ext_getElem? fun j=>?_
   by_cases hj:j<k
   ·exact hno j hj
   ·rw[List.getElem?_eq_none (by omega),List.getElem?_eq_none (by omega)]
end Go.Proofs
namespace Go.Proofs
open Go Go.Ab
attribute [local simp] D8 setLp
variable {G:Kc}
def JK (l:List Itm):DV:=.one (.im (.sl (l.map A4)))
attribute [simp] JK
end Go.Proofs
namespace Go.Proofs
open Go Go.Ab
attribute [local simp] D8 setLp
variable {G:Kc}
end Go.Proofs
namespace Go.Proofs
open Go Go.Ab
attribute [local simp] D8 setLp
variable {G:Kc}
end Go.Proofs
namespace Go.Proofs
open Go Go.Ab Tryz
attribute [local simp] D8 setLp
variable {G:Kc}
def M9:Issue:=⟨0,0,0,[],[]⟩
def o7 (l:List Issue) (d lt:Int):Option Issue:=l.find? fun x=>x.drawing==d&&x.letter==lt
def D3 (d lt:Int):DV:=.agg [.im (rI d),.im (rI lt)]
attribute [simp] D3
theorem sM (l:List Issue) (d lt:Int) (hl:l.length<1000000) (objs:List DObj):DCall prog G 171 [G9 l,D3 d lt] objs (fun r objs'=>r=.tup [O8 ((o7 l d lt).getD M9),bv (o7 l d lt).isSome]∧objs'=objs):=by
 refine DCall.frame ?_ (by simp) (by simp) objs
 refine g9 func171 rfl ntmps171 (by simp) rfl ?_
 simp only[G9,D3,bv,O8]
 have hs:=trivial
 repeat' first|(with_reducible first|refine zz ?_|refine zE [0,1,2,3,4,5,6,7,12,31] ?_)|simp -dsimp[hs]
 refine i6 (ι:={ k:Nat // k≤l.length∧o7 l d lt=o7 (l.drop k) d lt }) (fun p=>⟨34,[(2,.one (.ptr 0 0)),(3,.one (.ptr 1 0)),(4,.one (.ptr 4 0)),(6,iv (p.1:Int))],[.row [.im (.sl (l.map e9))],.row [.im (rI d),.im (rI lt)],.vec 0 [] 0 true,.vec 0 [] 0 true,.row ((rI 0 :: rI 0 :: [IC.raw (.int .u8 0)]).map .im++[.vec 2 0 0 0,.vec 3 0 0 0])]⟩) (fun p=>l.length-p.1) ⟨0,by simp⟩ (zv [2,3,4,6] (by simp[iv,rI])) ?_
 rintro⟨k,hk,hno⟩
 simp only[iv]
 by_cases hlt:k<l.length
 ·have hx:l[k]?=some l[k]:=by simp[hlt]
  have hw:=zk k
  have hcons:o7 l d lt=if (l[k].drawing==d&&l[k].letter==lt)=true then some l[k] else o7 (l.drop (k+1)) d lt:=by
   rw[hno,List.drop_eq_getElem_cons hlt]
   simp only[o7,List.find?_cons]
   split<;>simp_all
  have hs:=za hx hw
  repeat' first|(with_reducible first|refine zz ?_|refine zr ?_ (by simp -dsimp[e9,rI,hs];exact rfl)|refine zE [0,1,2,3,4,5,6,7,12,31] ?_)|simp -dsimp[e9,rI,hs]|refine i9 ?_ ?_<;>intro h<;>try simp only[i7] at h|with_reducible refine j0 ?_ ?_<;>intro h<;>have h0:=h<;>(try simp only[i7] at h)<;>have h2:=h<;>(try simp at h2)<;>replace hs:=za h0 (za h (za h2 hs))
  all_goals try clear hs
  all_goals try omega
  ·have hf:o7 l d lt=some l[k]:=by simp_all
   simp[hf, *]
  ·rename_i h
   have hf:o7 l d lt=o7 (l.drop (k+1)) d lt:=by rw[hcons];simp[h]
   exact zn ⟨k+1,by omega,hf⟩ (zw [2,3,4,6] 5 (by simp[rI]))
  ·rename_i h2 h
   have hf:o7 l d lt=o7 (l.drop (k+1)) d lt:=by rw[hcons];simp[h2]
   exact zn ⟨k+1,by omega,hf⟩ (zw [2,3,4,6] 5 (by simp[rI]))
 ·have hf:o7 l d lt=none:=by rw[hno,List.drop_eq_nil_of_le (by omega)];rfl
  have hs:=hlt
  repeat' first|(with_reducible first|refine zz ?_|refine zr ?_ (by simp -dsimp[e9,rI,hs];exact rfl)|refine zE [0,1,2,3,4,5,6,7,12,31] ?_)|simp -dsimp[e9,rI,hs]|refine i9 ?_ ?_<;>intro h<;>try simp only[i7] at h
  all_goals simp[hf,M9]
end Go.Proofs
namespace Go.Proofs
open Go Go.Ab Tryz
attribute [local simp] D8 setLp
variable {G:Kc}
def H9 {α:Type} (p:α→Bool) (l:List α):Int:=match l.findIdx? p with|some i=>i|none=>-1
theorem L0 {α:Type} {p:α→Bool} {l:List α} {i:Nat} {x:α} (h:l[i]?=some x) (hp:p x=true) (hno:∀ (j:Nat) (x:α),j<i→l[j]?=some x→p x=false):H9 p l=i:=by
 have:l.findIdx? p=some i:=by
  rw[List.findIdx?_eq_some_iff_getElem]
  obtain⟨hlt,he⟩:=List.getElem?_eq_some_iff.1 h
  refine⟨hlt,by rw[he];exact hp,fun j hj=>?_⟩
  have:=hno j l[j] hj (by simp)
  simp[this]
 simp[H9,this]
theorem R4 {α:Type} {p:α→Bool} {l:List α} (hno:∀ (j:Nat) (x:α),l[j]?=some x→p x=false):H9 p l=-1:=by
 have:l.findIdx? p=none:=by
  rw[List.findIdx?_eq_none_iff]
  intro y hy
  obtain⟨j,hj⟩:=List.mem_iff_getElem?.1 hy
  exact hno j y hj
 simp[H9,this]
theorem A3 {α:Type} (p:α→Bool) (l:List α):decide (0≤H9 p l)=l.any p:=by
 unfold H9
 split
 ·rename_i i h
  rw[List.findIdx?_eq_some_iff_getElem] at h
  obtain⟨hlt,hp,_⟩:=h
  have:l.any p=true:=List.any_eq_true.2 ⟨l[i],by simp,hp⟩
  simp[this]
 ·rename_i h
  rw[List.findIdx?_eq_none_iff] at h
  have:l.any p=false:=by rw[List.any_eq_false];intro x hx;simp[h x hx]
  simp[this]
def yX (x:Itm):DV:=.agg ((A4 x).map .im)
def gL (x:Dim):DV:=.agg ((D7 x).map .im)
attribute [simp] yX gL
theorem eL (l:List Int) (p:Int→Bool) (k:Nat) (caps:List DC) (objs:List DObj) (hok:D4 prog k) (hf:∀ x∈l,DCall prog G k (iv x :: caps.map .one) objs (fun d o=>d=bv (p x)∧o=objs)) (hl:l.length<1000000):DCall prog G 188 [.one (.im (.sl (l.map encI))),.one (.fn (.func k) caps)] objs (fun d o=>d=iv (H9 p l)∧o=objs):=by
 refine g9 func188 rfl ntmps188 (by simp) rfl ?_
 have hs:=trivial
 repeat' first|(with_reducible first|refine zz ?_|refine zE [0,1,4,5,7,8,9,16] ?_)|simp -dsimp[hs]
 refine i6 (ι:={ k:Nat // k≤l.length∧∀ j x,j<k→l[j]?=some x→p x=false }) (fun i=>⟨19,[(0,.one (.im (.sl (l.map encI)))),(1,.one (.fn (.func k) caps)),(7,iv (l.length:Int)),(8,iv (i.1:Int))],objs⟩) (fun i=>l.length-i.1) ⟨0,by simp⟩ (zv [0,1,7,8]) ?_
 rintro⟨i,hi,hno⟩
 simp only[iv]
 by_cases hlt:i<l.length
 ·have hx:l[i]?=some l[i]:=by simp[hlt]
  have hw:=zk i
  have hc:=hf l[i] (by simp)
  simp only[iv,encI,List.map_cons,List.map_nil,bv,rI] at hc
  have hs:=za hx (za hw hok)
  repeat' first|(with_reducible first|refine zz ?_|refine And.intro (by omega) ?_|refine zr ?_|refine zE [0,1,4,5,7,8,9,16] ?_)|simp -dsimp[hs]|refine CallE.here hc ?_|refine i9 ?_ ?_<;>intro h<;>try simp only[i7] at h|with_reducible refine And.intro ?_ ?_
  all_goals try omega
  ·exact(L0 hx (by assumption) hno).symm
  ·exact At.round ⟨i+1,by omega,fun j x hj hjx=>by
    by_cases e:j=i
    ·subst e;rw[hx] at hjx;cases hjx;assumption
    ·exact hno j x (by omega) hjx⟩ (by simp;omega) (zv [0,1,7,8])
 ·have hs:=trivial
  repeat' first|(with_reducible first|refine zz ?_|refine zr ?_|refine zE [0,1,4,5,7,8,9,16] ?_)|simp -dsimp[hs]|refine i9 ?_ ?_<;>intro h<;>try simp only[i7] at h|with_reducible refine And.intro ?_ ?_
  all_goals try omega
  exact(R4 fun j x hjx=>hno j x (by have:=e7 hjx;omega) hjx).symm
theorem B4 (l:List Int) (p:Int→Bool) (k:Nat) (caps:List DC) (objs:List DObj) (hok:D4 prog k) (hf:∀ x∈l,DCall prog G k (iv x :: caps.map .one) objs (fun d o=>d=bv (p x)∧o=objs)) (hl:l.length<1000000):DCall prog G 122 [.one (.im (.sl (l.map encI))),.one (.fn (.func k) caps)] objs (fun d o=>d=bv (l.any p)∧o=objs):=by
 refine g9 func122 rfl ntmps122 (by simp) rfl ?_
 have hc:=eL l p k caps objs hok hf hl
 repeat' first|(with_reducible first|refine zz ?_|refine zx ?_|refine zE [0,1,4] ?_)|simp -dsimp|refine CallE.here hc ?_|with_reducible refine And.intro ?_ ?_
 simp[A3]
theorem mh (l:List Itm) (p:Itm→Bool) (k:Nat) (caps:List DC) (objs:List DObj) (hok:D4 prog k) (hf:∀ x∈l,DCall prog G k (yX x :: caps.map .one) objs (fun d o=>d=bv (p x)∧o=objs)) (hl:l.length<1000000):DCall prog G 279 [.one (.im (.sl (l.map A4))),.one (.fn (.func k) caps)] objs (fun d o=>d=iv (H9 p l)∧o=objs):=by
 refine g9 func279 rfl ntmps279 (by simp) rfl ?_
 have hs:=trivial
 repeat' first|(with_reducible first|refine zz ?_|refine zE [0,1,4,5,7,8,9,16] ?_)|simp -dsimp[hs]
 refine i6 (ι:={ k:Nat // k≤l.length∧∀ j x,j<k→l[j]?=some x→p x=false }) (fun i=>⟨19,[(0,.one (.im (.sl (l.map A4)))),(1,.one (.fn (.func k) caps)),(7,iv (l.length:Int)),(8,iv (i.1:Int))],objs⟩) (fun i=>l.length-i.1) ⟨0,by simp⟩ (zv [0,1,7,8]) ?_
 rintro⟨i,hi,hno⟩
 simp only[iv]
 by_cases hlt:i<l.length
 ·have hx:l[i]?=some l[i]:=by simp[hlt]
  have hw:=zk i
  have hc:=hf l[i] (by simp)
  simp only[yX,A4,List.map_cons,List.map_nil,bv,rI] at hc
  have hs:=za hx (za hw hok)
  repeat' first|(with_reducible first|refine zz ?_|refine And.intro (by omega) ?_|refine zr ?_|refine zE [0,1,4,5,7,8,9,16] ?_)|simp -dsimp[hs]|refine CallE.here hc ?_|refine i9 ?_ ?_<;>intro h<;>try simp only[i7] at h|with_reducible refine And.intro ?_ ?_
  all_goals try omega
  ·exact(L0 hx (by assumption) hno).symm
  ·exact At.round ⟨i+1,by omega,fun j x hj hjx=>by
    by_cases e:j=i
    ·subst e;rw[hx] at hjx;cases hjx;assumption
    ·exact hno j x (by omega) hjx⟩ (by simp;omega) (zv [0,1,7,8])
 ·have hs:=trivial
  repeat' first|(with_reducible first|refine zz ?_|refine zr ?_|refine zE [0,1,4,5,7,8,9,16] ?_)|simp -dsimp[hs]|refine i9 ?_ ?_<;>intro h<;>try simp only[i7] at h|with_reducible refine And.intro ?_ ?_
  all_goals try omega
  exact(R4 fun j x hjx=>hno j x (by have:=e7 hjx;omega) hjx).symm
theorem iT (l:List Itm) (p:Itm→Bool) (k:Nat) (caps:List DC) (objs:List DObj) (hok:D4 prog k) (hf:∀ x∈l,DCall prog G k (yX x :: caps.map .one) objs (fun d o=>d=bv (p x)∧o=objs)) (hl:l.length<1000000):DCall prog G 223 [.one (.im (.sl (l.map A4))),.one (.fn (.func k) caps)] objs (fun d o=>d=bv (l.any p)∧o=objs):=by
 refine g9 func223 rfl ntmps223 (by simp) rfl ?_
 have hc:=mh l p k caps objs hok hf hl
 repeat' first|(with_reducible first|refine zz ?_|refine zx ?_|refine zE [0,1,4] ?_)|simp -dsimp|refine CallE.here hc ?_|with_reducible refine And.intro ?_ ?_
 simp[A3]
theorem mj (l:List Dim) (p:Dim→Bool) (k:Nat) (caps:List DC) (objs:List DObj) (hok:D4 prog k) (hf:∀ x∈l,DCall prog G k (gL x :: caps.map .one) objs (fun d o=>d=bv (p x)∧o=objs)) (hl:l.length<1000000):DCall prog G 363 [.one (.im (.sl (l.map D7))),.one (.fn (.func k) caps)] objs (fun d o=>d=iv (H9 p l)∧o=objs):=by
 refine g9 func363 rfl ntmps363 (by simp) rfl ?_
 have hs:=trivial
 repeat' first|(with_reducible first|refine zz ?_|refine zE [0,1,4,5,7,8,9,16] ?_)|simp -dsimp[hs]
 refine i6 (ι:={ k:Nat // k≤l.length∧∀ j x,j<k→l[j]?=some x→p x=false }) (fun i=>⟨19,[(0,.one (.im (.sl (l.map D7)))),(1,.one (.fn (.func k) caps)),(7,iv (l.length:Int)),(8,iv (i.1:Int))],objs⟩) (fun i=>l.length-i.1) ⟨0,by simp⟩ (zv [0,1,7,8]) ?_
 rintro⟨i,hi,hno⟩
 simp only[iv]
 by_cases hlt:i<l.length
 ·have hx:l[i]?=some l[i]:=by simp[hlt]
  have hw:=zk i
  have hc:=hf l[i] (by simp)
  simp only[gL,D7,List.map_cons,List.map_nil,bv,rI] at hc
  have hs:=za hx (za hw hok)
  repeat' first|(with_reducible first|refine zz ?_|refine And.intro (by omega) ?_|refine zr ?_|refine zE [0,1,4,5,7,8,9,16] ?_)|simp -dsimp[hs]|refine CallE.here hc ?_|refine i9 ?_ ?_<;>intro h<;>try simp only[i7] at h|with_reducible refine And.intro ?_ ?_
  all_goals try omega
  ·exact(L0 hx (by assumption) hno).symm
  ·exact At.round ⟨i+1,by omega,fun j x hj hjx=>by
    by_cases e:j=i
    ·subst e;rw[hx] at hjx;cases hjx;assumption
    ·exact hno j x (by omega) hjx⟩ (by simp;omega) (zv [0,1,7,8])
 ·have hs:=trivial
  repeat' first|(with_reducible first|refine zz ?_|refine zr ?_|refine zE [0,1,4,5,7,8,9,16] ?_)|simp -dsimp[hs]|refine i9 ?_ ?_<;>intro h<;>try simp only[i7] at h|with_reducible refine And.intro ?_ ?_
  all_goals try omega
  exact(R4 fun j x hjx=>hno j x (by have:=e7 hjx;omega) hjx).symm
theorem iV (l:List Dim) (p:Dim→Bool) (k:Nat) (caps:List DC) (objs:List DObj) (hok:D4 prog k) (hf:∀ x∈l,DCall prog G k (gL x :: caps.map .one) objs (fun d o=>d=bv (p x)∧o=objs)) (hl:l.length<1000000):DCall prog G 361 [.one (.im (.sl (l.map D7))),.one (.fn (.func k) caps)] objs (fun d o=>d=bv (l.any p)∧o=objs):=by
 refine g9 func361 rfl ntmps361 (by simp) rfl ?_
 have hc:=mj l p k caps objs hok hf hl
 repeat' first|(with_reducible first|refine zz ?_|refine zx ?_|refine zE [0,1,4] ?_)|simp -dsimp|refine CallE.here hc ?_|with_reducible refine And.intro ?_ ?_
 simp[A3]
theorem wI (l:List Itm) (hl:l.length<1000000) (objs:List DObj):DCall prog G 109 [.one (.im (.sl (l.map A4)))] objs (fun d objs'=>d=.one (.im (.sl (l.map A4)))∧objs'=objs):=by
 refine DCall.frame ?_ (by simp) (by simp) objs
 refine g9 func109 rfl ntmps109 (by simp) rfl ?_
 repeat' first|(with_reducible first|refine zz ?_|refine And.intro (by omega) ?_|refine zx ?_|refine zE [0,2,4] ?_)|simp -dsimp|refine i9 ?_ ?_<;>intro h<;>try simp only[i7] at h|with_reducible refine T8 (fun h=>?_);(try simp only[List.map_eq_nil_iff] at h);(try subst h);try simp -dsimp|with_reducible refine And.intro ?_ ?_
 all_goals omega
theorem wJ (l:List Dim) (hl:l.length<1000000) (objs:List DObj):DCall prog G 110 [.one (.im (.sl (l.map D7)))] objs (fun d objs'=>d=.one (.im (.sl (l.map D7)))∧objs'=objs):=by
 refine DCall.frame ?_ (by simp) (by simp) objs
 refine g9 func110 rfl ntmps110 (by simp) rfl ?_
 repeat' first|(with_reducible first|refine zz ?_|refine And.intro (by omega) ?_|refine zx ?_|refine zE [0,2,4] ?_)|simp -dsimp|refine i9 ?_ ?_<;>intro h<;>try simp only[i7] at h|with_reducible refine T8 (fun h=>?_);(try simp only[List.map_eq_nil_iff] at h);(try subst h);try simp -dsimp|with_reducible refine And.intro ?_ ?_
 all_goals omega
end Go.Proofs
namespace Go.Proofs
open Go Go.Ab Tryz
attribute [local simp] D8 setLp
variable {G:Kc}
theorem zo (x lo hi:Int):DCall prog G 236 (iv x :: [DC.ptr 0 0,DC.ptr 1 0].map .one) [.row [.im (rI lo)],.row [.im (rI hi)]] (fun d o=>d=bv (decide (x<lo)||decide (hi<x))∧o=[.row [.im (rI lo)],.row [.im (rI hi)]]):=by
 refine g9 func236 rfl ntmps236 (by simp) rfl ?_
 simp only[rI]
 have hs:=trivial
 repeat' first|(with_reducible first|refine zz ?_|refine zr ?_|refine zE [0,1,2,4] ?_)|simp -dsimp[hs]|with_reducible refine j0 ?_ ?_<;>intro h<;>have h0:=h<;>(try simp only[i7] at h)<;>have h2:=h<;>(try simp at h2)<;>replace hs:=za h0 (za h (za h2 hs))|with_reducible refine And.intro ?_ ?_
 all_goals try clear hs
 all_goals simp[*]
theorem gx (lo hi:Int) (l:List Int) (hl:l.length<1000000):zP prog G 194 [iv lo,iv hi,r7 l] (bv (l.all fun x=>decide (lo≤x)&&decide (x≤hi))):=by
 refine zf func194 ntmps194 ?_
 try simp only[iv,iv,r7]
 have hc:=B4 (G:=G) l (fun x=>decide (x<lo)||decide (hi<x)) 236 [.ptr 0 0,.ptr 1 0] [.row [.im (rI lo)],.row [.im (rI hi)]] (by simp) (fun x _=>zo x lo hi) hl
 simp only[rI] at hc
 repeat' first|(with_reducible first|refine zz ?_|refine zx ?_|refine zE [0,1,2,3,4,6] ?_)|simp -dsimp|refine CallE.here hc ?_
 rw[Bool.eq_iff_iff];simp
 exact exists_congr fun x=>and_congr_right fun _=>by omega
theorem wb (x lo hi:Int):DCall prog G 278 (iv x :: [DC.ptr 0 0,DC.ptr 1 0].map .one) [.row [.im (rI lo)],.row [.im (rI hi)]] (fun d o=>d=bv (decide (x<lo)||decide (hi<x))∧o=[.row [.im (rI lo)],.row [.im (rI hi)]]):=by
 refine g9 func278 rfl ntmps278 (by simp) rfl ?_
 simp only[rI]
 have hs:=trivial
 repeat' first|(with_reducible first|refine zz ?_|refine zr ?_|refine zE [0,1,2,4] ?_)|simp -dsimp[hs]|with_reducible refine j0 ?_ ?_<;>intro h<;>have h0:=h<;>(try simp only[i7] at h)<;>have h2:=h<;>(try simp at h2)<;>replace hs:=za h0 (za h (za h2 hs))|with_reducible refine And.intro ?_ ?_
 all_goals try clear hs
 all_goals simp[*]
theorem Z8 (lo hi:Int) (l:List Int) (hl:l.length<1000000):zP prog G 222 [iv lo,iv hi,r7 l] (bv (l.all fun x=>decide (lo≤x)&&decide (x≤hi))):=by
 refine zf func222 ntmps222 ?_
 try simp only[iv,iv,r7]
 have hc:=B4 (G:=G) l (fun x=>decide (x<lo)||decide (hi<x)) 278 [.ptr 0 0,.ptr 1 0] [.row [.im (rI lo)],.row [.im (rI hi)]] (by simp) (fun x _=>wb x lo hi) hl
 simp only[rI] at hc
 repeat' first|(with_reducible first|refine zz ?_|refine zx ?_|refine zE [0,1,2,3,4,6] ?_)|simp -dsimp|refine CallE.here hc ?_
 rw[Bool.eq_iff_iff];simp
 exact exists_congr fun x=>and_congr_right fun _=>by omega
theorem zm (x lo hi:Int):DCall prog G 178 (iv x :: [DC.ptr 0 0,DC.ptr 1 0].map .one) [.row [.im (rI lo)],.row [.im (rI hi)]] (fun d o=>d=bv (decide (x<lo)||decide (hi<x))∧o=[.row [.im (rI lo)],.row [.im (rI hi)]]):=by
 refine g9 func178 rfl ntmps178 (by simp) rfl ?_
 simp only[rI]
 have hs:=trivial
 repeat' first|(with_reducible first|refine zz ?_|refine zr ?_|refine zE [0,1,2,4] ?_)|simp -dsimp[hs]|with_reducible refine j0 ?_ ?_<;>intro h<;>have h0:=h<;>(try simp only[i7] at h)<;>have h2:=h<;>(try simp at h2)<;>replace hs:=za h0 (za h (za h2 hs))|with_reducible refine And.intro ?_ ?_
 all_goals try clear hs
 all_goals simp[*]
theorem Cz (lo hi:Int) (l:List Int) (hl:l.length<1000000):zP prog G 116 [iv lo,iv hi,r7 l] (bv (l.all fun x=>decide (lo≤x)&&decide (x≤hi))):=by
 refine zf func116 ntmps116 ?_
 try simp only[iv,iv,r7]
 have hc:=B4 (G:=G) l (fun x=>decide (x<lo)||decide (hi<x)) 178 [.ptr 0 0,.ptr 1 0] [.row [.im (rI lo)],.row [.im (rI hi)]] (by simp) (fun x _=>zm x lo hi) hl
 simp only[rI] at hc
 repeat' first|(with_reducible first|refine zz ?_|refine zx ?_|refine zE [0,1,2,3,4,6] ?_)|simp -dsimp|refine CallE.here hc ?_
 rw[Bool.eq_iff_iff];simp
 exact exists_congr fun x=>and_congr_right fun _=>by omega
def I9 (d:Dim):Bool:=decide (0≤d.nominal)&&decide (d.nominal≤1000000000)&&(decide (0≤d.lower)&&decide (d.lower≤1000000000))&&(decide (0≤d.upper)&&decide (d.upper≤1000000000))&&decide (d.lower≤d.upper)
theorem pn (d:Dim):zP prog G 117 [gL d] (iv (if I9 d then 0 else 10)):=by
 refine zf func117 ntmps117 ?_
 try simp only[gL]
 have hc:=Cz (G:=G) 0 1000000000 [d.nominal,d.lower,d.upper] (by simp)
 have hs:=trivial
 repeat' first|(with_reducible first|refine zz ?_|refine zr ?_|refine zE [0,1,2,18] ?_)|simp -dsimp[hs]|refine zt hc ?_ ?_ ?_;(focus simp;done);focus (simp;done)|refine i9 ?_ ?_<;>intro h<;>try simp only[i7] at h|with_reducible refine j0 ?_ ?_<;>intro h<;>have h0:=h<;>(try simp only[i7] at h)<;>have h2:=h<;>(try simp at h2)<;>replace hs:=za h0 (za h (za h2 hs))
 all_goals try clear hs
 all_goals simp_all [I9]
 all_goals omega
def Ex (x:Issue):DV:=D3 x.drawing x.letter
attribute [simp] Ex
theorem pq (x:Issue):zP prog G 228 [O8 x] (Ex x):=by
 refine zf func228 ntmps228 ?_
 try simp only[O8]
 repeat' first|(with_reducible first|refine zz ?_|refine zx ?_|refine zE [0,1,2] ?_)|simp -dsimp
theorem Ag (x:Issue) (hi:x.items.length≤16) (hd:x.dims.length≤8):zP prog G 177 [O8 x] (O8 x):=by
 refine zf func177 ntmps177 ?_
 try simp only[O8]
 have h1:=wI (G:=G) x.items (by omega)
 have h2:=wJ (G:=G) x.dims (by omega)
 repeat' first|(with_reducible first|refine zz ?_|refine zx ?_)|simp -dsimp|refine zq h1 ?_|refine zq h2 ?_|refine zM 1 12 7 [0,1,2] ?_|with_reducible refine zE [0,1,2] ?_
def Ak (x:Issue):Bool:=(decide (1≤x.drawing)&&decide (x.drawing≤9999))&&(decide (1≤x.letter)&&decide (x.letter≤8))
theorem HT (x:Issue):zP prog G 357 [O8 x] (bv (Ak x)):=by
 refine zf func357 ntmps357 ?_
 try simp only[O8]
 have c1:=Z8 (G:=G) 1 9999 [x.drawing] (by simp)
 have c2:=Z8 (G:=G) 1 8 [x.letter] (by simp)
 have hs:=trivial
 repeat' first|(with_reducible first|refine zz ?_|refine zr ?_|refine zE [0,1,2] ?_)|simp -dsimp[hs]|refine zt c1 ?_ ?_ ?_;(focus simp;done);focus (simp;done)|refine zt c2 ?_ ?_ ?_;(focus simp;done);focus (simp;done)|with_reducible refine j0 ?_ ?_<;>intro h<;>have h0:=h<;>(try simp only[i7] at h)<;>have h2:=h<;>(try simp at h2)<;>replace hs:=za h0 (za h (za h2 hs))
 all_goals try clear hs
 all_goals simp_all [Ak]
 all_goals omega
def Bs (x:Issue):Bool:=if x.kind=1 then (decide (1≤x.items.length)&&decide (x.items.length≤8))&&decide (x.dims.length=0) else (decide (2≤x.kind)&&decide (x.kind≤3))&&decide (x.dims.length≤4)&&decide (x.items.length=0)
theorem HS (x:Issue) (hk:0≤x.kind∧x.kind≤255):zP prog G 358 [O8 x] (bv (Bs x)):=by
 refine zf func358 ntmps358 ?_
 try simp only[O8]
 have c1:=Z8 (G:=G) 1 8 [(x.items.length:Int)] (by simp)
 have c2:=Z8 (G:=G) 2 3 [x.kind] (by simp)
 have hw:IntKind.i64.wrap x.kind=x.kind:=o4 (by omega) (by omega)
 have hs:=hw
 repeat' first|(with_reducible first|refine zz ?_|refine zr ?_|refine zE [0,1,2,5] ?_)|simp -dsimp[hs]|refine zt c1 ?_ ?_ ?_;(focus simp;done);focus (simp;done)|refine zt c2 ?_ ?_ ?_;(focus simp;done);focus (simp;done)|refine i9 ?_ ?_<;>intro h<;>try simp only[i7] at h|with_reducible refine j0 ?_ ?_<;>intro h<;>have h0:=h<;>(try simp only[i7] at h)<;>have h2:=h<;>(try simp at h2)<;>replace hs:=za h0 (za h (za h2 hs))
 all_goals try clear hs
 all_goals simp_all [Bs]
 all_goals omega
theorem FL (d:Dim):zP prog G 362 [gL d] (bv (!I9 d)):=by
 refine zf func362 ntmps362 ?_
 try simp only[gL]
 have h1:=pn (G:=G) d
 cases hd:I9 d<;>simp only[hd] at h1
 ·repeat' first|(with_reducible first|refine zz ?_|refine zx ?_|refine zE [0,1,2] ?_)|simp -dsimp|refine zp h1 ?_
 ·repeat' first|(with_reducible first|refine zz ?_|refine zx ?_|refine zE [0,1,2] ?_)|simp -dsimp|refine zp h1 ?_
theorem HQ (x:Issue) (hl:x.dims.length<1000000):zP prog G 360 [O8 x] (bv (x.dims.all I9)):=by
 refine zf func360 ntmps360 ?_
 try simp only[O8]
 have c1:=fun objs=>DCall.fnArg2 (cs:=[]) (iV (G:=G) x.dims (fun d=>!I9 d) 362 [] objs (by simp) (fun d _=>FL d objs) hl)
 repeat' first|(with_reducible first|refine zz ?_|refine zx ?_|refine zE [0,1,2] ?_)|simp -dsimp|refine zp c1 ?_
 rw[Bool.eq_iff_iff];simp
end Go.Proofs
namespace Go.Proofs
open Go Go.Ab Tryz
attribute [local simp] D8 setLp
variable {G:Kc}
theorem gw (x:Int):zP prog G 239 [iv x] (bv false):=by
 refine zf func239 ntmps239 ?_
 try simp only[iv]
 repeat' first|(with_reducible first|refine zz ?_|refine zx ?_|refine zE [0,2] ?_)|simp -dsimp
theorem pX (x:Int):zP prog G 197 [iv x] (bv false):=by
 refine zf func197 ntmps197 ?_
 try simp only[iv]
 repeat' first|(with_reducible first|refine zz ?_|refine zx ?_|refine zE [0,2] ?_)|simp -dsimp
theorem Fd (x y:Int):zP prog G 196 [iv x,iv y] (bv (decide (x<y))):=by
 refine zf func196 ntmps196 ?_
 try simp only[iv,iv]
 have c1:=gw (G:=G) x
 have c2:=gw (G:=G) y
 repeat' first|(with_reducible first|refine zz ?_|refine zx ?_|refine zE [0,1,4] ?_)|simp -dsimp|refine zp c1 ?_
 all_goals simp_all
def eu (x y:Int):Int:=if x<y then -1 else if y<x then 1 else 0
theorem iW (x y:Int):zP prog G 283 [iv x,iv y] (iv (eu x y)):=by
 refine zf func283 ntmps283 ?_
 try simp only[iv,iv]
 have c1:=gw (G:=G) x
 have c2:=gw (G:=G) y
 repeat' first|(with_reducible first|refine zz ?_|refine zx ?_|refine zE [0,1,4,5,6,11,12,13,16,19] ?_)|simp -dsimp|refine zp c1 ?_|refine zp c2 ?_|refine i9 ?_ ?_<;>intro h<;>try simp only[i7] at h
 all_goals simp_all [eu]
 all_goals omega
theorem lD (x:Issue) (n:Int):zP prog G 282 [O8 x,iv n] (iv (eu x.drawing n)):=by
 refine zf func282 ntmps282 ?_
 try simp only[O8,iv]
 have c1:=iW (G:=G) x.drawing n
 repeat' first|(with_reducible first|refine zz ?_|refine zx ?_|refine zE [0,1,2,4] ?_)|simp -dsimp|refine zp c1 ?_
end Go.Proofs
namespace Go.Proofs
open Go Go.Ab Tryz
attribute [local simp] D8 setLp
variable {G:Kc}
def E7 (d:Int):Int→List Itm→Bool
 | _,[]=>true
 | prev,y :: r=>(decide (1≤y.drawing)&&decide (y.drawing≤9999))&&(decide (1≤y.count)&&decide (y.count≤20)) && !decide (y.drawing=d)&&decide (prev<y.drawing)&&E7 d y.drawing r
def pv (l:List Itm):Nat→Int
 | 0=>0
 | k+1=>((l[k]?).map (·.drawing)).getD 0
theorem HR (x:Issue) (hl:x.items.length<1000000):zP prog G 359 [O8 x] (bv (E7 x.drawing 0 x.items)):=by
 refine zf func359 ntmps359 ?_
 try simp only[O8]
 have hs:=trivial
 repeat' first|(with_reducible first|refine zz ?_|refine zE [0,1,2,3,4,6,7,8,9,47] ?_)|simp -dsimp[hs]
 refine i6 (ι:={ k:Nat // k≤x.items.length∧E7 x.drawing 0 x.items=E7 x.drawing (pv x.items k) (x.items.drop k) }) (fun p=>⟨49,[(1,.one (.ptr 0 0)),(6,.one (.im (.sl (x.items.map A4)))),(7,iv (x.items.length:Int)),(8,iv (p.1:Int))],[.row ((e9 x).map .im)]⟩) (fun p=>x.items.length-p.1) ⟨0,by simp[pv]⟩ (zv [1,6,7,8]) ?_
 rintro⟨k,hk,hno⟩
 simp only[iv,e9,rI,List.map_cons,List.map_nil]
 by_cases hlt:k<x.items.length
 ·have hx:x.items[k]?=some x.items[k]:=by simp[hlt]
  have hw:=zk k
  have hw2:IntKind.i64.wrap ((k:Int)-1)=(k:Int)-1:=o4 (by omega) (by omega)
  have c1:=Z8 (G:=G) 1 9999 [x.items[k].drawing] (by simp)
  have c2:=Z8 (G:=G) 1 20 [x.items[k].count] (by simp)
  have hcons:E7 x.drawing 0 x.items=((decide (1≤x.items[k].drawing)&&decide (x.items[k].drawing≤9999))&&(decide (1≤x.items[k].count)&&decide (x.items[k].count≤20)) && !decide (x.items[k].drawing=x.drawing)&&decide (pv x.items k<x.items[k].drawing)&&E7 x.drawing x.items[k].drawing (x.items.drop (k+1))):=by
   rw[hno,List.drop_eq_getElem_cons hlt,E7]
  have hpv1:pv x.items (k+1)=x.items[k].drawing:=by simp[pv,hx]
  by_cases hk0:0<k
  ·have hkx:x.items[k-1]?=some x.items[k-1]:=by simp
   have hcast:(k:Int)-1=((k-1:Nat):Int):=by omega
   have hw3:IntKind.i64.wrap ((k:Int)-1)=((k-1:Nat):Int):=by rw[hw2,hcast]
   have hpv0:pv x.items k=x.items[k-1].drawing:=by
    obtain⟨j,rfl⟩:∃ j,k=j+1:=⟨k-1,by omega⟩
    have:x.items[j]?=some x.items[j]:=by simp
    simp[pv,this]
   rw[hpv0] at hcons
   have hs:=za hx (za hw (za hw3 (za hkx hk0)))
   repeat' first|(with_reducible first|refine zz ?_|refine zr ?_)|simp -dsimp[hs]|refine zq c1 ?_|refine zq c2 ?_|refine zM 4 49 35 [0,1,2,3,4,6,7,8,9,47] ?_|with_reducible refine zE [0,1,2,3,4,6,7,8,9,47] ?_|refine i9 ?_ ?_<;>intro h<;>try simp only[i7] at h|with_reducible refine j0 ?_ ?_<;>intro h<;>have h0:=h<;>(try simp only[i7] at h)<;>have h2:=h<;>(try simp at h2)<;>replace hs:=za h0 (za h (za h2 hs))
   all_goals try clear hs
   all_goals try omega
   all_goals first
    | (refine zn ⟨k+1,by omega,by clear hno;rw[hcons,hpv1];clear hcons;simp_all;try omega⟩ (zw [1,6,7,8] 1))
    | (clear hno;rw[hcons];clear hcons;simp_all;try omega)
  ·have hpv0:pv x.items k=0:=by
    obtain rfl:k=0:=by omega
    rfl
   rw[hpv0] at hcons
   have hs:=za hx (za hw hk0)
   repeat' first|(with_reducible first|refine zz ?_|refine zr ?_)|simp -dsimp[hs]|refine zq c1 ?_|refine zq c2 ?_|refine zM 4 49 35 [0,1,2,3,4,6,7,8,9,47] ?_|with_reducible refine zE [0,1,2,3,4,6,7,8,9,47] ?_|refine i9 ?_ ?_<;>intro h<;>try simp only[i7] at h|with_reducible refine j0 ?_ ?_<;>intro h<;>have h0:=h<;>(try simp only[i7] at h)<;>have h2:=h<;>(try simp at h2)<;>replace hs:=za h0 (za h (za h2 hs))
   all_goals try clear hs
   all_goals try omega
   all_goals first
    | (refine zn ⟨k+1,by omega,by clear hno;rw[hcons,hpv1];clear hcons;simp_all;try omega⟩ (zw [1,6,7,8] 1))
    | (clear hno;rw[hcons];clear hcons;simp_all;try omega)
 ·have hs:=trivial
  repeat' first|(with_reducible first|refine zz ?_|refine zr ?_|refine zE [0,1,2,3,4,6,7,8,9,47] ?_)|simp -dsimp[hs]|refine i9 ?_ ?_<;>intro h<;>try simp only[i7] at h
  all_goals try omega
  rw[hno,List.drop_eq_nil_of_le (by omega)];rfl
end Go.Proofs
namespace Go.Proofs
open Go Go.Ab Tryz
attribute [local simp] D8 setLp
variable {G:Kc}
def lb (l:List Int) (x:Int):Nat:=(l.filter fun y=>decide (y<x)).length
theorem pS (l:List Int) (x:Int):lb l x≤l.length:=List.length_filter_le _ _
theorem bT:∀ {l:List Int} {x:Int},l.Pairwise (·≤·)→∀ (i:Nat) (y:Int),l[i]?=some y→(y<x↔i<lb l x)
 | [],x,_,i,y,h=>by simp at h
 | a :: l,x,hs,i,y,h=>by
   simp only[List.pairwise_cons] at hs
   by_cases ha:a<x
   ·have e:lb (a :: l) x=lb l x+1:=by simp[lb,ha]
    rw[e]
    cases i with
    | zero=>simp at h;subst h;simp[ha]
    | succ i =>
      have:=bT (x:=x) hs.2 i y (by simpa using h)
      omega
   ·have hall:∀ z∈l,¬ z<x:=fun z hz=>by have:=hs.1 z hz;omega
    have e:lb (a :: l) x=0:=by
     have hf:l.filter (fun y=>decide (y<x))=[]:=by
      rw[List.filter_eq_nil_iff];intro z hz;simpa using hall z hz
     simp[lb,ha,hf]
    rw[e]
    cases i with
    | zero=>simp at h;subst h;simp[ha]
    | succ i =>
      have:=hall y (List.mem_of_getElem? (by simpa using h))
      omega
theorem si {l:List Int} {x:Int} (hs:l.Pairwise (·≤·)):x∈l↔l[lb l x]?=some x:=by
 constructor
 ·intro h
  obtain⟨i,hi⟩:=List.mem_iff_getElem?.1 h
  have h1:=bT (x:=x) hs i x hi
  have h2:lb l x≤i:=by omega
  have hlt:=e7 hi
  have h3:l[lb l x]?=some l[lb l x]:=by simp
  have h4:=bT (x:=x) hs _ _ h3
  have h5:l[lb l x]≤x:=by
   by_cases e:lb l x=i
   ·have:l[lb l x]?=some x:=by rw[e];exact hi
    rw[h3] at this;simp at this;omega
   ·have:=(List.pairwise_iff_getElem.1 hs) (lb l x) i (by omega) hlt (by omega)
    have h6:=(List.getElem?_eq_some_iff.1 hi).2
    omega
  rw[h3]
  congr 1
  omega
 ·exact fun h=>List.mem_of_getElem? h
theorem vu:(2:Int) ^ min 1 IntKind.u64.bits=2:=rfl
attribute [simp] vu
theorem Gq {n:Int} (h1:0≤n) (h2:n≤18446744073709551615):IntKind.u64.wrap n=n:=IntWalk.u64_in n ⟨h1,h2⟩
theorem nw (l:List Int) (x:Int) (hs:l.Pairwise (·≤·)) (hl:l.length<1000000):zP prog G 133 [r7 l,iv x] (.tup [iv (lb l x),bv (decide (x∈l))]):=by
 refine zf func133 ntmps133 ?_
 try simp only[r7,iv]
 have hlb:=pS l x
 have hs:=trivial
 repeat' first|(with_reducible first|refine zz ?_|refine zE [0,1,4,5,6,7,8,9,15,27] ?_)|simp -dsimp[hs]
 all_goals try clear hs
 refine i6 (ι:={ p:Nat×Nat // p.1≤lb l x∧lb l x≤p.2∧p.2≤l.length }) (fun p=>⟨54,[(0,r7 l),(1,iv x),(6,iv (l.length:Int)),(7,iv (p.1.1:Int)),(8,iv (p.1.2:Int))],[]⟩) (fun p=>p.1.2-p.1.1) ⟨(0,l.length),by simp;omega⟩ (zv [0,1,6,7,8]) ?_
 rintro⟨⟨i,j⟩,h1,h2,h3⟩
 simp only at h1 h2 h3
 simp only[iv,r7]
 have hw1:IntKind.i64.wrap ((i:Int)+(j:Int))=(i:Int)+(j:Int):=o4 (by omega) (by omega)
 have hw2:IntKind.u64.wrap ((i:Int)+(j:Int))=(i:Int)+(j:Int):=Gq (by omega) (by omega)
 have hd:((i:Int)+(j:Int)).fdiv 2=(((i+j) / 2:Nat):Int):=by
  rw[Int.fdiv_eq_ediv_of_nonneg _ (by omega)];omega
 have hw3:IntKind.i64.wrap ((((i+j) / 2:Nat):Int))=(((i+j) / 2:Nat):Int):=o4 (by omega) (by omega)
 have hw4:IntKind.i64.wrap ((((i+j) / 2:Nat):Int)+1)=(((i+j) / 2+1:Nat):Int):=o4 (by omega) (by omega)
 by_cases hlt:i<j
 ·generalize hm:(i+j) / 2=m at hd hw3 hw4
  have hx:l[m]?=some l[m]:=by simp
  have hsp:=bT (x:=x) hs m l[m] hx
  have c1:=Fd (G:=G) l[m] x
  by_cases hc:l[m]<x
  ·simp only[hc,decide_true] at c1
   have hs:=za hx (za hw1 (za hw2 (za hw3 (za hw4 (za hd hm)))))
   repeat' first|(with_reducible first|refine zz ?_|refine zr ?_|refine zE [0,1,4,5,6,7,8,9,15,27] ?_)|simp -dsimp[hs]|refine zp c1 ?_|refine i9 ?_ ?_<;>intro h<;>try simp only[i7] at h|with_reducible refine j0 ?_ ?_<;>intro h<;>have h0:=h<;>(try simp only[i7] at h)<;>have h2:=h<;>(try simp at h2)<;>replace hs:=za h0 (za h (za h2 hs))
   all_goals try clear hs
   all_goals try omega
   exact zn ⟨(m+1,j),by simp;omega⟩ (zv [0,1,6,7,8])
  ·simp only[hc,decide_false] at c1
   have hs:=za hx (za hw1 (za hw2 (za hw3 (za hw4 (za hd hm)))))
   repeat' first|(with_reducible first|refine zz ?_|refine zr ?_|refine zE [0,1,4,5,6,7,8,9,15,27] ?_)|simp -dsimp[hs]|refine zp c1 ?_|refine i9 ?_ ?_<;>intro h<;>try simp only[i7] at h|with_reducible refine j0 ?_ ?_<;>intro h<;>have h0:=h<;>(try simp only[i7] at h)<;>have h2:=h<;>(try simp at h2)<;>replace hs:=za h0 (za h (za h2 hs))
   all_goals try clear hs
   all_goals try omega
   exact zn ⟨(i,m),by simp;omega⟩ (zv [0,1,6,7,8])
 ·have hi:i=lb l x:=by omega
  subst hi
  have c2:=pX (G:=G) x
  have hmem:=si (x:=x) hs
  by_cases hn:lb l x<l.length
  ·have hx:l[lb l x]?=some l[lb l x]:=by simp[hn]
   have c1:=pX (G:=G) l[lb l x]
   rw[hx] at hmem
   have hs:=za hx (za hlt hn)
   repeat' first|(with_reducible first|refine zz ?_|refine zr ?_|refine zE [0,1,4,5,6,7,8,9,15,27] ?_)|simp -dsimp[hs]|refine zp c1 ?_|refine i9 ?_ ?_<;>intro h<;>try simp only[i7] at h|with_reducible refine j0 ?_ ?_<;>intro h<;>have h0:=h<;>(try simp only[i7] at h)<;>have h2:=h<;>(try simp at h2)<;>replace hs:=za h0 (za h (za h2 hs))
   all_goals try clear hs
   all_goals try omega
   all_goals simp_all
  ·rw[List.getElem?_eq_none (by omega)] at hmem
   have hs:=za hlt hn
   repeat' first|(with_reducible first|refine zz ?_|refine zr ?_|refine zE [0,1,4,5,6,7,8,9,15,27] ?_)|simp -dsimp[hs]|refine i9 ?_ ?_<;>intro h<;>try simp only[i7] at h
   all_goals try clear hs
   all_goals try omega
   all_goals simp_all
end Go.Proofs
namespace Go.Proofs
open Go Go.Ab Tryz
attribute [local simp] D8 setLp
variable {G:Kc}
theorem fx (l:List Issue) (x:Int) (hs:(l.map (·.drawing)).Pairwise (·≤·)) (hl:l.length<1000000):zP prog G 281 [.one (.im (.sl (l.map e9))),iv x,.one (.im (.fn (.func 282) []))] (.tup [iv (lb (l.map (·.drawing)) x),bv (decide (x∈l.map (·.drawing)))]):=by
 refine zf func281 ntmps281 ?_
 try simp only[iv]
 have hlb:=pS (l.map (·.drawing)) x
 simp only[List.length_map] at hlb
 have hs:=trivial
 repeat' first|(with_reducible first|refine zz ?_|refine zE [0,1,2,6,7,8,9,10,11,17,31] ?_)|simp -dsimp[hs]
 all_goals try clear hs
 refine i6 (ι:={ p:Nat×Nat // p.1≤lb (l.map (·.drawing)) x∧lb (l.map (·.drawing)) x≤p.2∧p.2≤l.length }) (fun p=>⟨49,[(0,.one (.im (.sl (l.map e9)))),(1,iv x),(2,.one (.im (.fn (.func 282) []))),(8,iv (l.length:Int)),(9,iv (p.1.1:Int)),(10,iv (p.1.2:Int))],[]⟩) (fun p=>p.1.2-p.1.1) ⟨(0,l.length),by simp;omega⟩ (zv [0,1,2,8,9,10]) ?_
 rintro⟨⟨i,j⟩,h1,h2,h3⟩
 simp only at h1 h2 h3
 simp only[iv,r7]
 have hw1:IntKind.i64.wrap ((i:Int)+(j:Int))=(i:Int)+(j:Int):=o4 (by omega) (by omega)
 have hw2:IntKind.u64.wrap ((i:Int)+(j:Int))=(i:Int)+(j:Int):=Gq (by omega) (by omega)
 have hd:((i:Int)+(j:Int)).fdiv 2=(((i+j) / 2:Nat):Int):=by
  rw[Int.fdiv_eq_ediv_of_nonneg _ (by omega)];omega
 have hw3:IntKind.i64.wrap ((((i+j) / 2:Nat):Int))=(((i+j) / 2:Nat):Int):=o4 (by omega) (by omega)
 have hw4:IntKind.i64.wrap ((((i+j) / 2:Nat):Int)+1)=(((i+j) / 2+1:Nat):Int):=o4 (by omega) (by omega)
 by_cases hlt:i<j
 ·generalize hm:(i+j) / 2=m at hd hw3 hw4
  have hx:l[m]?=some l[m]:=by simp
  have hsp:=bT (x:=x) hs m l[m].drawing (by simp[hx])
  have c1:=lD (G:=G) l[m] x
  by_cases hc:l[m].drawing<x
  ·have hcm:eu l[m].drawing x=-1:=by simp[eu,hc]
   rw[hcm] at c1
   have hs:=za hx (za hw1 (za hw2 (za hw3 (za hw4 (za hd hm)))))
   repeat' first|(with_reducible first|refine zz ?_|refine zr ?_|refine zE [0,1,2,6,7,8,9,10,11,17,31] ?_)|simp -dsimp[hs]|refine zp c1 ?_|refine i9 ?_ ?_<;>intro h<;>try simp only[i7] at h|with_reducible refine j0 ?_ ?_<;>intro h<;>have h0:=h<;>(try simp only[i7] at h)<;>have h2:=h<;>(try simp at h2)<;>replace hs:=za h0 (za h (za h2 hs))
   all_goals try clear hs
   all_goals try omega
   exact zn ⟨(m+1,j),by simp;omega⟩ (zv [0,1,2,8,9,10])
  ·have hcm:¬ eu l[m].drawing x<0:=by simp only[eu,hc,if_false];split<;>omega
   generalize eu l[m].drawing x=q at c1 hcm
   have hs:=za hx (za hw1 (za hw2 (za hw3 (za hw4 (za hd hm)))))
   repeat' first|(with_reducible first|refine zz ?_|refine zr ?_|refine zE [0,1,2,6,7,8,9,10,11,17,31] ?_)|simp -dsimp[hs]|refine zp c1 ?_|refine i9 ?_ ?_<;>intro h<;>try simp only[i7] at h|with_reducible refine j0 ?_ ?_<;>intro h<;>have h0:=h<;>(try simp only[i7] at h)<;>have h2:=h<;>(try simp at h2)<;>replace hs:=za h0 (za h (za h2 hs))
   all_goals try clear hs
   all_goals try omega
   exact zn ⟨(i,m),by simp;omega⟩ (zv [0,1,2,8,9,10])
 ·have hi:i=lb (l.map (·.drawing)) x:=by omega
  subst hi
  have hmem:=si (x:=x) hs
  by_cases hn:lb (l.map (·.drawing)) x<l.length
  ·have hx:l[lb (l.map (·.drawing)) x]?=some l[lb (l.map (·.drawing)) x]:=by simp[hn]
   have c1:=lD (G:=G) l[lb (l.map (·.drawing)) x] x
   have hq:decide (eu l[lb (l.map (·.drawing)) x].drawing x=0)=decide (x∈l.map (·.drawing)):=by
    rw[decide_eq_decide,hmem,List.getElem?_map,hx]
    simp only[eu,Option.map_some,Option.some.injEq]
    split<;>(try split)<;>omega
   generalize eu l[lb (l.map (·.drawing)) x].drawing x=q at c1 hq
   have hs:=za hx (za hlt hn)
   repeat' first|(with_reducible first|refine zz ?_|refine zr ?_|refine zE [0,1,2,6,7,8,9,10,11,17,31] ?_)|simp -dsimp[hs]|refine zp c1 ?_|refine i9 ?_ ?_<;>intro h<;>try simp only[i7] at h
   all_goals try clear hs
   all_goals try omega
   all_goals simp_all
  ·rw[List.getElem?_eq_none (by simp;omega)] at hmem
   have hs:=za hlt hn
   repeat' first|(with_reducible first|refine zz ?_|refine zr ?_|refine zE [0,1,2,6,7,8,9,10,11,17,31] ?_)|simp -dsimp[hs]|refine i9 ?_ ?_<;>intro h<;>try simp only[i7] at h
   all_goals try clear hs
   all_goals try omega
   all_goals simp_all
def w5 (l:List Issue) (ds:List Int):IC:=.ip [.sl (l.map e9),.sl (ds.map encI)]
theorem zF (l:List Issue) (ds:List Int) (n:Int) (hs:ds.Pairwise (·≤·)) (hl:ds.length<1000000):zP prog G 225 [.one (.im (w5 l ds)),iv n] (bv (decide (n∈ds))):=by
 refine zf func225 ntmps225 ?_
 try simp only[iv]
 have c1:=nw (G:=G) ds n hs hl
 simp only[w5]
 have hs:=trivial
 repeat' first|(with_reducible first|refine zz ?_|refine zr ?_|refine zE [0,1,4,6] ?_)|simp -dsimp[hs]|refine zp c1 ?_
 all_goals try clear hs
theorem lh (b:IC) (n:Int):zP prog G 227 [.one (.im b),iv n] (.one (.im (.fn (.func 280) [.ip [b],.ip [rI n]]))):=by
 refine zf func227 ntmps227 ?_
 try simp only[iv]
 repeat' first|(with_reducible first|refine zz ?_|refine zx ?_|refine zE [0,1,2,3,4] ?_)|simp -dsimp
end Go.Proofs
namespace Go.Ab
open Go
@[simp] theorem Eb {α:Type} (objs:List DObj) (l:List α) (f:α→List IC) (k sz:Nat) (h:k≤l.length) (hf:∀ x,(f x).length=sz) :
 D8 objs (.im (.sl (l.map f))) (k:Int) none sz=some (.im (.sl ((l.drop k).map f))):=by
 simp only[D8,Option.getD_none,List.length_map,Int.toNat_natCast,Int.natCast_eq_zero]
 rw[if_pos (by omega)]
 split
 ·rename_i hk;subst hk
  simp[List.take_of_length_le]
 ·by_cases hk:k<l.length
  ·simp[hk,hf,List.take_of_length_le,List.map_drop]
  ·have he:k=l.length:=by omega
   subst he
   simp
@[simp] theorem Ea {α:Type} (objs:List DObj) (l:List α) (f:α→List IC) (k sz:Nat) (h:k≤l.length) :
 D8 objs (.im (.sl (l.map f))) 0 (some (k:Int)) sz=some (.im (.sl ((l.take k).map f))):=by
 simp only[D8,Option.getD_some,List.length_map,Int.toNat_natCast]
 rw[if_pos (by omega),if_pos trivial,List.map_take]
theorem sT (objs:List DObj) (o g off len:Nat) (lo:Int) (hi:Option Int) (sz:Nat):D8 objs (.vec o g off len) lo hi sz=if 0≤lo∧lo≤hi.getD len∧hi.getD len≤len then match objs[o]? with
 | some (.vec z _ g' _)=>if g=g'∧(z=sz∨len=0) then some (.vec o g (off+lo.toNat) ((hi.getD len).toNat-lo.toNat)) else none
 | _=>none
 else none:=rfl
attribute [simp] sT
def LoopD.at (r:LoopD) (st:LoopState) (pend:Option Code):LoopD:={ r with st:=st,pend:=pend }
theorem LoopD.at_st (r:LoopD) (st:LoopState) (pend:Option Code):(r.at st pend).st=st:=rfl
theorem LoopD.at_pend (r:LoopD) (st:LoopState) (pend:Option Code):(r.at st pend).pend=pend:=rfl
theorem LoopD.at_nt (r:LoopD) (st:LoopState) (pend:Option Code):(r.at st pend).nt=r.nt:=rfl
theorem LoopD.at_tm (r:LoopD) (st:LoopState) (pend:Option Code):(r.at st pend).tm=r.tm:=rfl
theorem LoopD.at_ps (r:LoopD) (st:LoopState) (pend:Option Code):(r.at st pend).ps=r.ps:=rfl
theorem LoopD.at_asg (r:LoopD) (st:LoopState) (pend:Option Code):(r.at st pend).asg=r.asg:=rfl
theorem LoopD.at_body (r:LoopD) (st:LoopState) (pend:Option Code):(r.at st pend).body=r.body:=rfl
theorem LoopD.at_at (r:LoopD) (st st':LoopState) (pend pend':Option Code):(r.at st pend).at st' pend'=r.at st' pend':=rfl
attribute [simp] LoopD.at_st LoopD.at_pend LoopD.at_nt LoopD.at_tm LoopD.at_ps LoopD.at_asg LoopD.at_body LoopD.at_at
theorem xS (objs:List DObj) (o:Nat) (st:LoopState) (pend:Option Code):setLp objs o st pend=match objs[o]? with
 | some (.loop r)=>objs.set o (.loop (r.at st pend))
 | _=>objs:=rfl
attribute [simp] xS
theorem J1 {P:Program} {G:Kc} {o:Nat} {xs:List DV} {objs:List DObj} {C:DV→List DObj→Prop} {t:Tok C} (h:N4 P G o xs objs C objs[o]?):lO P G o xs objs C t:=h
theorem V5 {P:Program} {G:Kc} {o m:Nat} {body:Code} {C:DV→List DObj→Prop} {A:DS→Prop} {Q:Exit→DS→Prop} {t:Tok (X3 (fun S'=>A S'∧FY P G o m body C S') Q)} {S:DS} (h1:A S)
 (h2:DT P G ⟨m,some o⟩ body { S with objs:=setLp S.objs o .busy none } (oT o C)):At (X3 (fun S'=>A S'∧FY P G o m body C S') Q) .normal t S:=⟨h1,h2⟩
end Go.Ab
namespace Go.Proofs
open Go Go.Ab Tryz
variable {G:Kc}
theorem rF {l:List Issue} {d:Int} (hs:(l.map (·.drawing)).Pairwise (·≤·)):∀ x∈l.drop (lb (l.map (·.drawing)) d),d≤x.drawing:=by
 intro x hx
 obtain⟨i,hi⟩:=List.mem_iff_getElem?.1 hx
 rw[List.getElem?_drop] at hi
 have:=bT (x:=d) hs _ x.drawing (by rw[List.getElem?_map,hi];rfl)
 omega
theorem rE {l:List Issue} {d:Int} (hs:(l.map (·.drawing)).Pairwise (·≤·)):∀ x∈l.take (lb (l.map (·.drawing)) d),x.drawing<d:=by
 intro x hx
 obtain⟨i,hi⟩:=List.mem_iff_getElem?.1 hx
 have hlt:i<lb (l.map (·.drawing)) d:=by
  have:=(List.getElem?_eq_some_iff.1 hi).1
  simp at this;omega
 rw[List.getElem?_take_of_lt hlt] at hi
 exact(bT (x:=d) hs i x.drawing (by rw[List.getElem?_map,hi];rfl)).2 hlt
theorem xU {l:List Issue} {d:Int} (lt:Int) (hs:(l.map (·.drawing)).Pairwise (·≤·)):o7 l d lt=o7 (l.drop (lb (l.map (·.drawing)) d)) d lt:=by
 conv=>lhs;rw[← List.take_append_drop (lb (l.map (·.drawing)) d) l]
 simp only[o7,List.find?_append]
 rw[List.find?_eq_none.2 fun x hx=>?_]
 ·rfl
 ·have:=rE hs x hx
  simp;omega
theorem uG (l:List Issue) (ds:List Int) (d lt:Int) (hs:(l.map (·.drawing)).Pairwise (·≤·)) (hl:l.length<1000000):zP prog G 176 [.one (.im (w5 l ds)),D3 d lt] (.tup [O8 ((o7 l d lt).getD M9),bv (o7 l d lt).isSome]):=by
 refine zf func176 ntmps176 ?_
 try simp only[D3]
 simp only[D3,w5]
 have c1:=lh (G:=G) (w5 l ds) d
 simp only[w5] at c1
 have hs:=trivial
 repeat' first|(with_reducible first|refine zz ?_|refine zE [0,1,3,4,5,6,10,11,15] ?_)|simp -dsimp[hs]|refine zp c1 ?_
 all_goals try clear hs
 refine M8 (f:=280) (by simp;exact rfl) (by rfl) call280 ?_
 generalize hR:LoopD.mk _ _ _ _ _ _ _=R
 have hR1:R.st=.ready:=by rw[← hR]
 have hR2:R.pend=none:=by rw[← hR]
 have hR3:R.at .ready none=R:=by rw[← hR];rfl
 have hR4:=(congrArg LoopD.nt hR).symm
 have hR5:=(congrArg LoopD.tm hR).symm
 have hR6:=(congrArg LoopD.ps hR).symm
 have hR7:=(congrArg LoopD.asg hR).symm
 have hR8:=(congrArg LoopD.body hR).symm
 dsimp only at hR4 hR5 hR6 hR7 hR8
 clear hR
 refine g9 func280 rfl ntmps280 (by simp) rfl ?_
 have hR9:∀ objs:List DObj,(R.tm.map fun x=>(x.1,eO 6 objs x.2))=R.tm:=by intro objs;rw[hR5];simp
 have hlb:=pS (l.map (·.drawing)) d
 rw[List.length_map] at hlb
 have c2:=fx (G:=G) l d hs hl
 have hs:=za hR1 (za hR2 (za hR3 hlb))
 repeat' first|with_reducible refine zz ?_|simp -dsimp[hs]|refine zq c2 ?_|refine zM 0 41 12 [0,1,2,4,7,24,25,26,27,39] ?_|with_reducible refine zE [0,1,2,3,4,5,6,7,10,11,15,24,25,26,27,39] ?_
 all_goals try clear hs
 rw[← List.map_drop]
 have hge:=rF (d:=d) hs
 have hfs:=xU (d:=d) lt hs
 have hss:((l.drop (lb (l.map (·.drawing)) d)).map (·.drawing)).Pairwise (·≤·):=by rw[List.map_drop];exact hs.drop
 have hsl:l.length-lb (l.map (·.drawing)) d=(l.drop (lb (l.map (·.drawing)) d)).length:=by simp
 rw[hsl]
 have hsl2:(l.drop (lb (l.map (·.drawing)) d)).length<1000000:=by simp;omega
 generalize l.drop (lb (l.map (·.drawing)) d)=s at hge hfs hss hsl2 ⊢
 refine i6 (ι:={ k:Nat // k≤s.length∧o7 l d lt=o7 (s.drop k) d lt }) (fun p=>⟨41,[(0,.one (.yld 5)),(2,.one (.im (.ip [rI d]))),(24,.one (.im (.sl (s.map e9)))),(25,iv (s.length:Int)),(26,iv (p.1:Int))],[.row [.im (rI d),.im (rI lt)],.vec 0 [] 0 true,.vec 0 [] 0 true,.row ((rI 0 :: rI 0 :: [IC.raw (.int .u8 0)]).map .im++[.vec 1 0 0 0,.vec 2 0 0 0]),.row [.im (rB false)],.loop R]⟩) (fun p=>s.length-p.1) ⟨0,by simp[hfs]⟩ (zv [0,2,24,25,26]) ?_
 rintro⟨k,hk,hno⟩
 simp only[iv]
 by_cases hlt:k<s.length
 ·have hx:s[k]?=some s[k]:=by simp[hlt]
  have hw:=zk k
  have hcons:o7 l d lt=if (s[k].drawing==d&&s[k].letter==lt)=true then some s[k] else o7 (s.drop (k+1)) d lt:=by
   rw[hno,List.drop_eq_getElem_cons hlt]
   simp only[o7,List.find?_cons]
   split<;>simp_all
  by_cases hd:s[k].drawing=d
  ·have c3:=pq (G:=G) s[k]
   simp only[Ex,O8,e9,rI,List.map_cons,List.map_nil,hd] at c3
   have hs:=za hR1 (za hR2 (za hR3 (za hx (za hw (za hd hlt)))))
   repeat' first|(with_reducible first|refine zz ?_|refine zr ?_ (by simp -dsimp[B0,hs];exact rfl))|simp -dsimp[B0,hs]|with_reducible refine At.yield_end ?_;simp -dsimp[hs]|with_reducible refine At.yield_ret ?_;simp -dsimp[hs]|refine V5 ?_ ?_<;>simp -dsimp[hs]|refine J1 ?_;simp -dsimp[N4,hR4,hR5,hR6,hR7,hR8,hs]|with_reducible show B0 _ _ _ _ _ _ _ _;simp -dsimp[B0,hs]|refine zq c3 ?_|refine zM 3 18 4 [0,1,3,4,5,6,10,11,15] ?_|with_reducible refine zE [0,1,2,3,4,5,6,7,10,11,15,24,25,26,27,39] ?_|refine i9 ?_ ?_<;>intro h<;>try simp only[i7] at h
   all_goals try clear hs
   ·have h:s[k].letter=lt:=by assumption
    have hf:o7 l d lt=some s[k]:=by rw[hcons,if_pos (by simp[hd,h])]
    simp[hf,hd]
   ·have h:¬ s[k].letter=lt:=by assumption
    have hf:o7 l d lt=o7 (s.drop (k+1)) d lt:=by rw[hcons,if_neg (by simp[hd,h])]
    exact zn ⟨k+1,by omega,hf⟩ (zw [0,2,24,25,26] 6 (by simp[hR9]))
  ·have hnone:o7 l d lt=none:=by
    rw[hno,o7,List.find?_eq_none]
    intro x hxm
    obtain⟨i,hi⟩:=List.mem_iff_getElem?.1 hxm
    rw[List.getElem?_drop] at hi
    have h1:s[k].drawing≤x.drawing:=by
     rcases Nat.eq_zero_or_pos i with rfl|hp
     ·rw[Nat.add_zero,hx] at hi;cases hi;exact Int.le_refl _
     ·have hlt2:=(List.getElem?_eq_some_iff.1 hi).1
      have:=(List.pairwise_iff_getElem.1 hss) k (k+i) (by simpa using hlt) (by simpa using hlt2) (by omega)
      have h6:=(List.getElem?_eq_some_iff.1 hi).2
      simp at this;rw[h6] at this;exact this
    have h2:=hge s[k] (List.getElem_mem hlt)
    simp;omega
   have hs:=za hR1 (za hR2 (za hR3 (za hx (za hw (za hd hlt)))))
   repeat' first|(with_reducible first|refine zz ?_|refine zr ?_ (by simp -dsimp[B0,hs];exact rfl)|refine zE [0,1,2,3,4,5,6,7,10,11,15,24,25,26,27,39] ?_)|simp -dsimp[B0,hs]|with_reducible show B0 _ _ _ _ _ _ _ _;simp -dsimp[B0,hs]|refine i9 ?_ ?_<;>intro h<;>try simp only[i7] at h
   all_goals try clear hs
   all_goals simp[hnone,M9]
 ·have hnone:o7 l d lt=none:=by rw[hno,List.drop_eq_nil_of_le (by omega)];rfl
  have hs:=za hR1 (za hR2 (za hR3 hlt))
  repeat' first|(with_reducible first|refine zz ?_|refine zr ?_ (by simp -dsimp[B0,hs];exact rfl)|refine ze ?_ (by simp -dsimp[B0,hs];exact rfl)|refine zE [0,1,2,3,4,5,6,7,10,11,15,24,25,26,27,39] ?_)|simp -dsimp[B0,hs]|with_reducible show B0 _ _ _ _ _ _ _ _;simp -dsimp[B0,hs]|refine i9 ?_ ?_<;>intro h<;>try simp only[i7] at h
  all_goals try clear hs
  all_goals simp[hnone,M9]
end Go.Proofs
namespace Go.Ab
open Go
def kI (n:Int):List Value:=[.int .i64 n]
def n4 (m:List (Int×Int)) (n:Int):Int:=match m with
 | []=>0
 | p :: r=>if p.1=n then p.2 else n4 r n
def N2 (n v:Int):List (Int×Int)→List (Int×Int)
 | []=>[(n,v)]
 | p :: r=>if p.1=n then (n,v) :: r else p :: N2 n v r
def N3 (m:List (Int×Int)):List (List Value×List DC):=m.map fun p=>(kI p.1,[.im (rI p.2)])
def aa (m:List (Int×Int)):List (List Value×List IC):=m.map fun p=>(kI p.1,[rI p.2])
def I6 (l:List Int):List (List Value×List DC):=l.map fun n=>(kI n,[.im (rB true)])
def qk (l:List Int):List (List Value×List IC):=l.map fun n=>(kI n,[rB true])
def nL (n:Int) (l:List Int):List Int:=if n∈l then l else l++[n]
theorem an (n m:Int):A1 [.int .i64 n] (kI m)=decide (m=n):=by
 simp only[kI,A1,Bool.and_true]
 rw[Bool.eq_iff_iff];simp[eq_comm]
@[simp] theorem IE (m:List (Int×Int)) (n:Int):N6 [.int .i64 n] (N3 m) [.im (.raw (.int .i64 0))]=[.im (.raw (.int .i64 (n4 m n)))]:=by
 induction m with
 | nil=>rfl
 | cons p r ih =>
   have e:N3 (p :: r)=(kI p.1,[.im (rI p.2)]) :: N3 r:=rfl
   rw[e]
   simp only[N6,R0,n4,an,decide_eq_true_eq] at ih ⊢
   split
   ·rfl
   ·exact ih
@[simp] theorem Iy (m:List (Int×Int)) (n v:Int):Q1 [.int .i64 n] [.im (.raw (.int .i64 v))] (N3 m)=N3 (N2 n v m):=by
 induction m with
 | nil=>rfl
 | cons p r ih =>
   have e:N3 (p :: r)=(kI p.1,[.im (rI p.2)]) :: N3 r:=rfl
   rw[e]
   simp only[Q1,N2,an,decide_eq_true_eq] at ih ⊢
   split
   ·rfl
   ·rw[ih];rfl
@[simp] theorem IB (l:List Int) (n:Int):N6 [.int .i64 n] (I6 l) [.im (.raw (.bool false))]=[.im (.raw (.bool (decide (n∈l))))]:=by
 induction l with
 | nil=>rfl
 | cons p r ih =>
   have e:I6 (p :: r)=(kI p,[.im (rB true)]) :: I6 r:=rfl
   rw[e]
   simp only[N6,R0,an,decide_eq_true_eq] at ih ⊢
   split
   ·rename_i h;simp[h]
   ·rename_i h
    rw[ih]
    have:(n∈p :: r)=(n∈r):=propext ⟨fun h'=>(List.mem_cons.1 h').resolve_left fun e=>h e.symm,List.mem_cons_of_mem _⟩
    simp only[this]
@[simp] theorem Ix (l:List Int) (n:Int):Q1 [.int .i64 n] [.im (.raw (.bool true))] (I6 l)=I6 (nL n l):=by
 have gen:∀ l:List Int,(n∈l→Q1 [.int .i64 n] [.im (.raw (.bool true))] (I6 l)=I6 l)∧(n∉l→Q1 [.int .i64 n] [.im (.raw (.bool true))] (I6 l)=I6 (l++[n])):=by
  intro l
  induction l with
  | nil=>exact⟨fun h=>by simp at h,fun _=>rfl⟩
  | cons p r ih =>
    have e:I6 (p :: r)=(kI p,[.im (rB true)]) :: I6 r:=rfl
    rw[e]
    simp only[Q1,an,decide_eq_true_eq]
    constructor
    ·intro h
     split
     ·rename_i hp;rw[hp];rfl
     ·rename_i hp
      rw[ih.1 ((List.mem_cons.1 h).resolve_left fun e=>hp e.symm)]
    ·intro h
     rw[if_neg fun e=>h (by simp[e]),ih.2 fun e=>h (by simp[e])];rfl
 unfold nL
 split
 ·exact(gen l).1 ‹_›
 ·exact(gen l).2 ‹_›
@[simp] theorem IG (l:List Int) (n:Int):gi [.int .i64 n] (I6 l)=I6 (l.erase n):=by
 induction l with
 | nil=>rfl
 | cons p r ih =>
   have e:I6 (p :: r)=(kI p,[.im (rB true)]) :: I6 r:=rfl
   rw[e]
   simp only[gi,an,decide_eq_true_eq]
   split
   ·rename_i h;subst h;simp
   ·rename_i h
    rw[ih,List.erase_cons_tail (by simpa using h)];rfl
@[simp] theorem HH (l:List Int):(I6 l).length=l.length:=by simp[I6]
@[simp] theorem HI (l:List (Int×Int)):(N3 l).length=l.length:=by simp[N3]
@[simp] theorem Fk (m:List (Int×Int)):fm (aa m)=N3 m:=by simp[fm,aa,N3]
@[simp] theorem Fj (l:List Int):fm (qk l)=I6 l:=by simp[fm,qk,I6]
@[simp] theorem IK (k n:Nat) (objs:List DObj) (m:List (Int×Int)):D6 (fun x:List Value×List DC=>(D6 (frz (k+1) n objs) x.2).map fun l=>(x.1,l)) (N3 m)=some (aa m):=by
 induction m with
 | nil=>rfl
 | cons p r ih =>
   have e:N3 (p :: r)=(kI p.1,[.im (rI p.2)]) :: N3 r:=rfl
   rw[e]
   simp[D6,ih,aa]
@[simp] theorem II (k n:Nat) (objs:List DObj) (l:List Int):D6 (fun x:List Value×List DC=>(D6 (frz (k+1) n objs) x.2).map fun l=>(x.1,l)) (I6 l)=some (qk l):=by
 induction l with
 | nil=>rfl
 | cons p r ih =>
   have e:I6 (p :: r)=(kI p,[.im (rB true)]) :: I6 r:=rfl
   rw[e]
   simp[D6,ih,qk]
@[simp] theorem Hk (n:Nat) (objs:List DObj) (m:List (Int×Int)):((N3 m).map fun x=>(x.1,x.2.map (fz n objs)))=N3 m:=by
 simp[N3,fz,DC.lt]
@[simp] theorem Hi (n:Nat) (objs:List DObj) (l:List Int):((I6 l).map fun x=>(x.1,x.2.map (fz n objs)))=I6 l:=by
 simp[I6,fz,DC.lt]
end Go.Ab
