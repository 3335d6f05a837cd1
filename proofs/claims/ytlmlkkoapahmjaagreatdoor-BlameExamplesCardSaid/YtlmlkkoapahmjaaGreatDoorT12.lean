/- Part 12 of the proofs. -/
import Derived.Test.YtlmlkkoapahmjaaGreatDoorT08
import Derived.Test.YtlmlkkoapahmjaaGreatDoorT11
set_option linter.all false
set_option maxHeartbeats 100000000
namespace Go.Ab
open Go
structure Dim where
 nominal:Int
 lower:Int
 upper:Int
 deriving DecidableEq
structure Itm where
 drawing:Int
 count:Int
 deriving DecidableEq
structure Issue where
 drawing:Int
 letter:Int
 kind:Int
 items:List Itm
 dims:List Dim
 deriving DecidableEq
def rI (n:Int):IC:=.raw (.int .i64 n)
def rB (b:Bool):IC:=.raw (.bool b)
def B9 (d:Dim):List IC:=[rI d.nominal,rI d.lower,rI d.upper]
def v6 (x:Itm):List IC:=[rI x.drawing,rI x.count]
def h9 (x:Issue):List IC:=[rI x.drawing,rI x.letter,.raw (.int .u8 x.kind),.sl (x.items.map v6),.sl (x.dims.map B9)]
def encI (n:Int):List IC:=[rI n]
def iv (n:Int):DV:=.one (.im (.raw (.int .i64 n)))
def bv (b:Bool):DV:=.one (.im (.raw (.bool b)))
def A4 (l:List Int):DV:=.one (.im (.sl (l.map encI)))
def Z7 (l:List Issue):DV:=.agg [.im (.sl (l.map h9))]
attribute [simp] iv bv A4 Z7 rI rB B9 v6 h9 encI
attribute [simp] nV gh jD Y5 jA gi jB gj nS nU jC eQ mY D7 eT gK
attribute [simp] qo F5 Y4 gq j0 Y2 n9 DS.put C0 C2 gJ vM Eh nQ pK kF kE sq bF nT yW bJ rb DV.cells dV E5 zcells bb O5 Z5 dj O3 DS.keep As w8 I7 nR J1 cD eU fzVL V8
theorem R2 {p:Prop} {Q:Exit->DS->Prop} {e:Exit} {t:Tok Q} {S:DS} (h:p->At Q e t S):p->At Q e t S:=h
theorem vJ (objs:List DObj) (l:List (List IC)):dg objs (.im (.sl l))=some (l6 l):=rfl
theorem sj (objs:List DObj) (o g off len:Nat):dg objs (.vec o g off len)=match objs[o]? with
 | some (.vec _ es g' _)=>if g=g'/\off+len<=es.length then some ((es.drop off).take len) else none
 | _=>none:=by unfold dg;rfl
attribute [simp] vJ sj
attribute [simp] ImV.one
theorem Cu (l:List DC):ImV (.agg l)↔∀ d∈l,∃ c,d=.im c:=⟨λh=>by cases h;assumption,.agg l⟩
theorem Ct (l:List DV):ImV (.tup l)↔∀ d∈l,ImV d:=⟨λh=>by cases h;assumption,.tup l⟩
attribute [simp] Cu Ct
attribute [simp] BP BO cI e9 u6 uE Cm O4 Op.operands Call.operands
attribute [simp] qE Aa lC GI pick bi kZ iq nP eH
attribute [simp] Bt eR o7 yx uO DJ jt O9 DS.drop Q7 qD
theorem HA (a b:Int):(a==b)=decide (a=b):=by by_cases h:a=b<;>simp[h]
theorem Hz (a b:Int):(a != b)=!decide (a=b):=by by_cases h:a=b<;>simp[h]
attribute [simp] HA Hz
theorem DP {n o off:Nat} {objs:List DObj} (h:o<n):fz n objs (.ptr o off)=.ptr o off:=by simp[fz,DC.lt,h]
theorem DU {n o g i off:Nat} {objs:List DObj} (h:o<n):fz n objs (.ept o g i off)=.ept o g i off:=by simp[fz,DC.lt,h]
theorem DO {n o g off len:Nat} {objs:List DObj} (h:o<n):fz n objs (.vec o g off len)=.vec o g off len:=by simp[fz,DC.lt,h]
theorem yr (x:List IC) (l:List (List IC)):l6 (x :: l)=x.map .im :: l6 l:=rfl
theorem pu (l:List (List IC)) (n:Nat):(∀ e∈l6 l,e.length=n)↔∀ e∈l,e.length=n:=by
 constructor
 ·intro h e he;have:=h (e.map .im) (by simp only[l6,List.mem_map];exact⟨e,he,rfl⟩);simpa using this
 ·exact λh=>ev h
attribute [simp] pu
theorem wX {α:Type} (f:α->List IC) (l:List α):(l6 (l.map f)).take l.length=l6 (l.map f):=List.take_of_length_le (by simp[o7])
attribute [simp] DP DU DO yr wX
def xJ:Option IC->DC
 | some c=>.im c
 | none=>.dead
theorem Bz {n o g off len:Nat} {objs:List DObj} (h:n<=o):fz n objs (.vec o g off len)=xJ (frz 20 n objs (.vec o g off len)):=by
 have h1:DC.lt n (.vec o g off len)=false:=by simp[DC.lt];omega
 simp only[fz,h1];cases frz 20 n objs (.vec o g off len)<;>rfl
theorem BA {n o off:Nat} {objs:List DObj} (h:n<=o):fz n objs (.ptr o off)=xJ (frz 20 n objs (.ptr o off)):=by
 have h1:DC.lt n (.ptr o off)=false:=by simp[DC.lt];omega
 simp only[fz,h1];cases frz 20 n objs (.ptr o off)<;>rfl
theorem DY (k n:Nat) (objs:List DObj) (c:IC):frz (k+1) n objs (.im c)=some c:=rfl
theorem BG (k n o g off len:Nat) (objs:List DObj):frz (k+1) n objs (.vec o g off len)=if n<=o then match objs[o]? with
 | some (.vec _ es g' _)=>if g=g'/\off+len<=es.length then (C3 (C3 (frz k n objs)) ((es.drop off).take len)).map .sl else none
 | _=>none
 else none:=rfl
theorem BH (k n o off:Nat) (objs:List DObj):frz (k+1) n objs (.ptr o off)=if n<=o then match objs[o]? with
 | some (.row c)=>if off<=c.length then (C3 (frz k n objs) (c.drop off)).map .ip else none
 | _=>none
 else none:=rfl
theorem Gs {n:Nat} {f:Fn} {caps:List DC} {objs:List DObj}:fz n objs (.fn f caps)=if DC.ltL n caps=true then .fn f caps else xJ (frz 20 n objs (.fn f caps)):=by
 have h1:DC.lt n (.fn f caps)=DC.ltL n caps:=rfl;simp only[fz,h1];split
 ·rfl
 ·cases frz 20 n objs (.fn f caps)<;>rfl
theorem DZ (k n:Nat) (objs:List DObj) (f:Fn) (caps:List DC):frz (k+1) n objs (.fn f caps)=(C3 (frz k n objs) caps).map (.fn f):=rfl
theorem DQ {n o:Nat} {objs:List DObj} (h:o<n):fz n objs (.map o)=.map o:=by simp[fz,DC.lt,h]
theorem BC {n o:Nat} {objs:List DObj} (h:n<=o):fz n objs (.map o)=xJ (frz 20 n objs (.map o)):=by
 have h1:DC.lt n (.map o)=false:=by simp[DC.lt];omega
 simp only[fz,h1];cases frz 20 n objs (.map o)<;>rfl
theorem BI (k n o:Nat) (objs:List DObj):frz (k+1) n objs (.map o)=if n<=o then match objs[o]? with
 | some (.map ks es)=>(C3 (λx=>(C3 (frz k n objs) x.2).map λl=>(x.1,l)) es).map (.mp (I8 ks))
 | _=>none
 else none:=rfl
theorem DN {n o:Nat} {objs:List DObj} (h:o<n):fz n objs (.yld o)=.yld o:=by simp[fz,DC.lt,h]
theorem DR {n o:Nat} {objs:List DObj} (h:o<n):fz n objs (.itr o)=.itr o:=by simp[fz,DC.lt,h]
attribute [simp] Gs DZ DQ BC BI DN DR DC.ltL DC.lt
attribute [simp] xJ Bz BA DY BG BH C3
theorem i8:(∀ (p:Prop) [Decidable p],decide p=true↔p)/\(∀ (p:Prop) [Decidable p],decide p=false↔¬p)/\(∀ a b:Bool,(a&&b)=true↔a=true/\b=true)/\(∀ a b:Bool,(a&&b)=false↔a=false\/b=false)/\(∀ a b:Bool,(a||b)=true↔a=true\/b=true)/\(∀ a b:Bool,(a||b)=false↔a=false/\b=false)/\(∀ a:Bool,(!a)=true↔a=false)/\(∀ a:Bool,(!a)=false↔a=true)/\(∀ (α:Type) [BEq α] [LawfulBEq α] (a b:α),(a==b)=true↔a=b)/\(∀ (α:Type) [BEq α] [LawfulBEq α] (a b:α),(a==b)=false↔a≠b)/\(false=true↔False)/\(true=false↔False):=
 ⟨λ_=>decide_eq_true_iff,λ_=>decide_eq_false_iff_not,λ_ _=>Bool.and_eq_true_iff,λa b=>by cases a<;>cases b<;>decide,λa b=>by cases a<;>cases b<;>decide,λa b=>by cases a<;>cases b<;>decide,λa=>by cases a<;>decide,λa=>by cases a<;>decide,λ_ _ _ _ _=>beq_iff_eq,λ_ _ _ _ _=>beq_eq_false_iff_ne,by decide,by decide⟩
abbrev ux:=@At.seq
abbrev In:=@At.then_ret
abbrev Fi:=@At.then_exit
abbrev EG:=@At.block_end
abbrev Im:=@At.block_ret
abbrev Fh:=@At.block_exit
abbrev HQ:=@At.block_out
abbrev IJ:=@At.scope_ret
abbrev uw:=@Ao
abbrev AR:=@qA
abbrev II:=@qy
abbrev Cz:=@tX
abbrev IH:=@qz
abbrev Fg:=@tY
abbrev HP:=@Ap
abbrev za:=@And.intro
class Zs (A:Prop) (B:outParam Prop):Prop where
 go:B->A
theorem zz {A B:Prop} [h:Zs A B] (b:B):A:=h.go b
section
variable {P:Program} {G:IK} {n:Cx} {S:DS} {Q:Exit->DS->Prop}
instance {y:Code}:Zs (At (V8 (λS'=>DT P G n y S' Q) Q) .normal ⟨⟩ S) (DT P G n y S Q):=⟨At.seq⟩
instance {next:DS->Prop}:Zs (At (V8 next Q) .ret ⟨⟩ S) (At Q .ret ⟨⟩ S):=⟨At.then_ret⟩
instance {next:DS->Prop} {id:Nat}:Zs (At (V8 next Q) (.exit id) ⟨⟩ S) (At Q (.exit id) ⟨⟩ S):=⟨At.then_exit⟩
instance {id:Nat}:Zs (At (V7 id Q) .normal ⟨⟩ S) (At Q .normal ⟨⟩ S):=⟨At.block_end⟩
instance {id:Nat}:Zs (At (V7 id Q) .ret ⟨⟩ S) (At Q .ret ⟨⟩ S):=⟨At.block_ret⟩
instance {id:Nat}:Zs (At (V7 id Q) (.exit id) ⟨⟩ S) (At Q .normal ⟨⟩ S):=⟨At.block_exit⟩
instance :Zs (At (cF Q) .normal ⟨⟩ S) (At Q .normal ⟨⟩ S):=⟨At.scope_end⟩
instance :Zs (At (cF Q) .ret ⟨⟩ S) (At Q .ret ⟨⟩ S):=⟨At.scope_ret⟩
instance {id:Nat}:Zs (At (cF Q) (.exit id) ⟨⟩ S) (At Q (.exit id) ⟨⟩ S):=⟨At.scope_exit⟩
instance {x y:Code}:Zs (DT P G n (.seq x y) S Q) (DT P G n x S (V8 (λS'=>DT P G n y S' Q) Q)):=⟨Ao⟩
instance {id:Nat} {c:Code}:Zs (DT P G n (.block id c) S Q) (DT P G n c S (V7 id Q)):=⟨qA⟩
instance {c:Code}:Zs (DT P G n (.scope c) S Q) (DT P G n c S (cF Q)):=⟨qy⟩
instance :Zs (DT P G n .skip S Q) (At Q .normal ⟨⟩ S):=⟨tX⟩
instance {l:Nat}:Zs (DT P G n (.label l) S Q) (At Q .normal ⟨⟩ S):=⟨qz⟩
instance {id:Nat}:Zs (DT P G n (.exit id) S Q) (At Q (.exit id) ⟨⟩ S):=⟨tY⟩
instance :Zs (DT P G n .ret S Q) (At Q .ret ⟨⟩ S):=⟨Ap⟩
theorem zx {rs:List ResultVar} {K:DV->List DObj->Prop} {ds:List DV} (hq:K (J1 ds) S.objs) (h:I7 P S rs=some ds:=by simp -dsimp;exact rfl):At (CQ P rs K) .ret ⟨⟩ S:=At.fn_ret h hq
theorem zy {rs:List ResultVar} {K:DV->List DObj->Prop} {ds:List DV} (hq:K (J1 ds) S.objs) (h:I7 P S rs=some ds:=by simp -dsimp;exact rfl):At (CQ P rs K) .normal ⟨⟩ S:=At.fn_end h hq
theorem zr {rs:List ResultVar} {K:DV->List DObj->Prop} {ds:List DV} (hq:K (J1 ds) S.objs) (h:I7 P S rs=some ds:=by simp -dsimp[hs];exact rfl):At (CQ P rs K) .ret ⟨⟩ S:=At.fn_ret h hq
theorem ze {rs:List ResultVar} {K:DV->List DObj->Prop} {ds:List DV} (hq:K (J1 ds) S.objs) (h:I7 P S rs=some ds:=by simp -dsimp[hs];exact rfl):At (CQ P rs K) .normal ⟨⟩ S:=At.fn_end h hq
theorem j4 {c:Operand} {x y:Code} {b:Bool} {p q:Prop} (ht:p->DT P G n x S Q) (hf:q->DT P G n y S Q) (hc:j0 G S c=some (.one (.im (.raw (.bool b)))):=by exact rfl) (hp:b=true->p:=by intro h;first|(simp only[i8] at h;exact h)|exact (by simp only[i8] at h:False)|exact h) (hq:b=false->q:=by intro h;first|(simp only[i8] at h;exact h)|exact (by simp only[i8] at h:False)|exact h):DT P G n (.cond c x y) S Q:=L4 hc (λh=>ht (hp h)) λh=>hf (hq h)
theorem zM {l:List Oper} (id nt nq:Nat) (ks:List Nat)
 (h:Cm P G (l.map (·.dst)) (l.take nq) S (λS'=>qo P G (l.map (·.dst)) (l.drop nq) S' (λS''=>At Q .normal ⟨⟩ (S''.keep ks)) ⟨⟩) ⟨⟩) (hm:P.follows .mixedOrders=true:=by exact mixed) (hnt:S.nt=nt:=by rfl) (hB:fE nt nq l=true:=by kernel_rfl):DT P G n (.region id l.toArray true) S Q:=lm nq ks hm hnt hB h
end
abbrev zP (P:Program) (G:IK) (f:FuncId) (av:List DV) (r:DV):Prop:=∀ objs:List DObj,DCall P G f av objs (λd o=>d=r/\o=objs)
theorem zf {P:Program} {G:IK} {f:FuncId} {fn:Func} {c:Code} {nt:Nat} {args:List DV} {d0:DV} {rs:List ResultVar} (hf:P.funcs[f]?=some fn) (hnt:fn.ntmps=nt) (h:DT P G ⟨([]:List DObj).length,none⟩ c ⟨nt,cD args 0,[]⟩ (CQ P rs (λd o=>eU 0 o d=d0))) (hb:fn.body=some c:=by exact rfl) (hargs:args.length<=nt:=by simp) (hrs:fn.results.toList=rs:=by exact rfl) (ha:∀ d∈args,ImV d:=by simp) (hd:ImV d0:=by simp):zP P G f args d0:=λobjs=>DCall.frame (g9 hf hb hnt hargs hrs h) ha hd objs
abbrev zp:=@CallE.pure
abbrev zt:=@CallE.thaw
abbrev zh:=@CallE.here
abbrev zq:=@lh
abbrev zE:=@A7
theorem zw {G:IK} {n:Cx} {S S':DS} (ks:List Nat) (m:Nat) (h:(S.keep ks).drop m=S':=by simp) (hm:m<=S.objs.length:=by simp) (hn:n.n<=m:=by simp):Weak G n S S':=Weak.of_drop ks m hm hn h
theorem zv {G:IK} {n:Cx} {S S':DS} (ks:List Nat) (h:S.keep ks=S':=by simp):Weak G n S S':=Weak.of_keep ks h
theorem zn {G:IK} {n:Cx} {S:DS} {Q:Exit->DS->Prop} {ι:Type} {I:ι->DS} {m:ι->Nat} {i:ι} (j:ι) (h2:Weak G n S (I j)) (h1:m j<m i:=by first|omega|(simp only;omega)|(simp;omega)):At (V8 (λS'=>Ae G n I m i S') Q) .normal ⟨⟩ S:=At.round j h1 h2
end Go.Ab
namespace Go.Proofs
open Go Go.Ab
attribute [local simp] C5 setLp
theorem r9 {n:Int} (h1:-9223372036854775808<=n) (h2:n<=9223372036854775807):IntKind.i64.wrap n=n:=IntWalk.i64_in n ⟨h1,h2⟩
theorem zk (k:Nat) (h:k<4611686018427387904:=by omega):IntKind.i64.wrap ((k:Int)+1)=((k+1:Nat):Int):=r9 (by omega) (by omega)
variable {G:IK}
def idx (l:List Int) (x:Int):Int:=match l.idxOf? x with|some i=>i|none=>-1
theorem Bw {l:List Int} {x:Int} {k:Nat} (h:l[k]?=some x) (hno:∀ j,j<k->l[j]?≠some x):idx l x=k:=by
 have:l.idxOf? x=some k:=by
  rw[List.idxOf?,List.findIdx?_eq_some_iff_getElem];obtain⟨hlt,he⟩:=List.getElem?_eq_some_iff.1 h;refine⟨hlt,by simp[he],λj hj=>?_⟩;have:=hno j hj;rw[List.getElem?_eq_getElem (by omega)] at this;simpa using this
 simp[idx,this]
end Go.Proofs
namespace Go.Proofs
open Go Go.Ab Tryz
attribute [local simp] C5 setLp
variable {G:IK}
theorem mixed:prog.follows .mixedOrders=true:=by kernel_rfl
def Q3 (x:Issue):DV:=.agg ((h9 x).map .im)
attribute [simp] Q3
end Go.Proofs
namespace Go.Proofs
open Go Go.Ab
attribute [local simp] C5 setLp
variable {G:IK}
def Ad (l:List Issue):Prop:=l.length<=80/\∀ x∈l,x.items.length<=16/\x.dims.length<=8
end Go.Proofs
namespace Go.Proofs
open Go Go.Ab
attribute [local simp] C5 setLp
variable {G:IK}
instance (l:List Issue):Decidable (Ad l):=inferInstanceAs (Decidable (_/\_))
end Go.Proofs
namespace Go.Proofs
open Go Go.Ab Tryz
attribute [local simp] C5 setLp
variable {G:IK}
@[simp] abbrev Lt:List Nat:=[0,1,4,5,10,14,25]
theorem jV (l r:List Int) (hl:l.length<1000000) (objs:List DObj):DCall prog G 40 [A4 l,A4 r] objs (λd objs'=>d=bv (decide (l=r))/\objs'=objs):=by
 refine DCall.frame ?_ (by simp) (by simp) objs;refine g9 func40 rfl ntmps40 (by simp) rfl ?_;simp only[A4,bv];have hs:=trivial;repeat' first|(with_reducible first|refine zz ?_|refine zr ?_|refine zE Lt ?_)|simp -dsimp[hs]|refine j4 ?_ ?_<;>intro h<;>try exact h.elim
 ·rintro rfl;omega
 ·have hlen:l.length=r.length:=by omega
  refine i7 (ι:={ k:Nat // k<=l.length/\∀ j,j<k->l[j]?=r[j]? }) (λp=>⟨26,[(0,A4 l),(1,A4 r),(5,iv (p.1:Int))],[]⟩) (λp=>l.length-p.1) ⟨0,by simp⟩ (zv [0,1,5] (by simp[iv,A4])) ?_;rintro⟨k,hk,hno⟩;simp only[iv,A4];by_cases hlt:k<l.length
  ·have hx:l[k]?=some l[k]:=by simp[hlt]
   have hltr:k<r.length:=by omega
   have hy:r[k]?=some r[k]:=by simp[hltr]
   have hw:=zk k;have hs:=za hx (za hy hw);repeat' first|(with_reducible first|refine zz ?_|refine zr ?_ (by simp -dsimp[encI,rI,hs];exact rfl))|simp -dsimp[encI,rI,hs]|refine zM 6 26 9 Lt ?_|with_reducible refine zE Lt ?_|refine j4 ?_ ?_<;>intro h<;>try exact h.elim
   all_goals try omega
   ·rename_i h;rintro rfl;exact h rfl
   ·rename_i h;refine zn ⟨k+1,by omega,λj hj=>?_⟩ (zv [0,1,5]);by_cases e:j=k
    ·subst e;rw[hx,hy,h]
    ·exact hno j (by omega)
  ·have hs:=hlt;repeat' first|(with_reducible first|refine zz ?_|refine zr ?_|refine zE Lt ?_)|simp -dsimp[hs]|refine j4 ?_ ?_<;>intro h<;>try exact h.elim
   refine List.ext_getElem? λj=>?_;by_cases hj:j<k
   ·exact hno j hj
   ·rw[List.getElem?_eq_none (by omega),List.getElem?_eq_none (by omega)]
end Go.Proofs
namespace Go.Proofs
open Go Go.Ab
attribute [local simp] C5 setLp
variable {G:IK}
def Is (l:List Itm):DV:=.one (.im (.sl (l.map v6)))
attribute [simp] Is
end Go.Proofs
namespace Go.Proofs
open Go Go.Ab
attribute [local simp] C5 setLp
variable {G:IK}
end Go.Proofs
namespace Go.Proofs
open Go Go.Ab
attribute [local simp] C5 setLp
variable {G:IK}
end Go.Proofs
namespace Go.Proofs
open Go Go.Ab
attribute [local simp] C5 setLp
variable {G:IK}
def an:Issue:=⟨0,0,0,[],[]⟩
def B6 (l:List Issue) (d lt:Int):Option Issue:=l.find? λx=>x.drawing==d&&x.letter==lt
def D3 (d lt:Int):DV:=.agg [.im (rI d),.im (rI lt)]
attribute [simp] D3
end Go.Proofs
namespace Go.Proofs
open Go Go.Ab Tryz
attribute [local simp] C5 setLp
variable {G:IK}
def J4 {α:Type} (p:α->Bool) (l:List α):Int:=match l.findIdx? p with|some i=>i|none=>-1
theorem K2 {α:Type} {p:α->Bool} {l:List α} {i:Nat} {x:α} (h:l[i]?=some x) (hp:p x=true) (hno:∀ (j:Nat) (x:α),j<i->l[j]?=some x->p x=false):J4 p l=i:=by
 have:l.findIdx? p=some i:=by
  rw[List.findIdx?_eq_some_iff_getElem];obtain⟨hlt,he⟩:=List.getElem?_eq_some_iff.1 h;refine⟨hlt,by rw[he];exact hp,λj hj=>?_⟩;have:=hno j l[j] hj (by simp);simp[this]
 simp[J4,this]
theorem S6 {α:Type} {p:α->Bool} {l:List α} (hno:∀ (j:Nat) (x:α),l[j]?=some x->p x=false):J4 p l=-1:=by
 have:l.findIdx? p=none:=by
  rw[List.findIdx?_eq_none_iff];intro y hy;obtain⟨j,hj⟩:=List.mem_iff_getElem?.1 hy;exact hno j y hj
 simp[J4,this]
theorem A1 {α:Type} (p:α->Bool) (l:List α):decide (0<=J4 p l)=l.any p:=by
 unfold J4;split
 ·rename_i i h;rw[List.findIdx?_eq_some_iff_getElem] at h;obtain⟨hlt,hp,_⟩:=h;have:l.any p=true:=List.any_eq_true.2 ⟨l[i],by simp,hp⟩;simp[this]
 ·rename_i h;rw[List.findIdx?_eq_none_iff] at h;have:l.any p=false:=by rw[List.any_eq_false];intro x hx;simp[h x hx]
  simp[this]
def yf (x:Itm):DV:=.agg ((v6 x).map .im)
def gk (x:Dim):DV:=.agg ((B9 x).map .im)
attribute [simp] yf gk
@[simp] abbrev La:List Nat:=[0,1,4,5,7,8,9,16]
theorem eu (l:List Int) (p:Int->Bool) (k:Nat) (caps:List DC) (objs:List DObj) (hok:C1 prog k) (hf:∀ x∈l,DCall prog G k (iv x :: caps.map .one) objs (λd o=>d=bv (p x)/\o=objs)) (hl:l.length<1000000):DCall prog G 179 [.one (.im (.sl (l.map encI))),.one (.fn (.func k) caps)] objs (λd o=>d=iv (J4 p l)/\o=objs):=by
 refine g9 func179 rfl ntmps179 (by simp) rfl ?_;have hs:=trivial;repeat' first|(with_reducible first|refine zz ?_|refine zE La ?_)|simp -dsimp[hs]
 refine i7 (ι:={ k:Nat // k<=l.length/\∀ j x,j<k->l[j]?=some x->p x=false }) (λi=>⟨19,[(0,.one (.im (.sl (l.map encI)))),(1,.one (.fn (.func k) caps)),(7,iv (l.length:Int)),(8,iv (i.1:Int))],objs⟩) (λi=>l.length-i.1) ⟨0,by simp⟩ (zv [0,1,7,8]) ?_;rintro⟨i,hi,hno⟩;simp only[iv];by_cases hlt:i<l.length
 ·have hx:l[i]?=some l[i]:=by simp[hlt]
  have hw:=zk i;have hc:=hf l[i] (by simp);simp only[iv,encI,List.map_cons,List.map_nil,bv,rI] at hc;have hs:=za hx (za hw hok);repeat' first|(with_reducible first|refine zz ?_|refine And.intro (by omega) ?_|refine zr ?_|refine zE La ?_)|simp -dsimp[hs]|refine CallE.here hc ?_|refine j4 ?_ ?_<;>intro h<;>try exact h.elim|with_reducible refine And.intro ?_ ?_
  all_goals try omega
  ·exact(K2 hx (by assumption) hno).symm
  ·exact At.round ⟨i+1,by omega,λj x hj hjx=>by
    by_cases e:j=i
    ·subst e;rw[hx] at hjx;cases hjx;assumption
    ·exact hno j x (by omega) hjx⟩ (by simp;omega) (zv [0,1,7,8])
 ·have hs:=trivial;repeat' first|(with_reducible first|refine zz ?_|refine zr ?_|refine zE La ?_)|simp -dsimp[hs]|refine j4 ?_ ?_<;>intro h<;>try exact h.elim|with_reducible refine And.intro ?_ ?_
  all_goals try omega
  exact(S6 λj x hjx=>hno j x (by have:=e7 hjx;omega) hjx).symm
theorem B5 (l:List Int) (p:Int->Bool) (k:Nat) (caps:List DC) (objs:List DObj) (hok:C1 prog k) (hf:∀ x∈l,DCall prog G k (iv x :: caps.map .one) objs (λd o=>d=bv (p x)/\o=objs)) (hl:l.length<1000000):DCall prog G 122 [.one (.im (.sl (l.map encI))),.one (.fn (.func k) caps)] objs (λd o=>d=bv (l.any p)/\o=objs):=by
 refine g9 func122 rfl ntmps122 (by simp) rfl ?_;have hc:=eu l p k caps objs hok hf hl;repeat' first|(with_reducible first|refine zz ?_|refine zx ?_|refine zE [0,1,4] ?_)|simp -dsimp|refine CallE.here hc ?_|with_reducible refine And.intro ?_ ?_
 simp[A1]
theorem lD (l:List Itm) (p:Itm->Bool) (k:Nat) (caps:List DC) (objs:List DObj) (hok:C1 prog k) (hf:∀ x∈l,DCall prog G k (yf x :: caps.map .one) objs (λd o=>d=bv (p x)/\o=objs)) (hl:l.length<1000000):DCall prog G 248 [.one (.im (.sl (l.map v6))),.one (.fn (.func k) caps)] objs (λd o=>d=iv (J4 p l)/\o=objs):=by
 refine g9 func248 rfl ntmps248 (by simp) rfl ?_;have hs:=trivial;repeat' first|(with_reducible first|refine zz ?_|refine zE La ?_)|simp -dsimp[hs]
 refine i7 (ι:={ k:Nat // k<=l.length/\∀ j x,j<k->l[j]?=some x->p x=false }) (λi=>⟨19,[(0,.one (.im (.sl (l.map v6)))),(1,.one (.fn (.func k) caps)),(7,iv (l.length:Int)),(8,iv (i.1:Int))],objs⟩) (λi=>l.length-i.1) ⟨0,by simp⟩ (zv [0,1,7,8]) ?_;rintro⟨i,hi,hno⟩;simp only[iv];by_cases hlt:i<l.length
 ·have hx:l[i]?=some l[i]:=by simp[hlt]
  have hw:=zk i;have hc:=hf l[i] (by simp);simp only[yf,v6,List.map_cons,List.map_nil,bv,rI] at hc;have hs:=za hx (za hw hok);repeat' first|(with_reducible first|refine zz ?_|refine And.intro (by omega) ?_|refine zr ?_|refine zE La ?_)|simp -dsimp[hs]|refine CallE.here hc ?_|refine j4 ?_ ?_<;>intro h<;>try exact h.elim|with_reducible refine And.intro ?_ ?_
  all_goals try omega
  ·exact(K2 hx (by assumption) hno).symm
  ·exact At.round ⟨i+1,by omega,λj x hj hjx=>by
    by_cases e:j=i
    ·subst e;rw[hx] at hjx;cases hjx;assumption
    ·exact hno j x (by omega) hjx⟩ (by simp;omega) (zv [0,1,7,8])
 ·have hs:=trivial;repeat' first|(with_reducible first|refine zz ?_|refine zr ?_|refine zE La ?_)|simp -dsimp[hs]|refine j4 ?_ ?_<;>intro h<;>try exact h.elim|with_reducible refine And.intro ?_ ?_
  all_goals try omega
  exact(S6 λj x hjx=>hno j x (by have:=e7 hjx;omega) hjx).symm
theorem ie (l:List Itm) (p:Itm->Bool) (k:Nat) (caps:List DC) (objs:List DObj) (hok:C1 prog k) (hf:∀ x∈l,DCall prog G k (yf x :: caps.map .one) objs (λd o=>d=bv (p x)/\o=objs)) (hl:l.length<1000000):DCall prog G 195 [.one (.im (.sl (l.map v6))),.one (.fn (.func k) caps)] objs (λd o=>d=bv (l.any p)/\o=objs):=by
 refine g9 func195 rfl ntmps195 (by simp) rfl ?_;have hc:=lD l p k caps objs hok hf hl;repeat' first|(with_reducible first|refine zz ?_|refine zx ?_|refine zE [0,1,4] ?_)|simp -dsimp|refine CallE.here hc ?_|with_reducible refine And.intro ?_ ?_
 simp[A1]
theorem lF (l:List Dim) (p:Dim->Bool) (k:Nat) (caps:List DC) (objs:List DObj) (hok:C1 prog k) (hf:∀ x∈l,DCall prog G k (gk x :: caps.map .one) objs (λd o=>d=bv (p x)/\o=objs)) (hl:l.length<1000000):DCall prog G 322 [.one (.im (.sl (l.map B9))),.one (.fn (.func k) caps)] objs (λd o=>d=iv (J4 p l)/\o=objs):=by
 refine g9 func322 rfl ntmps322 (by simp) rfl ?_;have hs:=trivial;repeat' first|(with_reducible first|refine zz ?_|refine zE La ?_)|simp -dsimp[hs]
 refine i7 (ι:={ k:Nat // k<=l.length/\∀ j x,j<k->l[j]?=some x->p x=false }) (λi=>⟨19,[(0,.one (.im (.sl (l.map B9)))),(1,.one (.fn (.func k) caps)),(7,iv (l.length:Int)),(8,iv (i.1:Int))],objs⟩) (λi=>l.length-i.1) ⟨0,by simp⟩ (zv [0,1,7,8]) ?_;rintro⟨i,hi,hno⟩;simp only[iv];by_cases hlt:i<l.length
 ·have hx:l[i]?=some l[i]:=by simp[hlt]
  have hw:=zk i;have hc:=hf l[i] (by simp);simp only[gk,B9,List.map_cons,List.map_nil,bv,rI] at hc;have hs:=za hx (za hw hok);repeat' first|(with_reducible first|refine zz ?_|refine And.intro (by omega) ?_|refine zr ?_|refine zE La ?_)|simp -dsimp[hs]|refine CallE.here hc ?_|refine j4 ?_ ?_<;>intro h<;>try exact h.elim|with_reducible refine And.intro ?_ ?_
  all_goals try omega
  ·exact(K2 hx (by assumption) hno).symm
  ·exact At.round ⟨i+1,by omega,λj x hj hjx=>by
    by_cases e:j=i
    ·subst e;rw[hx] at hjx;cases hjx;assumption
    ·exact hno j x (by omega) hjx⟩ (by simp;omega) (zv [0,1,7,8])
 ·have hs:=trivial;repeat' first|(with_reducible first|refine zz ?_|refine zr ?_|refine zE La ?_)|simp -dsimp[hs]|refine j4 ?_ ?_<;>intro h<;>try exact h.elim|with_reducible refine And.intro ?_ ?_
  all_goals try omega
  exact(S6 λj x hjx=>hno j x (by have:=e7 hjx;omega) hjx).symm
theorem ii (l:List Dim) (p:Dim->Bool) (k:Nat) (caps:List DC) (objs:List DObj) (hok:C1 prog k) (hf:∀ x∈l,DCall prog G k (gk x :: caps.map .one) objs (λd o=>d=bv (p x)/\o=objs)) (hl:l.length<1000000):DCall prog G 319 [.one (.im (.sl (l.map B9))),.one (.fn (.func k) caps)] objs (λd o=>d=bv (l.any p)/\o=objs):=by
 refine g9 func319 rfl ntmps319 (by simp) rfl ?_;have hc:=lF l p k caps objs hok hf hl;repeat' first|(with_reducible first|refine zz ?_|refine zx ?_|refine zE [0,1,4] ?_)|simp -dsimp|refine CallE.here hc ?_|with_reducible refine And.intro ?_ ?_
 simp[A1]
theorem vP (l:List Itm) (hl:l.length<1000000) (objs:List DObj):DCall prog G 126 [.one (.im (.sl (l.map v6)))] objs (λd objs'=>d=.one (.im (.sl (l.map v6)))/\objs'=objs):=by
 refine DCall.frame ?_ (by simp) (by simp) objs;refine g9 func126 rfl ntmps126 (by simp) rfl ?_;repeat' first|(with_reducible first|refine zz ?_|refine And.intro (by omega) ?_|refine zx ?_|refine zE [0,2,4] ?_)|simp -dsimp|refine j4 ?_ ?_<;>intro h<;>try exact h.elim|with_reducible refine R2 (λh=>?_);(try simp only[List.map_eq_nil_iff] at h);(try subst h);try simp -dsimp|with_reducible refine And.intro ?_ ?_
 all_goals omega
theorem vQ (l:List Dim) (hl:l.length<1000000) (objs:List DObj):DCall prog G 127 [.one (.im (.sl (l.map B9)))] objs (λd objs'=>d=.one (.im (.sl (l.map B9)))/\objs'=objs):=by
 refine DCall.frame ?_ (by simp) (by simp) objs;refine g9 func127 rfl ntmps127 (by simp) rfl ?_;repeat' first|(with_reducible first|refine zz ?_|refine And.intro (by omega) ?_|refine zx ?_|refine zE [0,2,4] ?_)|simp -dsimp|refine j4 ?_ ?_<;>intro h<;>try exact h.elim|with_reducible refine R2 (λh=>?_);(try simp only[List.map_eq_nil_iff] at h);(try subst h);try simp -dsimp|with_reducible refine And.intro ?_ ?_
 all_goals omega
end Go.Proofs
namespace Go.Proofs
open Go Go.Ab Tryz
attribute [local simp] C5 setLp
variable {G:IK}
theorem yq (x lo hi:Int):DCall prog G 211 (iv x :: [DC.ptr 0 0,DC.ptr 1 0].map .one) [.row [.im (rI lo)],.row [.im (rI hi)]] (λd o=>d=bv (decide (x<lo)||decide (hi<x))/\o=[.row [.im (rI lo)],.row [.im (rI hi)]]):=by
 refine g9 func211 rfl ntmps211 (by simp) rfl ?_;simp only[rI];have hs:=trivial;repeat' first|(with_reducible first|refine zz ?_|refine zr ?_|refine zE [0,1,2,4] ?_)|simp -dsimp[hs]|with_reducible refine j7 ?_ ?_<;>intro h<;>have h0:=h<;>(try simp only[i8] at h)<;>have h2:=h<;>(try simp at h2)<;>replace hs:=za h0 (za h (za h2 hs))|with_reducible refine And.intro ?_ ?_
 all_goals try clear hs
 all_goals simp[*]
theorem fV (lo hi:Int) (l:List Int) (hl:l.length<1000000):zP prog G 162 [iv lo,iv hi,A4 l] (bv (l.all λx=>decide (lo<=x)&&decide (x<=hi))):=by
 refine zf func162 ntmps162 ?_;try simp only[iv,iv,A4]
 have hc:=B5 (G:=G) l (λx=>decide (x<lo)||decide (hi<x)) 211 [.ptr 0 0,.ptr 1 0] [.row [.im (rI lo)],.row [.im (rI hi)]] (by simp) (λx _=>yq x lo hi) hl;simp only[rI] at hc;repeat' first|(with_reducible first|refine zz ?_|refine zx ?_|refine zE [0,1,2,3,4,6] ?_)|simp -dsimp|refine CallE.here hc ?_
 rw[Bool.eq_iff_iff];simp;exact exists_congr λx=>and_congr_right λ_=>by omega
theorem ve (x lo hi:Int):DCall prog G 247 (iv x :: [DC.ptr 0 0,DC.ptr 1 0].map .one) [.row [.im (rI lo)],.row [.im (rI hi)]] (λd o=>d=bv (decide (x<lo)||decide (hi<x))/\o=[.row [.im (rI lo)],.row [.im (rI hi)]]):=by
 refine g9 func247 rfl ntmps247 (by simp) rfl ?_;simp only[rI];have hs:=trivial;repeat' first|(with_reducible first|refine zz ?_|refine zr ?_|refine zE [0,1,2,4] ?_)|simp -dsimp[hs]|with_reducible refine j7 ?_ ?_<;>intro h<;>have h0:=h<;>(try simp only[i8] at h)<;>have h2:=h<;>(try simp at h2)<;>replace hs:=za h0 (za h (za h2 hs))|with_reducible refine And.intro ?_ ?_
 all_goals try clear hs
 all_goals simp[*]
theorem Y1 (lo hi:Int) (l:List Int) (hl:l.length<1000000):zP prog G 194 [iv lo,iv hi,A4 l] (bv (l.all λx=>decide (lo<=x)&&decide (x<=hi))):=by
 refine zf func194 ntmps194 ?_;try simp only[iv,iv,A4]
 have hc:=B5 (G:=G) l (λx=>decide (x<lo)||decide (hi<x)) 247 [.ptr 0 0,.ptr 1 0] [.row [.im (rI lo)],.row [.im (rI hi)]] (by simp) (λx _=>ve x lo hi) hl;simp only[rI] at hc;repeat' first|(with_reducible first|refine zz ?_|refine zx ?_|refine zE [0,1,2,3,4,6] ?_)|simp -dsimp|refine CallE.here hc ?_
 rw[Bool.eq_iff_iff];simp;exact exists_congr λx=>and_congr_right λ_=>by omega
theorem yp (x lo hi:Int):DCall prog G 324 (iv x :: [DC.ptr 0 0,DC.ptr 1 0].map .one) [.row [.im (rI lo)],.row [.im (rI hi)]] (λd o=>d=bv (decide (x<lo)||decide (hi<x))/\o=[.row [.im (rI lo)],.row [.im (rI hi)]]):=by
 refine g9 func324 rfl ntmps324 (by simp) rfl ?_;simp only[rI];have hs:=trivial;repeat' first|(with_reducible first|refine zz ?_|refine zr ?_|refine zE [0,1,2,4] ?_)|simp -dsimp[hs]|with_reducible refine j7 ?_ ?_<;>intro h<;>have h0:=h<;>(try simp only[i8] at h)<;>have h2:=h<;>(try simp at h2)<;>replace hs:=za h0 (za h (za h2 hs))|with_reducible refine And.intro ?_ ?_
 all_goals try clear hs
 all_goals simp[*]
theorem Bs (lo hi:Int) (l:List Int) (hl:l.length<1000000):zP prog G 323 [iv lo,iv hi,A4 l] (bv (l.all λx=>decide (lo<=x)&&decide (x<=hi))):=by
 refine zf func323 ntmps323 ?_;try simp only[iv,iv,A4]
 have hc:=B5 (G:=G) l (λx=>decide (x<lo)||decide (hi<x)) 324 [.ptr 0 0,.ptr 1 0] [.row [.im (rI lo)],.row [.im (rI hi)]] (by simp) (λx _=>yp x lo hi) hl;simp only[rI] at hc;repeat' first|(with_reducible first|refine zz ?_|refine zx ?_|refine zE [0,1,2,3,4,6] ?_)|simp -dsimp|refine CallE.here hc ?_
 rw[Bool.eq_iff_iff];simp;exact exists_congr λx=>and_congr_right λ_=>by omega
def P2 (d:Dim):Bool:=decide (0<=d.nominal)&&decide (d.nominal<=1000000000)&&(decide (0<=d.lower)&&decide (d.lower<=1000000000))&&(decide (0<=d.upper)&&decide (d.upper<=1000000000))&&decide (d.lower<=d.upper)
theorem oJ (d:Dim):zP prog G 321 [gk d] (iv (if P2 d then 0 else 10)):=by
 refine zf func321 ntmps321 ?_;try simp only[gk]
 have hc:=Bs (G:=G) 0 1000000000 [d.nominal,d.lower,d.upper] (by simp);have hs:=trivial;repeat' first|(with_reducible first|refine zz ?_|refine zr ?_|refine zE [0,1,2,18] ?_)|simp -dsimp[hs]|refine zt hc ?_ ?_ ?_;(focus simp;done);focus (simp;done)|refine j4 ?_ ?_<;>intro h<;>try exact h.elim|with_reducible refine j7 ?_ ?_<;>intro h<;>have h0:=h<;>(try simp only[i8] at h)<;>have h2:=h<;>(try simp at h2)<;>replace hs:=za h0 (za h (za h2 hs))
 all_goals try clear hs
 all_goals simp_all [P2]
 all_goals omega
def Dc (x:Issue):DV:=D3 x.drawing x.letter
attribute [simp] Dc
theorem oN (x:Issue):zP prog G 200 [Q3 x] (Dc x):=by
 refine zf func200 ntmps200 ?_;try simp only[Q3]
 repeat' first|(with_reducible first|refine zz ?_|refine zx ?_|refine zE [0,1,2] ?_)|simp -dsimp
theorem yZ (x:Issue) (hi:x.items.length<=16) (hd:x.dims.length<=8):zP prog G 153 [Q3 x] (Q3 x):=by
 refine zf func153 ntmps153 ?_;try simp only[Q3]
 have h1:=vP (G:=G) x.items (by omega);have h2:=vQ (G:=G) x.dims (by omega);repeat' first|(with_reducible first|refine zz ?_|refine zx ?_)|simp -dsimp|refine zq h1 ?_|refine zq h2 ?_|refine zM 1 12 7 [0,1,2] ?_|with_reducible refine zE [0,1,2] ?_
def CM (x:Issue):Bool:=(decide (1<=x.drawing)&&decide (x.drawing<=9999))&&(decide (1<=x.letter)&&decide (x.letter<=8))
theorem GE (x:Issue):zP prog G 315 [Q3 x] (bv (CM x)):=by
 refine zf func315 ntmps315 ?_;try simp only[Q3]
 have c1:=Y1 (G:=G) 1 9999 [x.drawing] (by simp);have c2:=Y1 (G:=G) 1 8 [x.letter] (by simp);have hs:=trivial;repeat' first|(with_reducible first|refine zz ?_|refine zr ?_|refine zE [0,1,2] ?_)|simp -dsimp[hs]|refine zt c1 ?_ ?_ ?_;(focus simp;done);focus (simp;done)|refine zt c2 ?_ ?_ ?_;(focus simp;done);focus (simp;done)|with_reducible refine j7 ?_ ?_<;>intro h<;>have h0:=h<;>(try simp only[i8] at h)<;>have h2:=h<;>(try simp at h2)<;>replace hs:=za h0 (za h (za h2 hs))
 all_goals try clear hs
 all_goals simp_all [CM]
 all_goals omega
def CL (x:Issue):Bool:=if x.kind=1 then (decide (1<=x.items.length)&&decide (x.items.length<=8))&&decide (x.dims.length=0) else (decide (2<=x.kind)&&decide (x.kind<=3))&&decide (x.dims.length<=4)&&decide (x.items.length=0)
theorem GD (x:Issue) (hk:0<=x.kind/\x.kind<=255):zP prog G 316 [Q3 x] (bv (CL x)):=by
 refine zf func316 ntmps316 ?_;try simp only[Q3]
 have c1:=Y1 (G:=G) 1 8 [(x.items.length:Int)] (by simp);have c2:=Y1 (G:=G) 2 3 [x.kind] (by simp);have hw:IntKind.i64.wrap x.kind=x.kind:=r9 (by omega) (by omega);have hs:=hw;repeat' first|(with_reducible first|refine zz ?_|refine zr ?_|refine zE [0,1,2,5] ?_)|simp -dsimp[hs]|refine zt c1 ?_ ?_ ?_;(focus simp;done);focus (simp;done)|refine zt c2 ?_ ?_ ?_;(focus simp;done);focus (simp;done)|refine j4 ?_ ?_<;>intro h<;>try exact h.elim|with_reducible refine j7 ?_ ?_<;>intro h<;>have h0:=h<;>(try simp only[i8] at h)<;>have h2:=h<;>(try simp at h2)<;>replace hs:=za h0 (za h (za h2 hs))
 all_goals try clear hs
 all_goals simp_all [CL]
 all_goals omega
theorem Eo (d:Dim):zP prog G 320 [gk d] (bv (!P2 d)):=by
 refine zf func320 ntmps320 ?_;try simp only[gk]
 have h1:=oJ (G:=G) d;cases hd:P2 d<;>simp only[hd] at h1
 ·repeat' first|(with_reducible first|refine zz ?_|refine zx ?_|refine zE [0,1,2] ?_)|simp -dsimp|refine zp h1 ?_
 ·repeat' first|(with_reducible first|refine zz ?_|refine zx ?_|refine zE [0,1,2] ?_)|simp -dsimp|refine zp h1 ?_
theorem GB (x:Issue) (hl:x.dims.length<1000000):zP prog G 318 [Q3 x] (bv (x.dims.all P2)):=by
 refine zf func318 ntmps318 ?_;try simp only[Q3]
 have c1:=λobjs=>DCall.fnArg2 (cs:=[]) (ii (G:=G) x.dims (λd=>!P2 d) 320 [] objs (by simp) (λd _=>Eo d objs) hl);repeat' first|(with_reducible first|refine zz ?_|refine zx ?_|refine zE [0,1,2] ?_)|simp -dsimp|refine zp c1 ?_
 rw[Bool.eq_iff_iff];simp
end Go.Proofs
namespace Go.Proofs
open Go Go.Ab Tryz
attribute [local simp] C5 setLp
variable {G:IK}
theorem fU (x:Int):zP prog G 215 [iv x] (bv false):=by
 refine zf func215 ntmps215 ?_;try simp only[iv]
 repeat' first|(with_reducible first|refine zz ?_|refine zx ?_|refine zE [0,2] ?_)|simp -dsimp
theorem pr (x:Int):zP prog G 166 [iv x] (bv false):=by
 refine zf func166 ntmps166 ?_;try simp only[iv]
 repeat' first|(with_reducible first|refine zz ?_|refine zx ?_|refine zE [0,2] ?_)|simp -dsimp
theorem DF (x y:Int):zP prog G 165 [iv x,iv y] (bv (decide (x<y))):=by
 refine zf func165 ntmps165 ?_;try simp only[iv,iv]
 have c1:=fU (G:=G) x;have c2:=fU (G:=G) y;repeat' first|(with_reducible first|refine zz ?_|refine zx ?_|refine zE [0,1,4] ?_)|simp -dsimp|refine zp c1 ?_
 all_goals simp_all
def dY (x y:Int):Int:=if x<y then -1 else if y<x then 1 else 0
theorem ij (x y:Int):zP prog G 252 [iv x,iv y] (iv (dY x y)):=by
 refine zf func252 ntmps252 ?_;try simp only[iv,iv]
 have c1:=fU (G:=G) x;have c2:=fU (G:=G) y;repeat' first|(with_reducible first|refine zz ?_|refine zx ?_|refine zE [0,1,4,5,6,11,12,13,16,19] ?_)|simp -dsimp|refine zp c1 ?_|refine zp c2 ?_|refine j4 ?_ ?_<;>intro h<;>try exact h.elim
 all_goals simp_all [dY]
 all_goals omega
theorem kK (x:Issue) (n:Int):zP prog G 251 [Q3 x,iv n] (iv (dY x.drawing n)):=by
 refine zf func251 ntmps251 ?_;try simp only[Q3,iv]
 have c1:=ij (G:=G) x.drawing n;repeat' first|(with_reducible first|refine zz ?_|refine zx ?_|refine zE [0,1,2,4] ?_)|simp -dsimp|refine zp c1 ?_
end Go.Proofs
namespace Go.Proofs
open Go Go.Ab Tryz
attribute [local simp] C5 setLp
variable {G:IK}
def S4 (d:Int):Int->List Itm->Bool
 | _,[]=>true
 | prev,y :: r=>(decide (1<=y.drawing)&&decide (y.drawing<=9999))&&(decide (1<=y.count)&&decide (y.count<=20)) && !decide (y.drawing=d)&&decide (prev<y.drawing)&&S4 d y.drawing r
def pv (l:List Itm):Nat->Int
 | 0=>0
 | k+1=>((l[k]?).map (·.drawing)).getD 0
@[simp] abbrev LC:List Nat:=[0,1,2,3,4,6,7,8,9,47]
theorem GC (x:Issue) (hl:x.items.length<1000000):zP prog G 317 [Q3 x] (bv (S4 x.drawing 0 x.items)):=by
 refine zf func317 ntmps317 ?_;try simp only[Q3]
 have hs:=trivial;repeat' first|(with_reducible first|refine zz ?_|refine zE LC ?_)|simp -dsimp[hs]
 refine i7 (ι:={ k:Nat // k<=x.items.length/\S4 x.drawing 0 x.items=S4 x.drawing (pv x.items k) (x.items.drop k) }) (λp=>⟨49,[(1,.one (.ptr 0 0)),(6,.one (.im (.sl (x.items.map v6)))),(7,iv (x.items.length:Int)),(8,iv (p.1:Int))],[.row ((h9 x).map .im)]⟩) (λp=>x.items.length-p.1) ⟨0,by simp[pv]⟩ (zv [1,6,7,8]) ?_;rintro⟨k,hk,hno⟩;simp only[iv,h9,rI,List.map_cons,List.map_nil];by_cases hlt:k<x.items.length
 ·have hx:x.items[k]?=some x.items[k]:=by simp[hlt]
  have hw:=zk k;have hw2:IntKind.i64.wrap ((k:Int)-1)=(k:Int)-1:=r9 (by omega) (by omega);have c1:=Y1 (G:=G) 1 9999 [x.items[k].drawing] (by simp);have c2:=Y1 (G:=G) 1 20 [x.items[k].count] (by simp);have hcons:S4 x.drawing 0 x.items=((decide (1<=x.items[k].drawing)&&decide (x.items[k].drawing<=9999))&&(decide (1<=x.items[k].count)&&decide (x.items[k].count<=20)) && !decide (x.items[k].drawing=x.drawing)&&decide (pv x.items k<x.items[k].drawing)&&S4 x.drawing x.items[k].drawing (x.items.drop (k+1))):=by
   rw[hno,List.drop_eq_getElem_cons hlt,S4]
  have hpv1:pv x.items (k+1)=x.items[k].drawing:=by simp[pv,hx]
  by_cases hk0:0<k
  ·have hkx:x.items[k-1]?=some x.items[k-1]:=by simp
   have hcast:(k:Int)-1=((k-1:Nat):Int):=by omega
   have hw3:IntKind.i64.wrap ((k:Int)-1)=((k-1:Nat):Int):=by rw[hw2,hcast]
   have hpv0:pv x.items k=x.items[k-1].drawing:=by
    obtain⟨j,rfl⟩:∃ j,k=j+1:=⟨k-1,by omega⟩
    have:x.items[j]?=some x.items[j]:=by simp
    simp[pv,this]
   rw[hpv0] at hcons;have hs:=za hx (za hw (za hw3 (za hkx hk0)));repeat' first|(with_reducible first|refine zz ?_|refine zr ?_)|simp -dsimp[hs]|refine zq c1 ?_|refine zq c2 ?_|refine zM 4 49 35 LC ?_|with_reducible refine zE LC ?_|refine j4 ?_ ?_<;>intro h<;>try exact h.elim|with_reducible refine j7 ?_ ?_<;>intro h<;>have h0:=h<;>(try simp only[i8] at h)<;>have h2:=h<;>(try simp at h2)<;>replace hs:=za h0 (za h (za h2 hs))
   all_goals try clear hs
   all_goals try omega
   all_goals first
    | (refine zn ⟨k+1,by omega,by clear hno;rw[hcons,hpv1];clear hcons;simp_all;try omega⟩ (zw [1,6,7,8] 1))
    | (clear hno;rw[hcons];clear hcons;simp_all;try omega)
  ·have hpv0:pv x.items k=0:=by
    obtain rfl:k=0:=by omega
    rfl
   rw[hpv0] at hcons;have hs:=za hx (za hw hk0);repeat' first|(with_reducible first|refine zz ?_|refine zr ?_)|simp -dsimp[hs]|refine zq c1 ?_|refine zq c2 ?_|refine zM 4 49 35 LC ?_|with_reducible refine zE LC ?_|refine j4 ?_ ?_<;>intro h<;>try exact h.elim|with_reducible refine j7 ?_ ?_<;>intro h<;>have h0:=h<;>(try simp only[i8] at h)<;>have h2:=h<;>(try simp at h2)<;>replace hs:=za h0 (za h (za h2 hs))
   all_goals try clear hs
   all_goals try omega
   all_goals first
    | (refine zn ⟨k+1,by omega,by clear hno;rw[hcons,hpv1];clear hcons;simp_all;try omega⟩ (zw [1,6,7,8] 1))
    | (clear hno;rw[hcons];clear hcons;simp_all;try omega)
 ·have hs:=trivial;repeat' first|(with_reducible first|refine zz ?_|refine zr ?_|refine zE LC ?_)|simp -dsimp[hs]|refine j4 ?_ ?_<;>intro h<;>try exact h.elim
  all_goals try omega
  rw[hno,List.drop_eq_nil_of_le (by omega)];rfl
end Go.Proofs
namespace Go.Proofs
open Go Go.Ab Tryz
attribute [local simp] C5 setLp
variable {G:IK}
def lb (l:List Int) (x:Int):Nat:=(l.filter λy=>decide (y<x)).length
theorem pn (l:List Int) (x:Int):lb l x<=l.length:=List.length_filter_le _ _
theorem bA:∀ {l:List Int} {x:Int},l.Pairwise (·<=·)->∀ (i:Nat) (y:Int),l[i]?=some y->(y<x↔i<lb l x)
 | [],x,_,i,y,h=>by simp at h
 | a :: l,x,hs,i,y,h=>by
   simp only[List.pairwise_cons] at hs;by_cases ha:a<x
   ·have e:lb (a :: l) x=lb l x+1:=by simp[lb,ha]
    rw[e];cases i with
    | zero=>simp at h;subst h;simp[ha]
    | succ i =>
      have:=bA (x:=x) hs.2 i y (by simpa using h);omega
   ·have hall:∀ z∈l,¬ z<x:=λz hz=>by have:=hs.1 z hz;omega
    have e:lb (a :: l) x=0:=by
     have hf:l.filter (λy=>decide (y<x))=[]:=by
      rw[List.filter_eq_nil_iff];intro z hz;simpa using hall z hz
     simp[lb,ha,hf]
    rw[e];cases i with
    | zero=>simp at h;subst h;simp[ha]
    | succ i =>
      have:=hall y (List.mem_of_getElem? (by simpa using h));omega
theorem ru {l:List Int} {x:Int} (hs:l.Pairwise (·<=·)):x∈l↔l[lb l x]?=some x:=by
 constructor
 ·intro h;obtain⟨i,hi⟩:=List.mem_iff_getElem?.1 h;have h1:=bA (x:=x) hs i x hi;have h2:lb l x<=i:=by omega
  have hlt:=e7 hi;have h3:l[lb l x]?=some l[lb l x]:=by simp
  have h4:=bA (x:=x) hs _ _ h3;have h5:l[lb l x]<=x:=by
   by_cases e:lb l x=i
   ·have:l[lb l x]?=some x:=by rw[e];exact hi
    rw[h3] at this;simp at this;omega
   ·have:=(List.pairwise_iff_getElem.1 hs) (lb l x) i (by omega) hlt (by omega);have h6:=(List.getElem?_eq_some_iff.1 hi).2;omega
  rw[h3]
  congr 1
  omega
 ·exact λh=>List.mem_of_getElem? h
theorem uB:(2:Int) ^ min 1 IntKind.u64.bits=2:=rfl
attribute [simp] uB
theorem EX {n:Int} (h1:0<=n) (h2:n<=18446744073709551615):IntKind.u64.wrap n=n:=IntWalk.u64_in n ⟨h1,h2⟩
@[simp] abbrev LM:List Nat:=[0,1,4,5,6,7,8,9,15,27]
theorem mM (l:List Int) (x:Int) (hs:l.Pairwise (·<=·)) (hl:l.length<1000000):zP prog G 105 [A4 l,iv x] (.tup [iv (lb l x),bv (decide (x∈l))]):=by
 refine zf func105 ntmps105 ?_;try simp only[A4,iv]
 have hlb:=pn l x;have hs:=trivial;repeat' first|(with_reducible first|refine zz ?_|refine zE LM ?_)|simp -dsimp[hs]
 all_goals try clear hs
 refine i7 (ι:={ p:Nat×Nat // p.1<=lb l x/\lb l x<=p.2/\p.2<=l.length }) (λp=>⟨54,[(0,A4 l),(1,iv x),(6,iv (l.length:Int)),(7,iv (p.1.1:Int)),(8,iv (p.1.2:Int))],[]⟩) (λp=>p.1.2-p.1.1) ⟨(0,l.length),by simp;omega⟩ (zv [0,1,6,7,8]) ?_;rintro⟨⟨i,j⟩,h1,h2,h3⟩;simp only at h1 h2 h3;simp only[iv,A4];have hw1:IntKind.i64.wrap ((i:Int)+(j:Int))=(i:Int)+(j:Int):=r9 (by omega) (by omega);have hw2:IntKind.u64.wrap ((i:Int)+(j:Int))=(i:Int)+(j:Int):=EX (by omega) (by omega);have hd:((i:Int)+(j:Int)).fdiv 2=(((i+j) / 2:Nat):Int):=by
  rw[Int.fdiv_eq_ediv_of_nonneg _ (by omega)];omega
 have hw3:IntKind.i64.wrap ((((i+j) / 2:Nat):Int))=(((i+j) / 2:Nat):Int):=r9 (by omega) (by omega);have hw4:IntKind.i64.wrap ((((i+j) / 2:Nat):Int)+1)=(((i+j) / 2+1:Nat):Int):=r9 (by omega) (by omega);by_cases hlt:i<j
 ·generalize hm:(i+j) / 2=m at hd hw3 hw4;have hx:l[m]?=some l[m]:=by simp
  have hsp:=bA (x:=x) hs m l[m] hx;have c1:=DF (G:=G) l[m] x;by_cases hc:l[m]<x
  ·simp only[hc,decide_true] at c1;have hs:=za hx (za hw1 (za hw2 (za hw3 (za hw4 (za hd hm)))));repeat' first|(with_reducible first|refine zz ?_|refine zr ?_|refine zE LM ?_)|simp -dsimp[hs]|refine zp c1 ?_|refine j4 ?_ ?_<;>intro h<;>try exact h.elim|with_reducible refine j7 ?_ ?_<;>intro h<;>have h0:=h<;>(try simp only[i8] at h)<;>have h2:=h<;>(try simp at h2)<;>replace hs:=za h0 (za h (za h2 hs))
   all_goals try clear hs
   all_goals try omega
   exact zn ⟨(m+1,j),by simp;omega⟩ (zv [0,1,6,7,8])
  ·simp only[hc,decide_false] at c1;have hs:=za hx (za hw1 (za hw2 (za hw3 (za hw4 (za hd hm)))));repeat' first|(with_reducible first|refine zz ?_|refine zr ?_|refine zE LM ?_)|simp -dsimp[hs]|refine zp c1 ?_|refine j4 ?_ ?_<;>intro h<;>try exact h.elim|with_reducible refine j7 ?_ ?_<;>intro h<;>have h0:=h<;>(try simp only[i8] at h)<;>have h2:=h<;>(try simp at h2)<;>replace hs:=za h0 (za h (za h2 hs))
   all_goals try clear hs
   all_goals try omega
   exact zn ⟨(i,m),by simp;omega⟩ (zv [0,1,6,7,8])
 ·have hi:i=lb l x:=by omega
  subst hi;have c2:=pr (G:=G) x;have hmem:=ru (x:=x) hs;by_cases hn:lb l x<l.length
  ·have hx:l[lb l x]?=some l[lb l x]:=by simp[hn]
   have c1:=pr (G:=G) l[lb l x];rw[hx] at hmem;have hs:=za hx (za hlt hn);repeat' first|(with_reducible first|refine zz ?_|refine zr ?_|refine zE LM ?_)|simp -dsimp[hs]|refine zp c1 ?_|refine j4 ?_ ?_<;>intro h<;>try exact h.elim|with_reducible refine j7 ?_ ?_<;>intro h<;>have h0:=h<;>(try simp only[i8] at h)<;>have h2:=h<;>(try simp at h2)<;>replace hs:=za h0 (za h (za h2 hs))
   all_goals try clear hs
   all_goals try omega
   all_goals simp_all
  ·rw[List.getElem?_eq_none (by omega)] at hmem;have hs:=za hlt hn;repeat' first|(with_reducible first|refine zz ?_|refine zr ?_|refine zE LM ?_)|simp -dsimp[hs]|refine j4 ?_ ?_<;>intro h<;>try exact h.elim
   all_goals try clear hs
   all_goals try omega
   all_goals simp_all
end Go.Proofs
namespace Go.Proofs
open Go Go.Ab Tryz
attribute [local simp] C5 setLp
variable {G:IK}
@[simp] abbrev LN:List Nat:=[0,1,2,6,7,8,9,10,11,17,31]
theorem fe (l:List Issue) (x:Int) (hs:(l.map (·.drawing)).Pairwise (·<=·)) (hl:l.length<1000000):zP prog G 250 [.one (.im (.sl (l.map h9))),iv x,.one (.im (.fn (.func 251) []))] (.tup [iv (lb (l.map (·.drawing)) x),bv (decide (x∈l.map (·.drawing)))]):=by
 refine zf func250 ntmps250 ?_;try simp only[iv]
 have hlb:=pn (l.map (·.drawing)) x;simp only[List.length_map] at hlb;have hs:=trivial;repeat' first|(with_reducible first|refine zz ?_|refine zE LN ?_)|simp -dsimp[hs]
 all_goals try clear hs
 refine i7 (ι:={ p:Nat×Nat // p.1<=lb (l.map (·.drawing)) x/\lb (l.map (·.drawing)) x<=p.2/\p.2<=l.length }) (λp=>⟨49,[(0,.one (.im (.sl (l.map h9)))),(1,iv x),(2,.one (.im (.fn (.func 251) []))),(8,iv (l.length:Int)),(9,iv (p.1.1:Int)),(10,iv (p.1.2:Int))],[]⟩) (λp=>p.1.2-p.1.1) ⟨(0,l.length),by simp;omega⟩ (zv [0,1,2,8,9,10]) ?_;rintro⟨⟨i,j⟩,h1,h2,h3⟩;simp only at h1 h2 h3;simp only[iv,A4];have hw1:IntKind.i64.wrap ((i:Int)+(j:Int))=(i:Int)+(j:Int):=r9 (by omega) (by omega);have hw2:IntKind.u64.wrap ((i:Int)+(j:Int))=(i:Int)+(j:Int):=EX (by omega) (by omega);have hd:((i:Int)+(j:Int)).fdiv 2=(((i+j) / 2:Nat):Int):=by
  rw[Int.fdiv_eq_ediv_of_nonneg _ (by omega)];omega
 have hw3:IntKind.i64.wrap ((((i+j) / 2:Nat):Int))=(((i+j) / 2:Nat):Int):=r9 (by omega) (by omega);have hw4:IntKind.i64.wrap ((((i+j) / 2:Nat):Int)+1)=(((i+j) / 2+1:Nat):Int):=r9 (by omega) (by omega);by_cases hlt:i<j
 ·generalize hm:(i+j) / 2=m at hd hw3 hw4;have hx:l[m]?=some l[m]:=by simp
  have hsp:=bA (x:=x) hs m l[m].drawing (by simp[hx]);have c1:=kK (G:=G) l[m] x;by_cases hc:l[m].drawing<x
  ·have hcm:dY l[m].drawing x=-1:=by simp[dY,hc]
   rw[hcm] at c1;have hs:=za hx (za hw1 (za hw2 (za hw3 (za hw4 (za hd hm)))));repeat' first|(with_reducible first|refine zz ?_|refine zr ?_|refine zE LN ?_)|simp -dsimp[hs]|refine zp c1 ?_|refine j4 ?_ ?_<;>intro h<;>try exact h.elim|with_reducible refine j7 ?_ ?_<;>intro h<;>have h0:=h<;>(try simp only[i8] at h)<;>have h2:=h<;>(try simp at h2)<;>replace hs:=za h0 (za h (za h2 hs))
   all_goals try clear hs
   all_goals try omega
   exact zn ⟨(m+1,j),by simp;omega⟩ (zv [0,1,2,8,9,10])
  ·have hcm:¬ dY l[m].drawing x<0:=by simp only[dY,hc,if_false];split<;>omega
   generalize dY l[m].drawing x=q at c1 hcm;have hs:=za hx (za hw1 (za hw2 (za hw3 (za hw4 (za hd hm)))));repeat' first|(with_reducible first|refine zz ?_|refine zr ?_|refine zE LN ?_)|simp -dsimp[hs]|refine zp c1 ?_|refine j4 ?_ ?_<;>intro h<;>try exact h.elim|with_reducible refine j7 ?_ ?_<;>intro h<;>have h0:=h<;>(try simp only[i8] at h)<;>have h2:=h<;>(try simp at h2)<;>replace hs:=za h0 (za h (za h2 hs))
   all_goals try clear hs
   all_goals try omega
   exact zn ⟨(i,m),by simp;omega⟩ (zv [0,1,2,8,9,10])
 ·have hi:i=lb (l.map (·.drawing)) x:=by omega
  subst hi;have hmem:=ru (x:=x) hs;by_cases hn:lb (l.map (·.drawing)) x<l.length
  ·have hx:l[lb (l.map (·.drawing)) x]?=some l[lb (l.map (·.drawing)) x]:=by simp[hn]
   have c1:=kK (G:=G) l[lb (l.map (·.drawing)) x] x;have hq:decide (dY l[lb (l.map (·.drawing)) x].drawing x=0)=decide (x∈l.map (·.drawing)):=by
    rw[decide_eq_decide,hmem,List.getElem?_map,hx];simp only[dY,Option.map_some,Option.some.injEq];split<;>(try split)<;>omega
   generalize dY l[lb (l.map (·.drawing)) x].drawing x=q at c1 hq;have hs:=za hx (za hlt hn);repeat' first|(with_reducible first|refine zz ?_|refine zr ?_|refine zE LN ?_)|simp -dsimp[hs]|refine zp c1 ?_|refine j4 ?_ ?_<;>intro h<;>try exact h.elim
   all_goals try clear hs
   all_goals try omega
   all_goals simp_all
  ·rw[List.getElem?_eq_none (by simp;omega)] at hmem;have hs:=za hlt hn;repeat' first|(with_reducible first|refine zz ?_|refine zr ?_|refine zE LN ?_)|simp -dsimp[hs]|refine j4 ?_ ?_<;>intro h<;>try exact h.elim
   all_goals try clear hs
   all_goals try omega
   all_goals simp_all
def s9 (l:List Issue) (ds:List Int):IC:=.ip [.sl (l.map h9),.sl (ds.map encI)]
theorem yw (l:List Issue) (ds:List Int) (n:Int) (hs:ds.Pairwise (·<=·)) (hl:ds.length<1000000):zP prog G 197 [.one (.im (s9 l ds)),iv n] (bv (decide (n∈ds))):=by
 refine zf func197 ntmps197 ?_;try simp only[iv]
 have c1:=mM (G:=G) ds n hs hl;simp only[s9];have hs:=trivial;repeat' first|(with_reducible first|refine zz ?_|refine zr ?_|refine zE [0,1,4,6] ?_)|simp -dsimp[hs]|refine zp c1 ?_
 all_goals try clear hs
theorem ky (b:IC) (n:Int):zP prog G 199 [.one (.im b),iv n] (.one (.im (.fn (.func 249) [.ip [b],.ip [rI n]]))):=by
 refine zf func199 ntmps199 ?_;try simp only[iv]
 repeat' first|(with_reducible first|refine zz ?_|refine zx ?_|refine zE [0,1,2,3,4] ?_)|simp -dsimp
end Go.Proofs
namespace Go.Ab
open Go
@[simp] theorem CJ {α:Type} (objs:List DObj) (l:List α) (f:α->List IC) (k sz:Nat) (h:k<=l.length) (hf:∀ x,(f x).length=sz) :
 C5 objs (.im (.sl (l.map f))) (k:Int) none sz=some (.im (.sl ((l.drop k).map f))):=by
 simp only[C5,Option.getD_none,List.length_map,Int.toNat_natCast,Int.natCast_eq_zero];rw[if_pos (by omega)];split
 ·rename_i hk;subst hk;simp[List.take_of_length_le]
 ·by_cases hk:k<l.length
  ·simp[hk,hf,List.take_of_length_le,List.map_drop]
  ·have he:k=l.length:=by omega
   subst he;simp
@[simp] theorem CI {α:Type} (objs:List DObj) (l:List α) (f:α->List IC) (k sz:Nat) (h:k<=l.length) :
 C5 objs (.im (.sl (l.map f))) 0 (some (k:Int)) sz=some (.im (.sl ((l.take k).map f))):=by
 simp only[C5,Option.getD_some,List.length_map,Int.toNat_natCast];rw[if_pos (by omega),if_pos trivial,List.map_take]
theorem se (objs:List DObj) (o g off len:Nat) (lo:Int) (hi:Option Int) (sz:Nat):C5 objs (.vec o g off len) lo hi sz=if 0<=lo/\lo<=hi.getD len/\hi.getD len<=len then match objs[o]? with
 | some (.vec z _ g' _)=>if g=g'/\(z=sz\/len=0) then some (.vec o g (off+lo.toNat) ((hi.getD len).toNat-lo.toNat)) else none
 | _=>none
 else none:=rfl
attribute [simp] se
def LoopD.at (r:LoopD) (st:LoopState) (pend:Option Code):LoopD:={ r with st:=st,pend:=pend }
theorem LoopD.at_st (r:LoopD) (st:LoopState) (pend:Option Code):(r.at st pend).st=st:=rfl
theorem LoopD.at_pend (r:LoopD) (st:LoopState) (pend:Option Code):(r.at st pend).pend=pend:=rfl
theorem LoopD.at_nt (r:LoopD) (st:LoopState) (pend:Option Code):(r.at st pend).nt=r.nt:=rfl
theorem LoopD.at_tm (r:LoopD) (st:LoopState) (pend:Option Code):(r.at st pend).tm=r.tm:=rfl
theorem LoopD.at_ps (r:LoopD) (st:LoopState) (pend:Option Code):(r.at st pend).ps=r.ps:=rfl
theorem LoopD.at_asg (r:LoopD) (st:LoopState) (pend:Option Code):(r.at st pend).asg=r.asg:=rfl
theorem LoopD.at_body (r:LoopD) (st:LoopState) (pend:Option Code):(r.at st pend).body=r.body:=rfl
theorem LoopD.at_at (r:LoopD) (st st':LoopState) (pend pend':Option Code):(r.at st pend).at st' pend'=r.at st' pend':=rfl
attribute [simp] LoopD.at_st LoopD.at_pend LoopD.at_nt LoopD.at_tm LoopD.at_ps LoopD.at_asg LoopD.at_body LoopD.at_at
theorem xg (objs:List DObj) (o:Nat) (st:LoopState) (pend:Option Code):setLp objs o st pend=match objs[o]? with
 | some (.loop r)=>objs.set o (.loop (r.at st pend))
 | _=>objs:=rfl
attribute [simp] xg
theorem N8 {P:Program} {G:IK} {o:Nat} {xs:List DV} {objs:List DObj} {C:DV->List DObj->Prop} {t:Tok C} (h:P8 P G o xs objs C objs[o]?):lc P G o xs objs C t:=h
theorem am {P:Program} {G:IK} {o m:Nat} {body:Code} {C:DV->List DObj->Prop} {A:DS->Prop} {Q:Exit->DS->Prop} {t:Tok (V8 (λS'=>A S'/\EF P G o m body C S') Q)} {S:DS} (h1:A S)
 (h2:DT P G ⟨m,some o⟩ body { S with objs:=setLp S.objs o .busy none } (og o C)):At (V8 (λS'=>A S'/\EF P G o m body C S') Q) .normal t S:=⟨h1,h2⟩
end Go.Ab
namespace Go.Proofs
open Go Go.Ab Tryz
variable {G:IK}
theorem qT {l:List Issue} {d:Int} (hs:(l.map (·.drawing)).Pairwise (·<=·)):∀ x∈l.drop (lb (l.map (·.drawing)) d),d<=x.drawing:=by
 intro x hx;obtain⟨i,hi⟩:=List.mem_iff_getElem?.1 hx;rw[List.getElem?_drop] at hi;have:=bA (x:=d) hs _ x.drawing (by rw[List.getElem?_map,hi];rfl);omega
theorem qS {l:List Issue} {d:Int} (hs:(l.map (·.drawing)).Pairwise (·<=·)):∀ x∈l.take (lb (l.map (·.drawing)) d),x.drawing<d:=by
 intro x hx;obtain⟨i,hi⟩:=List.mem_iff_getElem?.1 hx;have hlt:i<lb (l.map (·.drawing)) d:=by
  have:=(List.getElem?_eq_some_iff.1 hi).1;simp at this;omega
 rw[List.getElem?_take_of_lt hlt] at hi;exact(bA (x:=d) hs i x.drawing (by rw[List.getElem?_map,hi];rfl)).2 hlt
theorem xi {l:List Issue} {d:Int} (lt:Int) (hs:(l.map (·.drawing)).Pairwise (·<=·)):B6 l d lt=B6 (l.drop (lb (l.map (·.drawing)) d)) d lt:=by
 conv=>lhs;rw[<- List.take_append_drop (lb (l.map (·.drawing)) d) l]
 simp only[B6,List.find?_append];rw[List.find?_eq_none.2 λx hx=>?_]
 ·rfl
 ·have:=qS hs x hx;simp;omega
@[simp] abbrev LY:List Nat:=[0,1,2,3,4,5,6,7,10,11,15,24,25,26,27,39]
theorem tS (l:List Issue) (ds:List Int) (d lt:Int) (hs:(l.map (·.drawing)).Pairwise (·<=·)) (hl:l.length<1000000):zP prog G 152 [.one (.im (s9 l ds)),D3 d lt] (.tup [Q3 ((B6 l d lt).getD an),bv (B6 l d lt).isSome]):=by
 refine zf func152 ntmps152 ?_;try simp only[D3]
 simp only[D3,s9];have c1:=ky (G:=G) (s9 l ds) d;simp only[s9] at c1;have hs:=trivial;repeat' first|(with_reducible first|refine zz ?_|refine zE [0,1,3,4,5,6,10,11,15] ?_)|simp -dsimp[hs]|refine zp c1 ?_
 all_goals try clear hs
 refine P9 (f:=249) (by simp;exact rfl) (by rfl) call249 ?_;generalize hR:LoopD.mk _ _ _ _ _ _ _=R;have hR1:R.st=.ready:=by rw[<- hR]
 have hR2:R.pend=none:=by rw[<- hR]
 have hR3:R.at .ready none=R:=by rw[<- hR];rfl
 have hR4:=(congrArg LoopD.nt hR).symm;have hR5:=(congrArg LoopD.tm hR).symm;have hR6:=(congrArg LoopD.ps hR).symm;have hR7:=(congrArg LoopD.asg hR).symm;have hR8:=(congrArg LoopD.body hR).symm;dsimp only at hR4 hR5 hR6 hR7 hR8;clear hR;refine g9 func249 rfl ntmps249 (by simp) rfl ?_;have hR9:∀ objs:List DObj,(R.tm.map λx=>(x.1,eU 6 objs x.2))=R.tm:=by intro objs;rw[hR5];simp
 have hlb:=pn (l.map (·.drawing)) d;rw[List.length_map] at hlb;have c2:=fe (G:=G) l d hs hl;have hs:=za hR1 (za hR2 (za hR3 hlb));repeat' first|with_reducible refine zz ?_|simp -dsimp[hs]|refine zq c2 ?_|refine zM 0 41 12 [0,1,2,4,7,24,25,26,27,39] ?_|with_reducible refine zE LY ?_
 all_goals try clear hs
 rw[<- List.map_drop];have hge:=qT (d:=d) hs;have hfs:=xi (d:=d) lt hs;have hss:((l.drop (lb (l.map (·.drawing)) d)).map (·.drawing)).Pairwise (·<=·):=by rw[List.map_drop];exact hs.drop
 have hsl:l.length-lb (l.map (·.drawing)) d=(l.drop (lb (l.map (·.drawing)) d)).length:=by simp
 rw[hsl];have hsl2:(l.drop (lb (l.map (·.drawing)) d)).length<1000000:=by simp;omega
 generalize l.drop (lb (l.map (·.drawing)) d)=s at hge hfs hss hsl2 ⊢;refine i7 (ι:={ k:Nat // k<=s.length/\B6 l d lt=B6 (s.drop k) d lt }) (λp=>⟨41,[(0,.one (.yld 5)),(2,.one (.im (.ip [rI d]))),(24,.one (.im (.sl (s.map h9)))),(25,iv (s.length:Int)),(26,iv (p.1:Int))],[.row [.im (rI d),.im (rI lt)],.vec 0 [] 0 true,.vec 0 [] 0 true,.row ((rI 0 :: rI 0 :: [IC.raw (.int .u8 0)]).map .im++[.vec 1 0 0 0,.vec 2 0 0 0]),.row [.im (rB false)],.loop R]⟩) (λp=>s.length-p.1) ⟨0,by simp[hfs]⟩ (zv [0,2,24,25,26]) ?_;rintro⟨k,hk,hno⟩;simp only[iv];by_cases hlt:k<s.length
 ·have hx:s[k]?=some s[k]:=by simp[hlt]
  have hw:=zk k;have hcons:B6 l d lt=if (s[k].drawing==d&&s[k].letter==lt)=true then some s[k] else B6 (s.drop (k+1)) d lt:=by
   rw[hno,List.drop_eq_getElem_cons hlt];simp only[B6,List.find?_cons];split<;>simp_all
  by_cases hd:s[k].drawing=d
  ·have c3:=oN (G:=G) s[k];simp only[Dc,Q3,h9,rI,List.map_cons,List.map_nil,hd] at c3;have hs:=za hR1 (za hR2 (za hR3 (za hx (za hw (za hd hlt)))));repeat' first|(with_reducible first|refine zz ?_|refine zr ?_ (by simp -dsimp[B1,hs];exact rfl))|simp -dsimp[B1,hs]|with_reducible refine At.yield_end ?_;simp -dsimp[hs]|with_reducible refine At.yield_ret ?_;simp -dsimp[hs]|refine am ?_ ?_<;>simp -dsimp[hs]|refine N8 ?_;simp -dsimp[P8,hR4,hR5,hR6,hR7,hR8,hs]|with_reducible show B1 _ _ _ _ _ _ _ _;simp -dsimp[B1,hs]|refine zq c3 ?_|refine zM 3 18 4 [0,1,3,4,5,6,10,11,15] ?_|with_reducible refine zE LY ?_|refine j4 ?_ ?_<;>intro h<;>try exact h.elim
   all_goals try clear hs
   ·have h:s[k].letter=lt:=by assumption
    have hf:B6 l d lt=some s[k]:=by rw[hcons,if_pos (by simp[hd,h])]
    simp[hf,hd]
   ·have h:¬ s[k].letter=lt:=by assumption
    have hf:B6 l d lt=B6 (s.drop (k+1)) d lt:=by rw[hcons,if_neg (by simp[hd,h])]
    exact zn ⟨k+1,by omega,hf⟩ (zw [0,2,24,25,26] 6 (by simp[hR9]))
  ·have hnone:B6 l d lt=none:=by
    rw[hno,B6,List.find?_eq_none];intro x hxm;obtain⟨i,hi⟩:=List.mem_iff_getElem?.1 hxm;rw[List.getElem?_drop] at hi;have h1:s[k].drawing<=x.drawing:=by
     rcases Nat.eq_zero_or_pos i with rfl|hp
     ·rw[Nat.add_zero,hx] at hi;cases hi;exact Int.le_refl _
     ·have hlt2:=(List.getElem?_eq_some_iff.1 hi).1;have:=(List.pairwise_iff_getElem.1 hss) k (k+i) (by simpa using hlt) (by simpa using hlt2) (by omega);have h6:=(List.getElem?_eq_some_iff.1 hi).2;simp at this;rw[h6] at this;exact this
    have h2:=hge s[k] (List.getElem_mem hlt);simp;omega
   have hs:=za hR1 (za hR2 (za hR3 (za hx (za hw (za hd hlt)))));repeat' first|(with_reducible first|refine zz ?_|refine zr ?_ (by simp -dsimp[B1,hs];exact rfl)|refine zE LY ?_)|simp -dsimp[B1,hs]|with_reducible show B1 _ _ _ _ _ _ _ _;simp -dsimp[B1,hs]|refine j4 ?_ ?_<;>intro h<;>try exact h.elim
   all_goals try clear hs
   all_goals simp[hnone,an]
 ·have hnone:B6 l d lt=none:=by rw[hno,List.drop_eq_nil_of_le (by omega)];rfl
  have hs:=za hR1 (za hR2 (za hR3 hlt));repeat' first|(with_reducible first|refine zz ?_|refine zr ?_ (by simp -dsimp[B1,hs];exact rfl)|refine ze ?_ (by simp -dsimp[B1,hs];exact rfl)|refine zE LY ?_)|simp -dsimp[B1,hs]|with_reducible show B1 _ _ _ _ _ _ _ _;simp -dsimp[B1,hs]|refine j4 ?_ ?_<;>intro h<;>try exact h.elim
  all_goals try clear hs
  all_goals simp[hnone,an]
end Go.Proofs
namespace Go.Ab
open Go
def kI (n:Int):List Value:=[.int .i64 n]
def l7 (m:List (Int×Int)) (n:Int):Int:=match m with
 | []=>0
 | p :: r=>if p.1=n then p.2 else l7 r n
def J7 (n v:Int):List (Int×Int)->List (Int×Int)
 | []=>[(n,v)]
 | p :: r=>if p.1=n then (n,v) :: r else p :: J7 n v r
def J8 (m:List (Int×Int)):List (List Value×List DC):=m.map λp=>(kI p.1,[.im (rI p.2)])
def Y3 (m:List (Int×Int)):List (List Value×List IC):=m.map λp=>(kI p.1,[rI p.2])
def G5 (l:List Int):List (List Value×List DC):=l.map λn=>(kI n,[.im (rB true)])
def pF (l:List Int):List (List Value×List IC):=l.map λn=>(kI n,[rB true])
def nh (n:Int) (l:List Int):List Int:=if n∈l then l else l++[n]
theorem Z2 (n m:Int):u6 [.int .i64 n] (kI m)=decide (m=n):=by
 simp only[kI,u6,Bool.and_true];rw[Bool.eq_iff_iff];simp[eq_comm]
@[simp] theorem Hq (m:List (Int×Int)) (n:Int):K0 [.int .i64 n] (J8 m) [.im (.raw (.int .i64 0))]=[.im (.raw (.int .i64 (l7 m n)))]:=by
 induction m with
 | nil=>rfl
 | cons p r ih =>
   have e:J8 (p :: r)=(kI p.1,[.im (rI p.2)]) :: J8 r:=rfl;rw[e];simp only[K0,O7,l7,Z2,decide_eq_true_eq] at ih ⊢;split
   ·rfl
   ·exact ih
@[simp] theorem Hl (m:List (Int×Int)) (n v:Int):O0 [.int .i64 n] [.im (.raw (.int .i64 v))] (J8 m)=J8 (J7 n v m):=by
 induction m with
 | nil=>rfl
 | cons p r ih =>
   have e:J8 (p :: r)=(kI p.1,[.im (rI p.2)]) :: J8 r:=rfl;rw[e];simp only[O0,J7,Z2,decide_eq_true_eq] at ih ⊢;split
   ·rfl
   ·rw[ih];rfl
@[simp] theorem Ho (l:List Int) (n:Int):K0 [.int .i64 n] (G5 l) [.im (.raw (.bool false))]=[.im (.raw (.bool (decide (n∈l))))]:=by
 induction l with
 | nil=>rfl
 | cons p r ih =>
   have e:G5 (p :: r)=(kI p,[.im (rB true)]) :: G5 r:=rfl;rw[e];simp only[K0,O7,Z2,decide_eq_true_eq] at ih ⊢;split
   ·rename_i h;simp[h]
   ·rename_i h;rw[ih];have:(n∈p :: r)=(n∈r):=propext ⟨λh'=>(List.mem_cons.1 h').resolve_left λe=>h e.symm,List.mem_cons_of_mem _⟩;simp only[this]
@[simp] theorem Hk (l:List Int) (n:Int):O0 [.int .i64 n] [.im (.raw (.bool true))] (G5 l)=G5 (nh n l):=by
 have gen:∀ l:List Int,(n∈l->O0 [.int .i64 n] [.im (.raw (.bool true))] (G5 l)=G5 l)/\(n∉l->O0 [.int .i64 n] [.im (.raw (.bool true))] (G5 l)=G5 (l++[n])):=by
  intro l;induction l with
  | nil=>exact⟨λh=>by simp at h,λ_=>rfl⟩
  | cons p r ih =>
    have e:G5 (p :: r)=(kI p,[.im (rB true)]) :: G5 r:=rfl;rw[e];simp only[O0,Z2,decide_eq_true_eq];constructor
    ·intro h;split
     ·rename_i hp;rw[hp];rfl
     ·rename_i hp;rw[ih.1 ((List.mem_cons.1 h).resolve_left λe=>hp e.symm)]
    ·intro h;rw[if_neg λe=>h (by simp[e]),ih.2 λe=>h (by simp[e])];rfl
 unfold nh;split
 ·exact(gen l).1 ‹_›
 ·exact(gen l).2 ‹_›
@[simp] theorem Hs (l:List Int) (n:Int):fO [.int .i64 n] (G5 l)=G5 (l.erase n):=by
 induction l with
 | nil=>rfl
 | cons p r ih =>
   have e:G5 (p :: r)=(kI p,[.im (rB true)]) :: G5 r:=rfl;rw[e];simp only[fO,Z2,decide_eq_true_eq];split
   ·rename_i h;subst h;simp
   ·rename_i h;rw[ih,List.erase_cons_tail (by simpa using h)];rfl
@[simp] theorem Gt (l:List Int):(G5 l).length=l.length:=by simp[G5]
@[simp] theorem Gu (l:List (Int×Int)):(J8 l).length=l.length:=by simp[J8]
@[simp] theorem DM (m:List (Int×Int)):eT (Y3 m)=J8 m:=by simp[eT,Y3,J8]
@[simp] theorem DL (l:List Int):eT (pF l)=G5 l:=by simp[eT,pF,G5]
@[simp] theorem Hw (k n:Nat) (objs:List DObj) (m:List (Int×Int)):C3 (λx:List Value×List DC=>(C3 (frz (k+1) n objs) x.2).map λl=>(x.1,l)) (J8 m)=some (Y3 m):=by
 induction m with
 | nil=>rfl
 | cons p r ih =>
   have e:J8 (p :: r)=(kI p.1,[.im (rI p.2)]) :: J8 r:=rfl;rw[e];simp[C3,ih,Y3]
@[simp] theorem Hu (k n:Nat) (objs:List DObj) (l:List Int):C3 (λx:List Value×List DC=>(C3 (frz (k+1) n objs) x.2).map λl=>(x.1,l)) (G5 l)=some (pF l):=by
 induction l with
 | nil=>rfl
 | cons p r ih =>
   have e:G5 (p :: r)=(kI p,[.im (rB true)]) :: G5 r:=rfl;rw[e];simp[C3,ih,pF]
@[simp] theorem FT (n:Nat) (objs:List DObj) (m:List (Int×Int)):((J8 m).map λx=>(x.1,x.2.map (fz n objs)))=J8 m:=by
 simp[J8,fz,DC.lt]
@[simp] theorem FQ (n:Nat) (objs:List DObj) (l:List Int):((G5 l).map λx=>(x.1,x.2.map (fz n objs)))=G5 l:=by
 simp[G5,fz,DC.lt]
end Go.Ab
