/- Part 12 of the proofs. -/
import Derived.Test.YtlmlkkoapahmjaaGreatDoorP08
import Derived.Test.YtlmlkkoapahmjaaGreatDoorP11
set_option linter.all false
set_option maxHeartbeats 100000000
namespace Go.Ab
open Go
structure Dim where
 nominal:Int
 lower:Int
 upper:Int
 deriving DecidableEq
structure Itm where
 drawing:Int
 count:Int
 deriving DecidableEq
structure Issue where
 drawing:Int
 letter:Int
 kind:Int
 items:List Itm
 dims:List Dim
 deriving DecidableEq
def rI (n:Int):IC:=.raw (.int .i64 n)
def rB (b:Bool):IC:=.raw (.bool b)
def F2 (d:Dim):List IC:=[rI d.nominal,rI d.lower,rI d.upper]
def B1 (x:Itm):List IC:=[rI x.drawing,rI x.count]
def e9 (x:Issue):List IC:=[rI x.drawing,rI x.letter,.raw (.int .u8 x.kind),.sl (x.items.map B1),.sl (x.dims.map F2)]
def encI (n:Int):List IC:=[rI n]
def iv (n:Int):DV:=.one (.im (.raw (.int .i64 n)))
def bv (b:Bool):DV:=.one (.im (.raw (.bool b)))
def r5 (l:List Int):DV:=.one (.im (.sl (l.map encI)))
def G1 (l:List Issue):DV:=.agg [.im (.sl (l.map e9))]
attribute [simp] iv bv r5 G1 rI rB F2 B1 e9 encI
attribute [simp] qc iD lf aI kZ iE lc iF pZ qb ld fV pk G0 fX jg
attribute [simp] sG I3 aH iI j6 aF o8 DS.put E4 F0 jf yh Hr pX rU mB mA uB cJ qa BJ cN tz DV.cells fj H1 zcells cm S6 aU ev R9 DS.keep CX B9 N2 pY N6 dF fZ fzVL Z0
theorem V7 {p:Prop} {Q:Exit->DS->Prop} {e:Exit} {t:Tok Q} {S:DS} (h:p->At Q e t S):p->At Q e t S:=h
theorem ye (objs:List DObj) (l:List (List IC)):ep objs (.im (.sl l))=some (l5 l):=rfl
theorem ux (objs:List DObj) (o g off len:Nat):ep objs (.vec o g off len)=match objs[o]? with
 | some (.vec _ es g' _)=>if g=g'/\off+len<=es.length then some ((es.drop off).take len) else none
 | _=>none:=by unfold ep;rfl
attribute [simp] ye ux
attribute [simp] ImV.one
theorem Ft (l:List DC):ImV (.agg l)↔∀ d∈l,∃ c,d=.im c:=⟨λh=>by cases h;assumption,.agg l⟩
theorem Fs (l:List DV):ImV (.tup l)↔∀ d∈l,ImV d:=⟨λh=>by cases h;assumption,.tup l⟩
attribute [simp] Ft Fs
attribute [simp] EP EM dM g9 A8 wV Fk S4 Op.operands Call.operands
attribute [simp] sV CG nx JO pick cp mU jJ pW fL
attribute [simp] Eo aD q9 Bp xi GT kR T0 DS.drop U9 sT
theorem KA (a b:Int):(a==b)=decide (a=b):=by by_cases h:a=b<;>simp[h]
theorem Kz (a b:Int):(a != b)=!decide (a=b):=by by_cases h:a=b<;>simp[h]
attribute [simp] KA Kz
theorem Ha {n o off:Nat} {objs:List DObj} (h:o<n):fz n objs (.ptr o off)=.ptr o off:=by simp[fz,DC.lt,h]
theorem Hd {n o g i off:Nat} {objs:List DObj} (h:o<n):fz n objs (.ept o g i off)=.ept o g i off:=by simp[fz,DC.lt,h]
theorem GZ {n o g off len:Nat} {objs:List DObj} (h:o<n):fz n objs (.vec o g off len)=.vec o g off len:=by simp[fz,DC.lt,h]
theorem Bh (x:List IC) (l:List (List IC)):l5 (x :: l)=x.map .im :: l5 l:=rfl
theorem rA (l:List (List IC)) (n:Nat):(∀ e∈l5 l,e.length=n)↔∀ e∈l,e.length=n:=by
 constructor
 ·intro h e he;have:=h (e.map .im) (by simp only[l5,List.mem_map];exact⟨e,he,rfl⟩);simpa using this
 ·exact λh=>fD h
attribute [simp] rA
theorem zH {α:Type} (f:α->List IC) (l:List α):(l5 (l.map f)).take l.length=l5 (l.map f):=List.take_of_length_le (by simp[q9])
attribute [simp] Ha Hd GZ Bh zH
def Ay:Option IC->DC
 | some c=>.im c
 | none=>.dead
theorem Ey {n o g off len:Nat} {objs:List DObj} (h:n<=o):fz n objs (.vec o g off len)=Ay (frz 20 n objs (.vec o g off len)):=by
 have h1:DC.lt n (.vec o g off len)=false:=by simp[DC.lt];omega
 simp only[fz,h1];cases frz 20 n objs (.vec o g off len)<;>rfl
theorem Ez {n o off:Nat} {objs:List DObj} (h:n<=o):fz n objs (.ptr o off)=Ay (frz 20 n objs (.ptr o off)):=by
 have h1:DC.lt n (.ptr o off)=false:=by simp[DC.lt];omega
 simp only[fz,h1];cases frz 20 n objs (.ptr o off)<;>rfl
theorem Hg (k n:Nat) (objs:List DObj) (c:IC):frz (k+1) n objs (.im c)=some c:=rfl
theorem EE (k n o g off len:Nat) (objs:List DObj):frz (k+1) n objs (.vec o g off len)=if n<=o then match objs[o]? with
 | some (.vec _ es g' _)=>if g=g'/\off+len<=es.length then (F1 (F1 (frz k n objs)) ((es.drop off).take len)).map .sl else none
 | _=>none
 else none:=rfl
theorem EF (k n o off:Nat) (objs:List DObj):frz (k+1) n objs (.ptr o off)=if n<=o then match objs[o]? with
 | some (.row c)=>if off<=c.length then (F1 (frz k n objs) (c.drop off)).map .ip else none
 | _=>none
 else none:=rfl
theorem Jw {n:Nat} {f:Fn} {caps:List DC} {objs:List DObj}:fz n objs (.fn f caps)=if DC.ltL n caps=true then .fn f caps else Ay (frz 20 n objs (.fn f caps)):=by
 have h1:DC.lt n (.fn f caps)=DC.ltL n caps:=rfl;simp only[fz,h1];split
 ·rfl
 ·cases frz 20 n objs (.fn f caps)<;>rfl
theorem Hh (k n:Nat) (objs:List DObj) (f:Fn) (caps:List DC):frz (k+1) n objs (.fn f caps)=(F1 (frz k n objs) caps).map (.fn f):=rfl
theorem Hb {n o:Nat} {objs:List DObj} (h:o<n):fz n objs (.map o)=.map o:=by simp[fz,DC.lt,h]
theorem EB {n o:Nat} {objs:List DObj} (h:n<=o):fz n objs (.map o)=Ay (frz 20 n objs (.map o)):=by
 have h1:DC.lt n (.map o)=false:=by simp[DC.lt];omega
 simp only[fz,h1];cases frz 20 n objs (.map o)<;>rfl
theorem EG (k n o:Nat) (objs:List DObj):frz (k+1) n objs (.map o)=if n<=o then match objs[o]? with
 | some (.map ks es)=>(F1 (λx=>(F1 (frz k n objs) x.2).map λl=>(x.1,l)) es).map (.mp (N3 ks))
 | _=>none
 else none:=rfl
theorem GY {n o:Nat} {objs:List DObj} (h:o<n):fz n objs (.yld o)=.yld o:=by simp[fz,DC.lt,h]
theorem Hc {n o:Nat} {objs:List DObj} (h:o<n):fz n objs (.itr o)=.itr o:=by simp[fz,DC.lt,h]
attribute [simp] Jw Hh Hb EB EG GY Hc DC.ltL DC.lt
attribute [simp] Ay Ey Ez Hg EE EF F1
theorem i7:(∀ (p:Prop) [Decidable p],decide p=true↔p)/\(∀ (p:Prop) [Decidable p],decide p=false↔¬p)/\(∀ a b:Bool,(a&&b)=true↔a=true/\b=true)/\(∀ a b:Bool,(a&&b)=false↔a=false\/b=false)/\(∀ a b:Bool,(a||b)=true↔a=true\/b=true)/\(∀ a b:Bool,(a||b)=false↔a=false/\b=false)/\(∀ a:Bool,(!a)=true↔a=false)/\(∀ a:Bool,(!a)=false↔a=true)/\(∀ (α:Type) [BEq α] [LawfulBEq α] (a b:α),(a==b)=true↔a=b)/\(∀ (α:Type) [BEq α] [LawfulBEq α] (a b:α),(a==b)=false↔a≠b)/\(false=true↔False)/\(true=false↔False):=
 ⟨λ_=>decide_eq_true_iff,λ_=>decide_eq_false_iff_not,λ_ _=>Bool.and_eq_true_iff,λa b=>by cases a<;>cases b<;>decide,λa b=>by cases a<;>cases b<;>decide,λa b=>by cases a<;>cases b<;>decide,λa=>by cases a<;>decide,λa=>by cases a<;>decide,λ_ _ _ _ _=>beq_iff_eq,λ_ _ _ _ _=>beq_eq_false_iff_ne,by decide,by decide⟩
abbrev wO:=@At.seq
abbrev Ly:=@At.then_ret
abbrev Ir:=@At.then_exit
abbrev HM:=@At.block_end
abbrev Lx:=@At.block_ret
abbrev Iq:=@At.block_exit
abbrev KW:=@At.block_out
abbrev LR:=@At.scope_ret
abbrev wN:=@CU
abbrev DA:=@sQ
abbrev LQ:=@sO
abbrev Fx:=@wi
abbrev LP:=@sP
abbrev Ip:=@wj
abbrev KV:=@CV
abbrev za:=@And.intro
class Zs (A:Prop) (B:outParam Prop):Prop where
 go:B->A
theorem zz {A B:Prop} [h:Zs A B] (b:B):A:=h.go b
section
variable {P:Program} {G:LS} {n:Cx} {S:DS} {Q:Exit->DS->Prop}
instance {y:Code}:Zs (At (Z0 (λS'=>DT P G n y S' Q) Q) .normal ⟨⟩ S) (DT P G n y S Q):=⟨At.seq⟩
instance {next:DS->Prop}:Zs (At (Z0 next Q) .ret ⟨⟩ S) (At Q .ret ⟨⟩ S):=⟨At.then_ret⟩
instance {next:DS->Prop} {id:Nat}:Zs (At (Z0 next Q) (.exit id) ⟨⟩ S) (At Q (.exit id) ⟨⟩ S):=⟨At.then_exit⟩
instance {id:Nat}:Zs (At (Y9 id Q) .normal ⟨⟩ S) (At Q .normal ⟨⟩ S):=⟨At.block_end⟩
instance {id:Nat}:Zs (At (Y9 id Q) .ret ⟨⟩ S) (At Q .ret ⟨⟩ S):=⟨At.block_ret⟩
instance {id:Nat}:Zs (At (Y9 id Q) (.exit id) ⟨⟩ S) (At Q .normal ⟨⟩ S):=⟨At.block_exit⟩
instance :Zs (At (dJ Q) .normal ⟨⟩ S) (At Q .normal ⟨⟩ S):=⟨At.scope_end⟩
instance :Zs (At (dJ Q) .ret ⟨⟩ S) (At Q .ret ⟨⟩ S):=⟨At.scope_ret⟩
instance {id:Nat}:Zs (At (dJ Q) (.exit id) ⟨⟩ S) (At Q (.exit id) ⟨⟩ S):=⟨At.scope_exit⟩
instance {x y:Code}:Zs (DT P G n (.seq x y) S Q) (DT P G n x S (Z0 (λS'=>DT P G n y S' Q) Q)):=⟨CU⟩
instance {id:Nat} {c:Code}:Zs (DT P G n (.block id c) S Q) (DT P G n c S (Y9 id Q)):=⟨sQ⟩
instance {c:Code}:Zs (DT P G n (.scope c) S Q) (DT P G n c S (dJ Q)):=⟨sO⟩
instance :Zs (DT P G n .skip S Q) (At Q .normal ⟨⟩ S):=⟨wi⟩
instance {l:Nat}:Zs (DT P G n (.label l) S Q) (At Q .normal ⟨⟩ S):=⟨sP⟩
instance {id:Nat}:Zs (DT P G n (.exit id) S Q) (At Q (.exit id) ⟨⟩ S):=⟨wj⟩
instance :Zs (DT P G n .ret S Q) (At Q .ret ⟨⟩ S):=⟨CV⟩
theorem zx {rs:List ResultVar} {K:DV->List DObj->Prop} {ds:List DV} (hq:K (N6 ds) S.objs) (h:N2 P S rs=some ds:=by simp -dsimp;exact rfl):At (FM P rs K) .ret ⟨⟩ S:=At.fn_ret h hq
theorem zy {rs:List ResultVar} {K:DV->List DObj->Prop} {ds:List DV} (hq:K (N6 ds) S.objs) (h:N2 P S rs=some ds:=by simp -dsimp;exact rfl):At (FM P rs K) .normal ⟨⟩ S:=At.fn_end h hq
theorem zr {rs:List ResultVar} {K:DV->List DObj->Prop} {ds:List DV} (hq:K (N6 ds) S.objs) (h:N2 P S rs=some ds:=by simp -dsimp[hs];exact rfl):At (FM P rs K) .ret ⟨⟩ S:=At.fn_ret h hq
theorem ze {rs:List ResultVar} {K:DV->List DObj->Prop} {ds:List DV} (hq:K (N6 ds) S.objs) (h:N2 P S rs=some ds:=by simp -dsimp[hs];exact rfl):At (FM P rs K) .normal ⟨⟩ S:=At.fn_end h hq
theorem i8 {c:Operand} {x y:Code} {b:Bool} {p q:Prop} (ht:p->DT P G n x S Q) (hf:q->DT P G n y S Q) (hc:j6 G S c=some (.one (.im (.raw (.bool b)))):=by exact rfl) (hp:b=true->p:=by intro h;first|(simp only[i7] at h;exact h)|exact (by simp only[i7] at h:False)|exact h) (hq:b=false->q:=by intro h;first|(simp only[i7] at h;exact h)|exact (by simp only[i7] at h:False)|exact h):DT P G n (.cond c x y) S Q:=P3 hc (λh=>ht (hp h)) λh=>hf (hq h)
theorem zM {l:List Oper} (id nt nq:Nat) (ks:List Nat)
 (h:Fk P G (l.map (·.dst)) (l.take nq) S (λS'=>sG P G (l.map (·.dst)) (l.drop nq) S' (λS''=>At Q .normal ⟨⟩ (S''.keep ks)) ⟨⟩) ⟨⟩) (hm:P.follows .mixedOrders=true:=by exact mixed) (hnt:S.nt=nt:=by rfl) (hB:gP nt nq l=true:=by kernel_rfl):DT P G n (.region id l.toArray true) S Q:=ni nq ks hm hnt hB h
end
abbrev zP (P:Program) (G:LS) (f:FuncId) (av:List DV) (r:DV):Prop:=∀ objs:List DObj,DCall P G f av objs (λd o=>d=r/\o=objs)
theorem zf {P:Program} {G:LS} {f:FuncId} {fn:Func} {c:Code} {nt:Nat} {args:List DV} {d0:DV} {rs:List ResultVar} (hf:P.funcs[f]?=some fn) (hnt:fn.ntmps=nt) (h:DT P G ⟨([]:List DObj).length,none⟩ c ⟨nt,dF args 0,[]⟩ (FM P rs (λd o=>fZ 0 o d=d0))) (hb:fn.body=some c:=by exact rfl) (hargs:args.length<=nt:=by simp) (hrs:fn.results.toList=rs:=by exact rfl) (ha:∀ d∈args,ImV d:=by simp) (hd:ImV d0:=by simp):zP P G f args d0:=λobjs=>DCall.frame (h9 hf hb hnt hargs hrs h) ha hd objs
abbrev zp:=@CallE.pure
abbrev zt:=@CallE.thaw
abbrev zh:=@CallE.here
abbrev zq:=@nc
abbrev zE:=@C5
theorem zw {G:LS} {n:Cx} {S S':DS} (ks:List Nat) (m:Nat) (h:(S.keep ks).drop m=S':=by simp) (hm:m<=S.objs.length:=by simp) (hn:n.n<=m:=by simp):Weak G n S S':=Weak.of_drop ks m hm hn h
theorem zv {G:LS} {n:Cx} {S S':DS} (ks:List Nat) (h:S.keep ks=S':=by simp):Weak G n S S':=Weak.of_keep ks h
theorem zn {G:LS} {n:Cx} {S:DS} {Q:Exit->DS->Prop} {ι:Type} {I:ι->DS} {m:ι->Nat} {i:ι} (j:ι) (h2:Weak G n S (I j)) (h1:m j<m i:=by first|omega|(simp only;omega)|(simp;omega)):At (Z0 (λS'=>CJ G n I m i S') Q) .normal ⟨⟩ S:=At.round j h1 h2
end Go.Ab
namespace Go.Proofs
open Go Go.Ab Tryz
attribute [local simp] F3 setLp
theorem n4 {n:Int} (h1:-9223372036854775808<=n) (h2:n<=9223372036854775807):IntKind.i64.wrap n=n:=IntWalk.i64_in n ⟨h1,h2⟩
theorem zk (k:Nat) (h:k<4611686018427387904:=by omega):IntKind.i64.wrap ((k:Int)+1)=((k+1:Nat):Int):=n4 (by omega) (by omega)
variable {G:LS}
theorem bF (n lo hi:Int) (objs:List DObj):DCall prog G 140 [iv n,iv lo,iv hi] objs (λd objs'=>d=bv (decide (lo<=n)&&decide (n<=hi))/\objs'=objs):=by
 refine DCall.frame ?_ (by simp) (by simp) objs;refine h9 func140 rfl ntmps140 (by simp) rfl ?_;simp only[iv];have hs:=trivial;repeat' first|(with_reducible first|refine zz ?_|refine zr ?_|refine zE [0,1,2,6] ?_)|simp -dsimp[hs]|with_reducible refine j5 ?_ ?_<;>intro h<;>have h0:=h<;>(try simp only[i7] at h)<;>have h2:=h<;>(try simp at h2)<;>replace hs:=za h0 (za h (za h2 hs))
 all_goals simp[bv, *]
def idx (l:List Int) (x:Int):Int:=match l.idxOf? x with|some i=>i|none=>-1
theorem vO {l:List Int} {x:Int} {k:Nat} (h:l[k]?=some x) (hno:∀ j,j<k->l[j]?≠some x):idx l x=k:=by
 have:l.idxOf? x=some k:=by
  rw[List.idxOf?,List.findIdx?_eq_some_iff_getElem];obtain⟨hlt,he⟩:=List.getElem?_eq_some_iff.1 h;refine⟨hlt,by simp[he],λj hj=>?_⟩;have:=hno j hj;rw[List.getElem?_eq_getElem (by omega)] at this;simpa using this
 simp[idx,this]
theorem Bi {l:List Int} {x:Int} (hno:∀ j,j<l.length->l[j]?≠some x):idx l x=-1:=by
 have:l.idxOf? x=none:=by
  rw[List.idxOf?,List.findIdx?_eq_none_iff];intro y hy;obtain⟨j,hj⟩:=List.mem_iff_getElem?.1 hy;have hlt:=e7 hj;have:=hno j hlt;rw[hj] at this;simpa using this
 simp[idx,this]
theorem kT (l:List Int) (x:Int) (hl:l.length<1000000) (objs:List DObj):DCall prog G 91 [r5 l,iv x] objs (λd objs'=>d=iv (idx l x)/\objs'=objs):=by
 refine DCall.frame ?_ (by simp) (by simp) objs;refine h9 func91 rfl ntmps91 (by simp) rfl ?_;simp only[r5,iv];have hs:=trivial;repeat' first|(with_reducible first|refine zz ?_|refine zE [0,1,4,5,9,17] ?_)|simp -dsimp[hs]
 refine i6 (ι:={ k:Nat // k<=l.length/\∀ j,j<k->l[j]?≠some x }) (λk=>⟨19,[(0,r5 l),(1,iv x),(4,iv 0),(5,iv (k.1:Int))],[]⟩) (λk=>l.length-k.1) ⟨0,by simp,by simp⟩ (zv [0,1,4,5] (by simp[r5,iv])) ?_;rintro⟨k,hk,hno⟩;simp only[r5,iv];by_cases hlt:k<l.length
 ·have hx:l[k]?=some l[k]:=by simp[hlt]
  have hw:=zk k;have hs:=za hx hw;repeat' first|(with_reducible first|refine zz ?_|refine zr ?_ (by simp -dsimp[encI,rI,hs];exact rfl)|refine zE [0,1,4,5,9,17] ?_)|simp -dsimp[encI,rI,hs]|refine i8 ?_ ?_<;>intro h<;>try exact h.elim
  all_goals try clear hs
  all_goals try omega
  ·exact(vO (by rw[hx];simp[*]) hno).symm
  ·refine⟨⟨k+1,by omega,λj hj=>?_⟩,?_,Weak.of_keep [0,1,4,5] (by simp[r5,iv])⟩
   ·by_cases e:j=k
    ·subst e;simp[hx, *]
    ·exact hno j (by omega)
   ·simp;omega
 ·have hs:=trivial;repeat' first|(with_reducible first|refine zz ?_|refine zr ?_|refine zE [0,1,4,5,9,17] ?_)|simp -dsimp[hs]|refine i8 ?_ ?_<;>intro h<;>try exact h.elim
  all_goals try omega
  exact(Bi λj hj=>hno j (by omega)).symm
end Go.Proofs
namespace Go.Proofs
open Go Go.Ab Tryz
attribute [local simp] F3 setLp
variable {G:LS}
theorem mixed:prog.follows .mixedOrders=true:=by kernel_rfl
def P8 (x:Issue):DV:=.agg ((e9 x).map .im)
attribute [simp] P8
end Go.Proofs
namespace Go.Proofs
open Go Go.Ab
attribute [local simp] F3 setLp
variable {G:LS}
def mZ (l:List Issue):Prop:=l.length<=80/\∀ x∈l,x.items.length<=16/\x.dims.length<=8
end Go.Proofs
namespace Go.Proofs
open Go Go.Ab Tryz
attribute [local simp] F3 setLp
variable {G:LS}
instance (l:List Issue):Decidable (mZ l):=inferInstanceAs (Decidable (_/\_))
theorem Ex (l:List Issue) (objs:List DObj):DCall prog G 167 [G1 l] objs (λd objs'=>d=bv (!decide (mZ l))/\objs'=objs):=by
 refine DCall.frame ?_ (by simp) (by simp) objs;refine h9 func167 rfl ntmps167 (by simp) rfl ?_;simp only[G1,bv];have hs:=trivial;repeat' first|(with_reducible first|refine zz ?_|refine zr ?_|refine zE [0,1,2,3,7,12,32] ?_)|simp -dsimp[hs]|refine i8 ?_ ?_<;>intro h<;>try exact h.elim
 all_goals try clear hs
 ·exact λhs=>by have:=hs.1;omega
 ·have hl:l.length<=80:=by omega
  refine i6 (ι:={ k:Nat // k<=l.length/\∀ j x,j<k->l[j]?=some x->x.items.length<=16/\x.dims.length<=8 }) (λp=>⟨33,[(1,.one (.ptr 0 0)),(3,iv (p.1:Int))],[.row [.im (.sl (l.map e9))]]⟩) (λp=>l.length-p.1) ⟨0,by simp⟩ (zv [1,3] (by simp[iv])) ?_;rintro⟨k,hk,hno⟩;simp only[iv];by_cases hlt:k<l.length
  ·have hx:l[k]?=some l[k]:=by simp[hlt]
   have hw:=zk k;have bad:16<l[k].items.length\/8<l[k].dims.length->¬ mZ l:=λh hs=>by have:=hs.2 l[k] (by simp);omega
   have hs:=za hx hw;repeat' first|(with_reducible first|refine zz ?_|refine zr ?_ (by simp -dsimp[e9,rI,hs];exact rfl)|refine zE [0,1,2,3,7,12,32] ?_)|simp -dsimp[e9,rI,hs]|refine i8 ?_ ?_<;>intro h<;>try exact h.elim|with_reducible refine j5 ?_ ?_<;>intro h<;>have h0:=h<;>(try simp only[i7] at h)<;>have h2:=h<;>(try simp at h2)<;>replace hs:=za h0 (za h (za h2 hs))
   all_goals try clear hs
   all_goals first
    | omega
    | exact bad (by omega)
    | skip
   refine zn ⟨k+1,by omega,λj x hj hjx=>?_⟩ (zv [1,3]);by_cases e:j=k
   ·subst e;rw[hx] at hjx;cases hjx;omega
   ·exact hno j x (by omega) hjx
  ·have hs:=hlt;repeat' first|(with_reducible first|refine zz ?_|refine zr ?_|refine zE [0,1,2,3,7,12,32] ?_)|simp -dsimp[hs]|refine i8 ?_ ?_<;>intro h<;>try exact h.elim
   all_goals try clear hs
   exact⟨hl,λx hx'=>by
    obtain⟨j,hj⟩:=List.mem_iff_getElem?.1 hx';exact hno j x (by have:=e7 hj;omega) hj⟩
end Go.Proofs
namespace Go.Proofs
open Go Go.Ab Tryz
attribute [local simp] F3 setLp
variable {G:LS}
@[simp] abbrev Qq:List Nat:=[0,1,4,5,10,14,25]
theorem tp (l r:List Int) (hl:l.length<1000000) (objs:List DObj):DCall prog G 40 [r5 l,r5 r] objs (λd objs'=>d=bv (decide (l=r))/\objs'=objs):=by
 refine DCall.frame ?_ (by simp) (by simp) objs;refine h9 func40 rfl ntmps40 (by simp) rfl ?_;simp only[r5,bv];have hs:=trivial;repeat' first|(with_reducible first|refine zz ?_|refine zr ?_|refine zE Qq ?_)|simp -dsimp[hs]|refine i8 ?_ ?_<;>intro h<;>try exact h.elim
 ·rintro rfl;omega
 ·have hlen:l.length=r.length:=by omega
  refine i6 (ι:={ k:Nat // k<=l.length/\∀ j,j<k->l[j]?=r[j]? }) (λp=>⟨26,[(0,r5 l),(1,r5 r),(5,iv (p.1:Int))],[]⟩) (λp=>l.length-p.1) ⟨0,by simp⟩ (zv [0,1,5] (by simp[iv,r5])) ?_;rintro⟨k,hk,hno⟩;simp only[iv,r5];by_cases hlt:k<l.length
  ·have hx:l[k]?=some l[k]:=by simp[hlt]
   have hltr:k<r.length:=by omega
   have hy:r[k]?=some r[k]:=by simp[hltr]
   have hw:=zk k;have hs:=za hx (za hy hw);repeat' first|(with_reducible first|refine zz ?_|refine zr ?_ (by simp -dsimp[encI,rI,hs];exact rfl))|simp -dsimp[encI,rI,hs]|refine zM 6 26 9 Qq ?_|with_reducible refine zE Qq ?_|refine i8 ?_ ?_<;>intro h<;>try exact h.elim
   all_goals try omega
   ·rename_i h;rintro rfl;exact h rfl
   ·rename_i h;refine zn ⟨k+1,by omega,λj hj=>?_⟩ (zv [0,1,5]);by_cases e:j=k
    ·subst e;rw[hx,hy,h]
    ·exact hno j (by omega)
  ·have hs:=hlt;repeat' first|(with_reducible first|refine zz ?_|refine zr ?_|refine zE Qq ?_)|simp -dsimp[hs]|refine i8 ?_ ?_<;>intro h<;>try exact h.elim
   refine List.ext_getElem? λj=>?_;by_cases hj:j<k
   ·exact hno j hj
   ·rw[List.getElem?_eq_none (by omega),List.getElem?_eq_none (by omega)]
end Go.Proofs
namespace Go.Proofs
open Go Go.Ab
attribute [local simp] F3 setLp
variable {G:LS}
def LB (l:List Itm):DV:=.one (.im (.sl (l.map B1)))
attribute [simp] LB
end Go.Proofs
namespace Go.Proofs
open Go Go.Ab
attribute [local simp] F3 setLp
variable {G:LS}
end Go.Proofs
namespace Go.Proofs
open Go Go.Ab
attribute [local simp] F3 setLp
variable {G:LS}
end Go.Proofs
namespace Go.Proofs
open Go Go.Ab Tryz
attribute [local simp] F3 setLp
variable {G:LS}
def I8:Issue:=⟨0,0,0,[],[]⟩
def n9 (l:List Issue) (d lt:Int):Option Issue:=l.find? λx=>x.drawing==d&&x.letter==lt
def E1 (d lt:Int):DV:=.agg [.im (rI d),.im (rI lt)]
attribute [simp] E1
@[simp] abbrev Wz:List Nat:=[0,1,2,3,4,5,6,7,12,31]
theorem uk (l:List Issue) (d lt:Int) (hl:l.length<1000000) (objs:List DObj):DCall prog G 137 [G1 l,E1 d lt] objs (λr objs'=>r=.tup [P8 ((n9 l d lt).getD I8),bv (n9 l d lt).isSome]/\objs'=objs):=by
 refine DCall.frame ?_ (by simp) (by simp) objs;refine h9 func137 rfl ntmps137 (by simp) rfl ?_;simp only[G1,E1,bv,P8];have hs:=trivial;repeat' first|(with_reducible first|refine zz ?_|refine zE Wz ?_)|simp -dsimp[hs]
 refine i6 (ι:={ k:Nat // k<=l.length/\n9 l d lt=n9 (l.drop k) d lt }) (λp=>⟨34,[(2,.one (.ptr 0 0)),(3,.one (.ptr 1 0)),(4,.one (.ptr 4 0)),(6,iv (p.1:Int))],[.row [.im (.sl (l.map e9))],.row [.im (rI d),.im (rI lt)],.vec 0 [] 0 true,.vec 0 [] 0 true,.row ((rI 0 :: rI 0 :: [IC.raw (.int .u8 0)]).map .im++[.vec 2 0 0 0,.vec 3 0 0 0])]⟩) (λp=>l.length-p.1) ⟨0,by simp⟩ (zv [2,3,4,6] (by simp[iv,rI])) ?_;rintro⟨k,hk,hno⟩;simp only[iv];by_cases hlt:k<l.length
 ·have hx:l[k]?=some l[k]:=by simp[hlt]
  have hw:=zk k;have hcons:n9 l d lt=if (l[k].drawing==d&&l[k].letter==lt)=true then some l[k] else n9 (l.drop (k+1)) d lt:=by
   rw[hno,List.drop_eq_getElem_cons hlt];simp only[n9,List.find?_cons];split<;>simp_all
  have hs:=za hx hw;repeat' first|(with_reducible first|refine zz ?_|refine zr ?_ (by simp -dsimp[e9,rI,hs];exact rfl)|refine zE Wz ?_)|simp -dsimp[e9,rI,hs]|refine i8 ?_ ?_<;>intro h<;>try exact h.elim|with_reducible refine j5 ?_ ?_<;>intro h<;>have h0:=h<;>(try simp only[i7] at h)<;>have h2:=h<;>(try simp at h2)<;>replace hs:=za h0 (za h (za h2 hs))
  all_goals try clear hs
  all_goals try omega
  ·have hf:n9 l d lt=some l[k]:=by simp_all
   simp[hf, *]
  ·rename_i h;have hf:n9 l d lt=n9 (l.drop (k+1)) d lt:=by rw[hcons];simp[h]
   exact zn ⟨k+1,by omega,hf⟩ (zw [2,3,4,6] 5 (by simp[rI]))
  ·rename_i h2 h;have hf:n9 l d lt=n9 (l.drop (k+1)) d lt:=by rw[hcons];simp[h2]
   exact zn ⟨k+1,by omega,hf⟩ (zw [2,3,4,6] 5 (by simp[rI]))
 ·have hf:n9 l d lt=none:=by rw[hno,List.drop_eq_nil_of_le (by omega)];rfl
  have hs:=hlt;repeat' first|(with_reducible first|refine zz ?_|refine zr ?_ (by simp -dsimp[e9,rI,hs];exact rfl)|refine zE Wz ?_)|simp -dsimp[e9,rI,hs]|refine i8 ?_ ?_<;>intro h<;>try exact h.elim
  all_goals simp[hf,I8]
end Go.Proofs
namespace Go.Proofs
open Go Go.Ab Tryz
attribute [local simp] F3 setLp
variable {G:LS}
def J1 {α:Type} (p:α->Bool) (l:List α):Int:=match l.findIdx? p with|some i=>i|none=>-1
theorem N1 {α:Type} {p:α->Bool} {l:List α} {i:Nat} {x:α} (h:l[i]?=some x) (hp:p x=true) (hno:∀ (j:Nat) (x:α),j<i->l[j]?=some x->p x=false):J1 p l=i:=by
 have:l.findIdx? p=some i:=by
  rw[List.findIdx?_eq_some_iff_getElem];obtain⟨hlt,he⟩:=List.getElem?_eq_some_iff.1 h;refine⟨hlt,by rw[he];exact hp,λj hj=>?_⟩;have:=hno j l[j] hj (by simp);simp[this]
 simp[J1,this]
theorem T4 {α:Type} {p:α->Bool} {l:List α} (hno:∀ (j:Nat) (x:α),l[j]?=some x->p x=false):J1 p l=-1:=by
 have:l.findIdx? p=none:=by
  rw[List.findIdx?_eq_none_iff];intro y hy;obtain⟨j,hj⟩:=List.mem_iff_getElem?.1 hy;exact hno j y hj
 simp[J1,this]
theorem B0 {α:Type} (p:α->Bool) (l:List α):decide (0<=J1 p l)=l.any p:=by
 unfold J1;split
 ·rename_i i h;rw[List.findIdx?_eq_some_iff_getElem] at h;obtain⟨hlt,hp,_⟩:=h;have:l.any p=true:=List.any_eq_true.2 ⟨l[i],by simp,hp⟩;simp[this]
 ·rename_i h;rw[List.findIdx?_eq_none_iff] at h;have:l.any p=false:=by rw[List.any_eq_false];intro x hx;simp[h x hx]
  simp[this]
def AW (x:Itm):DV:=.agg ((B1 x).map .im)
def gg (x:Dim):DV:=.agg ((F2 x).map .im)
attribute [simp] AW gg
@[simp] abbrev LV:List Nat:=[0,1,4,5,7,8,9,16]
theorem fC (l:List Int) (p:Int->Bool) (k:Nat) (caps:List DC) (objs:List DObj) (hok:E9 prog k) (hf:∀ x∈l,DCall prog G k (iv x :: caps.map .one) objs (λd o=>d=bv (p x)/\o=objs)) (hl:l.length<1000000):DCall prog G 179 [.one (.im (.sl (l.map encI))),.one (.fn (.func k) caps)] objs (λd o=>d=iv (J1 p l)/\o=objs):=by
 refine h9 func179 rfl ntmps179 (by simp) rfl ?_;have hs:=trivial;repeat' first|(with_reducible first|refine zz ?_|refine zE LV ?_)|simp -dsimp[hs]
 refine i6 (ι:={ k:Nat // k<=l.length/\∀ j x,j<k->l[j]?=some x->p x=false }) (λi=>⟨19,[(0,.one (.im (.sl (l.map encI)))),(1,.one (.fn (.func k) caps)),(7,iv (l.length:Int)),(8,iv (i.1:Int))],objs⟩) (λi=>l.length-i.1) ⟨0,by simp⟩ (zv [0,1,7,8]) ?_;rintro⟨i,hi,hno⟩;simp only[iv];by_cases hlt:i<l.length
 ·have hx:l[i]?=some l[i]:=by simp[hlt]
  have hw:=zk i;have hc:=hf l[i] (by simp);simp only[iv,encI,List.map_cons,List.map_nil,bv,rI] at hc;have hs:=za hx (za hw hok);repeat' first|(with_reducible first|refine zz ?_|refine And.intro (by omega) ?_|refine zr ?_|refine zE LV ?_)|simp -dsimp[hs]|refine CallE.here hc ?_|refine i8 ?_ ?_<;>intro h<;>try exact h.elim|with_reducible refine And.intro ?_ ?_
  all_goals try omega
  ·exact(N1 hx (by assumption) hno).symm
  ·exact At.round ⟨i+1,by omega,λj x hj hjx=>by
    by_cases e:j=i
    ·subst e;rw[hx] at hjx;cases hjx;assumption
    ·exact hno j x (by omega) hjx⟩ (by simp;omega) (zv [0,1,7,8])
 ·have hs:=trivial;repeat' first|(with_reducible first|refine zz ?_|refine zr ?_|refine zE LV ?_)|simp -dsimp[hs]|refine i8 ?_ ?_<;>intro h<;>try exact h.elim|with_reducible refine And.intro ?_ ?_
  all_goals try omega
  exact(T4 λj x hjx=>hno j x (by have:=e7 hjx;omega) hjx).symm
theorem D4 (l:List Int) (p:Int->Bool) (k:Nat) (caps:List DC) (objs:List DObj) (hok:E9 prog k) (hf:∀ x∈l,DCall prog G k (iv x :: caps.map .one) objs (λd o=>d=bv (p x)/\o=objs)) (hl:l.length<1000000):DCall prog G 122 [.one (.im (.sl (l.map encI))),.one (.fn (.func k) caps)] objs (λd o=>d=bv (l.any p)/\o=objs):=by
 refine h9 func122 rfl ntmps122 (by simp) rfl ?_;have hc:=fC l p k caps objs hok hf hl;repeat' first|(with_reducible first|refine zz ?_|refine zx ?_|refine zE [0,1,4] ?_)|simp -dsimp|refine CallE.here hc ?_|with_reducible refine And.intro ?_ ?_
 simp[B0]
theorem ny (l:List Itm) (p:Itm->Bool) (k:Nat) (caps:List DC) (objs:List DObj) (hok:E9 prog k) (hf:∀ x∈l,DCall prog G k (AW x :: caps.map .one) objs (λd o=>d=bv (p x)/\o=objs)) (hl:l.length<1000000):DCall prog G 248 [.one (.im (.sl (l.map B1))),.one (.fn (.func k) caps)] objs (λd o=>d=iv (J1 p l)/\o=objs):=by
 refine h9 func248 rfl ntmps248 (by simp) rfl ?_;have hs:=trivial;repeat' first|(with_reducible first|refine zz ?_|refine zE LV ?_)|simp -dsimp[hs]
 refine i6 (ι:={ k:Nat // k<=l.length/\∀ j x,j<k->l[j]?=some x->p x=false }) (λi=>⟨19,[(0,.one (.im (.sl (l.map B1)))),(1,.one (.fn (.func k) caps)),(7,iv (l.length:Int)),(8,iv (i.1:Int))],objs⟩) (λi=>l.length-i.1) ⟨0,by simp⟩ (zv [0,1,7,8]) ?_;rintro⟨i,hi,hno⟩;simp only[iv];by_cases hlt:i<l.length
 ·have hx:l[i]?=some l[i]:=by simp[hlt]
  have hw:=zk i;have hc:=hf l[i] (by simp);simp only[AW,B1,List.map_cons,List.map_nil,bv,rI] at hc;have hs:=za hx (za hw hok);repeat' first|(with_reducible first|refine zz ?_|refine And.intro (by omega) ?_|refine zr ?_|refine zE LV ?_)|simp -dsimp[hs]|refine CallE.here hc ?_|refine i8 ?_ ?_<;>intro h<;>try exact h.elim|with_reducible refine And.intro ?_ ?_
  all_goals try omega
  ·exact(N1 hx (by assumption) hno).symm
  ·exact At.round ⟨i+1,by omega,λj x hj hjx=>by
    by_cases e:j=i
    ·subst e;rw[hx] at hjx;cases hjx;assumption
    ·exact hno j x (by omega) hjx⟩ (by simp;omega) (zv [0,1,7,8])
 ·have hs:=trivial;repeat' first|(with_reducible first|refine zz ?_|refine zr ?_|refine zE LV ?_)|simp -dsimp[hs]|refine i8 ?_ ?_<;>intro h<;>try exact h.elim|with_reducible refine And.intro ?_ ?_
  all_goals try omega
  exact(T4 λj x hjx=>hno j x (by have:=e7 hjx;omega) hjx).symm
theorem jz (l:List Itm) (p:Itm->Bool) (k:Nat) (caps:List DC) (objs:List DObj) (hok:E9 prog k) (hf:∀ x∈l,DCall prog G k (AW x :: caps.map .one) objs (λd o=>d=bv (p x)/\o=objs)) (hl:l.length<1000000):DCall prog G 195 [.one (.im (.sl (l.map B1))),.one (.fn (.func k) caps)] objs (λd o=>d=bv (l.any p)/\o=objs):=by
 refine h9 func195 rfl ntmps195 (by simp) rfl ?_;have hc:=ny l p k caps objs hok hf hl;repeat' first|(with_reducible first|refine zz ?_|refine zx ?_|refine zE [0,1,4] ?_)|simp -dsimp|refine CallE.here hc ?_|with_reducible refine And.intro ?_ ?_
 simp[B0]
theorem nA (l:List Dim) (p:Dim->Bool) (k:Nat) (caps:List DC) (objs:List DObj) (hok:E9 prog k) (hf:∀ x∈l,DCall prog G k (gg x :: caps.map .one) objs (λd o=>d=bv (p x)/\o=objs)) (hl:l.length<1000000):DCall prog G 322 [.one (.im (.sl (l.map F2))),.one (.fn (.func k) caps)] objs (λd o=>d=iv (J1 p l)/\o=objs):=by
 refine h9 func322 rfl ntmps322 (by simp) rfl ?_;have hs:=trivial;repeat' first|(with_reducible first|refine zz ?_|refine zE LV ?_)|simp -dsimp[hs]
 refine i6 (ι:={ k:Nat // k<=l.length/\∀ j x,j<k->l[j]?=some x->p x=false }) (λi=>⟨19,[(0,.one (.im (.sl (l.map F2)))),(1,.one (.fn (.func k) caps)),(7,iv (l.length:Int)),(8,iv (i.1:Int))],objs⟩) (λi=>l.length-i.1) ⟨0,by simp⟩ (zv [0,1,7,8]) ?_;rintro⟨i,hi,hno⟩;simp only[iv];by_cases hlt:i<l.length
 ·have hx:l[i]?=some l[i]:=by simp[hlt]
  have hw:=zk i;have hc:=hf l[i] (by simp);simp only[gg,F2,List.map_cons,List.map_nil,bv,rI] at hc;have hs:=za hx (za hw hok);repeat' first|(with_reducible first|refine zz ?_|refine And.intro (by omega) ?_|refine zr ?_|refine zE LV ?_)|simp -dsimp[hs]|refine CallE.here hc ?_|refine i8 ?_ ?_<;>intro h<;>try exact h.elim|with_reducible refine And.intro ?_ ?_
  all_goals try omega
  ·exact(N1 hx (by assumption) hno).symm
  ·exact At.round ⟨i+1,by omega,λj x hj hjx=>by
    by_cases e:j=i
    ·subst e;rw[hx] at hjx;cases hjx;assumption
    ·exact hno j x (by omega) hjx⟩ (by simp;omega) (zv [0,1,7,8])
 ·have hs:=trivial;repeat' first|(with_reducible first|refine zz ?_|refine zr ?_|refine zE LV ?_)|simp -dsimp[hs]|refine i8 ?_ ?_<;>intro h<;>try exact h.elim|with_reducible refine And.intro ?_ ?_
  all_goals try omega
  exact(T4 λj x hjx=>hno j x (by have:=e7 hjx;omega) hjx).symm
theorem jB (l:List Dim) (p:Dim->Bool) (k:Nat) (caps:List DC) (objs:List DObj) (hok:E9 prog k) (hf:∀ x∈l,DCall prog G k (gg x :: caps.map .one) objs (λd o=>d=bv (p x)/\o=objs)) (hl:l.length<1000000):DCall prog G 319 [.one (.im (.sl (l.map F2))),.one (.fn (.func k) caps)] objs (λd o=>d=bv (l.any p)/\o=objs):=by
 refine h9 func319 rfl ntmps319 (by simp) rfl ?_;have hc:=nA l p k caps objs hok hf hl;repeat' first|(with_reducible first|refine zz ?_|refine zx ?_|refine zE [0,1,4] ?_)|simp -dsimp|refine CallE.here hc ?_|with_reducible refine And.intro ?_ ?_
 simp[B0]
theorem yl (l:List Itm) (hl:l.length<1000000) (objs:List DObj):DCall prog G 126 [.one (.im (.sl (l.map B1)))] objs (λd objs'=>d=.one (.im (.sl (l.map B1)))/\objs'=objs):=by
 refine DCall.frame ?_ (by simp) (by simp) objs;refine h9 func126 rfl ntmps126 (by simp) rfl ?_;repeat' first|(with_reducible first|refine zz ?_|refine And.intro (by omega) ?_|refine zx ?_|refine zE [0,2,4] ?_)|simp -dsimp|refine i8 ?_ ?_<;>intro h<;>try exact h.elim|with_reducible refine V7 (λh=>?_);(try simp only[List.map_eq_nil_iff] at h);(try subst h);try simp -dsimp|with_reducible refine And.intro ?_ ?_
 all_goals omega
theorem ym (l:List Dim) (hl:l.length<1000000) (objs:List DObj):DCall prog G 127 [.one (.im (.sl (l.map F2)))] objs (λd objs'=>d=.one (.im (.sl (l.map F2)))/\objs'=objs):=by
 refine DCall.frame ?_ (by simp) (by simp) objs;refine h9 func127 rfl ntmps127 (by simp) rfl ?_;repeat' first|(with_reducible first|refine zz ?_|refine And.intro (by omega) ?_|refine zx ?_|refine zE [0,2,4] ?_)|simp -dsimp|refine i8 ?_ ?_<;>intro h<;>try exact h.elim|with_reducible refine V7 (λh=>?_);(try simp only[List.map_eq_nil_iff] at h);(try subst h);try simp -dsimp|with_reducible refine And.intro ?_ ?_
 all_goals omega
end Go.Proofs
namespace Go.Proofs
open Go Go.Ab Tryz
attribute [local simp] F3 setLp
variable {G:LS}
theorem Bg (x lo hi:Int):DCall prog G 211 (iv x :: [DC.ptr 0 0,DC.ptr 1 0].map .one) [.row [.im (rI lo)],.row [.im (rI hi)]] (λd o=>d=bv (decide (x<lo)||decide (hi<x))/\o=[.row [.im (rI lo)],.row [.im (rI hi)]]):=by
 refine h9 func211 rfl ntmps211 (by simp) rfl ?_;simp only[rI];have hs:=trivial;repeat' first|(with_reducible first|refine zz ?_|refine zr ?_|refine zE [0,1,2,4] ?_)|simp -dsimp[hs]|with_reducible refine j5 ?_ ?_<;>intro h<;>have h0:=h<;>(try simp only[i7] at h)<;>have h2:=h<;>(try simp at h2)<;>replace hs:=za h0 (za h (za h2 hs))|with_reducible refine And.intro ?_ ?_
 all_goals try clear hs
 all_goals simp[*]
theorem iq (lo hi:Int) (l:List Int) (hl:l.length<1000000):zP prog G 162 [iv lo,iv hi,r5 l] (bv (l.all λx=>decide (lo<=x)&&decide (x<=hi))):=by
 refine zf func162 ntmps162 ?_;try simp only[iv,iv,r5]
 have hc:=D4 (G:=G) l (λx=>decide (x<lo)||decide (hi<x)) 211 [.ptr 0 0,.ptr 1 0] [.row [.im (rI lo)],.row [.im (rI hi)]] (by simp) (λx _=>Bg x lo hi) hl;simp only[rI] at hc;repeat' first|(with_reducible first|refine zz ?_|refine zx ?_|refine zE [0,1,2,3,4,6] ?_)|simp -dsimp|refine CallE.here hc ?_
 rw[Bool.eq_iff_iff];simp;exact exists_congr λx=>and_congr_right λ_=>by omega
theorem xC (x lo hi:Int):DCall prog G 247 (iv x :: [DC.ptr 0 0,DC.ptr 1 0].map .one) [.row [.im (rI lo)],.row [.im (rI hi)]] (λd o=>d=bv (decide (x<lo)||decide (hi<x))/\o=[.row [.im (rI lo)],.row [.im (rI hi)]]):=by
 refine h9 func247 rfl ntmps247 (by simp) rfl ?_;simp only[rI];have hs:=trivial;repeat' first|(with_reducible first|refine zz ?_|refine zr ?_|refine zE [0,1,2,4] ?_)|simp -dsimp[hs]|with_reducible refine j5 ?_ ?_<;>intro h<;>have h0:=h<;>(try simp only[i7] at h)<;>have h2:=h<;>(try simp at h2)<;>replace hs:=za h0 (za h (za h2 hs))|with_reducible refine And.intro ?_ ?_
 all_goals try clear hs
 all_goals simp[*]
theorem aC (lo hi:Int) (l:List Int) (hl:l.length<1000000):zP prog G 194 [iv lo,iv hi,r5 l] (bv (l.all λx=>decide (lo<=x)&&decide (x<=hi))):=by
 refine zf func194 ntmps194 ?_;try simp only[iv,iv,r5]
 have hc:=D4 (G:=G) l (λx=>decide (x<lo)||decide (hi<x)) 247 [.ptr 0 0,.ptr 1 0] [.row [.im (rI lo)],.row [.im (rI hi)]] (by simp) (λx _=>xC x lo hi) hl;simp only[rI] at hc;repeat' first|(with_reducible first|refine zz ?_|refine zx ?_|refine zE [0,1,2,3,4,6] ?_)|simp -dsimp|refine CallE.here hc ?_
 rw[Bool.eq_iff_iff];simp;exact exists_congr λx=>and_congr_right λ_=>by omega
theorem Bf (x lo hi:Int):DCall prog G 324 (iv x :: [DC.ptr 0 0,DC.ptr 1 0].map .one) [.row [.im (rI lo)],.row [.im (rI hi)]] (λd o=>d=bv (decide (x<lo)||decide (hi<x))/\o=[.row [.im (rI lo)],.row [.im (rI hi)]]):=by
 refine h9 func324 rfl ntmps324 (by simp) rfl ?_;simp only[rI];have hs:=trivial;repeat' first|(with_reducible first|refine zz ?_|refine zr ?_|refine zE [0,1,2,4] ?_)|simp -dsimp[hs]|with_reducible refine j5 ?_ ?_<;>intro h<;>have h0:=h<;>(try simp only[i7] at h)<;>have h2:=h<;>(try simp at h2)<;>replace hs:=za h0 (za h (za h2 hs))|with_reducible refine And.intro ?_ ?_
 all_goals try clear hs
 all_goals simp[*]
theorem En (lo hi:Int) (l:List Int) (hl:l.length<1000000):zP prog G 323 [iv lo,iv hi,r5 l] (bv (l.all λx=>decide (lo<=x)&&decide (x<=hi))):=by
 refine zf func323 ntmps323 ?_;try simp only[iv,iv,r5]
 have hc:=D4 (G:=G) l (λx=>decide (x<lo)||decide (hi<x)) 324 [.ptr 0 0,.ptr 1 0] [.row [.im (rI lo)],.row [.im (rI hi)]] (by simp) (λx _=>Bf x lo hi) hl;simp only[rI] at hc;repeat' first|(with_reducible first|refine zz ?_|refine zx ?_|refine zE [0,1,2,3,4,6] ?_)|simp -dsimp|refine CallE.here hc ?_
 rw[Bool.eq_iff_iff];simp;exact exists_congr λx=>and_congr_right λ_=>by omega
def K0 (d:Dim):Bool:=decide (0<=d.nominal)&&decide (d.nominal<=1000000000)&&(decide (0<=d.lower)&&decide (d.lower<=1000000000))&&(decide (0<=d.upper)&&decide (d.upper<=1000000000))&&decide (d.lower<=d.upper)
theorem qI (d:Dim):zP prog G 321 [gg d] (iv (if K0 d then 0 else 10)):=by
 refine zf func321 ntmps321 ?_;try simp only[gg]
 have hc:=En (G:=G) 0 1000000000 [d.nominal,d.lower,d.upper] (by simp);have hs:=trivial;repeat' first|(with_reducible first|refine zz ?_|refine zr ?_|refine zE [0,1,2,18] ?_)|simp -dsimp[hs]|refine zt hc ?_ ?_ ?_;(focus simp;done);focus (simp;done)|refine i8 ?_ ?_<;>intro h<;>try exact h.elim|with_reducible refine j5 ?_ ?_<;>intro h<;>have h0:=h<;>(try simp only[i7] at h)<;>have h2:=h<;>(try simp at h2)<;>replace hs:=za h0 (za h (za h2 hs))
 all_goals try clear hs
 all_goals simp_all [K0]
 all_goals omega
def Gd (x:Issue):DV:=E1 x.drawing x.letter
attribute [simp] Gd
theorem qL (x:Issue):zP prog G 200 [P8 x] (Gd x):=by
 refine zf func200 ntmps200 ?_;try simp only[P8]
 repeat' first|(with_reducible first|refine zz ?_|refine zx ?_|refine zE [0,1,2] ?_)|simp -dsimp
theorem BO (x:Issue) (hi:x.items.length<=16) (hd:x.dims.length<=8):zP prog G 153 [P8 x] (P8 x):=by
 refine zf func153 ntmps153 ?_;try simp only[P8]
 have h1:=yl (G:=G) x.items (by omega);have h2:=ym (G:=G) x.dims (by omega);repeat' first|(with_reducible first|refine zz ?_|refine zx ?_)|simp -dsimp|refine zq h1 ?_|refine zq h2 ?_|refine zM 1 12 7 [0,1,2] ?_|with_reducible refine zE [0,1,2] ?_
def zu (x:Issue):Bool:=(decide (1<=x.drawing)&&decide (x.drawing<=9999))&&(decide (1<=x.letter)&&decide (x.letter<=8))
theorem JI (x:Issue):zP prog G 315 [P8 x] (bv (zu x)):=by
 refine zf func315 ntmps315 ?_;try simp only[P8]
 have c1:=aC (G:=G) 1 9999 [x.drawing] (by simp);have c2:=aC (G:=G) 1 8 [x.letter] (by simp);have hs:=trivial;repeat' first|(with_reducible first|refine zz ?_|refine zr ?_|refine zE [0,1,2] ?_)|simp -dsimp[hs]|refine zt c1 ?_ ?_ ?_;(focus simp;done);focus (simp;done)|refine zt c2 ?_ ?_ ?_;(focus simp;done);focus (simp;done)|with_reducible refine j5 ?_ ?_<;>intro h<;>have h0:=h<;>(try simp only[i7] at h)<;>have h2:=h<;>(try simp at h2)<;>replace hs:=za h0 (za h (za h2 hs))
 all_goals try clear hs
 all_goals simp_all [zu]
 all_goals omega
def CZ (x:Issue):Bool:=if x.kind=1 then (decide (1<=x.items.length)&&decide (x.items.length<=8))&&decide (x.dims.length=0) else (decide (2<=x.kind)&&decide (x.kind<=3))&&decide (x.dims.length<=4)&&decide (x.items.length=0)
theorem JH (x:Issue) (hk:0<=x.kind/\x.kind<=255):zP prog G 316 [P8 x] (bv (CZ x)):=by
 refine zf func316 ntmps316 ?_;try simp only[P8]
 have c1:=aC (G:=G) 1 8 [(x.items.length:Int)] (by simp);have c2:=aC (G:=G) 2 3 [x.kind] (by simp);have hw:IntKind.i64.wrap x.kind=x.kind:=n4 (by omega) (by omega);have hs:=hw;repeat' first|(with_reducible first|refine zz ?_|refine zr ?_|refine zE [0,1,2,5] ?_)|simp -dsimp[hs]|refine zt c1 ?_ ?_ ?_;(focus simp;done);focus (simp;done)|refine zt c2 ?_ ?_ ?_;(focus simp;done);focus (simp;done)|refine i8 ?_ ?_<;>intro h<;>try exact h.elim|with_reducible refine j5 ?_ ?_<;>intro h<;>have h0:=h<;>(try simp only[i7] at h)<;>have h2:=h<;>(try simp at h2)<;>replace hs:=za h0 (za h (za h2 hs))
 all_goals try clear hs
 all_goals simp_all [CZ]
 all_goals omega
theorem Hy (d:Dim):zP prog G 320 [gg d] (bv (!K0 d)):=by
 refine zf func320 ntmps320 ?_;try simp only[gg]
 have h1:=qI (G:=G) d;cases hd:K0 d<;>simp only[hd] at h1
 ·repeat' first|(with_reducible first|refine zz ?_|refine zx ?_|refine zE [0,1,2] ?_)|simp -dsimp|refine zp h1 ?_
 ·repeat' first|(with_reducible first|refine zz ?_|refine zx ?_|refine zE [0,1,2] ?_)|simp -dsimp|refine zp h1 ?_
theorem JF (x:Issue) (hl:x.dims.length<1000000):zP prog G 318 [P8 x] (bv (x.dims.all K0)):=by
 refine zf func318 ntmps318 ?_;try simp only[P8]
 have c1:=λobjs=>DCall.fnArg2 (cs:=[]) (jB (G:=G) x.dims (λd=>!K0 d) 320 [] objs (by simp) (λd _=>Hy d objs) hl);repeat' first|(with_reducible first|refine zz ?_|refine zx ?_|refine zE [0,1,2] ?_)|simp -dsimp|refine zp c1 ?_
 rw[Bool.eq_iff_iff];simp
end Go.Proofs
namespace Go.Proofs
open Go Go.Ab Tryz
attribute [local simp] F3 setLp
variable {G:LS}
theorem ik (x:Int):zP prog G 215 [iv x] (bv false):=by
 refine zf func215 ntmps215 ?_;try simp only[iv]
 repeat' first|(with_reducible first|refine zz ?_|refine zx ?_|refine zE [0,2] ?_)|simp -dsimp
theorem ru (x:Int):zP prog G 166 [iv x] (bv false):=by
 refine zf func166 ntmps166 ?_;try simp only[iv]
 repeat' first|(with_reducible first|refine zz ?_|refine zx ?_|refine zE [0,2] ?_)|simp -dsimp
theorem GO (x y:Int):zP prog G 165 [iv x,iv y] (bv (decide (x<y))):=by
 refine zf func165 ntmps165 ?_;try simp only[iv,iv]
 have c1:=ik (G:=G) x;have c2:=ik (G:=G) y;repeat' first|(with_reducible first|refine zz ?_|refine zx ?_|refine zE [0,1,4] ?_)|simp -dsimp|refine zp c1 ?_
 all_goals simp_all
def fo (x y:Int):Int:=if x<y then -1 else if y<x then 1 else 0
theorem jC (x y:Int):zP prog G 252 [iv x,iv y] (iv (fo x y)):=by
 refine zf func252 ntmps252 ?_;try simp only[iv,iv]
 have c1:=ik (G:=G) x;have c2:=ik (G:=G) y;repeat' first|(with_reducible first|refine zz ?_|refine zx ?_|refine zE [0,1,4,5,6,11,12,13,16,19] ?_)|simp -dsimp|refine zp c1 ?_|refine zp c2 ?_|refine i8 ?_ ?_<;>intro h<;>try exact h.elim
 all_goals simp_all [fo]
 all_goals omega
theorem mI (x:Issue) (n:Int):zP prog G 251 [P8 x,iv n] (iv (fo x.drawing n)):=by
 refine zf func251 ntmps251 ?_;try simp only[P8,iv]
 have c1:=jC (G:=G) x.drawing n;repeat' first|(with_reducible first|refine zz ?_|refine zx ?_|refine zE [0,1,2,4] ?_)|simp -dsimp|refine zp c1 ?_
end Go.Proofs
namespace Go.Proofs
open Go Go.Ab Tryz
attribute [local simp] F3 setLp
variable {G:LS}
def F9 (d:Int):Int->List Itm->Bool
 | _,[]=>true
 | prev,y :: r=>(decide (1<=y.drawing)&&decide (y.drawing<=9999))&&(decide (1<=y.count)&&decide (y.count<=20)) && !decide (y.drawing=d)&&decide (prev<y.drawing)&&F9 d y.drawing r
def pv (l:List Itm):Nat->Int
 | 0=>0
 | k+1=>((l[k]?).map (·.drawing)).getD 0
@[simp] abbrev QI:List Nat:=[0,1,2,3,4,6,7,8,9,47]
theorem JG (x:Issue) (hl:x.items.length<1000000):zP prog G 317 [P8 x] (bv (F9 x.drawing 0 x.items)):=by
 refine zf func317 ntmps317 ?_;try simp only[P8]
 have hs:=trivial;repeat' first|(with_reducible first|refine zz ?_|refine zE QI ?_)|simp -dsimp[hs]
 refine i6 (ι:={ k:Nat // k<=x.items.length/\F9 x.drawing 0 x.items=F9 x.drawing (pv x.items k) (x.items.drop k) }) (λp=>⟨49,[(1,.one (.ptr 0 0)),(6,.one (.im (.sl (x.items.map B1)))),(7,iv (x.items.length:Int)),(8,iv (p.1:Int))],[.row ((e9 x).map .im)]⟩) (λp=>x.items.length-p.1) ⟨0,by simp[pv]⟩ (zv [1,6,7,8]) ?_;rintro⟨k,hk,hno⟩;simp only[iv,e9,rI,List.map_cons,List.map_nil];by_cases hlt:k<x.items.length
 ·have hx:x.items[k]?=some x.items[k]:=by simp[hlt]
  have hw:=zk k;have hw2:IntKind.i64.wrap ((k:Int)-1)=(k:Int)-1:=n4 (by omega) (by omega);have c1:=aC (G:=G) 1 9999 [x.items[k].drawing] (by simp);have c2:=aC (G:=G) 1 20 [x.items[k].count] (by simp);have hcons:F9 x.drawing 0 x.items=((decide (1<=x.items[k].drawing)&&decide (x.items[k].drawing<=9999))&&(decide (1<=x.items[k].count)&&decide (x.items[k].count<=20)) && !decide (x.items[k].drawing=x.drawing)&&decide (pv x.items k<x.items[k].drawing)&&F9 x.drawing x.items[k].drawing (x.items.drop (k+1))):=by
   rw[hno,List.drop_eq_getElem_cons hlt,F9]
  have hpv1:pv x.items (k+1)=x.items[k].drawing:=by simp[pv,hx]
  by_cases hk0:0<k
  ·have hkx:x.items[k-1]?=some x.items[k-1]:=by simp
   have hcast:(k:Int)-1=((k-1:Nat):Int):=by omega
   have hw3:IntKind.i64.wrap ((k:Int)-1)=((k-1:Nat):Int):=by rw[hw2,hcast]
   have hpv0:pv x.items k=x.items[k-1].drawing:=by
    obtain⟨j,rfl⟩:∃ j,k=j+1:=⟨k-1,by omega⟩
    have:x.items[j]?=some x.items[j]:=by simp
    simp[pv,this]
   rw[hpv0] at hcons;have hs:=za hx (za hw (za hw3 (za hkx hk0)));repeat' first|(with_reducible first|refine zz ?_|refine zr ?_)|simp -dsimp[hs]|refine zq c1 ?_|refine zq c2 ?_|refine zM 4 49 35 QI ?_|with_reducible refine zE QI ?_|refine i8 ?_ ?_<;>intro h<;>try exact h.elim|with_reducible refine j5 ?_ ?_<;>intro h<;>have h0:=h<;>(try simp only[i7] at h)<;>have h2:=h<;>(try simp at h2)<;>replace hs:=za h0 (za h (za h2 hs))
   all_goals try clear hs
   all_goals try omega
   all_goals first
    | (refine zn ⟨k+1,by omega,by clear hno;rw[hcons,hpv1];clear hcons;simp_all;try omega⟩ (zw [1,6,7,8] 1))
    | (clear hno;rw[hcons];clear hcons;simp_all;try omega)
  ·have hpv0:pv x.items k=0:=by
    obtain rfl:k=0:=by omega
    rfl
   rw[hpv0] at hcons;have hs:=za hx (za hw hk0);repeat' first|(with_reducible first|refine zz ?_|refine zr ?_)|simp -dsimp[hs]|refine zq c1 ?_|refine zq c2 ?_|refine zM 4 49 35 QI ?_|with_reducible refine zE QI ?_|refine i8 ?_ ?_<;>intro h<;>try exact h.elim|with_reducible refine j5 ?_ ?_<;>intro h<;>have h0:=h<;>(try simp only[i7] at h)<;>have h2:=h<;>(try simp at h2)<;>replace hs:=za h0 (za h (za h2 hs))
   all_goals try clear hs
   all_goals try omega
   all_goals first
    | (refine zn ⟨k+1,by omega,by clear hno;rw[hcons,hpv1];clear hcons;simp_all;try omega⟩ (zw [1,6,7,8] 1))
    | (clear hno;rw[hcons];clear hcons;simp_all;try omega)
 ·have hs:=trivial;repeat' first|(with_reducible first|refine zz ?_|refine zr ?_|refine zE QI ?_)|simp -dsimp[hs]|refine i8 ?_ ?_<;>intro h<;>try exact h.elim
  all_goals try omega
  rw[hno,List.drop_eq_nil_of_le (by omega)];rfl
end Go.Proofs
namespace Go.Proofs
open Go Go.Ab Tryz
attribute [local simp] F3 setLp
variable {G:LS}
def lb (l:List Int) (x:Int):Nat:=(l.filter λy=>decide (y<x)).length
theorem rk (l:List Int) (x:Int):lb l x<=l.length:=List.length_filter_le _ _
theorem cF:∀ {l:List Int} {x:Int},l.Pairwise (·<=·)->∀ (i:Nat) (y:Int),l[i]?=some y->(y<x↔i<lb l x)
 | [],x,_,i,y,h=>by simp at h
 | a :: l,x,hs,i,y,h=>by
   simp only[List.pairwise_cons] at hs;by_cases ha:a<x
   ·have e:lb (a :: l) x=lb l x+1:=by simp[lb,ha]
    rw[e];cases i with
    | zero=>simp at h;subst h;simp[ha]
    | succ i =>
      have:=cF (x:=x) hs.2 i y (by simpa using h);omega
   ·have hall:∀ z∈l,¬ z<x:=λz hz=>by have:=hs.1 z hz;omega
    have e:lb (a :: l) x=0:=by
     have hf:l.filter (λy=>decide (y<x))=[]:=by
      rw[List.filter_eq_nil_iff];intro z hz;simpa using hall z hz
     simp[lb,ha,hf]
    rw[e];cases i with
    | zero=>simp at h;subst h;simp[ha]
    | succ i =>
      have:=hall y (List.mem_of_getElem? (by simpa using h));omega
theorem tO {l:List Int} {x:Int} (hs:l.Pairwise (·<=·)):x∈l↔l[lb l x]?=some x:=by
 constructor
 ·intro h;obtain⟨i,hi⟩:=List.mem_iff_getElem?.1 h;have h1:=cF (x:=x) hs i x hi;have h2:lb l x<=i:=by omega
  have hlt:=e7 hi;have h3:l[lb l x]?=some l[lb l x]:=by simp
  have h4:=cF (x:=x) hs _ _ h3;have h5:l[lb l x]<=x:=by
   by_cases e:lb l x=i
   ·have:l[lb l x]?=some x:=by rw[e];exact hi
    rw[h3] at this;simp at this;omega
   ·have:=(List.pairwise_iff_getElem.1 hs) (lb l x) i (by omega) hlt (by omega);have h6:=(List.getElem?_eq_some_iff.1 hi).2;omega
  rw[h3]
  congr 1
  omega
 ·exact λh=>List.mem_of_getElem? h
theorem wR:(2:Int) ^ min 1 IntKind.u64.bits=2:=rfl
attribute [simp] wR
theorem Ib {n:Int} (h1:0<=n) (h2:n<=18446744073709551615):IntKind.u64.wrap n=n:=IntWalk.u64_in n ⟨h1,h2⟩
@[simp] abbrev QV:List Nat:=[0,1,4,5,6,7,8,9,15,27]
theorem oW (l:List Int) (x:Int) (hs:l.Pairwise (·<=·)) (hl:l.length<1000000):zP prog G 105 [r5 l,iv x] (.tup [iv (lb l x),bv (decide (x∈l))]):=by
 refine zf func105 ntmps105 ?_;try simp only[r5,iv]
 have hlb:=rk l x;have hs:=trivial;repeat' first|(with_reducible first|refine zz ?_|refine zE QV ?_)|simp -dsimp[hs]
 all_goals try clear hs
 refine i6 (ι:={ p:Nat×Nat // p.1<=lb l x/\lb l x<=p.2/\p.2<=l.length }) (λp=>⟨54,[(0,r5 l),(1,iv x),(6,iv (l.length:Int)),(7,iv (p.1.1:Int)),(8,iv (p.1.2:Int))],[]⟩) (λp=>p.1.2-p.1.1) ⟨(0,l.length),by simp;omega⟩ (zv [0,1,6,7,8]) ?_;rintro⟨⟨i,j⟩,h1,h2,h3⟩;simp only at h1 h2 h3;simp only[iv,r5];have hw1:IntKind.i64.wrap ((i:Int)+(j:Int))=(i:Int)+(j:Int):=n4 (by omega) (by omega);have hw2:IntKind.u64.wrap ((i:Int)+(j:Int))=(i:Int)+(j:Int):=Ib (by omega) (by omega);have hd:((i:Int)+(j:Int)).fdiv 2=(((i+j) / 2:Nat):Int):=by
  rw[Int.fdiv_eq_ediv_of_nonneg _ (by omega)];omega
 have hw3:IntKind.i64.wrap ((((i+j) / 2:Nat):Int))=(((i+j) / 2:Nat):Int):=n4 (by omega) (by omega);have hw4:IntKind.i64.wrap ((((i+j) / 2:Nat):Int)+1)=(((i+j) / 2+1:Nat):Int):=n4 (by omega) (by omega);by_cases hlt:i<j
 ·generalize hm:(i+j) / 2=m at hd hw3 hw4;have hx:l[m]?=some l[m]:=by simp
  have hsp:=cF (x:=x) hs m l[m] hx;have c1:=GO (G:=G) l[m] x;by_cases hc:l[m]<x
  ·simp only[hc,decide_true] at c1;have hs:=za hx (za hw1 (za hw2 (za hw3 (za hw4 (za hd hm)))));repeat' first|(with_reducible first|refine zz ?_|refine zr ?_|refine zE QV ?_)|simp -dsimp[hs]|refine zp c1 ?_|refine i8 ?_ ?_<;>intro h<;>try exact h.elim|with_reducible refine j5 ?_ ?_<;>intro h<;>have h0:=h<;>(try simp only[i7] at h)<;>have h2:=h<;>(try simp at h2)<;>replace hs:=za h0 (za h (za h2 hs))
   all_goals try clear hs
   all_goals try omega
   exact zn ⟨(m+1,j),by simp;omega⟩ (zv [0,1,6,7,8])
  ·simp only[hc,decide_false] at c1;have hs:=za hx (za hw1 (za hw2 (za hw3 (za hw4 (za hd hm)))));repeat' first|(with_reducible first|refine zz ?_|refine zr ?_|refine zE QV ?_)|simp -dsimp[hs]|refine zp c1 ?_|refine i8 ?_ ?_<;>intro h<;>try exact h.elim|with_reducible refine j5 ?_ ?_<;>intro h<;>have h0:=h<;>(try simp only[i7] at h)<;>have h2:=h<;>(try simp at h2)<;>replace hs:=za h0 (za h (za h2 hs))
   all_goals try clear hs
   all_goals try omega
   exact zn ⟨(i,m),by simp;omega⟩ (zv [0,1,6,7,8])
 ·have hi:i=lb l x:=by omega
  subst hi;have c2:=ru (G:=G) x;have hmem:=tO (x:=x) hs;by_cases hn:lb l x<l.length
  ·have hx:l[lb l x]?=some l[lb l x]:=by simp[hn]
   have c1:=ru (G:=G) l[lb l x];rw[hx] at hmem;have hs:=za hx (za hlt hn);repeat' first|(with_reducible first|refine zz ?_|refine zr ?_|refine zE QV ?_)|simp -dsimp[hs]|refine zp c1 ?_|refine i8 ?_ ?_<;>intro h<;>try exact h.elim|with_reducible refine j5 ?_ ?_<;>intro h<;>have h0:=h<;>(try simp only[i7] at h)<;>have h2:=h<;>(try simp at h2)<;>replace hs:=za h0 (za h (za h2 hs))
   all_goals try clear hs
   all_goals try omega
   all_goals simp_all
  ·rw[List.getElem?_eq_none (by omega)] at hmem;have hs:=za hlt hn;repeat' first|(with_reducible first|refine zz ?_|refine zr ?_|refine zE QV ?_)|simp -dsimp[hs]|refine i8 ?_ ?_<;>intro h<;>try exact h.elim
   all_goals try clear hs
   all_goals try omega
   all_goals simp_all
end Go.Proofs
namespace Go.Proofs
open Go Go.Ab Tryz
attribute [local simp] F3 setLp
variable {G:LS}
@[simp] abbrev QW:List Nat:=[0,1,2,6,7,8,9,10,11,17,31]
theorem gq (l:List Issue) (x:Int) (hs:(l.map (·.drawing)).Pairwise (·<=·)) (hl:l.length<1000000):zP prog G 250 [.one (.im (.sl (l.map e9))),iv x,.one (.im (.fn (.func 251) []))] (.tup [iv (lb (l.map (·.drawing)) x),bv (decide (x∈l.map (·.drawing)))]):=by
 refine zf func250 ntmps250 ?_;try simp only[iv]
 have hlb:=rk (l.map (·.drawing)) x;simp only[List.length_map] at hlb;have hs:=trivial;repeat' first|(with_reducible first|refine zz ?_|refine zE QW ?_)|simp -dsimp[hs]
 all_goals try clear hs
 refine i6 (ι:={ p:Nat×Nat // p.1<=lb (l.map (·.drawing)) x/\lb (l.map (·.drawing)) x<=p.2/\p.2<=l.length }) (λp=>⟨49,[(0,.one (.im (.sl (l.map e9)))),(1,iv x),(2,.one (.im (.fn (.func 251) []))),(8,iv (l.length:Int)),(9,iv (p.1.1:Int)),(10,iv (p.1.2:Int))],[]⟩) (λp=>p.1.2-p.1.1) ⟨(0,l.length),by simp;omega⟩ (zv [0,1,2,8,9,10]) ?_;rintro⟨⟨i,j⟩,h1,h2,h3⟩;simp only at h1 h2 h3;simp only[iv,r5];have hw1:IntKind.i64.wrap ((i:Int)+(j:Int))=(i:Int)+(j:Int):=n4 (by omega) (by omega);have hw2:IntKind.u64.wrap ((i:Int)+(j:Int))=(i:Int)+(j:Int):=Ib (by omega) (by omega);have hd:((i:Int)+(j:Int)).fdiv 2=(((i+j) / 2:Nat):Int):=by
  rw[Int.fdiv_eq_ediv_of_nonneg _ (by omega)];omega
 have hw3:IntKind.i64.wrap ((((i+j) / 2:Nat):Int))=(((i+j) / 2:Nat):Int):=n4 (by omega) (by omega);have hw4:IntKind.i64.wrap ((((i+j) / 2:Nat):Int)+1)=(((i+j) / 2+1:Nat):Int):=n4 (by omega) (by omega);by_cases hlt:i<j
 ·generalize hm:(i+j) / 2=m at hd hw3 hw4;have hx:l[m]?=some l[m]:=by simp
  have hsp:=cF (x:=x) hs m l[m].drawing (by simp[hx]);have c1:=mI (G:=G) l[m] x;by_cases hc:l[m].drawing<x
  ·have hcm:fo l[m].drawing x=-1:=by simp[fo,hc]
   rw[hcm] at c1;have hs:=za hx (za hw1 (za hw2 (za hw3 (za hw4 (za hd hm)))));repeat' first|(with_reducible first|refine zz ?_|refine zr ?_|refine zE QW ?_)|simp -dsimp[hs]|refine zp c1 ?_|refine i8 ?_ ?_<;>intro h<;>try exact h.elim|with_reducible refine j5 ?_ ?_<;>intro h<;>have h0:=h<;>(try simp only[i7] at h)<;>have h2:=h<;>(try simp at h2)<;>replace hs:=za h0 (za h (za h2 hs))
   all_goals try clear hs
   all_goals try omega
   exact zn ⟨(m+1,j),by simp;omega⟩ (zv [0,1,2,8,9,10])
  ·have hcm:¬ fo l[m].drawing x<0:=by simp only[fo,hc,if_false];split<;>omega
   generalize fo l[m].drawing x=q at c1 hcm;have hs:=za hx (za hw1 (za hw2 (za hw3 (za hw4 (za hd hm)))));repeat' first|(with_reducible first|refine zz ?_|refine zr ?_|refine zE QW ?_)|simp -dsimp[hs]|refine zp c1 ?_|refine i8 ?_ ?_<;>intro h<;>try exact h.elim|with_reducible refine j5 ?_ ?_<;>intro h<;>have h0:=h<;>(try simp only[i7] at h)<;>have h2:=h<;>(try simp at h2)<;>replace hs:=za h0 (za h (za h2 hs))
   all_goals try clear hs
   all_goals try omega
   exact zn ⟨(i,m),by simp;omega⟩ (zv [0,1,2,8,9,10])
 ·have hi:i=lb (l.map (·.drawing)) x:=by omega
  subst hi;have hmem:=tO (x:=x) hs;by_cases hn:lb (l.map (·.drawing)) x<l.length
  ·have hx:l[lb (l.map (·.drawing)) x]?=some l[lb (l.map (·.drawing)) x]:=by simp[hn]
   have c1:=mI (G:=G) l[lb (l.map (·.drawing)) x] x;have hq:decide (fo l[lb (l.map (·.drawing)) x].drawing x=0)=decide (x∈l.map (·.drawing)):=by
    rw[decide_eq_decide,hmem,List.getElem?_map,hx];simp only[fo,Option.map_some,Option.some.injEq];split<;>(try split)<;>omega
   generalize fo l[lb (l.map (·.drawing)) x].drawing x=q at c1 hq;have hs:=za hx (za hlt hn);repeat' first|(with_reducible first|refine zz ?_|refine zr ?_|refine zE QW ?_)|simp -dsimp[hs]|refine zp c1 ?_|refine i8 ?_ ?_<;>intro h<;>try exact h.elim
   all_goals try clear hs
   all_goals try omega
   all_goals simp_all
  ·rw[List.getElem?_eq_none (by simp;omega)] at hmem;have hs:=za hlt hn;repeat' first|(with_reducible first|refine zz ?_|refine zr ?_|refine zE QW ?_)|simp -dsimp[hs]|refine i8 ?_ ?_<;>intro h<;>try exact h.elim
   all_goals try clear hs
   all_goals try omega
   all_goals simp_all
def A3 (l:List Issue) (ds:List Int):IC:=.ip [.sl (l.map e9),.sl (ds.map encI)]
theorem Bm (l:List Issue) (ds:List Int) (n:Int) (hs:ds.Pairwise (·<=·)) (hl:ds.length<1000000):zP prog G 197 [.one (.im (A3 l ds)),iv n] (bv (decide (n∈ds))):=by
 refine zf func197 ntmps197 ?_;try simp only[iv]
 have c1:=oW (G:=G) ds n hs hl;simp only[A3];have hs:=trivial;repeat' first|(with_reducible first|refine zz ?_|refine zr ?_|refine zE [0,1,4,6] ?_)|simp -dsimp[hs]|refine zp c1 ?_
 all_goals try clear hs
theorem ms (b:IC) (n:Int):zP prog G 199 [.one (.im b),iv n] (.one (.im (.fn (.func 249) [.ip [b],.ip [rI n]]))):=by
 refine zf func199 ntmps199 ?_;try simp only[iv]
 repeat' first|(with_reducible first|refine zz ?_|refine zx ?_|refine zE [0,1,2,3,4] ?_)|simp -dsimp
end Go.Proofs
namespace Go.Ab
open Go
@[simp] theorem FI {α:Type} (objs:List DObj) (l:List α) (f:α->List IC) (k sz:Nat) (h:k<=l.length) (hf:∀ x,(f x).length=sz) :
 F3 objs (.im (.sl (l.map f))) (k:Int) none sz=some (.im (.sl ((l.drop k).map f))):=by
 simp only[F3,Option.getD_none,List.length_map,Int.toNat_natCast,Int.natCast_eq_zero];rw[if_pos (by omega)];split
 ·rename_i hk;subst hk;simp[List.take_of_length_le]
 ·by_cases hk:k<l.length
  ·simp[hk,hf,List.take_of_length_le,List.map_drop]
  ·have he:k=l.length:=by omega
   subst he;simp
@[simp] theorem FH {α:Type} (objs:List DObj) (l:List α) (f:α->List IC) (k sz:Nat) (h:k<=l.length) :
 F3 objs (.im (.sl (l.map f))) 0 (some (k:Int)) sz=some (.im (.sl ((l.take k).map f))):=by
 simp only[F3,Option.getD_some,List.length_map,Int.toNat_natCast];rw[if_pos (by omega),if_pos trivial,List.map_take]
theorem ur (objs:List DObj) (o g off len:Nat) (lo:Int) (hi:Option Int) (sz:Nat):F3 objs (.vec o g off len) lo hi sz=if 0<=lo/\lo<=hi.getD len/\hi.getD len<=len then match objs[o]? with
 | some (.vec z _ g' _)=>if g=g'/\(z=sz\/len=0) then some (.vec o g (off+lo.toNat) ((hi.getD len).toNat-lo.toNat)) else none
 | _=>none
 else none:=rfl
attribute [simp] ur
def LoopD.at (r:LoopD) (st:LoopState) (pend:Option Code):LoopD:={ r with st:=st,pend:=pend }
theorem LoopD.at_st (r:LoopD) (st:LoopState) (pend:Option Code):(r.at st pend).st=st:=rfl
theorem LoopD.at_pend (r:LoopD) (st:LoopState) (pend:Option Code):(r.at st pend).pend=pend:=rfl
theorem LoopD.at_nt (r:LoopD) (st:LoopState) (pend:Option Code):(r.at st pend).nt=r.nt:=rfl
theorem LoopD.at_tm (r:LoopD) (st:LoopState) (pend:Option Code):(r.at st pend).tm=r.tm:=rfl
theorem LoopD.at_ps (r:LoopD) (st:LoopState) (pend:Option Code):(r.at st pend).ps=r.ps:=rfl
theorem LoopD.at_asg (r:LoopD) (st:LoopState) (pend:Option Code):(r.at st pend).asg=r.asg:=rfl
theorem LoopD.at_body (r:LoopD) (st:LoopState) (pend:Option Code):(r.at st pend).body=r.body:=rfl
theorem LoopD.at_at (r:LoopD) (st st':LoopState) (pend pend':Option Code):(r.at st pend).at st' pend'=r.at st' pend':=rfl
attribute [simp] LoopD.at_st LoopD.at_pend LoopD.at_nt LoopD.at_tm LoopD.at_ps LoopD.at_asg LoopD.at_body LoopD.at_at
theorem zQ (objs:List DObj) (o:Nat) (st:LoopState) (pend:Option Code):setLp objs o st pend=match objs[o]? with
 | some (.loop r)=>objs.set o (.loop (r.at st pend))
 | _=>objs:=rfl
attribute [simp] zQ
theorem R3 {P:Program} {G:LS} {o:Nat} {xs:List DV} {objs:List DObj} {C:DV->List DObj->Prop} {t:Tok C} (h:U0 P G o xs objs C objs[o]?):mW P G o xs objs C t:=h
theorem bj {P:Program} {G:LS} {o m:Nat} {body:Code} {C:DV->List DObj->Prop} {A:DS->Prop} {Q:Exit->DS->Prop} {t:Tok (Z0 (λS'=>A S'/\HL P G o m body C S') Q)} {S:DS} (h1:A S)
 (h2:DT P G ⟨m,some o⟩ body { S with objs:=setLp S.objs o .busy none } (qn o C)):At (Z0 (λS'=>A S'/\HL P G o m body C S') Q) .normal t S:=⟨h1,h2⟩
end Go.Ab
namespace Go.Proofs
open Go Go.Ab Tryz
variable {G:LS}
theorem tn {l:List Issue} {d:Int} (hs:(l.map (·.drawing)).Pairwise (·<=·)):∀ x∈l.drop (lb (l.map (·.drawing)) d),d<=x.drawing:=by
 intro x hx;obtain⟨i,hi⟩:=List.mem_iff_getElem?.1 hx;rw[List.getElem?_drop] at hi;have:=cF (x:=d) hs _ x.drawing (by rw[List.getElem?_map,hi];rfl);omega
theorem tl {l:List Issue} {d:Int} (hs:(l.map (·.drawing)).Pairwise (·<=·)):∀ x∈l.take (lb (l.map (·.drawing)) d),x.drawing<d:=by
 intro x hx;obtain⟨i,hi⟩:=List.mem_iff_getElem?.1 hx;have hlt:i<lb (l.map (·.drawing)) d:=by
  have:=(List.getElem?_eq_some_iff.1 hi).1;simp at this;omega
 rw[List.getElem?_take_of_lt hlt] at hi;exact(cF (x:=d) hs i x.drawing (by rw[List.getElem?_map,hi];rfl)).2 hlt
theorem zU {l:List Issue} {d:Int} (lt:Int) (hs:(l.map (·.drawing)).Pairwise (·<=·)):n9 l d lt=n9 (l.drop (lb (l.map (·.drawing)) d)) d lt:=by
 conv=>lhs;rw[<- List.take_append_drop (lb (l.map (·.drawing)) d) l]
 simp only[n9,List.find?_append];rw[List.find?_eq_none.2 λx hx=>?_]
 ·rfl
 ·have:=tl hs x hx;simp;omega
@[simp] abbrev Wi:List Nat:=[0,1,2,3,4,5,6,7,10,11,15,24,25,26,27,39]
theorem wb (l:List Issue) (ds:List Int) (d lt:Int) (hs:(l.map (·.drawing)).Pairwise (·<=·)) (hl:l.length<1000000):zP prog G 152 [.one (.im (A3 l ds)),E1 d lt] (.tup [P8 ((n9 l d lt).getD I8),bv (n9 l d lt).isSome]):=by
 refine zf func152 ntmps152 ?_;try simp only[E1]
 simp only[E1,A3];have c1:=ms (G:=G) (A3 l ds) d;simp only[A3] at c1;have hs:=trivial;repeat' first|(with_reducible first|refine zz ?_|refine zE [0,1,3,4,5,6,10,11,15] ?_)|simp -dsimp[hs]|refine zp c1 ?_
 all_goals try clear hs
 refine U3 (f:=249) (by simp;exact rfl) (by rfl) call249 ?_;generalize hR:LoopD.mk _ _ _ _ _ _ _=R;have hR1:R.st=.ready:=by rw[<- hR]
 have hR2:R.pend=none:=by rw[<- hR]
 have hR3:R.at .ready none=R:=by rw[<- hR];rfl
 have hR4:=(congrArg LoopD.nt hR).symm;have hR5:=(congrArg LoopD.tm hR).symm;have hR6:=(congrArg LoopD.ps hR).symm;have hR7:=(congrArg LoopD.asg hR).symm;have hR8:=(congrArg LoopD.body hR).symm;dsimp only at hR4 hR5 hR6 hR7 hR8;clear hR;refine h9 func249 rfl ntmps249 (by simp) rfl ?_;have hR9:∀ objs:List DObj,(R.tm.map λx=>(x.1,fZ 6 objs x.2))=R.tm:=by intro objs;rw[hR5];simp
 have hlb:=rk (l.map (·.drawing)) d;rw[List.length_map] at hlb;have c2:=gq (G:=G) l d hs hl;have hs:=za hR1 (za hR2 (za hR3 hlb));repeat' first|with_reducible refine zz ?_|simp -dsimp[hs]|refine zq c2 ?_|refine zM 0 41 12 [0,1,2,4,7,24,25,26,27,39] ?_|with_reducible refine zE Wi ?_
 all_goals try clear hs
 rw[<- List.map_drop];have hge:=tn (d:=d) hs;have hfs:=zU (d:=d) lt hs;have hss:((l.drop (lb (l.map (·.drawing)) d)).map (·.drawing)).Pairwise (·<=·):=by rw[List.map_drop];exact hs.drop
 have hsl:l.length-lb (l.map (·.drawing)) d=(l.drop (lb (l.map (·.drawing)) d)).length:=by simp
 rw[hsl];have hsl2:(l.drop (lb (l.map (·.drawing)) d)).length<1000000:=by simp;omega
 generalize l.drop (lb (l.map (·.drawing)) d)=s at hge hfs hss hsl2 ⊢;refine i6 (ι:={ k:Nat // k<=s.length/\n9 l d lt=n9 (s.drop k) d lt }) (λp=>⟨41,[(0,.one (.yld 5)),(2,.one (.im (.ip [rI d]))),(24,.one (.im (.sl (s.map e9)))),(25,iv (s.length:Int)),(26,iv (p.1:Int))],[.row [.im (rI d),.im (rI lt)],.vec 0 [] 0 true,.vec 0 [] 0 true,.row ((rI 0 :: rI 0 :: [IC.raw (.int .u8 0)]).map .im++[.vec 1 0 0 0,.vec 2 0 0 0]),.row [.im (rB false)],.loop R]⟩) (λp=>s.length-p.1) ⟨0,by simp[hfs]⟩ (zv [0,2,24,25,26]) ?_;rintro⟨k,hk,hno⟩;simp only[iv];by_cases hlt:k<s.length
 ·have hx:s[k]?=some s[k]:=by simp[hlt]
  have hw:=zk k;have hcons:n9 l d lt=if (s[k].drawing==d&&s[k].letter==lt)=true then some s[k] else n9 (s.drop (k+1)) d lt:=by
   rw[hno,List.drop_eq_getElem_cons hlt];simp only[n9,List.find?_cons];split<;>simp_all
  by_cases hd:s[k].drawing=d
  ·have c3:=qL (G:=G) s[k];simp only[Gd,P8,e9,rI,List.map_cons,List.map_nil,hd] at c3;have hs:=za hR1 (za hR2 (za hR3 (za hx (za hw (za hd hlt)))));repeat' first|(with_reducible first|refine zz ?_|refine zr ?_ (by simp -dsimp[D3,hs];exact rfl))|simp -dsimp[D3,hs]|with_reducible refine At.yield_end ?_;simp -dsimp[hs]|with_reducible refine At.yield_ret ?_;simp -dsimp[hs]|refine bj ?_ ?_<;>simp -dsimp[hs]|refine R3 ?_;simp -dsimp[U0,hR4,hR5,hR6,hR7,hR8,hs]|with_reducible show D3 _ _ _ _ _ _ _ _;simp -dsimp[D3,hs]|refine zq c3 ?_|refine zM 3 18 4 [0,1,3,4,5,6,10,11,15] ?_|with_reducible refine zE Wi ?_|refine i8 ?_ ?_<;>intro h<;>try exact h.elim
   all_goals try clear hs
   ·have h:s[k].letter=lt:=by assumption
    have hf:n9 l d lt=some s[k]:=by rw[hcons,if_pos (by simp[hd,h])]
    simp[hf,hd]
   ·have h:¬ s[k].letter=lt:=by assumption
    have hf:n9 l d lt=n9 (s.drop (k+1)) d lt:=by rw[hcons,if_neg (by simp[hd,h])]
    exact zn ⟨k+1,by omega,hf⟩ (zw [0,2,24,25,26] 6 (by simp[hR9]))
  ·have hnone:n9 l d lt=none:=by
    rw[hno,n9,List.find?_eq_none];intro x hxm;obtain⟨i,hi⟩:=List.mem_iff_getElem?.1 hxm;rw[List.getElem?_drop] at hi;have h1:s[k].drawing<=x.drawing:=by
     rcases Nat.eq_zero_or_pos i with rfl|hp
     ·rw[Nat.add_zero,hx] at hi;cases hi;exact Int.le_refl _
     ·have hlt2:=(List.getElem?_eq_some_iff.1 hi).1;have:=(List.pairwise_iff_getElem.1 hss) k (k+i) (by simpa using hlt) (by simpa using hlt2) (by omega);have h6:=(List.getElem?_eq_some_iff.1 hi).2;simp at this;rw[h6] at this;exact this
    have h2:=hge s[k] (List.getElem_mem hlt);simp;omega
   have hs:=za hR1 (za hR2 (za hR3 (za hx (za hw (za hd hlt)))));repeat' first|(with_reducible first|refine zz ?_|refine zr ?_ (by simp -dsimp[D3,hs];exact rfl)|refine zE Wi ?_)|simp -dsimp[D3,hs]|with_reducible show D3 _ _ _ _ _ _ _ _;simp -dsimp[D3,hs]|refine i8 ?_ ?_<;>intro h<;>try exact h.elim
   all_goals try clear hs
   all_goals simp[hnone,I8]
 ·have hnone:n9 l d lt=none:=by rw[hno,List.drop_eq_nil_of_le (by omega)];rfl
  have hs:=za hR1 (za hR2 (za hR3 hlt));repeat' first|(with_reducible first|refine zz ?_|refine zr ?_ (by simp -dsimp[D3,hs];exact rfl)|refine ze ?_ (by simp -dsimp[D3,hs];exact rfl)|refine zE Wi ?_)|simp -dsimp[D3,hs]|with_reducible show D3 _ _ _ _ _ _ _ _;simp -dsimp[D3,hs]|refine i8 ?_ ?_<;>intro h<;>try exact h.elim
  all_goals try clear hs
  all_goals simp[hnone,I8]
end Go.Proofs
namespace Go.Ab
open Go
def kI (n:Int):List Value:=[.int .i64 n]
def n3 (m:List (Int×Int)) (n:Int):Int:=match m with
 | []=>0
 | p :: r=>if p.1=n then p.2 else n3 r n
def N9 (n v:Int):List (Int×Int)->List (Int×Int)
 | []=>[(n,v)]
 | p :: r=>if p.1=n then (n,v) :: r else p :: N9 n v r
def O0 (m:List (Int×Int)):List (List Value×List DC):=m.map λp=>(kI p.1,[.im (rI p.2)])
def aG (m:List (Int×Int)):List (List Value×List IC):=m.map λp=>(kI p.1,[rI p.2])
def J7 (l:List Int):List (List Value×List DC):=l.map λn=>(kI n,[.im (rB true)])
def rP (l:List Int):List (List Value×List IC):=l.map λn=>(kI n,[rB true])
def po (n:Int) (l:List Int):List Int:=if n∈l then l else l++[n]
theorem aP (n m:Int):A8 [.int .i64 n] (kI m)=decide (m=n):=by
 simp only[kI,A8,Bool.and_true];rw[Bool.eq_iff_iff];simp[eq_comm]
@[simp] theorem Kp (m:List (Int×Int)) (n:Int):O3 [.int .i64 n] (O0 m) [.im (.raw (.int .i64 0))]=[.im (.raw (.int .i64 (n3 m n)))]:=by
 induction m with
 | nil=>rfl
 | cons p r ih =>
   have e:O0 (p :: r)=(kI p.1,[.im (rI p.2)]) :: O0 r:=rfl;rw[e];simp only[O3,S8,n3,aP,decide_eq_true_eq] at ih ⊢;split
   ·rfl
   ·exact ih
@[simp] theorem Kk (m:List (Int×Int)) (n v:Int):R5 [.int .i64 n] [.im (.raw (.int .i64 v))] (O0 m)=O0 (N9 n v m):=by
 induction m with
 | nil=>rfl
 | cons p r ih =>
   have e:O0 (p :: r)=(kI p.1,[.im (rI p.2)]) :: O0 r:=rfl;rw[e];simp only[R5,N9,aP,decide_eq_true_eq] at ih ⊢;split
   ·rfl
   ·rw[ih];rfl
@[simp] theorem Kn (l:List Int) (n:Int):O3 [.int .i64 n] (J7 l) [.im (.raw (.bool false))]=[.im (.raw (.bool (decide (n∈l))))]:=by
 induction l with
 | nil=>rfl
 | cons p r ih =>
   have e:J7 (p :: r)=(kI p,[.im (rB true)]) :: J7 r:=rfl;rw[e];simp only[O3,S8,aP,decide_eq_true_eq] at ih ⊢;split
   ·rename_i h;simp[h]
   ·rename_i h;rw[ih];have:(n∈p :: r)=(n∈r):=propext ⟨λh'=>(List.mem_cons.1 h').resolve_left λe=>h e.symm,List.mem_cons_of_mem _⟩;simp only[this]
@[simp] theorem Kj (l:List Int) (n:Int):R5 [.int .i64 n] [.im (.raw (.bool true))] (J7 l)=J7 (po n l):=by
 have gen:∀ l:List Int,(n∈l->R5 [.int .i64 n] [.im (.raw (.bool true))] (J7 l)=J7 l)/\(n∉l->R5 [.int .i64 n] [.im (.raw (.bool true))] (J7 l)=J7 (l++[n])):=by
  intro l;induction l with
  | nil=>exact⟨λh=>by simp at h,λ_=>rfl⟩
  | cons p r ih =>
    have e:J7 (p :: r)=(kI p,[.im (rB true)]) :: J7 r:=rfl;rw[e];simp only[R5,aP,decide_eq_true_eq];constructor
    ·intro h;split
     ·rename_i hp;rw[hp];rfl
     ·rename_i hp;rw[ih.1 ((List.mem_cons.1 h).resolve_left λe=>hp e.symm)]
    ·intro h;rw[if_neg λe=>h (by simp[e]),ih.2 λe=>h (by simp[e])];rfl
 unfold po;split
 ·exact(gen l).1 ‹_›
 ·exact(gen l).2 ‹_›
@[simp] theorem Kr (l:List Int) (n:Int):gW [.int .i64 n] (J7 l)=J7 (l.erase n):=by
 induction l with
 | nil=>rfl
 | cons p r ih =>
   have e:J7 (p :: r)=(kI p,[.im (rB true)]) :: J7 r:=rfl;rw[e];simp only[gW,aP,decide_eq_true_eq];split
   ·rename_i h;subst h;simp
   ·rename_i h;rw[ih,List.erase_cons_tail (by simpa using h)];rfl
@[simp] theorem Jx (l:List Int):(J7 l).length=l.length:=by simp[J7]
@[simp] theorem Jy (l:List (Int×Int)):(O0 l).length=l.length:=by simp[O0]
@[simp] theorem GW (m:List (Int×Int)):fX (aG m)=O0 m:=by simp[fX,aG,O0]
@[simp] theorem GV (l:List Int):fX (rP l)=J7 l:=by simp[fX,rP,J7]
@[simp] theorem Kv (k n:Nat) (objs:List DObj) (m:List (Int×Int)):F1 (λx:List Value×List DC=>(F1 (frz (k+1) n objs) x.2).map λl=>(x.1,l)) (O0 m)=some (aG m):=by
 induction m with
 | nil=>rfl
 | cons p r ih =>
   have e:O0 (p :: r)=(kI p.1,[.im (rI p.2)]) :: O0 r:=rfl;rw[e];simp[F1,ih,aG]
@[simp] theorem Kt (k n:Nat) (objs:List DObj) (l:List Int):F1 (λx:List Value×List DC=>(F1 (frz (k+1) n objs) x.2).map λl=>(x.1,l)) (J7 l)=some (rP l):=by
 induction l with
 | nil=>rfl
 | cons p r ih =>
   have e:J7 (p :: r)=(kI p,[.im (rB true)]) :: J7 r:=rfl;rw[e];simp[F1,ih,rP]
@[simp] theorem IY (n:Nat) (objs:List DObj) (m:List (Int×Int)):((O0 m).map λx=>(x.1,x.2.map (fz n objs)))=O0 m:=by
 simp[O0,fz,DC.lt]
@[simp] theorem IW (n:Nat) (objs:List DObj) (l:List Int):((J7 l).map λx=>(x.1,x.2.map (fz n objs)))=J7 l:=by
 simp[J7,fz,DC.lt]
end Go.Ab
