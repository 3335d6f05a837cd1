/- Part 12 of the proofs. -/
import Derived.Test.YtlmlkkoapahmjaaGreatDoorS08
import Derived.Test.YtlmlkkoapahmjaaGreatDoorS09
import Derived.Test.YtlmlkkoapahmjaaGreatDoorS11
set_option linter.all false
set_option maxHeartbeats 100000000
namespace Go.Ab
open Go
structure Dim where
 nominal:Int
 lower:Int
 upper:Int
 deriving DecidableEq
structure Itm where
 drawing:Int
 count:Int
 deriving DecidableEq
structure Issue where
 drawing:Int
 letter:Int
 kind:Int
 items:List Itm
 dims:List Dim
 deriving DecidableEq
def rI (n:Int):IC:=.raw (.int .i64 n)
def rB (b:Bool):IC:=.raw (.bool b)
def B3 (d:Dim):List IC:=[rI d.nominal,rI d.lower,rI d.upper]
def p7 (x:Itm):List IC:=[rI x.drawing,rI x.count]
def e9 (x:Issue):List IC:=[rI x.drawing,rI x.letter,.raw (.int .u8 x.kind),.sl (x.items.map p7),.sl (x.dims.map B3)]
def encI (n:Int):List IC:=[rI n]
def iv (n:Int):DV:=.one (.im (.raw (.int .i64 n)))
def bv (b:Bool):DV:=.one (.im (.raw (.bool b)))
def n9 (l:List Int):DV:=.one (.im (.sl (l.map encI)))
def A6 (l:List Issue):DV:=.agg [.im (.sl (l.map e9))]
attribute [simp] iv bv n9 A6 rI rB B3 p7 e9 encI
attribute [simp] nQ gz jL aa jI gC jJ gD nM nP jK fb ng F3 fe ii
attribute [simp] nX H2 Z9 gG j5 X1 m8 DS.put C2 C9 ic uQ Df nK pz kW kV rK bR nN yb bU qG DV.cells eg F2 zcells ab L9 an dw P8 DS.keep yY v7 L4 nL L8 cJ fB fzVL W8
theorem rh {p:Prop} {Q:Exit->DS->Prop} {e:Exit} {t:Tok Q} {S:DS} (h:p->At Q e t S):p->At Q e t S:=h
theorem uO (objs:List DObj) (l:List (List IC)):dn objs (.im (.sl l))=some (l8 l):=rfl
theorem rF (objs:List DObj) (o g off len:Nat):dn objs (.vec o g off len)=match objs[o]? with
 | some (.vec _ es g' _)=>if g=g'/\off+len<=es.length then some ((es.drop off).take len) else none
 | _=>none:=by unfold dn;rfl
attribute [simp] uO rF
attribute [simp] ImV.one
theorem Bw (l:List DC):ImV (.agg l)↔∀ d∈l,∃ c,d=.im c:=⟨λh=>by cases h;assumption,.agg l⟩
theorem Bv (l:List DV):ImV (.tup l)↔∀ d∈l,ImV d:=⟨λh=>by cases h;assumption,.tup l⟩
attribute [simp] Bw Bv
attribute [simp] AV AU cR h9 v6 ua Bo P9 Op.operands Call.operands
attribute [simp] rX yL kL DJ pick ak iO iP lO cO
attribute [simp] AC L3 o3 xK uk CQ jD oX DS.drop R9 qd
theorem Gb (a b:Int):(a==b)=decide (a=b):=by by_cases h:a=b<;>simp[h]
theorem Ga (a b:Int):(a != b)=!decide (a=b):=by by_cases h:a=b<;>simp[h]
attribute [simp] Gb Ga
theorem CV {n o off:Nat} {objs:List DObj} (h:o<n):fz n objs (.ptr o off)=.ptr o off:=by simp[fz,DC.lt,h]
theorem CY {n o g i off:Nat} {objs:List DObj} (h:o<n):fz n objs (.ept o g i off)=.ept o g i off:=by simp[fz,DC.lt,h]
theorem CU {n o g off len:Nat} {objs:List DObj} (h:o<n):fz n objs (.vec o g off len)=.vec o g off len:=by simp[fz,DC.lt,h]
theorem xC (x:List IC) (l:List (List IC)):l8 (x :: l)=x.map .im :: l8 l:=rfl
theorem ph (l:List (List IC)) (n:Nat):(∀ e∈l8 l,e.length=n)↔∀ e∈l,e.length=n:=by
 constructor
 ·intro h e he;have:=h (e.map .im) (by simp only[l8,List.mem_map];exact⟨e,he,rfl⟩);simpa using this
 ·exact λh=>eD h
attribute [simp] ph
theorem we {α:Type} (f:α->List IC) (l:List α):(l8 (l.map f)).take l.length=l8 (l.map f):=List.take_of_length_le (by simp[o3])
attribute [simp] CV CY CU xC we
def wY:Option IC->DC
 | some c=>.im c
 | none=>.dead
theorem AJ {n o g off len:Nat} {objs:List DObj} (h:n<=o):fz n objs (.vec o g off len)=wY (frz 20 n objs (.vec o g off len)):=by
 have h1:DC.lt n (.vec o g off len)=false:=by simp[DC.lt];omega
 simp only[fz,h1];cases frz 20 n objs (.vec o g off len)<;>rfl
theorem AK {n o off:Nat} {objs:List DObj} (h:n<=o):fz n objs (.ptr o off)=wY (frz 20 n objs (.ptr o off)):=by
 have h1:DC.lt n (.ptr o off)=false:=by simp[DC.lt];omega
 simp only[fz,h1];cases frz 20 n objs (.ptr o off)<;>rfl
theorem Da (k n:Nat) (objs:List DObj) (c:IC):frz (k+1) n objs (.im c)=some c:=rfl
theorem AN (k n o g off len:Nat) (objs:List DObj):frz (k+1) n objs (.vec o g off len)=if n<=o then match objs[o]? with
 | some (.vec _ es g' _)=>if g=g'/\off+len<=es.length then (J4 (J4 (frz k n objs)) ((es.drop off).take len)).map .sl else none
 | _=>none
 else none:=rfl
theorem AO (k n o off:Nat) (objs:List DObj):frz (k+1) n objs (.ptr o off)=if n<=o then match objs[o]? with
 | some (.row c)=>if off<=c.length then (J4 (frz k n objs) (c.drop off)).map .ip else none
 | _=>none
 else none:=rfl
theorem Fd {n:Nat} {f:Fn} {caps:List DC} {objs:List DObj}:fz n objs (.fn f caps)=if DC.ltL n caps=true then .fn f caps else wY (frz 20 n objs (.fn f caps)):=by
 have h1:DC.lt n (.fn f caps)=DC.ltL n caps:=rfl;simp only[fz,h1];split
 ·rfl
 ·cases frz 20 n objs (.fn f caps)<;>rfl
theorem Db (k n:Nat) (objs:List DObj) (f:Fn) (caps:List DC):frz (k+1) n objs (.fn f caps)=(J4 (frz k n objs) caps).map (.fn f):=rfl
theorem CW {n o:Nat} {objs:List DObj} (h:o<n):fz n objs (.map o)=.map o:=by simp[fz,DC.lt,h]
theorem AL {n o:Nat} {objs:List DObj} (h:n<=o):fz n objs (.map o)=wY (frz 20 n objs (.map o)):=by
 have h1:DC.lt n (.map o)=false:=by simp[DC.lt];omega
 simp only[fz,h1];cases frz 20 n objs (.map o)<;>rfl
theorem AP (k n o:Nat) (objs:List DObj):frz (k+1) n objs (.map o)=if n<=o then match objs[o]? with
 | some (.map ks es)=>(J4 (λx=>(J4 (frz k n objs) x.2).map λl=>(x.1,l)) es).map (.mp (L5 ks))
 | _=>none
 else none:=rfl
theorem CT {n o:Nat} {objs:List DObj} (h:o<n):fz n objs (.yld o)=.yld o:=by simp[fz,DC.lt,h]
theorem CX {n o:Nat} {objs:List DObj} (h:o<n):fz n objs (.itr o)=.itr o:=by simp[fz,DC.lt,h]
attribute [simp] Fd Db CW AL AP CT CX DC.ltL DC.lt
attribute [simp] wY AJ AK Da AN AO J4
theorem i6:(∀ (p:Prop) [Decidable p],decide p=true↔p)/\(∀ (p:Prop) [Decidable p],decide p=false↔¬p)/\(∀ a b:Bool,(a&&b)=true↔a=true/\b=true)/\(∀ a b:Bool,(a&&b)=false↔a=false\/b=false)/\(∀ a b:Bool,(a||b)=true↔a=true\/b=true)/\(∀ a b:Bool,(a||b)=false↔a=false/\b=false)/\(∀ a:Bool,(!a)=true↔a=false)/\(∀ a:Bool,(!a)=false↔a=true)/\(∀ (α:Type) [BEq α] [LawfulBEq α] (a b:α),(a==b)=true↔a=b)/\(∀ (α:Type) [BEq α] [LawfulBEq α] (a b:α),(a==b)=false↔a≠b)/\(false=true↔False)/\(true=false↔False):=
 ⟨λ_=>decide_eq_true_iff,λ_=>decide_eq_false_iff_not,λ_ _=>Bool.and_eq_true_iff,λa b=>by cases a<;>cases b<;>decide,λa b=>by cases a<;>cases b<;>decide,λa b=>by cases a<;>cases b<;>decide,λa=>by cases a<;>decide,λa=>by cases a<;>decide,λ_ _ _ _ _=>beq_iff_eq,λ_ _ _ _ _=>beq_eq_false_iff_ne,by decide,by decide⟩
abbrev tT:=@At.seq
abbrev GU:=@At.then_ret
abbrev Ee:=@At.then_exit
abbrev Dv:=@At.block_end
abbrev GT:=@At.block_ret
abbrev Ed:=@At.block_exit
abbrev Gu:=@At.block_out
abbrev Hm:=@At.scope_ret
abbrev tS:=@yW
abbrev zU:=@qa
abbrev Hl:=@pX
abbrev BA:=@tl
abbrev Hk:=@pZ
abbrev Ec:=@tn
abbrev Gt:=@yX
abbrev za:=@And.intro
class Zs (A:Prop) (B:outParam Prop):Prop where
 go:B->A
theorem zz {A B:Prop} [h:Zs A B] (b:B):A:=h.go b
section
variable {P:Program} {G:Hn} {n:Cx} {S:DS} {Q:Exit->DS->Prop}
instance {y:Code}:Zs (At (W8 (λS'=>DT P G n y S' Q) Q) .normal ⟨⟩ S) (DT P G n y S Q):=⟨At.seq⟩
instance {next:DS->Prop}:Zs (At (W8 next Q) .ret ⟨⟩ S) (At Q .ret ⟨⟩ S):=⟨At.then_ret⟩
instance {next:DS->Prop} {id:Nat}:Zs (At (W8 next Q) (.exit id) ⟨⟩ S) (At Q (.exit id) ⟨⟩ S):=⟨At.then_exit⟩
instance {id:Nat}:Zs (At (W7 id Q) .normal ⟨⟩ S) (At Q .normal ⟨⟩ S):=⟨At.block_end⟩
instance {id:Nat}:Zs (At (W7 id Q) .ret ⟨⟩ S) (At Q .ret ⟨⟩ S):=⟨At.block_ret⟩
instance {id:Nat}:Zs (At (W7 id Q) (.exit id) ⟨⟩ S) (At Q .normal ⟨⟩ S):=⟨At.block_exit⟩
instance :Zs (At (cN Q) .normal ⟨⟩ S) (At Q .normal ⟨⟩ S):=⟨At.scope_end⟩
instance :Zs (At (cN Q) .ret ⟨⟩ S) (At Q .ret ⟨⟩ S):=⟨At.scope_ret⟩
instance {id:Nat}:Zs (At (cN Q) (.exit id) ⟨⟩ S) (At Q (.exit id) ⟨⟩ S):=⟨At.scope_exit⟩
instance {x y:Code}:Zs (DT P G n (.seq x y) S Q) (DT P G n x S (W8 (λS'=>DT P G n y S' Q) Q)):=⟨yW⟩
instance {id:Nat} {c:Code}:Zs (DT P G n (.block id c) S Q) (DT P G n c S (W7 id Q)):=⟨qa⟩
instance {c:Code}:Zs (DT P G n (.scope c) S Q) (DT P G n c S (cN Q)):=⟨pX⟩
instance :Zs (DT P G n .skip S Q) (At Q .normal ⟨⟩ S):=⟨tl⟩
instance {l:Nat}:Zs (DT P G n (.label l) S Q) (At Q .normal ⟨⟩ S):=⟨pZ⟩
instance {id:Nat}:Zs (DT P G n (.exit id) S Q) (At Q (.exit id) ⟨⟩ S):=⟨tn⟩
instance :Zs (DT P G n .ret S Q) (At Q .ret ⟨⟩ S):=⟨yX⟩
theorem zx {rs:List ResultVar} {K:DV->List DObj->Prop} {ds:List DV} (hq:K (L8 ds) S.objs) (h:L4 P S rs=some ds:=by simp -dsimp;exact rfl):At (BO P rs K) .ret ⟨⟩ S:=At.fn_ret h hq
theorem zy {rs:List ResultVar} {K:DV->List DObj->Prop} {ds:List DV} (hq:K (L8 ds) S.objs) (h:L4 P S rs=some ds:=by simp -dsimp;exact rfl):At (BO P rs K) .normal ⟨⟩ S:=At.fn_end h hq
theorem zr {rs:List ResultVar} {K:DV->List DObj->Prop} {ds:List DV} (hq:K (L8 ds) S.objs) (h:L4 P S rs=some ds:=by simp -dsimp[hs];exact rfl):At (BO P rs K) .ret ⟨⟩ S:=At.fn_ret h hq
theorem ze {rs:List ResultVar} {K:DV->List DObj->Prop} {ds:List DV} (hq:K (L8 ds) S.objs) (h:L4 P S rs=some ds:=by simp -dsimp[hs];exact rfl):At (BO P rs K) .normal ⟨⟩ S:=At.fn_end h hq
theorem i7 {c:Operand} {x y:Code} {b:Bool} {p q:Prop} (ht:p->DT P G n x S Q) (hf:q->DT P G n y S Q) (hc:j5 G S c=some (.one (.im (.raw (.bool b)))):=by exact rfl) (hp:b=true->p:=by intro h;first|(simp only[i6] at h;exact h)|exact (by simp only[i6] at h:False)|exact h) (hq:b=false->q:=by intro h;first|(simp only[i6] at h;exact h)|exact (by simp only[i6] at h:False)|exact h):DT P G n (.cond c x y) S Q:=N9 hc (λh=>ht (hp h)) λh=>hf (hq h)
theorem zM {l:List Oper} (id nt nq:Nat) (ks:List Nat)
 (h:Bo P G (l.map (·.dst)) (l.take nq) S (λS'=>nX P G (l.map (·.dst)) (l.drop nq) S' (λS''=>At Q .normal ⟨⟩ (S''.keep ks)) ⟨⟩) ⟨⟩) (hm:P.follows .mixedOrders=true:=by exact mixed) (hnt:S.nt=nt:=by rfl) (hB:fT nt nq l=true:=by kernel_rfl):DT P G n (.region id l.toArray true) S Q:=lA nq ks hm hnt hB h
end
abbrev zP (P:Program) (G:Hn) (f:FuncId) (av:List DV) (r:DV):Prop:=∀ objs:List DObj,DCall P G f av objs (λd o=>d=r/\o=objs)
theorem zf {P:Program} {G:Hn} {f:FuncId} {fn:Func} {c:Code} {nt:Nat} {args:List DV} {d0:DV} {rs:List ResultVar} (hf:P.funcs[f]?=some fn) (hnt:fn.ntmps=nt) (h:DT P G ⟨([]:List DObj).length,none⟩ c ⟨nt,cJ args 0,[]⟩ (BO P rs (λd o=>fB 0 o d=d0))) (hb:fn.body=some c:=by exact rfl) (hargs:args.length<=nt:=by simp) (hrs:fn.results.toList=rs:=by exact rfl) (ha:∀ d∈args,ImV d:=by simp) (hd:ImV d0:=by simp):zP P G f args d0:=λobjs=>DCall.frame (i8 hf hb hnt hargs hrs h) ha hd objs
abbrev zp:=@CallE.pure
abbrev zt:=@CallE.thaw
abbrev zh:=@CallE.here
abbrev zq:=@cb
abbrev zE:=@B0
theorem zw {G:Hn} {n:Cx} {S S':DS} (ks:List Nat) (m:Nat) (h:(S.keep ks).drop m=S':=by simp) (hm:m<=S.objs.length:=by simp) (hn:n.n<=m:=by simp):Weak G n S S':=Weak.of_drop ks m hm hn h
theorem zv {G:Hn} {n:Cx} {S S':DS} (ks:List Nat) (h:S.keep ks=S':=by simp):Weak G n S S':=Weak.of_keep ks h
theorem zn {G:Hn} {n:Cx} {S:DS} {Q:Exit->DS->Prop} {ι:Type} {I:ι->DS} {m:ι->Nat} {i:ι} (j:ι) (h2:Weak G n S (I j)) (h1:m j<m i:=by first|omega|(simp only;omega)|(simp;omega)):At (W8 (λS'=>yN G n I m i S') Q) .normal ⟨⟩ S:=At.round j h1 h2
end Go.Ab
namespace Go.Proofs
open Go Go.Ab Tryz
attribute [local simp] D7 setLp
theorem m9 {n:Int} (h1:-9223372036854775808<=n) (h2:n<=9223372036854775807):IntKind.i64.wrap n=n:=IntWalk.i64_in n ⟨h1,h2⟩
theorem zk (k:Nat) (h:k<4611686018427387904:=by omega):IntKind.i64.wrap ((k:Int)+1)=((k+1:Nat):Int):=m9 (by omega) (by omega)
variable {G:Hn}
theorem aY (n lo hi:Int) (objs:List DObj):DCall prog G 140 [iv n,iv lo,iv hi] objs (λd objs'=>d=bv (decide (lo<=n)&&decide (n<=hi))/\objs'=objs):=by
 refine DCall.frame ?_ (by simp) (by simp) objs;refine i8 func140 rfl ntmps140 (by simp) rfl ?_;simp only[iv];have hs:=trivial;repeat' first|(with_reducible first|refine zz ?_|refine zr ?_|refine zE [0,1,2,6] ?_)|simp -dsimp[hs]|with_reducible refine j0 ?_ ?_<;>intro h<;>have h0:=h<;>(try simp only[i6] at h)<;>have h2:=h<;>(try simp at h2)<;>replace hs:=za h0 (za h (za h2 hs))
 all_goals simp[bv, *]
def idx (l:List Int) (x:Int):Int:=match l.idxOf? x with|some i=>i|none=>-1
theorem sU {l:List Int} {x:Int} {k:Nat} (h:l[k]?=some x) (hno:∀ j,j<k->l[j]?≠some x):idx l x=k:=by
 have:l.idxOf? x=some k:=by
  rw[List.idxOf?,List.findIdx?_eq_some_iff_getElem];obtain⟨hlt,he⟩:=List.getElem?_eq_some_iff.1 h;refine⟨hlt,by simp[he],λj hj=>?_⟩;have:=hno j hj;rw[List.getElem?_eq_getElem (by omega)] at this;simpa using this
 simp[idx,this]
theorem xD {l:List Int} {x:Int} (hno:∀ j,j<l.length->l[j]?≠some x):idx l x=-1:=by
 have:l.idxOf? x=none:=by
  rw[List.idxOf?,List.findIdx?_eq_none_iff];intro y hy;obtain⟨j,hj⟩:=List.mem_iff_getElem?.1 hy;have hlt:=e7 hj;have:=hno j hlt;rw[hj] at this;simpa using this
 simp[idx,this]
theorem bS (l:List Int) (x:Int) (hl:l.length<1000000) (objs:List DObj):DCall prog G 91 [n9 l,iv x] objs (λd objs'=>d=iv (idx l x)/\objs'=objs):=by
 refine DCall.frame ?_ (by simp) (by simp) objs;refine i8 func91 rfl ntmps91 (by simp) rfl ?_;simp only[n9,iv];have hs:=trivial;repeat' first|(with_reducible first|refine zz ?_|refine zE [0,1,4,5,9,17] ?_)|simp -dsimp[hs]
 refine g9 (ι:={ k:Nat // k<=l.length/\∀ j,j<k->l[j]?≠some x }) (λk=>⟨19,[(0,n9 l),(1,iv x),(4,iv 0),(5,iv (k.1:Int))],[]⟩) (λk=>l.length-k.1) ⟨0,by simp,by simp⟩ (zv [0,1,4,5] (by simp[n9,iv])) ?_;rintro⟨k,hk,hno⟩;simp only[n9,iv];by_cases hlt:k<l.length
 ·have hx:l[k]?=some l[k]:=by simp[hlt]
  have hw:=zk k;have hs:=za hx hw;repeat' first|(with_reducible first|refine zz ?_|refine zr ?_ (by simp -dsimp[encI,rI,hs];exact rfl)|refine zE [0,1,4,5,9,17] ?_)|simp -dsimp[encI,rI,hs]|refine i7 ?_ ?_<;>intro h<;>try exact h.elim
  all_goals try clear hs
  all_goals try omega
  ·exact(sU (by rw[hx];simp[*]) hno).symm
  ·refine⟨⟨k+1,by omega,λj hj=>?_⟩,?_,Weak.of_keep [0,1,4,5] (by simp[n9,iv])⟩
   ·by_cases e:j=k
    ·subst e;simp[hx, *]
    ·exact hno j (by omega)
   ·simp;omega
 ·have hs:=trivial;repeat' first|(with_reducible first|refine zz ?_|refine zr ?_|refine zE [0,1,4,5,9,17] ?_)|simp -dsimp[hs]|refine i7 ?_ ?_<;>intro h<;>try exact h.elim
  all_goals try omega
  exact(xD λj hj=>hno j (by omega)).symm
end Go.Proofs
namespace Go.Proofs
open Go Go.Ab Tryz
attribute [local simp] D7 setLp
variable {G:Hn}
theorem mixed:prog.follows .mixedOrders=true:=by kernel_rfl
def J5 (x:Issue):DV:=.agg ((e9 x).map .im)
attribute [simp] J5
theorem Ap (l:List Itm):∀ e∈l.map p7,e.length=2:=by simp[p7]
theorem CO (l:List Dim):∀ e∈l.map B3,e.length=3:=by simp[B3]
theorem oh (x:Issue) (hi:x.items.length<=16) (hd:x.dims.length<=8) (objs:List DObj):DCall prog G 216 [J5 x] objs (λd objs'=>d=J5 x/\objs'=objs):=by
 refine DCall.frame ?_ (by simp) (by simp) objs;refine i8 func216 rfl ntmps216 (by simp) rfl ?_;try simp only[J5]
 have h1:=Ap x.items;have h2:=CO x.dims;have hs:=trivial;repeat' first|(with_reducible first|refine zz ?_|refine And.intro (by omega) ?_|refine zr ?_ (by simp -dsimp[e9,rI,hs];exact rfl))|simp -dsimp[e9,rI,hs]|refine zM 1 14 9 [0,1,2] ?_|with_reducible refine zE [0,1,2] ?_
end Go.Proofs
namespace Go.Proofs
open Go Go.Ab Tryz
attribute [local simp] D7 setLp
variable {G:Hn}
theorem sT (x:Issue):J5 x=.agg [.im (rI x.drawing),.im (rI x.letter),.im (.raw (.int .u8 x.kind)),.im (.sl (x.items.map p7)),.im (.sl (x.dims.map B3))]:=rfl
def gQ (l:List Issue):Prop:=l.length<=80/\∀ x∈l,x.items.length<=16/\x.dims.length<=8
theorem BQ (l:List Issue) (hl:gQ l) (objs:List DObj):DCall prog G 168 [A6 l] objs (λd objs'=>d=A6 l/\objs'=objs):=by
 refine DCall.frame ?_ (by simp) (by simp) objs;refine i8 func168 rfl ntmps168 (by simp) rfl ?_;obtain⟨hl1,hl2⟩:=hl;simp only[A6];have hs:=trivial;repeat' first|(with_reducible first|refine zz ?_|refine zE [0,1,2,3,4,9] ?_)|simp -dsimp[hs]
 all_goals try clear hs
 refine g9 (ι:={ p:Nat×Nat×Nat×Bool // p.1<=l.length/\(p.2.2.1=5\/p.2.2.2=true) }) (λp=>⟨24,[(1,.one (.ptr 0 0)),(2,.one (.ptr 2 0)),(3,.one (.ptr 4 0)),(4,iv (p.1.1:Int))],[.row [.im (.sl (l.map e9))],.vec 0 [] 0 true,.row [.vec 1 0 0 0],.vec p.1.2.2.1 (l8 ((l.take p.1.1).map e9)) p.1.2.1 p.1.2.2.2,.row [.vec 3 p.1.2.1 0 p.1.1]]⟩) (λp=>l.length-p.1.1) ⟨(0,0,0,true),by simp⟩ (zv [1,2,3,4] (by simp[iv])) ?_;rintro⟨⟨k,g,sz,nl⟩,hk,hz⟩;simp only at hk hz;simp only[iv];have htk:(l8 ((l.map e9).take k)).take k=l8 ((l.map e9).take k):=List.take_of_length_le (by simp[o3];omega);by_cases hlt:k<l.length
 ·have hx:l[k]?=some l[k]:=by simp[hlt]
  have hw:=zk k;have hc:=λobjs=>oh (G:=G) l[k] (hl2 _ (by simp)).1 (hl2 _ (by simp)).2 objs;have hmin:min k l.length=k:=Nat.min_eq_left (by omega);simp only[sT] at hc;have hs:=za hx (za hw (za hz hmin));repeat' first|(with_reducible first|refine zz ?_|refine And.intro (by omega) ?_|refine zr ?_ (by simp -dsimp[e9,rI,hs];exact rfl))|simp -dsimp[e9,rI,hs]|refine cb hc ?_|refine zM 5 24 9 [0,1,2,3,4,9] ?_|with_reducible refine zE [0,1,2,3,4,9] ?_|refine i7 ?_ ?_<;>intro h<;>try exact h.elim
  all_goals try clear hs
  all_goals try omega
  refine At.round ⟨(k+1,g+1,5,false),by simp;omega⟩ (by simp;omega) (Weak.of_drop [1,2,3,4] 5 (by simp) (by simp) ?_);have hs:(l.map e9).take (k+1)=(l.map e9).take k++[e9 l[k]]:=by
   rw[List.take_succ];simp[hx]
  simp[hs,htk,L3,e9,rI]
 ·have hkl:k=l.length:=by omega
  subst hkl;have hall:(l.map e9).take l.length=l.map e9:=List.take_of_length_le (by simp);rw[hall] at htk;have hs:=za hall htk;repeat' first|(with_reducible first|refine zz ?_|refine zr ?_|refine zE [0,1,2,3,4,9] ?_)|simp -dsimp[hs]|refine i7 ?_ ?_<;>intro h<;>try exact h.elim
  all_goals try clear hs
end Go.Proofs
namespace Go.Proofs
open Go Go.Ab Tryz
attribute [local simp] D7 setLp
variable {G:Hn}
instance (l:List Issue):Decidable (gQ l):=inferInstanceAs (Decidable (_/\_))
theorem AI (l:List Issue) (objs:List DObj):DCall prog G 167 [A6 l] objs (λd objs'=>d=bv (!decide (gQ l))/\objs'=objs):=by
 refine DCall.frame ?_ (by simp) (by simp) objs;refine i8 func167 rfl ntmps167 (by simp) rfl ?_;simp only[A6,bv];have hs:=trivial;repeat' first|(with_reducible first|refine zz ?_|refine zr ?_|refine zE [0,1,2,3,7,12,32] ?_)|simp -dsimp[hs]|refine i7 ?_ ?_<;>intro h<;>try exact h.elim
 all_goals try clear hs
 ·exact λhs=>by have:=hs.1;omega
 ·have hl:l.length<=80:=by omega
  refine g9 (ι:={ k:Nat // k<=l.length/\∀ j x,j<k->l[j]?=some x->x.items.length<=16/\x.dims.length<=8 }) (λp=>⟨33,[(1,.one (.ptr 0 0)),(3,iv (p.1:Int))],[.row [.im (.sl (l.map e9))]]⟩) (λp=>l.length-p.1) ⟨0,by simp⟩ (zv [1,3] (by simp[iv])) ?_;rintro⟨k,hk,hno⟩;simp only[iv];by_cases hlt:k<l.length
  ·have hx:l[k]?=some l[k]:=by simp[hlt]
   have hw:=zk k;have bad:16<l[k].items.length\/8<l[k].dims.length->¬ gQ l:=λh hs=>by have:=hs.2 l[k] (by simp);omega
   have hs:=za hx hw;repeat' first|(with_reducible first|refine zz ?_|refine zr ?_ (by simp -dsimp[e9,rI,hs];exact rfl)|refine zE [0,1,2,3,7,12,32] ?_)|simp -dsimp[e9,rI,hs]|refine i7 ?_ ?_<;>intro h<;>try exact h.elim|with_reducible refine j0 ?_ ?_<;>intro h<;>have h0:=h<;>(try simp only[i6] at h)<;>have h2:=h<;>(try simp at h2)<;>replace hs:=za h0 (za h (za h2 hs))
   all_goals try clear hs
   all_goals first
    | omega
    | exact bad (by omega)
    | skip
   refine zn ⟨k+1,by omega,λj x hj hjx=>?_⟩ (zv [1,3]);by_cases e:j=k
   ·subst e;rw[hx] at hjx;cases hjx;omega
   ·exact hno j x (by omega) hjx
  ·have hs:=hlt;repeat' first|(with_reducible first|refine zz ?_|refine zr ?_|refine zE [0,1,2,3,7,12,32] ?_)|simp -dsimp[hs]|refine i7 ?_ ?_<;>intro h<;>try exact h.elim
   all_goals try clear hs
   exact⟨hl,λx hx'=>by
    obtain⟨j,hj⟩:=List.mem_iff_getElem?.1 hx';exact hno j x (by have:=e7 hj;omega) hj⟩
end Go.Proofs
namespace Go.Proofs
open Go Go.Ab Tryz
attribute [local simp] D7 setLp
variable {G:Hn}
@[simp] abbrev Ll:List Nat:=[0,1,4,5,10,14,25]
theorem qv (l r:List Int) (hl:l.length<1000000) (objs:List DObj):DCall prog G 40 [n9 l,n9 r] objs (λd objs'=>d=bv (decide (l=r))/\objs'=objs):=by
 refine DCall.frame ?_ (by simp) (by simp) objs;refine i8 func40 rfl ntmps40 (by simp) rfl ?_;simp only[n9,bv];have hs:=trivial;repeat' first|(with_reducible first|refine zz ?_|refine zr ?_|refine zE Ll ?_)|simp -dsimp[hs]|refine i7 ?_ ?_<;>intro h<;>try exact h.elim
 ·rintro rfl;omega
 ·have hlen:l.length=r.length:=by omega
  refine g9 (ι:={ k:Nat // k<=l.length/\∀ j,j<k->l[j]?=r[j]? }) (λp=>⟨26,[(0,n9 l),(1,n9 r),(5,iv (p.1:Int))],[]⟩) (λp=>l.length-p.1) ⟨0,by simp⟩ (zv [0,1,5] (by simp[iv,n9])) ?_;rintro⟨k,hk,hno⟩;simp only[iv,n9];by_cases hlt:k<l.length
  ·have hx:l[k]?=some l[k]:=by simp[hlt]
   have hltr:k<r.length:=by omega
   have hy:r[k]?=some r[k]:=by simp[hltr]
   have hw:=zk k;have hs:=za hx (za hy hw);repeat' first|(with_reducible first|refine zz ?_|refine zr ?_ (by simp -dsimp[encI,rI,hs];exact rfl))|simp -dsimp[encI,rI,hs]|refine zM 6 26 9 Ll ?_|with_reducible refine zE Ll ?_|refine i7 ?_ ?_<;>intro h<;>try exact h.elim
   all_goals try omega
   ·rename_i h;rintro rfl;exact h rfl
   ·rename_i h;refine zn ⟨k+1,by omega,λj hj=>?_⟩ (zv [0,1,5]);by_cases e:j=k
    ·subst e;rw[hx,hy,h]
    ·exact hno j (by omega)
  ·have hs:=hlt;repeat' first|(with_reducible first|refine zz ?_|refine zr ?_|refine zE Ll ?_)|simp -dsimp[hs]|refine i7 ?_ ?_<;>intro h<;>try exact h.elim
   refine List.ext_getElem? λj=>?_;by_cases hj:j<k
   ·exact hno j hj
   ·rw[List.getElem?_eq_none (by omega),List.getElem?_eq_none (by omega)]
end Go.Proofs
namespace Go.Proofs
open Go Go.Ab Tryz
attribute [local simp] D7 setLp
variable {G:Hn}
def Ax (l:List Itm):DV:=.one (.im (.sl (l.map p7)))
attribute [simp] Ax
theorem ox (l r:List Itm) (hl:l.length<1000000) (objs:List DObj):DCall prog G 266 [Ax l,Ax r] objs (λd objs'=>d=bv (decide (l=r))/\objs'=objs):=by
 refine DCall.frame ?_ (by simp) (by simp) objs;refine i8 func266 rfl ntmps266 (by simp) rfl ?_;simp only[Ax,bv];have hs:=trivial;repeat' first|(with_reducible first|refine zz ?_|refine zr ?_|refine zE Ll ?_)|simp -dsimp[hs]|refine i7 ?_ ?_<;>intro h<;>try exact h.elim
 ·rintro rfl;omega
 ·have hlen:l.length=r.length:=by omega
  refine g9 (ι:={ k:Nat // k<=l.length/\∀ j,j<k->l[j]?=r[j]? }) (λp=>⟨26,[(0,Ax l),(1,Ax r),(5,iv (p.1:Int))],[]⟩) (λp=>l.length-p.1) ⟨0,by simp⟩ (zv [0,1,5] (by simp[iv,Ax])) ?_;rintro⟨k,hk,hno⟩;simp only[iv,Ax];by_cases hlt:k<l.length
  ·have hx:l[k]?=some l[k]:=by simp[hlt]
   have hltr:k<r.length:=by omega
   have hy:r[k]?=some r[k]:=by simp[hltr]
   have hw:=zk k;have hs:=za hx (za hy hw);repeat' first|(with_reducible first|refine zz ?_|refine zr ?_ (by simp -dsimp[p7,rI,hs];exact rfl))|simp -dsimp[p7,rI,hs]|refine zM 6 26 9 Ll ?_|with_reducible refine zE Ll ?_|refine i7 ?_ ?_<;>intro h<;>try exact h.elim
   all_goals try omega
   ·rename_i h;rintro rfl;simp at h
   ·rename_i h;refine zn ⟨k+1,by omega,λj hj=>?_⟩ (zv [0,1,5]);by_cases e:j=k
    ·subst e;have:l[j]=r[j]:=by cases hc:l[j];cases hd:r[j];rw[hc,hd] at h;simp at h;simp[h]
     rw[hx,hy,this]
    ·exact hno j (by omega)
  ·have hs:=hlt;repeat' first|(with_reducible first|refine zz ?_|refine zr ?_|refine zE Ll ?_)|simp -dsimp[hs]|refine i7 ?_ ?_<;>intro h<;>try exact h.elim
   refine List.ext_getElem? λj=>?_;by_cases hj:j<k
   ·exact hno j hj
   ·rw[List.getElem?_eq_none (by omega),List.getElem?_eq_none (by omega)]
end Go.Proofs
namespace Go.Proofs
open Go Go.Ab Tryz
attribute [local simp] D7 setLp
variable {G:Hn}
@[simp] abbrev Kv:List Nat:=[0,1,2,3,4,5,41,46,59]
theorem oy (x y:Issue) (hx:x.items.length<1000000/\x.dims.length<1000000) (objs:List DObj):DCall prog G 226 [J5 x,J5 y] objs (λd objs'=>d=bv (decide (x=y))/\objs'=objs):=by
 refine DCall.frame ?_ (by simp) (by simp) objs;refine i8 func226 rfl ntmps226 (by simp) rfl ?_;have hc:=λobjs=>ox (G:=G) x.items y.items hx.1 objs;simp only[Ax] at hc;simp only[J5,bv];have hs:=trivial;repeat' first|(with_reducible first|refine zz ?_|refine zr ?_ (by simp -dsimp[e9,rI,bv,hs];exact rfl)|refine zE Kv ?_)|simp -dsimp[e9,rI,bv,hs]|refine CallE.pure hc ?_|refine i7 ?_ ?_<;>intro h<;>try exact h.elim|with_reducible refine j0 ?_ ?_<;>intro h<;>have h0:=h<;>(try simp only[i6] at h)<;>have h2:=h<;>(try simp at h2)<;>replace hs:=za h0 (za h (za h2 hs))
 all_goals try clear hs
 all_goals try (rintro rfl;simp_all;done)
 obtain⟨hx1,hx2⟩:=hx;have e1:x.drawing=y.drawing:=by assumption
 have e2:x.letter=y.letter:=by assumption
 have e3:x.kind=y.kind:=by assumption
 have e4:x.items=y.items:=by assumption
 have e5:x.dims.length=y.dims.length:=by omega
 refine g9 (ι:={ k:Nat // k<=x.dims.length/\∀ j,j<k->x.dims[j]?=y.dims[j]? }) (λp=>⟨60,[(2,.one (.ptr 0 0)),(3,.one (.ptr 1 0)),(5,iv (p.1:Int))],[.row ((e9 x).map .im),.row ((e9 y).map .im)]⟩) (λp=>x.dims.length-p.1) ⟨0,by simp⟩ (zv [2,3,5] (by simp[iv,e9,rI,<- e1,<- e2,<- e3,<- e4])) ?_;rintro⟨k,hk,hno⟩;simp only[iv,e9,rI,List.map_cons,List.map_nil];by_cases hlt:k<x.dims.length
 ·have hx:x.dims[k]?=some x.dims[k]:=by simp[hlt]
  have hltr:k<y.dims.length:=by omega
  have hy:y.dims[k]?=some y.dims[k]:=by simp[hltr]
  have hw:=zk k;have hs:=za hx (za hy hw);repeat' first|(with_reducible first|refine zz ?_|refine zr ?_ (by simp -dsimp[B3,rI,hs];exact rfl))|simp -dsimp[B3,rI,hs]|refine zM 6 60 11 Kv ?_|with_reducible refine zE Kv ?_|refine i7 ?_ ?_<;>intro h<;>try exact h.elim
  all_goals try omega
  ·rename_i h;rintro rfl;simp at h
  ·rename_i h;refine zn ⟨k+1,by omega,λj hj=>?_⟩ (zv [2,3,5]);by_cases e:j=k
   ·subst e;have:x.dims[j]=y.dims[j]:=by cases hc:x.dims[j];cases hd:y.dims[j];rw[hc,hd] at h;simp at h;simp[h]
    rw[hx,hy,this]
   ·exact hno j (by omega)
 ·have hs:=hlt;repeat' first|(with_reducible first|refine zz ?_|refine zr ?_|refine zE Kv ?_)|simp -dsimp[hs]|refine i7 ?_ ?_<;>intro h<;>try exact h.elim
  have:x.dims=y.dims:=by
   refine List.ext_getElem? λj=>?_;by_cases hj:j<k
   ·exact hno j hj
   ·rw[List.getElem?_eq_none (by omega),List.getElem?_eq_none (by omega)]
  cases x;cases y;simp_all
end Go.Proofs
namespace Go.Proofs
open Go Go.Ab Tryz
attribute [local simp] D7 setLp
variable {G:Hn}
@[simp] abbrev Kw:List Nat:=[0,1,2,3,4,5,12,17,31]
theorem BY (l r:List Issue) (hl:gQ l) (objs:List DObj):DCall prog G 174 [A6 l,A6 r] objs (λd objs'=>d=bv (decide (l=r))/\objs'=objs):=by
 refine DCall.frame ?_ (by simp) (by simp) objs;refine i8 func174 rfl ntmps174 (by simp) rfl ?_;obtain⟨hl1,hl2⟩:=hl;simp only[A6,bv];have hs:=trivial;repeat' first|(with_reducible first|refine zz ?_|refine zr ?_|refine zE Kw ?_)|simp -dsimp[hs]|refine i7 ?_ ?_<;>intro h<;>try exact h.elim
 ·rintro rfl;omega
 ·have hlen:l.length=r.length:=by omega
  refine g9 (ι:={ k:Nat // k<=l.length/\∀ j,j<k->l[j]?=r[j]? }) (λp=>⟨32,[(2,.one (.ptr 0 0)),(3,.one (.ptr 1 0)),(5,iv (p.1:Int))],[.row [.im (.sl (l.map e9))],.row [.im (.sl (r.map e9))]]⟩) (λp=>l.length-p.1) ⟨0,by simp⟩ (zv [2,3,5] (by simp[iv])) ?_;rintro⟨k,hk,hno⟩;simp only[iv];by_cases hlt:k<l.length
  ·have hx:l[k]?=some l[k]:=by simp[hlt]
   have hltr:k<r.length:=by omega
   have hy:r[k]?=some r[k]:=by simp[hltr]
   have hw:=zk k;have hb:=hl2 l[k] (by simp);have hc:=λobjs=>oy (G:=G) l[k] r[k] ⟨by omega,by omega⟩ objs;simp only[sT] at hc;have hs:=za hx (za hy hw);repeat' first|(with_reducible first|refine zz ?_|refine zr ?_ (by simp -dsimp[e9,rI,bv,hs];exact rfl))|simp -dsimp[e9,rI,bv,hs]|refine cb hc ?_|refine zM 6 32 12 Kw ?_|with_reducible refine zE Kw ?_|refine i7 ?_ ?_<;>intro h<;>try exact h.elim
   all_goals try omega
   ·rename_i h;rintro rfl;simp at h
   ·rename_i h;refine zn ⟨k+1,by omega,λj hj=>?_⟩ (zv [2,3,5]);by_cases e:j=k
    ·subst e;rw[hx,hy,h]
    ·exact hno j (by omega)
  ·have hs:=hlt;repeat' first|(with_reducible first|refine zz ?_|refine zr ?_|refine zE Kw ?_)|simp -dsimp[hs]|refine i7 ?_ ?_<;>intro h<;>try exact h.elim
   refine List.ext_getElem? λj=>?_;by_cases hj:j<k
   ·exact hno j hj
   ·rw[List.getElem?_eq_none (by omega),List.getElem?_eq_none (by omega)]
end Go.Proofs
namespace Go.Proofs
open Go Go.Ab Tryz
attribute [local simp] D7 setLp
variable {G:Hn}
def J1:Issue:=⟨0,0,0,[],[]⟩
def o2 (l:List Issue) (d lt:Int):Option Issue:=l.find? λx=>x.drawing==d&&x.letter==lt
def B1 (d lt:Int):DV:=.agg [.im (rI d),.im (rI lt)]
attribute [simp] B1
@[simp] abbrev Ja:List Nat:=[0,1,2,3,4,5,6,7,12,31]
theorem kR (l:List Issue) (d lt:Int) (hl:l.length<1000000) (objs:List DObj):DCall prog G 137 [A6 l,B1 d lt] objs (λr objs'=>r=.tup [J5 ((o2 l d lt).getD J1),bv (o2 l d lt).isSome]/\objs'=objs):=by
 refine DCall.frame ?_ (by simp) (by simp) objs;refine i8 func137 rfl ntmps137 (by simp) rfl ?_;simp only[A6,B1,bv,J5];have hs:=trivial;repeat' first|(with_reducible first|refine zz ?_|refine zE Ja ?_)|simp -dsimp[hs]
 refine g9 (ι:={ k:Nat // k<=l.length/\o2 l d lt=o2 (l.drop k) d lt }) (λp=>⟨34,[(2,.one (.ptr 0 0)),(3,.one (.ptr 1 0)),(4,.one (.ptr 4 0)),(6,iv (p.1:Int))],[.row [.im (.sl (l.map e9))],.row [.im (rI d),.im (rI lt)],.vec 0 [] 0 true,.vec 0 [] 0 true,.row ((rI 0 :: rI 0 :: [IC.raw (.int .u8 0)]).map .im++[.vec 2 0 0 0,.vec 3 0 0 0])]⟩) (λp=>l.length-p.1) ⟨0,by simp⟩ (zv [2,3,4,6] (by simp[iv,rI])) ?_;rintro⟨k,hk,hno⟩;simp only[iv];by_cases hlt:k<l.length
 ·have hx:l[k]?=some l[k]:=by simp[hlt]
  have hw:=zk k;have hcons:o2 l d lt=if (l[k].drawing==d&&l[k].letter==lt)=true then some l[k] else o2 (l.drop (k+1)) d lt:=by
   rw[hno,List.drop_eq_getElem_cons hlt];simp only[o2,List.find?_cons];split<;>simp_all
  have hs:=za hx hw;repeat' first|(with_reducible first|refine zz ?_|refine zr ?_ (by simp -dsimp[e9,rI,hs];exact rfl)|refine zE Ja ?_)|simp -dsimp[e9,rI,hs]|refine i7 ?_ ?_<;>intro h<;>try exact h.elim|with_reducible refine j0 ?_ ?_<;>intro h<;>have h0:=h<;>(try simp only[i6] at h)<;>have h2:=h<;>(try simp at h2)<;>replace hs:=za h0 (za h (za h2 hs))
  all_goals try clear hs
  all_goals try omega
  ·have hf:o2 l d lt=some l[k]:=by simp_all
   simp[hf, *]
  ·rename_i h;have hf:o2 l d lt=o2 (l.drop (k+1)) d lt:=by rw[hcons];simp[h]
   exact zn ⟨k+1,by omega,hf⟩ (zw [2,3,4,6] 5 (by simp[rI]))
  ·rename_i h2 h;have hf:o2 l d lt=o2 (l.drop (k+1)) d lt:=by rw[hcons];simp[h2]
   exact zn ⟨k+1,by omega,hf⟩ (zw [2,3,4,6] 5 (by simp[rI]))
 ·have hf:o2 l d lt=none:=by rw[hno,List.drop_eq_nil_of_le (by omega)];rfl
  have hs:=hlt;repeat' first|(with_reducible first|refine zz ?_|refine zr ?_ (by simp -dsimp[e9,rI,hs];exact rfl)|refine zE Ja ?_)|simp -dsimp[e9,rI,hs]|refine i7 ?_ ?_<;>intro h<;>try exact h.elim
  all_goals simp[hf,J1]
end Go.Proofs
namespace Go.Proofs
open Go Go.Ab Tryz
attribute [local simp] D7 setLp
variable {G:Hn}
def I5 {α:Type} (p:α->Bool) (l:List α):Int:=match l.findIdx? p with|some i=>i|none=>-1
theorem I4 {α:Type} {p:α->Bool} {l:List α} {i:Nat} {x:α} (h:l[i]?=some x) (hp:p x=true) (hno:∀ (j:Nat) (x:α),j<i->l[j]?=some x->p x=false):I5 p l=i:=by
 have:l.findIdx? p=some i:=by
  rw[List.findIdx?_eq_some_iff_getElem];obtain⟨hlt,he⟩:=List.getElem?_eq_some_iff.1 h;refine⟨hlt,by rw[he];exact hp,λj hj=>?_⟩;have:=hno j l[j] hj (by simp);simp[this]
 simp[I5,this]
theorem Q4 {α:Type} {p:α->Bool} {l:List α} (hno:∀ (j:Nat) (x:α),l[j]?=some x->p x=false):I5 p l=-1:=by
 have:l.findIdx? p=none:=by
  rw[List.findIdx?_eq_none_iff];intro y hy;obtain⟨j,hj⟩:=List.mem_iff_getElem?.1 hy;exact hno j y hj
 simp[I5,this]
theorem w9 {α:Type} (p:α->Bool) (l:List α):decide (0<=I5 p l)=l.any p:=by
 unfold I5;split
 ·rename_i i h;rw[List.findIdx?_eq_some_iff_getElem] at h;obtain⟨hlt,hp,_⟩:=h;have:l.any p=true:=List.any_eq_true.2 ⟨l[i],by simp,hp⟩;simp[this]
 ·rename_i h;rw[List.findIdx?_eq_none_iff] at h;have:l.any p=false:=by rw[List.any_eq_false];intro x hx;simp[h x hx]
  simp[this]
def xt (x:Itm):DV:=.agg ((p7 x).map .im)
def iF (x:Dim):DV:=.agg ((B3 x).map .im)
attribute [simp] xt iF
@[simp] abbrev La:List Nat:=[0,1,4,5,7,8,9,16]
theorem lL (l:List Int) (p:Int->Bool) (k:Nat) (caps:List DC) (objs:List DObj) (hok:D9 prog k) (hf:∀ x∈l,DCall prog G k (iv x :: caps.map .one) objs (λd o=>d=bv (p x)/\o=objs)) (hl:l.length<1000000):DCall prog G 179 [.one (.im (.sl (l.map encI))),.one (.fn (.func k) caps)] objs (λd o=>d=iv (I5 p l)/\o=objs):=by
 refine i8 func179 rfl ntmps179 (by simp) rfl ?_;have hs:=trivial;repeat' first|(with_reducible first|refine zz ?_|refine zE La ?_)|simp -dsimp[hs]
 refine g9 (ι:={ k:Nat // k<=l.length/\∀ j x,j<k->l[j]?=some x->p x=false }) (λi=>⟨19,[(0,.one (.im (.sl (l.map encI)))),(1,.one (.fn (.func k) caps)),(7,iv (l.length:Int)),(8,iv (i.1:Int))],objs⟩) (λi=>l.length-i.1) ⟨0,by simp⟩ (zv [0,1,7,8]) ?_;rintro⟨i,hi,hno⟩;simp only[iv];by_cases hlt:i<l.length
 ·have hx:l[i]?=some l[i]:=by simp[hlt]
  have hw:=zk i;have hc:=hf l[i] (by simp);simp only[iv,encI,List.map_cons,List.map_nil,bv,rI] at hc;have hs:=za hx (za hw hok);repeat' first|(with_reducible first|refine zz ?_|refine And.intro (by omega) ?_|refine zr ?_|refine zE La ?_)|simp -dsimp[hs]|refine CallE.here hc ?_|refine i7 ?_ ?_<;>intro h<;>try exact h.elim|with_reducible refine And.intro ?_ ?_
  all_goals try omega
  ·exact(I4 hx (by assumption) hno).symm
  ·exact At.round ⟨i+1,by omega,λj x hj hjx=>by
    by_cases e:j=i
    ·subst e;rw[hx] at hjx;cases hjx;assumption
    ·exact hno j x (by omega) hjx⟩ (by simp;omega) (zv [0,1,7,8])
 ·have hs:=trivial;repeat' first|(with_reducible first|refine zz ?_|refine zr ?_|refine zE La ?_)|simp -dsimp[hs]|refine i7 ?_ ?_<;>intro h<;>try exact h.elim|with_reducible refine And.intro ?_ ?_
  all_goals try omega
  exact(Q4 λj x hjx=>hno j x (by have:=e7 hjx;omega) hjx).symm
theorem B9 (l:List Int) (p:Int->Bool) (k:Nat) (caps:List DC) (objs:List DObj) (hok:D9 prog k) (hf:∀ x∈l,DCall prog G k (iv x :: caps.map .one) objs (λd o=>d=bv (p x)/\o=objs)) (hl:l.length<1000000):DCall prog G 122 [.one (.im (.sl (l.map encI))),.one (.fn (.func k) caps)] objs (λd o=>d=bv (l.any p)/\o=objs):=by
 refine i8 func122 rfl ntmps122 (by simp) rfl ?_;have hc:=lL l p k caps objs hok hf hl;repeat' first|(with_reducible first|refine zz ?_|refine zx ?_|refine zE [0,1,4] ?_)|simp -dsimp|refine CallE.here hc ?_|with_reducible refine And.intro ?_ ?_
 simp[w9]
theorem lJ (l:List Itm) (p:Itm->Bool) (k:Nat) (caps:List DC) (objs:List DObj) (hok:D9 prog k) (hf:∀ x∈l,DCall prog G k (xt x :: caps.map .one) objs (λd o=>d=bv (p x)/\o=objs)) (hl:l.length<1000000):DCall prog G 248 [.one (.im (.sl (l.map p7))),.one (.fn (.func k) caps)] objs (λd o=>d=iv (I5 p l)/\o=objs):=by
 refine i8 func248 rfl ntmps248 (by simp) rfl ?_;have hs:=trivial;repeat' first|(with_reducible first|refine zz ?_|refine zE La ?_)|simp -dsimp[hs]
 refine g9 (ι:={ k:Nat // k<=l.length/\∀ j x,j<k->l[j]?=some x->p x=false }) (λi=>⟨19,[(0,.one (.im (.sl (l.map p7)))),(1,.one (.fn (.func k) caps)),(7,iv (l.length:Int)),(8,iv (i.1:Int))],objs⟩) (λi=>l.length-i.1) ⟨0,by simp⟩ (zv [0,1,7,8]) ?_;rintro⟨i,hi,hno⟩;simp only[iv];by_cases hlt:i<l.length
 ·have hx:l[i]?=some l[i]:=by simp[hlt]
  have hw:=zk i;have hc:=hf l[i] (by simp);simp only[xt,p7,List.map_cons,List.map_nil,bv,rI] at hc;have hs:=za hx (za hw hok);repeat' first|(with_reducible first|refine zz ?_|refine And.intro (by omega) ?_|refine zr ?_|refine zE La ?_)|simp -dsimp[hs]|refine CallE.here hc ?_|refine i7 ?_ ?_<;>intro h<;>try exact h.elim|with_reducible refine And.intro ?_ ?_
  all_goals try omega
  ·exact(I4 hx (by assumption) hno).symm
  ·exact At.round ⟨i+1,by omega,λj x hj hjx=>by
    by_cases e:j=i
    ·subst e;rw[hx] at hjx;cases hjx;assumption
    ·exact hno j x (by omega) hjx⟩ (by simp;omega) (zv [0,1,7,8])
 ·have hs:=trivial;repeat' first|(with_reducible first|refine zz ?_|refine zr ?_|refine zE La ?_)|simp -dsimp[hs]|refine i7 ?_ ?_<;>intro h<;>try exact h.elim|with_reducible refine And.intro ?_ ?_
  all_goals try omega
  exact(Q4 λj x hjx=>hno j x (by have:=e7 hjx;omega) hjx).symm
theorem iG (l:List Itm) (p:Itm->Bool) (k:Nat) (caps:List DC) (objs:List DObj) (hok:D9 prog k) (hf:∀ x∈l,DCall prog G k (xt x :: caps.map .one) objs (λd o=>d=bv (p x)/\o=objs)) (hl:l.length<1000000):DCall prog G 195 [.one (.im (.sl (l.map p7))),.one (.fn (.func k) caps)] objs (λd o=>d=bv (l.any p)/\o=objs):=by
 refine i8 func195 rfl ntmps195 (by simp) rfl ?_;have hc:=lJ l p k caps objs hok hf hl;repeat' first|(with_reducible first|refine zz ?_|refine zx ?_|refine zE [0,1,4] ?_)|simp -dsimp|refine CallE.here hc ?_|with_reducible refine And.intro ?_ ?_
 simp[w9]
theorem lM (l:List Dim) (p:Dim->Bool) (k:Nat) (caps:List DC) (objs:List DObj) (hok:D9 prog k) (hf:∀ x∈l,DCall prog G k (iF x :: caps.map .one) objs (λd o=>d=bv (p x)/\o=objs)) (hl:l.length<1000000):DCall prog G 322 [.one (.im (.sl (l.map B3))),.one (.fn (.func k) caps)] objs (λd o=>d=iv (I5 p l)/\o=objs):=by
 refine i8 func322 rfl ntmps322 (by simp) rfl ?_;have hs:=trivial;repeat' first|(with_reducible first|refine zz ?_|refine zE La ?_)|simp -dsimp[hs]
 refine g9 (ι:={ k:Nat // k<=l.length/\∀ j x,j<k->l[j]?=some x->p x=false }) (λi=>⟨19,[(0,.one (.im (.sl (l.map B3)))),(1,.one (.fn (.func k) caps)),(7,iv (l.length:Int)),(8,iv (i.1:Int))],objs⟩) (λi=>l.length-i.1) ⟨0,by simp⟩ (zv [0,1,7,8]) ?_;rintro⟨i,hi,hno⟩;simp only[iv];by_cases hlt:i<l.length
 ·have hx:l[i]?=some l[i]:=by simp[hlt]
  have hw:=zk i;have hc:=hf l[i] (by simp);simp only[iF,B3,List.map_cons,List.map_nil,bv,rI] at hc;have hs:=za hx (za hw hok);repeat' first|(with_reducible first|refine zz ?_|refine And.intro (by omega) ?_|refine zr ?_|refine zE La ?_)|simp -dsimp[hs]|refine CallE.here hc ?_|refine i7 ?_ ?_<;>intro h<;>try exact h.elim|with_reducible refine And.intro ?_ ?_
  all_goals try omega
  ·exact(I4 hx (by assumption) hno).symm
  ·exact At.round ⟨i+1,by omega,λj x hj hjx=>by
    by_cases e:j=i
    ·subst e;rw[hx] at hjx;cases hjx;assumption
    ·exact hno j x (by omega) hjx⟩ (by simp;omega) (zv [0,1,7,8])
 ·have hs:=trivial;repeat' first|(with_reducible first|refine zz ?_|refine zr ?_|refine zE La ?_)|simp -dsimp[hs]|refine i7 ?_ ?_<;>intro h<;>try exact h.elim|with_reducible refine And.intro ?_ ?_
  all_goals try omega
  exact(Q4 λj x hjx=>hno j x (by have:=e7 hjx;omega) hjx).symm
theorem iI (l:List Dim) (p:Dim->Bool) (k:Nat) (caps:List DC) (objs:List DObj) (hok:D9 prog k) (hf:∀ x∈l,DCall prog G k (iF x :: caps.map .one) objs (λd o=>d=bv (p x)/\o=objs)) (hl:l.length<1000000):DCall prog G 319 [.one (.im (.sl (l.map B3))),.one (.fn (.func k) caps)] objs (λd o=>d=bv (l.any p)/\o=objs):=by
 refine i8 func319 rfl ntmps319 (by simp) rfl ?_;have hc:=lM l p k caps objs hok hf hl;repeat' first|(with_reducible first|refine zz ?_|refine zx ?_|refine zE [0,1,4] ?_)|simp -dsimp|refine CallE.here hc ?_|with_reducible refine And.intro ?_ ?_
 simp[w9]
theorem uT (l:List Itm) (hl:l.length<1000000) (objs:List DObj):DCall prog G 126 [.one (.im (.sl (l.map p7)))] objs (λd objs'=>d=.one (.im (.sl (l.map p7)))/\objs'=objs):=by
 refine DCall.frame ?_ (by simp) (by simp) objs;refine i8 func126 rfl ntmps126 (by simp) rfl ?_;repeat' first|(with_reducible first|refine zz ?_|refine And.intro (by omega) ?_|refine zx ?_|refine zE [0,2,4] ?_)|simp -dsimp|refine i7 ?_ ?_<;>intro h<;>try exact h.elim|with_reducible refine rh (λh=>?_);(try simp only[List.map_eq_nil_iff] at h);(try subst h);try simp -dsimp|with_reducible refine And.intro ?_ ?_
 all_goals omega
theorem uU (l:List Dim) (hl:l.length<1000000) (objs:List DObj):DCall prog G 127 [.one (.im (.sl (l.map B3)))] objs (λd objs'=>d=.one (.im (.sl (l.map B3)))/\objs'=objs):=by
 refine DCall.frame ?_ (by simp) (by simp) objs;refine i8 func127 rfl ntmps127 (by simp) rfl ?_;repeat' first|(with_reducible first|refine zz ?_|refine And.intro (by omega) ?_|refine zx ?_|refine zE [0,2,4] ?_)|simp -dsimp|refine i7 ?_ ?_<;>intro h<;>try exact h.elim|with_reducible refine rh (λh=>?_);(try simp only[List.map_eq_nil_iff] at h);(try subst h);try simp -dsimp|with_reducible refine And.intro ?_ ?_
 all_goals omega
end Go.Proofs
namespace Go.Proofs
open Go Go.Ab Tryz
attribute [local simp] D7 setLp
variable {G:Hn}
theorem xB (x lo hi:Int):DCall prog G 211 (iv x :: [DC.ptr 0 0,DC.ptr 1 0].map .one) [.row [.im (rI lo)],.row [.im (rI hi)]] (λd o=>d=bv (decide (x<lo)||decide (hi<x))/\o=[.row [.im (rI lo)],.row [.im (rI hi)]]):=by
 refine i8 func211 rfl ntmps211 (by simp) rfl ?_;simp only[rI];have hs:=trivial;repeat' first|(with_reducible first|refine zz ?_|refine zr ?_|refine zE [0,1,2,4] ?_)|simp -dsimp[hs]|with_reducible refine j0 ?_ ?_<;>intro h<;>have h0:=h<;>(try simp only[i6] at h)<;>have h2:=h<;>(try simp at h2)<;>replace hs:=za h0 (za h (za h2 hs))|with_reducible refine And.intro ?_ ?_
 all_goals try clear hs
 all_goals simp[*]
theorem gl (lo hi:Int) (l:List Int) (hl:l.length<1000000):zP prog G 162 [iv lo,iv hi,n9 l] (bv (l.all λx=>decide (lo<=x)&&decide (x<=hi))):=by
 refine zf func162 ntmps162 ?_;try simp only[iv,iv,n9]
 have hc:=B9 (G:=G) l (λx=>decide (x<lo)||decide (hi<x)) 211 [.ptr 0 0,.ptr 1 0] [.row [.im (rI lo)],.row [.im (rI hi)]] (by simp) (λx _=>xB x lo hi) hl;simp only[rI] at hc;repeat' first|(with_reducible first|refine zz ?_|refine zx ?_|refine zE [0,1,2,3,4,6] ?_)|simp -dsimp|refine CallE.here hc ?_
 rw[Bool.eq_iff_iff];simp;exact exists_congr λx=>and_congr_right λ_=>by omega
theorem uu (x lo hi:Int):DCall prog G 247 (iv x :: [DC.ptr 0 0,DC.ptr 1 0].map .one) [.row [.im (rI lo)],.row [.im (rI hi)]] (λd o=>d=bv (decide (x<lo)||decide (hi<x))/\o=[.row [.im (rI lo)],.row [.im (rI hi)]]):=by
 refine i8 func247 rfl ntmps247 (by simp) rfl ?_;simp only[rI];have hs:=trivial;repeat' first|(with_reducible first|refine zz ?_|refine zr ?_|refine zE [0,1,2,4] ?_)|simp -dsimp[hs]|with_reducible refine j0 ?_ ?_<;>intro h<;>have h0:=h<;>(try simp only[i6] at h)<;>have h2:=h<;>(try simp at h2)<;>replace hs:=za h0 (za h (za h2 hs))|with_reducible refine And.intro ?_ ?_
 all_goals try clear hs
 all_goals simp[*]
theorem Z7 (lo hi:Int) (l:List Int) (hl:l.length<1000000):zP prog G 194 [iv lo,iv hi,n9 l] (bv (l.all λx=>decide (lo<=x)&&decide (x<=hi))):=by
 refine zf func194 ntmps194 ?_;try simp only[iv,iv,n9]
 have hc:=B9 (G:=G) l (λx=>decide (x<lo)||decide (hi<x)) 247 [.ptr 0 0,.ptr 1 0] [.row [.im (rI lo)],.row [.im (rI hi)]] (by simp) (λx _=>uu x lo hi) hl;simp only[rI] at hc;repeat' first|(with_reducible first|refine zz ?_|refine zx ?_|refine zE [0,1,2,3,4,6] ?_)|simp -dsimp|refine CallE.here hc ?_
 rw[Bool.eq_iff_iff];simp;exact exists_congr λx=>and_congr_right λ_=>by omega
theorem xA (x lo hi:Int):DCall prog G 324 (iv x :: [DC.ptr 0 0,DC.ptr 1 0].map .one) [.row [.im (rI lo)],.row [.im (rI hi)]] (λd o=>d=bv (decide (x<lo)||decide (hi<x))/\o=[.row [.im (rI lo)],.row [.im (rI hi)]]):=by
 refine i8 func324 rfl ntmps324 (by simp) rfl ?_;simp only[rI];have hs:=trivial;repeat' first|(with_reducible first|refine zz ?_|refine zr ?_|refine zE [0,1,2,4] ?_)|simp -dsimp[hs]|with_reducible refine j0 ?_ ?_<;>intro h<;>have h0:=h<;>(try simp only[i6] at h)<;>have h2:=h<;>(try simp at h2)<;>replace hs:=za h0 (za h (za h2 hs))|with_reducible refine And.intro ?_ ?_
 all_goals try clear hs
 all_goals simp[*]
theorem AB (lo hi:Int) (l:List Int) (hl:l.length<1000000):zP prog G 323 [iv lo,iv hi,n9 l] (bv (l.all λx=>decide (lo<=x)&&decide (x<=hi))):=by
 refine zf func323 ntmps323 ?_;try simp only[iv,iv,n9]
 have hc:=B9 (G:=G) l (λx=>decide (x<lo)||decide (hi<x)) 324 [.ptr 0 0,.ptr 1 0] [.row [.im (rI lo)],.row [.im (rI hi)]] (by simp) (λx _=>xA x lo hi) hl;simp only[rI] at hc;repeat' first|(with_reducible first|refine zz ?_|refine zx ?_|refine zE [0,1,2,3,4,6] ?_)|simp -dsimp|refine CallE.here hc ?_
 rw[Bool.eq_iff_iff];simp;exact exists_congr λx=>and_congr_right λ_=>by omega
def H6 (d:Dim):Bool:=decide (0<=d.nominal)&&decide (d.nominal<=1000000000)&&(decide (0<=d.lower)&&decide (d.lower<=1000000000))&&(decide (0<=d.upper)&&decide (d.upper<=1000000000))&&decide (d.lower<=d.upper)
theorem oq (d:Dim):zP prog G 321 [iF d] (iv (if H6 d then 0 else 10)):=by
 refine zf func321 ntmps321 ?_;try simp only[iF]
 have hc:=AB (G:=G) 0 1000000000 [d.nominal,d.lower,d.upper] (by simp);have hs:=trivial;repeat' first|(with_reducible first|refine zz ?_|refine zr ?_|refine zE [0,1,2,18] ?_)|simp -dsimp[hs]|refine zt hc ?_ ?_ ?_;(focus simp;done);focus (simp;done)|refine i7 ?_ ?_<;>intro h<;>try exact h.elim|with_reducible refine j0 ?_ ?_<;>intro h<;>have h0:=h<;>(try simp only[i6] at h)<;>have h2:=h<;>(try simp at h2)<;>replace hs:=za h0 (za h (za h2 hs))
 all_goals try clear hs
 all_goals simp_all [H6]
 all_goals omega
def Ce (x:Issue):DV:=B1 x.drawing x.letter
attribute [simp] Ce
theorem ow (x:Issue):zP prog G 200 [J5 x] (Ce x):=by
 refine zf func200 ntmps200 ?_;try simp only[J5]
 repeat' first|(with_reducible first|refine zz ?_|refine zx ?_|refine zE [0,1,2] ?_)|simp -dsimp
theorem ye (x:Issue) (hi:x.items.length<=16) (hd:x.dims.length<=8):zP prog G 153 [J5 x] (J5 x):=by
 refine zf func153 ntmps153 ?_;try simp only[J5]
 have h1:=uT (G:=G) x.items (by omega);have h2:=uU (G:=G) x.dims (by omega);repeat' first|(with_reducible first|refine zz ?_|refine zx ?_)|simp -dsimp|refine zq h1 ?_|refine zq h2 ?_|refine zM 1 12 7 [0,1,2] ?_|with_reducible refine zE [0,1,2] ?_
def vR (x:Issue):Bool:=(decide (1<=x.drawing)&&decide (x.drawing<=9999))&&(decide (1<=x.letter)&&decide (x.letter<=8))
theorem Fl (x:Issue):zP prog G 315 [J5 x] (bv (vR x)):=by
 refine zf func315 ntmps315 ?_;try simp only[J5]
 have c1:=Z7 (G:=G) 1 9999 [x.drawing] (by simp);have c2:=Z7 (G:=G) 1 8 [x.letter] (by simp);have hs:=trivial;repeat' first|(with_reducible first|refine zz ?_|refine zr ?_|refine zE [0,1,2] ?_)|simp -dsimp[hs]|refine zt c1 ?_ ?_ ?_;(focus simp;done);focus (simp;done)|refine zt c2 ?_ ?_ ?_;(focus simp;done);focus (simp;done)|with_reducible refine j0 ?_ ?_<;>intro h<;>have h0:=h<;>(try simp only[i6] at h)<;>have h2:=h<;>(try simp at h2)<;>replace hs:=za h0 (za h (za h2 hs))
 all_goals try clear hs
 all_goals simp_all [vR]
 all_goals omega
def zb (x:Issue):Bool:=if x.kind=1 then (decide (1<=x.items.length)&&decide (x.items.length<=8))&&decide (x.dims.length=0) else (decide (2<=x.kind)&&decide (x.kind<=3))&&decide (x.dims.length<=4)&&decide (x.items.length=0)
theorem Fk (x:Issue) (hk:0<=x.kind/\x.kind<=255):zP prog G 316 [J5 x] (bv (zb x)):=by
 refine zf func316 ntmps316 ?_;try simp only[J5]
 have c1:=Z7 (G:=G) 1 8 [(x.items.length:Int)] (by simp);have c2:=Z7 (G:=G) 2 3 [x.kind] (by simp);have hw:IntKind.i64.wrap x.kind=x.kind:=m9 (by omega) (by omega);have hs:=hw;repeat' first|(with_reducible first|refine zz ?_|refine zr ?_|refine zE [0,1,2,5] ?_)|simp -dsimp[hs]|refine zt c1 ?_ ?_ ?_;(focus simp;done);focus (simp;done)|refine zt c2 ?_ ?_ ?_;(focus simp;done);focus (simp;done)|refine i7 ?_ ?_<;>intro h<;>try exact h.elim|with_reducible refine j0 ?_ ?_<;>intro h<;>have h0:=h<;>(try simp only[i6] at h)<;>have h2:=h<;>(try simp at h2)<;>replace hs:=za h0 (za h (za h2 hs))
 all_goals try clear hs
 all_goals simp_all [zb]
 all_goals omega
theorem Dk (d:Dim):zP prog G 320 [iF d] (bv (!H6 d)):=by
 refine zf func320 ntmps320 ?_;try simp only[iF]
 have h1:=oq (G:=G) d;cases hd:H6 d<;>simp only[hd] at h1
 ·repeat' first|(with_reducible first|refine zz ?_|refine zx ?_|refine zE [0,1,2] ?_)|simp -dsimp|refine zp h1 ?_
 ·repeat' first|(with_reducible first|refine zz ?_|refine zx ?_|refine zE [0,1,2] ?_)|simp -dsimp|refine zp h1 ?_
theorem Fi (x:Issue) (hl:x.dims.length<1000000):zP prog G 318 [J5 x] (bv (x.dims.all H6)):=by
 refine zf func318 ntmps318 ?_;try simp only[J5]
 have c1:=λobjs=>DCall.fnArg2 (cs:=[]) (iI (G:=G) x.dims (λd=>!H6 d) 320 [] objs (by simp) (λd _=>Dk d objs) hl);repeat' first|(with_reducible first|refine zz ?_|refine zx ?_|refine zE [0,1,2] ?_)|simp -dsimp|refine zp c1 ?_
 rw[Bool.eq_iff_iff];simp
end Go.Proofs
namespace Go.Proofs
open Go Go.Ab Tryz
attribute [local simp] D7 setLp
variable {G:Hn}
theorem gj (x:Int):zP prog G 215 [iv x] (bv false):=by
 refine zf func215 ntmps215 ?_;try simp only[iv]
 repeat' first|(with_reducible first|refine zz ?_|refine zx ?_|refine zE [0,2] ?_)|simp -dsimp
theorem pf (x:Int):zP prog G 166 [iv x] (bv false):=by
 refine zf func166 ntmps166 ?_;try simp only[iv]
 repeat' first|(with_reducible first|refine zz ?_|refine zx ?_|refine zE [0,2] ?_)|simp -dsimp
theorem CN (x y:Int):zP prog G 165 [iv x,iv y] (bv (decide (x<y))):=by
 refine zf func165 ntmps165 ?_;try simp only[iv,iv]
 have c1:=gj (G:=G) x;have c2:=gj (G:=G) y;repeat' first|(with_reducible first|refine zz ?_|refine zx ?_|refine zE [0,1,4] ?_)|simp -dsimp|refine zp c1 ?_
 all_goals simp_all
def eo (x y:Int):Int:=if x<y then -1 else if y<x then 1 else 0
theorem iJ (x y:Int):zP prog G 252 [iv x,iv y] (iv (eo x y)):=by
 refine zf func252 ntmps252 ?_;try simp only[iv,iv]
 have c1:=gj (G:=G) x;have c2:=gj (G:=G) y;repeat' first|(with_reducible first|refine zz ?_|refine zx ?_|refine zE [0,1,4,5,6,11,12,13,16,19] ?_)|simp -dsimp|refine zp c1 ?_|refine zp c2 ?_|refine i7 ?_ ?_<;>intro h<;>try exact h.elim
 all_goals simp_all [eo]
 all_goals omega
theorem lg (x:Issue) (n:Int):zP prog G 251 [J5 x,iv n] (iv (eo x.drawing n)):=by
 refine zf func251 ntmps251 ?_;try simp only[J5,iv]
 have c1:=iJ (G:=G) x.drawing n;repeat' first|(with_reducible first|refine zz ?_|refine zx ?_|refine zE [0,1,2,4] ?_)|simp -dsimp|refine zp c1 ?_
end Go.Proofs
namespace Go.Proofs
open Go Go.Ab Tryz
attribute [local simp] D7 setLp
variable {G:Hn}
def F1 (d:Int):Int->List Itm->Bool
 | _,[]=>true
 | prev,y :: r=>(decide (1<=y.drawing)&&decide (y.drawing<=9999))&&(decide (1<=y.count)&&decide (y.count<=20)) && !decide (y.drawing=d)&&decide (prev<y.drawing)&&F1 d y.drawing r
def pv (l:List Itm):Nat->Int
 | 0=>0
 | k+1=>((l[k]?).map (·.drawing)).getD 0
@[simp] abbrev LU:List Nat:=[0,1,2,3,4,6,7,8,9,47]
theorem Fj (x:Issue) (hl:x.items.length<1000000):zP prog G 317 [J5 x] (bv (F1 x.drawing 0 x.items)):=by
 refine zf func317 ntmps317 ?_;try simp only[J5]
 have hs:=trivial;repeat' first|(with_reducible first|refine zz ?_|refine zE LU ?_)|simp -dsimp[hs]
 refine g9 (ι:={ k:Nat // k<=x.items.length/\F1 x.drawing 0 x.items=F1 x.drawing (pv x.items k) (x.items.drop k) }) (λp=>⟨49,[(1,.one (.ptr 0 0)),(6,.one (.im (.sl (x.items.map p7)))),(7,iv (x.items.length:Int)),(8,iv (p.1:Int))],[.row ((e9 x).map .im)]⟩) (λp=>x.items.length-p.1) ⟨0,by simp[pv]⟩ (zv [1,6,7,8]) ?_;rintro⟨k,hk,hno⟩;simp only[iv,e9,rI,List.map_cons,List.map_nil];by_cases hlt:k<x.items.length
 ·have hx:x.items[k]?=some x.items[k]:=by simp[hlt]
  have hw:=zk k;have hw2:IntKind.i64.wrap ((k:Int)-1)=(k:Int)-1:=m9 (by omega) (by omega);have c1:=Z7 (G:=G) 1 9999 [x.items[k].drawing] (by simp);have c2:=Z7 (G:=G) 1 20 [x.items[k].count] (by simp);have hcons:F1 x.drawing 0 x.items=((decide (1<=x.items[k].drawing)&&decide (x.items[k].drawing<=9999))&&(decide (1<=x.items[k].count)&&decide (x.items[k].count<=20)) && !decide (x.items[k].drawing=x.drawing)&&decide (pv x.items k<x.items[k].drawing)&&F1 x.drawing x.items[k].drawing (x.items.drop (k+1))):=by
   rw[hno,List.drop_eq_getElem_cons hlt,F1]
  have hpv1:pv x.items (k+1)=x.items[k].drawing:=by simp[pv,hx]
  by_cases hk0:0<k
  ·have hkx:x.items[k-1]?=some x.items[k-1]:=by simp
   have hcast:(k:Int)-1=((k-1:Nat):Int):=by omega
   have hw3:IntKind.i64.wrap ((k:Int)-1)=((k-1:Nat):Int):=by rw[hw2,hcast]
   have hpv0:pv x.items k=x.items[k-1].drawing:=by
    obtain⟨j,rfl⟩:∃ j,k=j+1:=⟨k-1,by omega⟩
    have:x.items[j]?=some x.items[j]:=by simp
    simp[pv,this]
   rw[hpv0] at hcons;have hs:=za hx (za hw (za hw3 (za hkx hk0)));repeat' first|(with_reducible first|refine zz ?_|refine zr ?_)|simp -dsimp[hs]|refine zq c1 ?_|refine zq c2 ?_|refine zM 4 49 35 LU ?_|with_reducible refine zE LU ?_|refine i7 ?_ ?_<;>intro h<;>try exact h.elim|with_reducible refine j0 ?_ ?_<;>intro h<;>have h0:=h<;>(try simp only[i6] at h)<;>have h2:=h<;>(try simp at h2)<;>replace hs:=za h0 (za h (za h2 hs))
   all_goals try clear hs
   all_goals try omega
   all_goals first
    | (refine zn ⟨k+1,by omega,by clear hno;rw[hcons,hpv1];clear hcons;simp_all;try omega⟩ (zw [1,6,7,8] 1))
    | (clear hno;rw[hcons];clear hcons;simp_all;try omega)
  ·have hpv0:pv x.items k=0:=by
    obtain rfl:k=0:=by omega
    rfl
   rw[hpv0] at hcons;have hs:=za hx (za hw hk0);repeat' first|(with_reducible first|refine zz ?_|refine zr ?_)|simp -dsimp[hs]|refine zq c1 ?_|refine zq c2 ?_|refine zM 4 49 35 LU ?_|with_reducible refine zE LU ?_|refine i7 ?_ ?_<;>intro h<;>try exact h.elim|with_reducible refine j0 ?_ ?_<;>intro h<;>have h0:=h<;>(try simp only[i6] at h)<;>have h2:=h<;>(try simp at h2)<;>replace hs:=za h0 (za h (za h2 hs))
   all_goals try clear hs
   all_goals try omega
   all_goals first
    | (refine zn ⟨k+1,by omega,by clear hno;rw[hcons,hpv1];clear hcons;simp_all;try omega⟩ (zw [1,6,7,8] 1))
    | (clear hno;rw[hcons];clear hcons;simp_all;try omega)
 ·have hs:=trivial;repeat' first|(with_reducible first|refine zz ?_|refine zr ?_|refine zE LU ?_)|simp -dsimp[hs]|refine i7 ?_ ?_<;>intro h<;>try exact h.elim
  all_goals try omega
  rw[hno,List.drop_eq_nil_of_le (by omega)];rfl
end Go.Proofs
namespace Go.Proofs
open Go Go.Ab Tryz
attribute [local simp] D7 setLp
variable {G:Hn}
def lb (l:List Int) (x:Int):Nat:=(l.filter λy=>decide (y<x)).length
theorem pa (l:List Int) (x:Int):lb l x<=l.length:=List.length_filter_le _ _
theorem bO:∀ {l:List Int} {x:Int},l.Pairwise (·<=·)->∀ (i:Nat) (y:Int),l[i]?=some y->(y<x↔i<lb l x)
 | [],x,_,i,y,h=>by simp at h
 | a :: l,x,hs,i,y,h=>by
   simp only[List.pairwise_cons] at hs;by_cases ha:a<x
   ·have e:lb (a :: l) x=lb l x+1:=by simp[lb,ha]
    rw[e];cases i with
    | zero=>simp at h;subst h;simp[ha]
    | succ i =>
      have:=bO (x:=x) hs.2 i y (by simpa using h);omega
   ·have hall:∀ z∈l,¬ z<x:=λz hz=>by have:=hs.1 z hz;omega
    have e:lb (a :: l) x=0:=by
     have hf:l.filter (λy=>decide (y<x))=[]:=by
      rw[List.filter_eq_nil_iff];intro z hz;simpa using hall z hz
     simp[lb,ha,hf]
    rw[e];cases i with
    | zero=>simp at h;subst h;simp[ha]
    | succ i =>
      have:=hall y (List.mem_of_getElem? (by simpa using h));omega
theorem qS {l:List Int} {x:Int} (hs:l.Pairwise (·<=·)):x∈l↔l[lb l x]?=some x:=by
 constructor
 ·intro h;obtain⟨i,hi⟩:=List.mem_iff_getElem?.1 h;have h1:=bO (x:=x) hs i x hi;have h2:lb l x<=i:=by omega
  have hlt:=e7 hi;have h3:l[lb l x]?=some l[lb l x]:=by simp
  have h4:=bO (x:=x) hs _ _ h3;have h5:l[lb l x]<=x:=by
   by_cases e:lb l x=i
   ·have:l[lb l x]?=some x:=by rw[e];exact hi
    rw[h3] at this;simp at this;omega
   ·have:=(List.pairwise_iff_getElem.1 hs) (lb l x) i (by omega) hlt (by omega);have h6:=(List.getElem?_eq_some_iff.1 hi).2;omega
  rw[h3]
  congr 1
  omega
 ·exact λh=>List.mem_of_getElem? h
theorem tV:(2:Int) ^ min 1 IntKind.u64.bits=2:=rfl
attribute [simp] tV
theorem DM {n:Int} (h1:0<=n) (h2:n<=18446744073709551615):IntKind.u64.wrap n=n:=IntWalk.u64_in n ⟨h1,h2⟩
@[simp] abbrev Ki:List Nat:=[0,1,4,5,6,7,8,9,15,27]
theorem mS (l:List Int) (x:Int) (hs:l.Pairwise (·<=·)) (hl:l.length<1000000):zP prog G 105 [n9 l,iv x] (.tup [iv (lb l x),bv (decide (x∈l))]):=by
 refine zf func105 ntmps105 ?_;try simp only[n9,iv]
 have hlb:=pa l x;have hs:=trivial;repeat' first|(with_reducible first|refine zz ?_|refine zE Ki ?_)|simp -dsimp[hs]
 all_goals try clear hs
 refine g9 (ι:={ p:Nat×Nat // p.1<=lb l x/\lb l x<=p.2/\p.2<=l.length }) (λp=>⟨54,[(0,n9 l),(1,iv x),(6,iv (l.length:Int)),(7,iv (p.1.1:Int)),(8,iv (p.1.2:Int))],[]⟩) (λp=>p.1.2-p.1.1) ⟨(0,l.length),by simp;omega⟩ (zv [0,1,6,7,8]) ?_;rintro⟨⟨i,j⟩,h1,h2,h3⟩;simp only at h1 h2 h3;simp only[iv,n9];have hw1:IntKind.i64.wrap ((i:Int)+(j:Int))=(i:Int)+(j:Int):=m9 (by omega) (by omega);have hw2:IntKind.u64.wrap ((i:Int)+(j:Int))=(i:Int)+(j:Int):=DM (by omega) (by omega);have hd:((i:Int)+(j:Int)).fdiv 2=(((i+j) / 2:Nat):Int):=by
  rw[Int.fdiv_eq_ediv_of_nonneg _ (by omega)];omega
 have hw3:IntKind.i64.wrap ((((i+j) / 2:Nat):Int))=(((i+j) / 2:Nat):Int):=m9 (by omega) (by omega);have hw4:IntKind.i64.wrap ((((i+j) / 2:Nat):Int)+1)=(((i+j) / 2+1:Nat):Int):=m9 (by omega) (by omega);by_cases hlt:i<j
 ·generalize hm:(i+j) / 2=m at hd hw3 hw4;have hx:l[m]?=some l[m]:=by simp
  have hsp:=bO (x:=x) hs m l[m] hx;have c1:=CN (G:=G) l[m] x;by_cases hc:l[m]<x
  ·simp only[hc,decide_true] at c1;have hs:=za hx (za hw1 (za hw2 (za hw3 (za hw4 (za hd hm)))));repeat' first|(with_reducible first|refine zz ?_|refine zr ?_|refine zE Ki ?_)|simp -dsimp[hs]|refine zp c1 ?_|refine i7 ?_ ?_<;>intro h<;>try exact h.elim|with_reducible refine j0 ?_ ?_<;>intro h<;>have h0:=h<;>(try simp only[i6] at h)<;>have h2:=h<;>(try simp at h2)<;>replace hs:=za h0 (za h (za h2 hs))
   all_goals try clear hs
   all_goals try omega
   exact zn ⟨(m+1,j),by simp;omega⟩ (zv [0,1,6,7,8])
  ·simp only[hc,decide_false] at c1;have hs:=za hx (za hw1 (za hw2 (za hw3 (za hw4 (za hd hm)))));repeat' first|(with_reducible first|refine zz ?_|refine zr ?_|refine zE Ki ?_)|simp -dsimp[hs]|refine zp c1 ?_|refine i7 ?_ ?_<;>intro h<;>try exact h.elim|with_reducible refine j0 ?_ ?_<;>intro h<;>have h0:=h<;>(try simp only[i6] at h)<;>have h2:=h<;>(try simp at h2)<;>replace hs:=za h0 (za h (za h2 hs))
   all_goals try clear hs
   all_goals try omega
   exact zn ⟨(i,m),by simp;omega⟩ (zv [0,1,6,7,8])
 ·have hi:i=lb l x:=by omega
  subst hi;have c2:=pf (G:=G) x;have hmem:=qS (x:=x) hs;by_cases hn:lb l x<l.length
  ·have hx:l[lb l x]?=some l[lb l x]:=by simp[hn]
   have c1:=pf (G:=G) l[lb l x];rw[hx] at hmem;have hs:=za hx (za hlt hn);repeat' first|(with_reducible first|refine zz ?_|refine zr ?_|refine zE Ki ?_)|simp -dsimp[hs]|refine zp c1 ?_|refine i7 ?_ ?_<;>intro h<;>try exact h.elim|with_reducible refine j0 ?_ ?_<;>intro h<;>have h0:=h<;>(try simp only[i6] at h)<;>have h2:=h<;>(try simp at h2)<;>replace hs:=za h0 (za h (za h2 hs))
   all_goals try clear hs
   all_goals try omega
   all_goals simp_all
  ·rw[List.getElem?_eq_none (by omega)] at hmem;have hs:=za hlt hn;repeat' first|(with_reducible first|refine zz ?_|refine zr ?_|refine zE Ki ?_)|simp -dsimp[hs]|refine i7 ?_ ?_<;>intro h<;>try exact h.elim
   all_goals try clear hs
   all_goals try omega
   all_goals simp_all
end Go.Proofs
namespace Go.Proofs
open Go Go.Ab Tryz
attribute [local simp] D7 setLp
variable {G:Hn}
@[simp] abbrev Kj:List Nat:=[0,1,2,6,7,8,9,10,11,17,31]
theorem fp (l:List Issue) (x:Int) (hs:(l.map (·.drawing)).Pairwise (·<=·)) (hl:l.length<1000000):zP prog G 250 [.one (.im (.sl (l.map e9))),iv x,.one (.im (.fn (.func 251) []))] (.tup [iv (lb (l.map (·.drawing)) x),bv (decide (x∈l.map (·.drawing)))]):=by
 refine zf func250 ntmps250 ?_;try simp only[iv]
 have hlb:=pa (l.map (·.drawing)) x;simp only[List.length_map] at hlb;have hs:=trivial;repeat' first|(with_reducible first|refine zz ?_|refine zE Kj ?_)|simp -dsimp[hs]
 all_goals try clear hs
 refine g9 (ι:={ p:Nat×Nat // p.1<=lb (l.map (·.drawing)) x/\lb (l.map (·.drawing)) x<=p.2/\p.2<=l.length }) (λp=>⟨49,[(0,.one (.im (.sl (l.map e9)))),(1,iv x),(2,.one (.im (.fn (.func 251) []))),(8,iv (l.length:Int)),(9,iv (p.1.1:Int)),(10,iv (p.1.2:Int))],[]⟩) (λp=>p.1.2-p.1.1) ⟨(0,l.length),by simp;omega⟩ (zv [0,1,2,8,9,10]) ?_;rintro⟨⟨i,j⟩,h1,h2,h3⟩;simp only at h1 h2 h3;simp only[iv,n9];have hw1:IntKind.i64.wrap ((i:Int)+(j:Int))=(i:Int)+(j:Int):=m9 (by omega) (by omega);have hw2:IntKind.u64.wrap ((i:Int)+(j:Int))=(i:Int)+(j:Int):=DM (by omega) (by omega);have hd:((i:Int)+(j:Int)).fdiv 2=(((i+j) / 2:Nat):Int):=by
  rw[Int.fdiv_eq_ediv_of_nonneg _ (by omega)];omega
 have hw3:IntKind.i64.wrap ((((i+j) / 2:Nat):Int))=(((i+j) / 2:Nat):Int):=m9 (by omega) (by omega);have hw4:IntKind.i64.wrap ((((i+j) / 2:Nat):Int)+1)=(((i+j) / 2+1:Nat):Int):=m9 (by omega) (by omega);by_cases hlt:i<j
 ·generalize hm:(i+j) / 2=m at hd hw3 hw4;have hx:l[m]?=some l[m]:=by simp
  have hsp:=bO (x:=x) hs m l[m].drawing (by simp[hx]);have c1:=lg (G:=G) l[m] x;by_cases hc:l[m].drawing<x
  ·have hcm:eo l[m].drawing x=-1:=by simp[eo,hc]
   rw[hcm] at c1;have hs:=za hx (za hw1 (za hw2 (za hw3 (za hw4 (za hd hm)))));repeat' first|(with_reducible first|refine zz ?_|refine zr ?_|refine zE Kj ?_)|simp -dsimp[hs]|refine zp c1 ?_|refine i7 ?_ ?_<;>intro h<;>try exact h.elim|with_reducible refine j0 ?_ ?_<;>intro h<;>have h0:=h<;>(try simp only[i6] at h)<;>have h2:=h<;>(try simp at h2)<;>replace hs:=za h0 (za h (za h2 hs))
   all_goals try clear hs
   all_goals try omega
   exact zn ⟨(m+1,j),by simp;omega⟩ (zv [0,1,2,8,9,10])
  ·have hcm:¬ eo l[m].drawing x<0:=by simp only[eo,hc,if_false];split<;>omega
   generalize eo l[m].drawing x=q at c1 hcm;have hs:=za hx (za hw1 (za hw2 (za hw3 (za hw4 (za hd hm)))));repeat' first|(with_reducible first|refine zz ?_|refine zr ?_|refine zE Kj ?_)|simp -dsimp[hs]|refine zp c1 ?_|refine i7 ?_ ?_<;>intro h<;>try exact h.elim|with_reducible refine j0 ?_ ?_<;>intro h<;>have h0:=h<;>(try simp only[i6] at h)<;>have h2:=h<;>(try simp at h2)<;>replace hs:=za h0 (za h (za h2 hs))
   all_goals try clear hs
   all_goals try omega
   exact zn ⟨(i,m),by simp;omega⟩ (zv [0,1,2,8,9,10])
 ·have hi:i=lb (l.map (·.drawing)) x:=by omega
  subst hi;have hmem:=qS (x:=x) hs;by_cases hn:lb (l.map (·.drawing)) x<l.length
  ·have hx:l[lb (l.map (·.drawing)) x]?=some l[lb (l.map (·.drawing)) x]:=by simp[hn]
   have c1:=lg (G:=G) l[lb (l.map (·.drawing)) x] x;have hq:decide (eo l[lb (l.map (·.drawing)) x].drawing x=0)=decide (x∈l.map (·.drawing)):=by
    rw[decide_eq_decide,hmem,List.getElem?_map,hx];simp only[eo,Option.map_some,Option.some.injEq];split<;>(try split)<;>omega
   generalize eo l[lb (l.map (·.drawing)) x].drawing x=q at c1 hq;have hs:=za hx (za hlt hn);repeat' first|(with_reducible first|refine zz ?_|refine zr ?_|refine zE Kj ?_)|simp -dsimp[hs]|refine zp c1 ?_|refine i7 ?_ ?_<;>intro h<;>try exact h.elim
   all_goals try clear hs
   all_goals try omega
   all_goals simp_all
  ·rw[List.getElem?_eq_none (by simp;omega)] at hmem;have hs:=za hlt hn;repeat' first|(with_reducible first|refine zz ?_|refine zr ?_|refine zE Kj ?_)|simp -dsimp[hs]|refine i7 ?_ ?_<;>intro h<;>try exact h.elim
   all_goals try clear hs
   all_goals try omega
   all_goals simp_all
def s8 (l:List Issue) (ds:List Int):IC:=.ip [.sl (l.map e9),.sl (ds.map encI)]
theorem xG (l:List Issue) (ds:List Int) (n:Int) (hs:ds.Pairwise (·<=·)) (hl:ds.length<1000000):zP prog G 197 [.one (.im (s8 l ds)),iv n] (bv (decide (n∈ds))):=by
 refine zf func197 ntmps197 ?_;try simp only[iv]
 have c1:=mS (G:=G) ds n hs hl;simp only[s8];have hs:=trivial;repeat' first|(with_reducible first|refine zz ?_|refine zr ?_|refine zE [0,1,4,6] ?_)|simp -dsimp[hs]|refine zp c1 ?_
 all_goals try clear hs
theorem kK (b:IC) (n:Int):zP prog G 199 [.one (.im b),iv n] (.one (.im (.fn (.func 249) [.ip [b],.ip [rI n]]))):=by
 refine zf func199 ntmps199 ?_;try simp only[iv]
 repeat' first|(with_reducible first|refine zz ?_|refine zx ?_|refine zE [0,1,2,3,4] ?_)|simp -dsimp
end Go.Proofs
namespace Go.Ab
open Go
@[simp] theorem BK {α:Type} (objs:List DObj) (l:List α) (f:α->List IC) (k sz:Nat) (h:k<=l.length) (hf:∀ x,(f x).length=sz) :
 D7 objs (.im (.sl (l.map f))) (k:Int) none sz=some (.im (.sl ((l.drop k).map f))):=by
 simp only[D7,Option.getD_none,List.length_map,Int.toNat_natCast,Int.natCast_eq_zero];rw[if_pos (by omega)];split
 ·rename_i hk;subst hk;simp[List.take_of_length_le]
 ·by_cases hk:k<l.length
  ·simp[hk,hf,List.take_of_length_le,List.map_drop]
  ·have he:k=l.length:=by omega
   subst he;simp
@[simp] theorem BJ {α:Type} (objs:List DObj) (l:List α) (f:α->List IC) (k sz:Nat) (h:k<=l.length) :
 D7 objs (.im (.sl (l.map f))) 0 (some (k:Int)) sz=some (.im (.sl ((l.take k).map f))):=by
 simp only[D7,Option.getD_some,List.length_map,Int.toNat_natCast];rw[if_pos (by omega),if_pos trivial,List.map_take]
theorem rv (objs:List DObj) (o g off len:Nat) (lo:Int) (hi:Option Int) (sz:Nat):D7 objs (.vec o g off len) lo hi sz=if 0<=lo/\lo<=hi.getD len/\hi.getD len<=len then match objs[o]? with
 | some (.vec z _ g' _)=>if g=g'/\(z=sz\/len=0) then some (.vec o g (off+lo.toNat) ((hi.getD len).toNat-lo.toNat)) else none
 | _=>none
 else none:=rfl
attribute [simp] rv
def LoopD.at (r:LoopD) (st:LoopState) (pend:Option Code):LoopD:={ r with st:=st,pend:=pend }
theorem LoopD.at_st (r:LoopD) (st:LoopState) (pend:Option Code):(r.at st pend).st=st:=rfl
theorem LoopD.at_pend (r:LoopD) (st:LoopState) (pend:Option Code):(r.at st pend).pend=pend:=rfl
theorem LoopD.at_nt (r:LoopD) (st:LoopState) (pend:Option Code):(r.at st pend).nt=r.nt:=rfl
theorem LoopD.at_tm (r:LoopD) (st:LoopState) (pend:Option Code):(r.at st pend).tm=r.tm:=rfl
theorem LoopD.at_ps (r:LoopD) (st:LoopState) (pend:Option Code):(r.at st pend).ps=r.ps:=rfl
theorem LoopD.at_asg (r:LoopD) (st:LoopState) (pend:Option Code):(r.at st pend).asg=r.asg:=rfl
theorem LoopD.at_body (r:LoopD) (st:LoopState) (pend:Option Code):(r.at st pend).body=r.body:=rfl
theorem LoopD.at_at (r:LoopD) (st st':LoopState) (pend pend':Option Code):(r.at st pend).at st' pend'=r.at st' pend':=rfl
attribute [simp] LoopD.at_st LoopD.at_pend LoopD.at_nt LoopD.at_tm LoopD.at_ps LoopD.at_asg LoopD.at_body LoopD.at_at
theorem wq (objs:List DObj) (o:Nat) (st:LoopState) (pend:Option Code):setLp objs o st pend=match objs[o]? with
 | some (.loop r)=>objs.set o (.loop (r.at st pend))
 | _=>objs:=rfl
attribute [simp] wq
theorem P2 {P:Program} {G:Hn} {o:Nat} {xs:List DV} {objs:List DObj} {C:DV->List DObj->Prop} {t:Tok C} (h:R1 P G o xs objs C objs[o]?):lu P G o xs objs C t:=h
theorem aG {P:Program} {G:Hn} {o m:Nat} {body:Code} {C:DV->List DObj->Prop} {A:DS->Prop} {Q:Exit->DS->Prop} {t:Tok (W8 (λS'=>A S'/\Dt P G o m body C S') Q)} {S:DS} (h1:A S)
 (h2:DT P G ⟨m,some o⟩ body { S with objs:=setLp S.objs o .busy none } (nV o C)):At (W8 (λS'=>A S'/\Dt P G o m body C S') Q) .normal t S:=⟨h1,h2⟩
end Go.Ab
namespace Go.Proofs
open Go Go.Ab Tryz
variable {G:Hn}
theorem qu {l:List Issue} {d:Int} (hs:(l.map (·.drawing)).Pairwise (·<=·)):∀ x∈l.drop (lb (l.map (·.drawing)) d),d<=x.drawing:=by
 intro x hx;obtain⟨i,hi⟩:=List.mem_iff_getElem?.1 hx;rw[List.getElem?_drop] at hi;have:=bO (x:=d) hs _ x.drawing (by rw[List.getElem?_map,hi];rfl);omega
theorem qt {l:List Issue} {d:Int} (hs:(l.map (·.drawing)).Pairwise (·<=·)):∀ x∈l.take (lb (l.map (·.drawing)) d),x.drawing<d:=by
 intro x hx;obtain⟨i,hi⟩:=List.mem_iff_getElem?.1 hx;have hlt:i<lb (l.map (·.drawing)) d:=by
  have:=(List.getElem?_eq_some_iff.1 hi).1;simp at this;omega
 rw[List.getElem?_take_of_lt hlt] at hi;exact(bO (x:=d) hs i x.drawing (by rw[List.getElem?_map,hi];rfl)).2 hlt
theorem ws {l:List Issue} {d:Int} (lt:Int) (hs:(l.map (·.drawing)).Pairwise (·<=·)):o2 l d lt=o2 (l.drop (lb (l.map (·.drawing)) d)) d lt:=by
 conv=>lhs;rw[<- List.take_append_drop (lb (l.map (·.drawing)) d) l]
 simp only[o2,List.find?_append];rw[List.find?_eq_none.2 λx hx=>?_]
 ·rfl
 ·have:=qt hs x hx;simp;omega
@[simp] abbrev Kx:List Nat:=[0,1,2,3,4,5,6,7,10,11,15,24,25,26,27,39]
theorem td (l:List Issue) (ds:List Int) (d lt:Int) (hs:(l.map (·.drawing)).Pairwise (·<=·)) (hl:l.length<1000000):zP prog G 152 [.one (.im (s8 l ds)),B1 d lt] (.tup [J5 ((o2 l d lt).getD J1),bv (o2 l d lt).isSome]):=by
 refine zf func152 ntmps152 ?_;try simp only[B1]
 simp only[B1,s8];have c1:=kK (G:=G) (s8 l ds) d;simp only[s8] at c1;have hs:=trivial;repeat' first|(with_reducible first|refine zz ?_|refine zE [0,1,3,4,5,6,10,11,15] ?_)|simp -dsimp[hs]|refine zp c1 ?_
 all_goals try clear hs
 refine R2 (f:=249) (by simp;exact rfl) (by rfl) call249 ?_;generalize hR:LoopD.mk _ _ _ _ _ _ _=R;have hR1:R.st=.ready:=by rw[<- hR]
 have hR2:R.pend=none:=by rw[<- hR]
 have hR3:R.at .ready none=R:=by rw[<- hR];rfl
 have hR4:=(congrArg LoopD.nt hR).symm;have hR5:=(congrArg LoopD.tm hR).symm;have hR6:=(congrArg LoopD.ps hR).symm;have hR7:=(congrArg LoopD.asg hR).symm;have hR8:=(congrArg LoopD.body hR).symm;dsimp only at hR4 hR5 hR6 hR7 hR8;clear hR;refine i8 func249 rfl ntmps249 (by simp) rfl ?_;have hR9:∀ objs:List DObj,(R.tm.map λx=>(x.1,fB 6 objs x.2))=R.tm:=by intro objs;rw[hR5];simp
 have hlb:=pa (l.map (·.drawing)) d;rw[List.length_map] at hlb;have c2:=fp (G:=G) l d hs hl;have hs:=za hR1 (za hR2 (za hR3 hlb));repeat' first|with_reducible refine zz ?_|simp -dsimp[hs]|refine zq c2 ?_|refine zM 0 41 12 [0,1,2,4,7,24,25,26,27,39] ?_|with_reducible refine zE Kx ?_
 all_goals try clear hs
 rw[<- List.map_drop];have hge:=qu (d:=d) hs;have hfs:=ws (d:=d) lt hs;have hss:((l.drop (lb (l.map (·.drawing)) d)).map (·.drawing)).Pairwise (·<=·):=by rw[List.map_drop];exact hs.drop
 have hsl:l.length-lb (l.map (·.drawing)) d=(l.drop (lb (l.map (·.drawing)) d)).length:=by simp
 rw[hsl];have hsl2:(l.drop (lb (l.map (·.drawing)) d)).length<1000000:=by simp;omega
 generalize l.drop (lb (l.map (·.drawing)) d)=s at hge hfs hss hsl2 ⊢;refine g9 (ι:={ k:Nat // k<=s.length/\o2 l d lt=o2 (s.drop k) d lt }) (λp=>⟨41,[(0,.one (.yld 5)),(2,.one (.im (.ip [rI d]))),(24,.one (.im (.sl (s.map e9)))),(25,iv (s.length:Int)),(26,iv (p.1:Int))],[.row [.im (rI d),.im (rI lt)],.vec 0 [] 0 true,.vec 0 [] 0 true,.row ((rI 0 :: rI 0 :: [IC.raw (.int .u8 0)]).map .im++[.vec 1 0 0 0,.vec 2 0 0 0]),.row [.im (rB false)],.loop R]⟩) (λp=>s.length-p.1) ⟨0,by simp[hfs]⟩ (zv [0,2,24,25,26]) ?_;rintro⟨k,hk,hno⟩;simp only[iv];by_cases hlt:k<s.length
 ·have hx:s[k]?=some s[k]:=by simp[hlt]
  have hw:=zk k;have hcons:o2 l d lt=if (s[k].drawing==d&&s[k].letter==lt)=true then some s[k] else o2 (s.drop (k+1)) d lt:=by
   rw[hno,List.drop_eq_getElem_cons hlt];simp only[o2,List.find?_cons];split<;>simp_all
  by_cases hd:s[k].drawing=d
  ·have c3:=ow (G:=G) s[k];simp only[Ce,J5,e9,rI,List.map_cons,List.map_nil,hd] at c3;have hs:=za hR1 (za hR2 (za hR3 (za hx (za hw (za hd hlt)))));repeat' first|(with_reducible first|refine zz ?_|refine zr ?_ (by simp -dsimp[B8,hs];exact rfl))|simp -dsimp[B8,hs]|with_reducible refine At.yield_end ?_;simp -dsimp[hs]|with_reducible refine At.yield_ret ?_;simp -dsimp[hs]|refine aG ?_ ?_<;>simp -dsimp[hs]|refine P2 ?_;simp -dsimp[R1,hR4,hR5,hR6,hR7,hR8,hs]|with_reducible show B8 _ _ _ _ _ _ _ _;simp -dsimp[B8,hs]|refine zq c3 ?_|refine zM 3 18 4 [0,1,3,4,5,6,10,11,15] ?_|with_reducible refine zE Kx ?_|refine i7 ?_ ?_<;>intro h<;>try exact h.elim
   all_goals try clear hs
   ·have h:s[k].letter=lt:=by assumption
    have hf:o2 l d lt=some s[k]:=by rw[hcons,if_pos (by simp[hd,h])]
    simp[hf,hd]
   ·have h:¬ s[k].letter=lt:=by assumption
    have hf:o2 l d lt=o2 (s.drop (k+1)) d lt:=by rw[hcons,if_neg (by simp[hd,h])]
    exact zn ⟨k+1,by omega,hf⟩ (zw [0,2,24,25,26] 6 (by simp[hR9]))
  ·have hnone:o2 l d lt=none:=by
    rw[hno,o2,List.find?_eq_none];intro x hxm;obtain⟨i,hi⟩:=List.mem_iff_getElem?.1 hxm;rw[List.getElem?_drop] at hi;have h1:s[k].drawing<=x.drawing:=by
     rcases Nat.eq_zero_or_pos i with rfl|hp
     ·rw[Nat.add_zero,hx] at hi;cases hi;exact Int.le_refl _
     ·have hlt2:=(List.getElem?_eq_some_iff.1 hi).1;have:=(List.pairwise_iff_getElem.1 hss) k (k+i) (by simpa using hlt) (by simpa using hlt2) (by omega);have h6:=(List.getElem?_eq_some_iff.1 hi).2;simp at this;rw[h6] at this;exact this
    have h2:=hge s[k] (List.getElem_mem hlt);simp;omega
   have hs:=za hR1 (za hR2 (za hR3 (za hx (za hw (za hd hlt)))));repeat' first|(with_reducible first|refine zz ?_|refine zr ?_ (by simp -dsimp[B8,hs];exact rfl)|refine zE Kx ?_)|simp -dsimp[B8,hs]|with_reducible show B8 _ _ _ _ _ _ _ _;simp -dsimp[B8,hs]|refine i7 ?_ ?_<;>intro h<;>try exact h.elim
   all_goals try clear hs
   all_goals simp[hnone,J1]
 ·have hnone:o2 l d lt=none:=by rw[hno,List.drop_eq_nil_of_le (by omega)];rfl
  have hs:=za hR1 (za hR2 (za hR3 hlt));repeat' first|(with_reducible first|refine zz ?_|refine zr ?_ (by simp -dsimp[B8,hs];exact rfl)|refine ze ?_ (by simp -dsimp[B8,hs];exact rfl)|refine zE Kx ?_)|simp -dsimp[B8,hs]|with_reducible show B8 _ _ _ _ _ _ _ _;simp -dsimp[B8,hs]|refine i7 ?_ ?_<;>intro h<;>try exact h.elim
  all_goals try clear hs
  all_goals simp[hnone,J1]
end Go.Proofs
namespace Go.Ab
open Go
def kI (n:Int):List Value:=[.int .i64 n]
def m5 (m:List (Int×Int)) (n:Int):Int:=match m with
 | []=>0
 | p :: r=>if p.1=n then p.2 else m5 r n
def M9 (n v:Int):List (Int×Int)->List (Int×Int)
 | []=>[(n,v)]
 | p :: r=>if p.1=n then (n,v) :: r else p :: M9 n v r
def N0 (m:List (Int×Int)):List (List Value×List DC):=m.map λp=>(kI p.1,[.im (rI p.2)])
def Z8 (m:List (Int×Int)):List (List Value×List IC):=m.map λp=>(kI p.1,[rI p.2])
def I6 (l:List Int):List (List Value×List DC):=l.map λn=>(kI n,[.im (rB true)])
def pu (l:List Int):List (List Value×List IC):=l.map λn=>(kI n,[rB true])
def nk (n:Int) (l:List Int):List Int:=if n∈l then l else l++[n]
theorem ai (n m:Int):v6 [.int .i64 n] (kI m)=decide (m=n):=by
 simp only[kI,v6,Bool.and_true];rw[Bool.eq_iff_iff];simp[eq_comm]
@[simp] theorem FO (m:List (Int×Int)) (n:Int):R6 [.int .i64 n] (N0 m) [.im (.raw (.int .i64 0))]=[.im (.raw (.int .i64 (m5 m n)))]:=by
 induction m with
 | nil=>rfl
 | cons p r ih =>
   have e:N0 (p :: r)=(kI p.1,[.im (rI p.2)]) :: N0 r:=rfl;rw[e];simp only[R6,V4,m5,ai,decide_eq_true_eq] at ih ⊢;split
   ·rfl
   ·exact ih
@[simp] theorem FJ (m:List (Int×Int)) (n v:Int):R5 [.int .i64 n] [.im (.raw (.int .i64 v))] (N0 m)=N0 (M9 n v m):=by
 induction m with
 | nil=>rfl
 | cons p r ih =>
   have e:N0 (p :: r)=(kI p.1,[.im (rI p.2)]) :: N0 r:=rfl;rw[e];simp only[R5,M9,ai,decide_eq_true_eq] at ih ⊢;split
   ·rfl
   ·rw[ih];rfl
@[simp] theorem FM (l:List Int) (n:Int):R6 [.int .i64 n] (I6 l) [.im (.raw (.bool false))]=[.im (.raw (.bool (decide (n∈l))))]:=by
 induction l with
 | nil=>rfl
 | cons p r ih =>
   have e:I6 (p :: r)=(kI p,[.im (rB true)]) :: I6 r:=rfl;rw[e];simp only[R6,V4,ai,decide_eq_true_eq] at ih ⊢;split
   ·rename_i h;simp[h]
   ·rename_i h;rw[ih];have:(n∈p :: r)=(n∈r):=propext ⟨λh'=>(List.mem_cons.1 h').resolve_left λe=>h e.symm,List.mem_cons_of_mem _⟩;simp only[this]
@[simp] theorem FI (l:List Int) (n:Int):R5 [.int .i64 n] [.im (.raw (.bool true))] (I6 l)=I6 (nk n l):=by
 have gen:∀ l:List Int,(n∈l->R5 [.int .i64 n] [.im (.raw (.bool true))] (I6 l)=I6 l)/\(n∉l->R5 [.int .i64 n] [.im (.raw (.bool true))] (I6 l)=I6 (l++[n])):=by
  intro l;induction l with
  | nil=>exact⟨λh=>by simp at h,λ_=>rfl⟩
  | cons p r ih =>
    have e:I6 (p :: r)=(kI p,[.im (rB true)]) :: I6 r:=rfl;rw[e];simp only[R5,ai,decide_eq_true_eq];constructor
    ·intro h;split
     ·rename_i hp;rw[hp];rfl
     ·rename_i hp;rw[ih.1 ((List.mem_cons.1 h).resolve_left λe=>hp e.symm)]
    ·intro h;rw[if_neg λe=>h (by simp[e]),ih.2 λe=>h (by simp[e])];rfl
 unfold nk;split
 ·exact(gen l).1 ‹_›
 ·exact(gen l).2 ‹_›
@[simp] theorem FQ (l:List Int) (n:Int):iw [.int .i64 n] (I6 l)=I6 (l.erase n):=by
 induction l with
 | nil=>rfl
 | cons p r ih =>
   have e:I6 (p :: r)=(kI p,[.im (rB true)]) :: I6 r:=rfl;rw[e];simp only[iw,ai,decide_eq_true_eq];split
   ·rename_i h;subst h;simp
   ·rename_i h;rw[ih,List.erase_cons_tail (by simpa using h)];rfl
@[simp] theorem Fe (l:List Int):(I6 l).length=l.length:=by simp[I6]
@[simp] theorem Ff (l:List (Int×Int)):(N0 l).length=l.length:=by simp[N0]
@[simp] theorem CS (m:List (Int×Int)):fe (Z8 m)=N0 m:=by simp[fe,Z8,N0]
@[simp] theorem CR (l:List Int):fe (pu l)=I6 l:=by simp[fe,pu,I6]
@[simp] theorem FV (k n:Nat) (objs:List DObj) (m:List (Int×Int)):J4 (λx:List Value×List DC=>(J4 (frz (k+1) n objs) x.2).map λl=>(x.1,l)) (N0 m)=some (Z8 m):=by
 induction m with
 | nil=>rfl
 | cons p r ih =>
   have e:N0 (p :: r)=(kI p.1,[.im (rI p.2)]) :: N0 r:=rfl;rw[e];simp[J4,ih,Z8]
@[simp] theorem FT (k n:Nat) (objs:List DObj) (l:List Int):J4 (λx:List Value×List DC=>(J4 (frz (k+1) n objs) x.2).map λl=>(x.1,l)) (I6 l)=some (pu l):=by
 induction l with
 | nil=>rfl
 | cons p r ih =>
   have e:I6 (p :: r)=(kI p,[.im (rB true)]) :: I6 r:=rfl;rw[e];simp[J4,ih,pu]
@[simp] theorem EJ (n:Nat) (objs:List DObj) (m:List (Int×Int)):((N0 m).map λx=>(x.1,x.2.map (fz n objs)))=N0 m:=by
 simp[N0,fz,DC.lt]
@[simp] theorem EH (n:Nat) (objs:List DObj) (l:List Int):((I6 l).map λx=>(x.1,x.2.map (fz n objs)))=I6 l:=by
 simp[I6,fz,DC.lt]
end Go.Ab
