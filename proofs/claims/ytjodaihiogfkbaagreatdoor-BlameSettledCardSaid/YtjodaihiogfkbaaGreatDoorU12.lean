/- Part 12 of the proofs. -/
import Derived.Test.YtjodaihiogfkbaaGreatDoorU08
import Derived.Test.YtjodaihiogfkbaaGreatDoorU09
import Derived.Test.YtjodaihiogfkbaaGreatDoorU11
set_option linter.all false
set_option maxHeartbeats 100000000
namespace Go.Ab
open Go
structure Dim where
 nominal:Int
 lower:Int
 upper:Int
 deriving DecidableEq
structure Itm where
 drawing:Int
 count:Int
 deriving DecidableEq
structure Issue where
 drawing:Int
 letter:Int
 kind:Int
 items:List Itm
 dims:List Dim
 deriving DecidableEq
def rI (n:Int):IC:=.raw (.int .i64 n)
def rB (b:Bool):IC:=.raw (.bool b)
def D3 (d:Dim):List IC:=[rI d.nominal,rI d.lower,rI d.upper]
def A1 (x:Itm):List IC:=[rI x.drawing,rI x.count]
def e8 (x:Issue):List IC:=[rI x.drawing,rI x.letter,.raw (.int .u8 x.kind),.sl (x.items.map A1),.sl (x.dims.map D3)]
def encI (n:Int):List IC:=[rI n]
def iv (n:Int):DV:=.one (.im (.raw (.int .i64 n)))
def bv (b:Bool):DV:=.one (.im (.raw (.bool b)))
def v8 (l:List Int):DV:=.one (.im (.sl (l.map encI)))
def H0 (l:List Issue):DV:=.agg [.im (.sl (l.map e8))]
attribute [simp] iv bv v8 H0 rI rB D3 A1 e8 encI
attribute [simp] qv iW lB bc lw iX lz iY qr qu lA gx pC G3 gz jy
attribute [simp] qH I3 bb jc j5 ai n9 DS.put C6 E7 jx yL HY qp sr mM mL uY dj qt Cu dn tQ DV.cells fG G2 zcells bg O7 bu eP T9 DS.keep DB B4 O0 qq O6 dR gC fzVL ae
theorem U5 {p:Prop} {Q:Exit->DS->Prop} {e:Exit} {t:Tok Q} {S:DS} (h:p->At Q e t S):p->At Q e t S:=h
theorem yI (objs:List DObj) (l:List (List IC)):eK objs (.im (.sl l))=some (l7 l):=rfl
theorem uU (objs:List DObj) (o g off len:Nat):eK objs (.vec o g off len)=match objs[o]? with
 | some (.vec _ es g' _)=>if g=g'/\off+len<=es.length then some ((es.drop off).take len) else none
 | _=>none:=by unfold eK;rfl
attribute [simp] yI uU
attribute [simp] ImV.one
theorem Ge (l:List DC):ImV (.agg l)↔∀ d∈l,∃ c,d=.im c:=⟨λh=>by cases h;assumption,.agg l⟩
theorem Gd (l:List DV):ImV (.tup l)↔∀ d∈l,ImV d:=⟨λh=>by cases h;assumption,.tup l⟩
attribute [simp] Ge Gd
attribute [simp] Fz Fy ec h9 A7 xD FW Q6 Op.operands Call.operands
attribute [simp] tr Dk mE IK pick bo kb kc nJ dX
attribute [simp] Fa W9 q8 Cb xO Hz lj U3 DS.drop V7 tq
theorem Lj (a b:Int):(a==b)=decide (a=b):=by by_cases h:a=b<;>simp[h]
theorem Li (a b:Int):(a != b)=!decide (a=b):=by by_cases h:a=b<;>simp[h]
attribute [simp] Lj Li
theorem HI {n o off:Nat} {objs:List DObj} (h:o<n):fz n objs (.ptr o off)=.ptr o off:=by simp[fz,DC.lt,h]
theorem HL {n o g i off:Nat} {objs:List DObj} (h:o<n):fz n objs (.ept o g i off)=.ept o g i off:=by simp[fz,DC.lt,h]
theorem HH {n o g off len:Nat} {objs:List DObj} (h:o<n):fz n objs (.vec o g off len)=.vec o g off len:=by simp[fz,DC.lt,h]
theorem BR (x:List IC) (l:List (List IC)):l7 (x :: l)=x.map .im :: l7 l:=rfl
theorem rV (l:List (List IC)) (n:Nat):(∀ e∈l7 l,e.length=n)↔∀ e∈l,e.length=n:=by
 constructor
 ·intro h e he;have:=h (e.map .im) (by simp only[l7,List.mem_map];exact⟨e,he,rfl⟩);simpa using this
 ·exact λh=>fY h
attribute [simp] rV
theorem Ai {α:Type} (f:α->List IC) (l:List α):(l7 (l.map f)).take l.length=l7 (l.map f):=List.take_of_length_le (by simp[q8])
attribute [simp] HI HL HH BR Ai
def Bd:Option IC->DC
 | some c=>.im c
 | none=>.dead
theorem Fj {n o g off len:Nat} {objs:List DObj} (h:n<=o):fz n objs (.vec o g off len)=Bd (frz 20 n objs (.vec o g off len)):=by
 have h1:DC.lt n (.vec o g off len)=false:=by simp[DC.lt];omega
 simp only[fz,h1];cases frz 20 n objs (.vec o g off len)<;>rfl
theorem Fk {n o off:Nat} {objs:List DObj} (h:n<=o):fz n objs (.ptr o off)=Bd (frz 20 n objs (.ptr o off)):=by
 have h1:DC.lt n (.ptr o off)=false:=by simp[DC.lt];omega
 simp only[fz,h1];cases frz 20 n objs (.ptr o off)<;>rfl
theorem HO (k n:Nat) (objs:List DObj) (c:IC):frz (k+1) n objs (.im c)=some c:=rfl
theorem Fq (k n o g off len:Nat) (objs:List DObj):frz (k+1) n objs (.vec o g off len)=if n<=o then match objs[o]? with
 | some (.vec _ es g' _)=>if g=g'/\off+len<=es.length then (E9 (E9 (frz k n objs)) ((es.drop off).take len)).map .sl else none
 | _=>none
 else none:=rfl
theorem Fr (k n o off:Nat) (objs:List DObj):frz (k+1) n objs (.ptr o off)=if n<=o then match objs[o]? with
 | some (.row c)=>if off<=c.length then (E9 (frz k n objs) (c.drop off)).map .ip else none
 | _=>none
 else none:=rfl
theorem Kf {n:Nat} {f:Fn} {caps:List DC} {objs:List DObj}:fz n objs (.fn f caps)=if DC.ltL n caps=true then .fn f caps else Bd (frz 20 n objs (.fn f caps)):=by
 have h1:DC.lt n (.fn f caps)=DC.ltL n caps:=rfl;simp only[fz,h1];split
 ·rfl
 ·cases frz 20 n objs (.fn f caps)<;>rfl
theorem HP (k n:Nat) (objs:List DObj) (f:Fn) (caps:List DC):frz (k+1) n objs (.fn f caps)=(E9 (frz k n objs) caps).map (.fn f):=rfl
theorem HJ {n o:Nat} {objs:List DObj} (h:o<n):fz n objs (.map o)=.map o:=by simp[fz,DC.lt,h]
theorem Fm {n o:Nat} {objs:List DObj} (h:n<=o):fz n objs (.map o)=Bd (frz 20 n objs (.map o)):=by
 have h1:DC.lt n (.map o)=false:=by simp[DC.lt];omega
 simp only[fz,h1];cases frz 20 n objs (.map o)<;>rfl
theorem Fs (k n o:Nat) (objs:List DObj):frz (k+1) n objs (.map o)=if n<=o then match objs[o]? with
 | some (.map ks es)=>(E9 (λx=>(E9 (frz k n objs) x.2).map λl=>(x.1,l)) es).map (.mp (O2 ks))
 | _=>none
 else none:=rfl
theorem HG {n o:Nat} {objs:List DObj} (h:o<n):fz n objs (.yld o)=.yld o:=by simp[fz,DC.lt,h]
theorem HK {n o:Nat} {objs:List DObj} (h:o<n):fz n objs (.itr o)=.itr o:=by simp[fz,DC.lt,h]
attribute [simp] Kf HP HJ Fm Fs HG HK DC.ltL DC.lt
attribute [simp] Bd Fj Fk HO Fq Fr E9
theorem i7:(∀ (p:Prop) [Decidable p],decide p=true↔p)/\(∀ (p:Prop) [Decidable p],decide p=false↔¬p)/\(∀ a b:Bool,(a&&b)=true↔a=true/\b=true)/\(∀ a b:Bool,(a&&b)=false↔a=false\/b=false)/\(∀ a b:Bool,(a||b)=true↔a=true\/b=true)/\(∀ a b:Bool,(a||b)=false↔a=false/\b=false)/\(∀ a:Bool,(!a)=true↔a=false)/\(∀ a:Bool,(!a)=false↔a=true)/\(∀ (α:Type) [BEq α] [LawfulBEq α] (a b:α),(a==b)=true↔a=b)/\(∀ (α:Type) [BEq α] [LawfulBEq α] (a b:α),(a==b)=false↔a≠b)/\(false=true↔False)/\(true=false↔False):=
 ⟨λ_=>decide_eq_true_iff,λ_=>decide_eq_false_iff_not,λ_ _=>Bool.and_eq_true_iff,λa b=>by cases a<;>cases b<;>decide,λa b=>by cases a<;>cases b<;>decide,λa b=>by cases a<;>cases b<;>decide,λa=>by cases a<;>decide,λa=>by cases a<;>decide,λ_ _ _ _ _=>beq_iff_eq,λ_ _ _ _ _=>beq_eq_false_iff_ne,by decide,by decide⟩
abbrev xw:=@At.seq
abbrev Mi:=@At.then_ret
abbrev Jd:=@At.then_exit
abbrev It:=@At.block_end
abbrev Mh:=@At.block_ret
abbrev Jc:=@At.block_exit
abbrev LD:=@At.block_out
abbrev ME:=@At.scope_ret
abbrev xu:=@Dy
abbrev El:=@th
abbrev MD:=@td
abbrev Gh:=@wH
abbrev MC:=@tg
abbrev Jb:=@wI
abbrev LC:=@Dz
abbrev za:=@And.intro
class Zs (A:Prop) (B:outParam Prop):Prop where
 go:B->A
theorem zz {A B:Prop} [h:Zs A B] (b:B):A:=h.go b
section
variable {P:Program} {G:MF} {n:Cx} {S:DS} {Q:Exit->DS->Prop}
instance {y:Code}:Zs (At (ae (λS'=>DT P G n y S' Q) Q) .normal ⟨⟩ S) (DT P G n y S Q):=⟨At.seq⟩
instance {next:DS->Prop}:Zs (At (ae next Q) .ret ⟨⟩ S) (At Q .ret ⟨⟩ S):=⟨At.then_ret⟩
instance {next:DS->Prop} {id:Nat}:Zs (At (ae next Q) (.exit id) ⟨⟩ S) (At Q (.exit id) ⟨⟩ S):=⟨At.then_exit⟩
instance {id:Nat}:Zs (At (ac id Q) .normal ⟨⟩ S) (At Q .normal ⟨⟩ S):=⟨At.block_end⟩
instance {id:Nat}:Zs (At (ac id Q) .ret ⟨⟩ S) (At Q .ret ⟨⟩ S):=⟨At.block_ret⟩
instance {id:Nat}:Zs (At (ac id Q) (.exit id) ⟨⟩ S) (At Q .normal ⟨⟩ S):=⟨At.block_exit⟩
instance :Zs (At (dW Q) .normal ⟨⟩ S) (At Q .normal ⟨⟩ S):=⟨At.scope_end⟩
instance :Zs (At (dW Q) .ret ⟨⟩ S) (At Q .ret ⟨⟩ S):=⟨At.scope_ret⟩
instance {id:Nat}:Zs (At (dW Q) (.exit id) ⟨⟩ S) (At Q (.exit id) ⟨⟩ S):=⟨At.scope_exit⟩
instance {x y:Code}:Zs (DT P G n (.seq x y) S Q) (DT P G n x S (ae (λS'=>DT P G n y S' Q) Q)):=⟨Dy⟩
instance {id:Nat} {c:Code}:Zs (DT P G n (.block id c) S Q) (DT P G n c S (ac id Q)):=⟨th⟩
instance {c:Code}:Zs (DT P G n (.scope c) S Q) (DT P G n c S (dW Q)):=⟨td⟩
instance :Zs (DT P G n .skip S Q) (At Q .normal ⟨⟩ S):=⟨wH⟩
instance {l:Nat}:Zs (DT P G n (.label l) S Q) (At Q .normal ⟨⟩ S):=⟨tg⟩
instance {id:Nat}:Zs (DT P G n (.exit id) S Q) (At Q (.exit id) ⟨⟩ S):=⟨wI⟩
instance :Zs (DT P G n .ret S Q) (At Q .ret ⟨⟩ S):=⟨Dz⟩
theorem zx {rs:List ResultVar} {K:DV->List DObj->Prop} {ds:List DV} (hq:K (O6 ds) S.objs) (h:O0 P S rs=some ds:=by simp -dsimp;exact rfl):At (Gy P rs K) .ret ⟨⟩ S:=At.fn_ret h hq
theorem zy {rs:List ResultVar} {K:DV->List DObj->Prop} {ds:List DV} (hq:K (O6 ds) S.objs) (h:O0 P S rs=some ds:=by simp -dsimp;exact rfl):At (Gy P rs K) .normal ⟨⟩ S:=At.fn_end h hq
theorem zr {rs:List ResultVar} {K:DV->List DObj->Prop} {ds:List DV} (hq:K (O6 ds) S.objs) (h:O0 P S rs=some ds:=by simp -dsimp[hs];exact rfl):At (Gy P rs K) .ret ⟨⟩ S:=At.fn_ret h hq
theorem ze {rs:List ResultVar} {K:DV->List DObj->Prop} {ds:List DV} (hq:K (O6 ds) S.objs) (h:O0 P S rs=some ds:=by simp -dsimp[hs];exact rfl):At (Gy P rs K) .normal ⟨⟩ S:=At.fn_end h hq
theorem i9 {c:Operand} {x y:Code} {b:Bool} {p q:Prop} (ht:p->DT P G n x S Q) (hf:q->DT P G n y S Q) (hc:j5 G S c=some (.one (.im (.raw (.bool b)))):=by exact rfl) (hp:b=true->p:=by intro h;first|(simp only[i7] at h;exact h)|exact (by simp only[i7] at h:False)|exact h) (hq:b=false->q:=by intro h;first|(simp only[i7] at h;exact h)|exact (by simp only[i7] at h:False)|exact h):DT P G n (.cond c x y) S Q:=R2 hc (λh=>ht (hp h)) λh=>hf (hq h)
theorem zM {l:List Oper} (id nt nq:Nat) (ks:List Nat)
 (h:FW P G (l.map (·.dst)) (l.take nq) S (λS'=>qH P G (l.map (·.dst)) (l.drop nq) S' (λS''=>At Q .normal ⟨⟩ (S''.keep ks)) ⟨⟩) ⟨⟩) (hm:P.follows .mixedOrders=true:=by exact mixed) (hnt:S.nt=nt:=by rfl) (hB:iy nt nq l=true:=by kernel_rfl):DT P G n (.region id l.toArray true) S Q:=nw nq ks hm hnt hB h
end
abbrev zP (P:Program) (G:MF) (f:FuncId) (av:List DV) (r:DV):Prop:=∀ objs:List DObj,DCall P G f av objs (λd o=>d=r/\o=objs)
theorem zf {P:Program} {G:MF} {f:FuncId} {fn:Func} {c:Code} {nt:Nat} {args:List DV} {d0:DV} {rs:List ResultVar} (hf:P.funcs[f]?=some fn) (hnt:fn.ntmps=nt) (h:DT P G ⟨([]:List DObj).length,none⟩ c ⟨nt,dR args 0,[]⟩ (Gy P rs (λd o=>gC 0 o d=d0))) (hb:fn.body=some c:=by exact rfl) (hargs:args.length<=nt:=by simp) (hrs:fn.results.toList=rs:=by exact rfl) (ha:∀ d∈args,ImV d:=by simp) (hd:ImV d0:=by simp):zP P G f args d0:=λobjs=>DCall.frame (g9 hf hb hnt hargs hrs h) ha hd objs
abbrev zp:=@CallE.pure
abbrev zt:=@CallE.thaw
abbrev zh:=@CallE.here
abbrev zq:=@gQ
abbrev zE:=@C3
theorem zw {G:MF} {n:Cx} {S S':DS} (ks:List Nat) (m:Nat) (h:(S.keep ks).drop m=S':=by simp) (hm:m<=S.objs.length:=by simp) (hn:n.n<=m:=by simp):Weak G n S S':=Weak.of_drop ks m hm hn h
theorem zv {G:MF} {n:Cx} {S S':DS} (ks:List Nat) (h:S.keep ks=S':=by simp):Weak G n S S':=Weak.of_keep ks h
theorem zn {G:MF} {n:Cx} {S:DS} {Q:Exit->DS->Prop} {ι:Type} {I:ι->DS} {m:ι->Nat} {i:ι} (j:ι) (h2:Weak G n S (I j)) (h1:m j<m i:=by first|omega|(simp only;omega)|(simp;omega)):At (ae (λS'=>Dn G n I m i S') Q) .normal ⟨⟩ S:=At.round j h1 h2
end Go.Ab
namespace Go.Proofs
open Go Go.Ab Tryz
attribute [local simp] F0 setLp
theorem p9 {n:Int} (h1:-9223372036854775808<=n) (h2:n<=9223372036854775807):IntKind.i64.wrap n=n:=IntWalk.i64_in n ⟨h1,h2⟩
theorem zk (k:Nat) (h:k<4611686018427387904:=by omega):IntKind.i64.wrap ((k:Int)+1)=((k+1:Nat):Int):=p9 (by omega) (by omega)
variable {G:MF}
theorem dK (n lo hi:Int) (objs:List DObj):DCall prog G 165 [iv n,iv lo,iv hi] objs (λd objs'=>d=bv (decide (lo<=n)&&decide (n<=hi))/\objs'=objs):=by
 refine DCall.frame ?_ (by simp) (by simp) objs;refine g9 func165 rfl ntmps165 (by simp) rfl ?_;simp only[iv];have hs:=trivial;repeat' first|(with_reducible first|refine zz ?_|refine zr ?_|refine zE [0,1,2,6] ?_)|simp -dsimp[hs]|with_reducible refine j0 ?_ ?_<;>intro h<;>have h0:=h<;>(try simp only[i7] at h)<;>have h2:=h<;>(try simp at h2)<;>replace hs:=za h0 (za h (za h2 hs))
 all_goals simp[bv, *]
def idx (l:List Int) (x:Int):Int:=match l.idxOf? x with|some i=>i|none=>-1
theorem wp {l:List Int} {x:Int} {k:Nat} (h:l[k]?=some x) (hno:∀ j,j<k->l[j]?≠some x):idx l x=k:=by
 have:l.idxOf? x=some k:=by
  rw[List.idxOf?,List.findIdx?_eq_some_iff_getElem];obtain⟨hlt,he⟩:=List.getElem?_eq_some_iff.1 h;refine⟨hlt,by simp[he],λj hj=>?_⟩;have:=hno j hj;rw[List.getElem?_eq_getElem (by omega)] at this;simpa using this
 simp[idx,this]
theorem BT {l:List Int} {x:Int} (hno:∀ j,j<l.length->l[j]?≠some x):idx l x=-1:=by
 have:l.idxOf? x=none:=by
  rw[List.idxOf?,List.findIdx?_eq_none_iff];intro y hy;obtain⟨j,hj⟩:=List.mem_iff_getElem?.1 hy;have hlt:=e7 hj;have:=hno j hlt;rw[hj] at this;simpa using this
 simp[idx,this]
theorem qf (l:List Int) (x:Int) (hl:l.length<1000000) (objs:List DObj):DCall prog G 147 [v8 l,iv x] objs (λd objs'=>d=iv (idx l x)/\objs'=objs):=by
 refine DCall.frame ?_ (by simp) (by simp) objs;refine g9 func147 rfl ntmps147 (by simp) rfl ?_;simp only[v8,iv];have hs:=trivial;repeat' first|(with_reducible first|refine zz ?_|refine zE [0,1,4,5,9,17] ?_)|simp -dsimp[hs]
 refine i6 (ι:={ k:Nat // k<=l.length/\∀ j,j<k->l[j]?≠some x }) (λk=>⟨19,[(0,v8 l),(1,iv x),(4,iv 0),(5,iv (k.1:Int))],[]⟩) (λk=>l.length-k.1) ⟨0,by simp,by simp⟩ (zv [0,1,4,5] (by simp[v8,iv])) ?_;rintro⟨k,hk,hno⟩;simp only[v8,iv];by_cases hlt:k<l.length
 ·have hx:l[k]?=some l[k]:=by simp[hlt]
  have hw:=zk k;have hs:=za hx hw;repeat' first|(with_reducible first|refine zz ?_|refine zr ?_ (by simp -dsimp[encI,rI,hs];exact rfl)|refine zE [0,1,4,5,9,17] ?_)|simp -dsimp[encI,rI,hs]|refine i9 ?_ ?_<;>intro h<;>try exact h.elim
  all_goals try clear hs
  all_goals try omega
  ·exact(wp (by rw[hx];simp[*]) hno).symm
  ·refine⟨⟨k+1,by omega,λj hj=>?_⟩,?_,Weak.of_keep [0,1,4,5] (by simp[v8,iv])⟩
   ·by_cases e:j=k
    ·subst e;simp[hx, *]
    ·exact hno j (by omega)
   ·simp;omega
 ·have hs:=trivial;repeat' first|(with_reducible first|refine zz ?_|refine zr ?_|refine zE [0,1,4,5,9,17] ?_)|simp -dsimp[hs]|refine i9 ?_ ?_<;>intro h<;>try exact h.elim
  all_goals try omega
  exact(BT λj hj=>hno j (by omega)).symm
end Go.Proofs
namespace Go.Proofs
open Go Go.Ab Tryz
attribute [local simp] F0 setLp
variable {G:MF}
theorem mixed:prog.follows .mixedOrders=true:=by kernel_rfl
def N9 (x:Issue):DV:=.agg ((e8 x).map .im)
attribute [simp] N9
theorem EP (l:List Itm):∀ e∈l.map A1,e.length=2:=by simp[A1]
theorem Hv (l:List Dim):∀ e∈l.map D3,e.length=3:=by simp[D3]
theorem qR (x:Issue) (hi:x.items.length<=16) (hd:x.dims.length<=8) (objs:List DObj):DCall prog G 235 [N9 x] objs (λd objs'=>d=N9 x/\objs'=objs):=by
 refine DCall.frame ?_ (by simp) (by simp) objs;refine g9 func235 rfl ntmps235 (by simp) rfl ?_;try simp only[N9]
 have h1:=EP x.items;have h2:=Hv x.dims;have hs:=trivial;repeat' first|(with_reducible first|refine zz ?_|refine And.intro (by omega) ?_|refine zr ?_ (by simp -dsimp[e8,rI,hs];exact rfl))|simp -dsimp[e8,rI,hs]|refine zM 1 14 9 [0,1,2] ?_|with_reducible refine zE [0,1,2] ?_
end Go.Proofs
namespace Go.Proofs
open Go Go.Ab Tryz
attribute [local simp] F0 setLp
variable {G:MF}
theorem EV (x:Issue):N9 x=.agg [.im (rI x.drawing),.im (rI x.letter),.im (.raw (.int .u8 x.kind)),.im (.sl (x.items.map A1)),.im (.sl (x.dims.map D3))]:=rfl
def kJ (l:List Issue):Prop:=l.length<=80/\∀ x∈l,x.items.length<=16/\x.dims.length<=8
theorem GA (l:List Issue) (hl:kJ l) (objs:List DObj):DCall prog G 190 [H0 l] objs (λd objs'=>d=H0 l/\objs'=objs):=by
 refine DCall.frame ?_ (by simp) (by simp) objs;refine g9 func190 rfl ntmps190 (by simp) rfl ?_;obtain⟨hl1,hl2⟩:=hl;simp only[H0];have hs:=trivial;repeat' first|(with_reducible first|refine zz ?_|refine zE [0,1,2,3,4,9] ?_)|simp -dsimp[hs]
 all_goals try clear hs
 refine i6 (ι:={ p:Nat×Nat×Nat×Bool // p.1<=l.length/\(p.2.2.1=5\/p.2.2.2=true) }) (λp=>⟨24,[(1,.one (.ptr 0 0)),(2,.one (.ptr 2 0)),(3,.one (.ptr 4 0)),(4,iv (p.1.1:Int))],[.row [.im (.sl (l.map e8))],.vec 0 [] 0 true,.row [.vec 1 0 0 0],.vec p.1.2.2.1 (l7 ((l.take p.1.1).map e8)) p.1.2.1 p.1.2.2.2,.row [.vec 3 p.1.2.1 0 p.1.1]]⟩) (λp=>l.length-p.1.1) ⟨(0,0,0,true),by simp⟩ (zv [1,2,3,4] (by simp[iv])) ?_;rintro⟨⟨k,g,sz,nl⟩,hk,hz⟩;simp only at hk hz;simp only[iv];have htk:(l7 ((l.map e8).take k)).take k=l7 ((l.map e8).take k):=List.take_of_length_le (by simp[q8];omega);by_cases hlt:k<l.length
 ·have hx:l[k]?=some l[k]:=by simp[hlt]
  have hw:=zk k;have hc:=λobjs=>qR (G:=G) l[k] (hl2 _ (by simp)).1 (hl2 _ (by simp)).2 objs;have hmin:min k l.length=k:=Nat.min_eq_left (by omega);simp only[EV] at hc;have hs:=za hx (za hw (za hz hmin));repeat' first|(with_reducible first|refine zz ?_|refine And.intro (by omega) ?_|refine zr ?_ (by simp -dsimp[e8,rI,hs];exact rfl))|simp -dsimp[e8,rI,hs]|refine gQ hc ?_|refine zM 5 24 9 [0,1,2,3,4,9] ?_|with_reducible refine zE [0,1,2,3,4,9] ?_|refine i9 ?_ ?_<;>intro h<;>try exact h.elim
  all_goals try clear hs
  all_goals try omega
  refine At.round ⟨(k+1,g+1,5,false),by simp;omega⟩ (by simp;omega) (Weak.of_drop [1,2,3,4] 5 (by simp) (by simp) ?_);have hs:(l.map e8).take (k+1)=(l.map e8).take k++[e8 l[k]]:=by
   rw[List.take_succ];simp[hx]
  simp[hs,htk,W9,e8,rI]
 ·have hkl:k=l.length:=by omega
  subst hkl;have hall:(l.map e8).take l.length=l.map e8:=List.take_of_length_le (by simp);rw[hall] at htk;have hs:=za hall htk;repeat' first|(with_reducible first|refine zz ?_|refine zr ?_|refine zE [0,1,2,3,4,9] ?_)|simp -dsimp[hs]|refine i9 ?_ ?_<;>intro h<;>try exact h.elim
  all_goals try clear hs
end Go.Proofs
namespace Go.Proofs
open Go Go.Ab Tryz
attribute [local simp] F0 setLp
variable {G:MF}
instance (l:List Issue):Decidable (kJ l):=inferInstanceAs (Decidable (_/\_))
theorem Fi (l:List Issue) (objs:List DObj):DCall prog G 189 [H0 l] objs (λd objs'=>d=bv (!decide (kJ l))/\objs'=objs):=by
 refine DCall.frame ?_ (by simp) (by simp) objs;refine g9 func189 rfl ntmps189 (by simp) rfl ?_;simp only[H0,bv];have hs:=trivial;repeat' first|(with_reducible first|refine zz ?_|refine zr ?_|refine zE [0,1,2,3,7,12,32] ?_)|simp -dsimp[hs]|refine i9 ?_ ?_<;>intro h<;>try exact h.elim
 all_goals try clear hs
 ·exact λhs=>by have:=hs.1;omega
 ·have hl:l.length<=80:=by omega
  refine i6 (ι:={ k:Nat // k<=l.length/\∀ j x,j<k->l[j]?=some x->x.items.length<=16/\x.dims.length<=8 }) (λp=>⟨33,[(1,.one (.ptr 0 0)),(3,iv (p.1:Int))],[.row [.im (.sl (l.map e8))]]⟩) (λp=>l.length-p.1) ⟨0,by simp⟩ (zv [1,3] (by simp[iv])) ?_;rintro⟨k,hk,hno⟩;simp only[iv];by_cases hlt:k<l.length
  ·have hx:l[k]?=some l[k]:=by simp[hlt]
   have hw:=zk k;have bad:16<l[k].items.length\/8<l[k].dims.length->¬ kJ l:=λh hs=>by have:=hs.2 l[k] (by simp);omega
   have hs:=za hx hw;repeat' first|(with_reducible first|refine zz ?_|refine zr ?_ (by simp -dsimp[e8,rI,hs];exact rfl)|refine zE [0,1,2,3,7,12,32] ?_)|simp -dsimp[e8,rI,hs]|refine i9 ?_ ?_<;>intro h<;>try exact h.elim|with_reducible refine j0 ?_ ?_<;>intro h<;>have h0:=h<;>(try simp only[i7] at h)<;>have h2:=h<;>(try simp at h2)<;>replace hs:=za h0 (za h (za h2 hs))
   all_goals try clear hs
   all_goals first
    | omega
    | exact bad (by omega)
    | skip
   refine zn ⟨k+1,by omega,λj x hj hjx=>?_⟩ (zv [1,3]);by_cases e:j=k
   ·subst e;rw[hx] at hjx;cases hjx;omega
   ·exact hno j x (by omega) hjx
  ·have hs:=hlt;repeat' first|(with_reducible first|refine zz ?_|refine zr ?_|refine zE [0,1,2,3,7,12,32] ?_)|simp -dsimp[hs]|refine i9 ?_ ?_<;>intro h<;>try exact h.elim
   all_goals try clear hs
   exact⟨hl,λx hx'=>by
    obtain⟨j,hj⟩:=List.mem_iff_getElem?.1 hx';exact hno j x (by have:=e7 hj;omega) hj⟩
end Go.Proofs
namespace Go.Proofs
open Go Go.Ab Tryz
attribute [local simp] F0 setLp
variable {G:MF}
@[simp] abbrev Qw:List Nat:=[0,1,4,5,10,14,25]
theorem tI (l r:List Int) (hl:l.length<1000000) (objs:List DObj):DCall prog G 25 [v8 l,v8 r] objs (λd objs'=>d=bv (decide (l=r))/\objs'=objs):=by
 refine DCall.frame ?_ (by simp) (by simp) objs;refine g9 func25 rfl ntmps25 (by simp) rfl ?_;simp only[v8,bv];have hs:=trivial;repeat' first|(with_reducible first|refine zz ?_|refine zr ?_|refine zE Qw ?_)|simp -dsimp[hs]|refine i9 ?_ ?_<;>intro h<;>try exact h.elim
 ·rintro rfl;omega
 ·have hlen:l.length=r.length:=by omega
  refine i6 (ι:={ k:Nat // k<=l.length/\∀ j,j<k->l[j]?=r[j]? }) (λp=>⟨26,[(0,v8 l),(1,v8 r),(5,iv (p.1:Int))],[]⟩) (λp=>l.length-p.1) ⟨0,by simp⟩ (zv [0,1,5] (by simp[iv,v8])) ?_;rintro⟨k,hk,hno⟩;simp only[iv,v8];by_cases hlt:k<l.length
  ·have hx:l[k]?=some l[k]:=by simp[hlt]
   have hltr:k<r.length:=by omega
   have hy:r[k]?=some r[k]:=by simp[hltr]
   have hw:=zk k;have hs:=za hx (za hy hw);repeat' first|(with_reducible first|refine zz ?_|refine zr ?_ (by simp -dsimp[encI,rI,hs];exact rfl))|simp -dsimp[encI,rI,hs]|refine zM 6 26 9 Qw ?_|with_reducible refine zE Qw ?_|refine i9 ?_ ?_<;>intro h<;>try exact h.elim
   all_goals try omega
   ·rename_i h;rintro rfl;exact h rfl
   ·rename_i h;refine zn ⟨k+1,by omega,λj hj=>?_⟩ (zv [0,1,5]);by_cases e:j=k
    ·subst e;rw[hx,hy,h]
    ·exact hno j (by omega)
  ·have hs:=hlt;repeat' first|(with_reducible first|refine zz ?_|refine zr ?_|refine zE Qw ?_)|simp -dsimp[hs]|refine i9 ?_ ?_<;>intro h<;>try exact h.elim
   refine List.ext_getElem? λj=>?_;by_cases hj:j<k
   ·exact hno j hj
   ·rw[List.getElem?_eq_none (by omega),List.getElem?_eq_none (by omega)]
end Go.Proofs
namespace Go.Proofs
open Go Go.Ab
attribute [local simp] F0 setLp
variable {G:MF}
def Mm (l:List Itm):DV:=.one (.im (.sl (l.map A1)))
attribute [simp] Mm
end Go.Proofs
namespace Go.Proofs
open Go Go.Ab
attribute [local simp] F0 setLp
variable {G:MF}
end Go.Proofs
namespace Go.Proofs
open Go Go.Ab
attribute [local simp] F0 setLp
variable {G:MF}
end Go.Proofs
namespace Go.Proofs
open Go Go.Ab Tryz
attribute [local simp] F0 setLp
variable {G:MF}
def K4:Issue:=⟨0,0,0,[],[]⟩
def p6 (l:List Issue) (d lt:Int):Option Issue:=l.find? λx=>x.drawing==d&&x.letter==lt
def E0 (d lt:Int):DV:=.agg [.im (rI d),.im (rI lt)]
attribute [simp] E0
@[simp] abbrev WC:List Nat:=[0,1,2,3,4,5,6,7,12,31]
theorem uG (l:List Issue) (d lt:Int) (hl:l.length<1000000) (objs:List DObj):DCall prog G 171 [H0 l,E0 d lt] objs (λr objs'=>r=.tup [N9 ((p6 l d lt).getD K4),bv (p6 l d lt).isSome]/\objs'=objs):=by
 refine DCall.frame ?_ (by simp) (by simp) objs;refine g9 func171 rfl ntmps171 (by simp) rfl ?_;simp only[H0,E0,bv,N9];have hs:=trivial;repeat' first|(with_reducible first|refine zz ?_|refine zE WC ?_)|simp -dsimp[hs]
 refine i6 (ι:={ k:Nat // k<=l.length/\p6 l d lt=p6 (l.drop k) d lt }) (λp=>⟨34,[(2,.one (.ptr 0 0)),(3,.one (.ptr 1 0)),(4,.one (.ptr 4 0)),(6,iv (p.1:Int))],[.row [.im (.sl (l.map e8))],.row [.im (rI d),.im (rI lt)],.vec 0 [] 0 true,.vec 0 [] 0 true,.row ((rI 0 :: rI 0 :: [IC.raw (.int .u8 0)]).map .im++[.vec 2 0 0 0,.vec 3 0 0 0])]⟩) (λp=>l.length-p.1) ⟨0,by simp⟩ (zv [2,3,4,6] (by simp[iv,rI])) ?_;rintro⟨k,hk,hno⟩;simp only[iv];by_cases hlt:k<l.length
 ·have hx:l[k]?=some l[k]:=by simp[hlt]
  have hw:=zk k;have hcons:p6 l d lt=if (l[k].drawing==d&&l[k].letter==lt)=true then some l[k] else p6 (l.drop (k+1)) d lt:=by
   rw[hno,List.drop_eq_getElem_cons hlt];simp only[p6,List.find?_cons];split<;>simp_all
  have hs:=za hx hw;repeat' first|(with_reducible first|refine zz ?_|refine zr ?_ (by simp -dsimp[e8,rI,hs];exact rfl)|refine zE WC ?_)|simp -dsimp[e8,rI,hs]|refine i9 ?_ ?_<;>intro h<;>try exact h.elim|with_reducible refine j0 ?_ ?_<;>intro h<;>have h0:=h<;>(try simp only[i7] at h)<;>have h2:=h<;>(try simp at h2)<;>replace hs:=za h0 (za h (za h2 hs))
  all_goals try clear hs
  all_goals try omega
  ·have hf:p6 l d lt=some l[k]:=by simp_all
   simp[hf, *]
  ·rename_i h;have hf:p6 l d lt=p6 (l.drop (k+1)) d lt:=by rw[hcons];simp[h]
   exact zn ⟨k+1,by omega,hf⟩ (zw [2,3,4,6] 5 (by simp[rI]))
  ·rename_i h2 h;have hf:p6 l d lt=p6 (l.drop (k+1)) d lt:=by rw[hcons];simp[h2]
   exact zn ⟨k+1,by omega,hf⟩ (zw [2,3,4,6] 5 (by simp[rI]))
 ·have hf:p6 l d lt=none:=by rw[hno,List.drop_eq_nil_of_le (by omega)];rfl
  have hs:=hlt;repeat' first|(with_reducible first|refine zz ?_|refine zr ?_ (by simp -dsimp[e8,rI,hs];exact rfl)|refine zE WC ?_)|simp -dsimp[e8,rI,hs]|refine i9 ?_ ?_<;>intro h<;>try exact h.elim
  all_goals simp[hf,K4]
end Go.Proofs
namespace Go.Proofs
open Go Go.Ab Tryz
attribute [local simp] F0 setLp
variable {G:MF}
def H8 {α:Type} (p:α->Bool) (l:List α):Int:=match l.findIdx? p with|some i=>i|none=>-1
theorem J7 {α:Type} {p:α->Bool} {l:List α} {i:Nat} {x:α} (h:l[i]?=some x) (hp:p x=true) (hno:∀ (j:Nat) (x:α),j<i->l[j]?=some x->p x=false):H8 p l=i:=by
 have:l.findIdx? p=some i:=by
  rw[List.findIdx?_eq_some_iff_getElem];obtain⟨hlt,he⟩:=List.getElem?_eq_some_iff.1 h;refine⟨hlt,by rw[he];exact hp,λj hj=>?_⟩;have:=hno j l[j] hj (by simp);simp[this]
 simp[H8,this]
theorem U6 {α:Type} {p:α->Bool} {l:List α} (hno:∀ (j:Nat) (x:α),l[j]?=some x->p x=false):H8 p l=-1:=by
 have:l.findIdx? p=none:=by
  rw[List.findIdx?_eq_none_iff];intro y hy;obtain⟨j,hj⟩:=List.mem_iff_getElem?.1 hy;exact hno j y hj
 simp[H8,this]
theorem B0 {α:Type} (p:α->Bool) (l:List α):decide (0<=H8 p l)=l.any p:=by
 unfold H8;split
 ·rename_i i h;rw[List.findIdx?_eq_some_iff_getElem] at h;obtain⟨hlt,hp,_⟩:=h;have:l.any p=true:=List.any_eq_true.2 ⟨l[i],by simp,hp⟩;simp[this]
 ·rename_i h;rw[List.findIdx?_eq_none_iff] at h;have:l.any p=false:=by rw[List.any_eq_false];intro x hx;simp[h x hx]
  simp[this]
def BH (x:Itm):DV:=.agg ((A1 x).map .im)
def iZ (x:Dim):DV:=.agg ((D3 x).map .im)
attribute [simp] BH iZ
@[simp] abbrev Qa:List Nat:=[0,1,4,5,7,8,9,16]
theorem fX (l:List Int) (p:Int->Bool) (k:Nat) (caps:List DC) (objs:List DObj) (hok:E6 prog k) (hf:∀ x∈l,DCall prog G k (iv x :: caps.map .one) objs (λd o=>d=bv (p x)/\o=objs)) (hl:l.length<1000000):DCall prog G 188 [.one (.im (.sl (l.map encI))),.one (.fn (.func k) caps)] objs (λd o=>d=iv (H8 p l)/\o=objs):=by
 refine g9 func188 rfl ntmps188 (by simp) rfl ?_;have hs:=trivial;repeat' first|(with_reducible first|refine zz ?_|refine zE Qa ?_)|simp -dsimp[hs]
 refine i6 (ι:={ k:Nat // k<=l.length/\∀ j x,j<k->l[j]?=some x->p x=false }) (λi=>⟨19,[(0,.one (.im (.sl (l.map encI)))),(1,.one (.fn (.func k) caps)),(7,iv (l.length:Int)),(8,iv (i.1:Int))],objs⟩) (λi=>l.length-i.1) ⟨0,by simp⟩ (zv [0,1,7,8]) ?_;rintro⟨i,hi,hno⟩;simp only[iv];by_cases hlt:i<l.length
 ·have hx:l[i]?=some l[i]:=by simp[hlt]
  have hw:=zk i;have hc:=hf l[i] (by simp);simp only[iv,encI,List.map_cons,List.map_nil,bv,rI] at hc;have hs:=za hx (za hw hok);repeat' first|(with_reducible first|refine zz ?_|refine And.intro (by omega) ?_|refine zr ?_|refine zE Qa ?_)|simp -dsimp[hs]|refine CallE.here hc ?_|refine i9 ?_ ?_<;>intro h<;>try exact h.elim|with_reducible refine And.intro ?_ ?_
  all_goals try omega
  ·exact(J7 hx (by assumption) hno).symm
  ·exact At.round ⟨i+1,by omega,λj x hj hjx=>by
    by_cases e:j=i
    ·subst e;rw[hx] at hjx;cases hjx;assumption
    ·exact hno j x (by omega) hjx⟩ (by simp;omega) (zv [0,1,7,8])
 ·have hs:=trivial;repeat' first|(with_reducible first|refine zz ?_|refine zr ?_|refine zE Qa ?_)|simp -dsimp[hs]|refine i9 ?_ ?_<;>intro h<;>try exact h.elim|with_reducible refine And.intro ?_ ?_
  all_goals try omega
  exact(U6 λj x hjx=>hno j x (by have:=e7 hjx;omega) hjx).symm
theorem D4 (l:List Int) (p:Int->Bool) (k:Nat) (caps:List DC) (objs:List DObj) (hok:E6 prog k) (hf:∀ x∈l,DCall prog G k (iv x :: caps.map .one) objs (λd o=>d=bv (p x)/\o=objs)) (hl:l.length<1000000):DCall prog G 122 [.one (.im (.sl (l.map encI))),.one (.fn (.func k) caps)] objs (λd o=>d=bv (l.any p)/\o=objs):=by
 refine g9 func122 rfl ntmps122 (by simp) rfl ?_;have hc:=fX l p k caps objs hok hf hl;repeat' first|(with_reducible first|refine zz ?_|refine zx ?_|refine zE [0,1,4] ?_)|simp -dsimp|refine CallE.here hc ?_|with_reducible refine And.intro ?_ ?_
 simp[B0]
theorem nE (l:List Itm) (p:Itm->Bool) (k:Nat) (caps:List DC) (objs:List DObj) (hok:E6 prog k) (hf:∀ x∈l,DCall prog G k (BH x :: caps.map .one) objs (λd o=>d=bv (p x)/\o=objs)) (hl:l.length<1000000):DCall prog G 279 [.one (.im (.sl (l.map A1))),.one (.fn (.func k) caps)] objs (λd o=>d=iv (H8 p l)/\o=objs):=by
 refine g9 func279 rfl ntmps279 (by simp) rfl ?_;have hs:=trivial;repeat' first|(with_reducible first|refine zz ?_|refine zE Qa ?_)|simp -dsimp[hs]
 refine i6 (ι:={ k:Nat // k<=l.length/\∀ j x,j<k->l[j]?=some x->p x=false }) (λi=>⟨19,[(0,.one (.im (.sl (l.map A1)))),(1,.one (.fn (.func k) caps)),(7,iv (l.length:Int)),(8,iv (i.1:Int))],objs⟩) (λi=>l.length-i.1) ⟨0,by simp⟩ (zv [0,1,7,8]) ?_;rintro⟨i,hi,hno⟩;simp only[iv];by_cases hlt:i<l.length
 ·have hx:l[i]?=some l[i]:=by simp[hlt]
  have hw:=zk i;have hc:=hf l[i] (by simp);simp only[BH,A1,List.map_cons,List.map_nil,bv,rI] at hc;have hs:=za hx (za hw hok);repeat' first|(with_reducible first|refine zz ?_|refine And.intro (by omega) ?_|refine zr ?_|refine zE Qa ?_)|simp -dsimp[hs]|refine CallE.here hc ?_|refine i9 ?_ ?_<;>intro h<;>try exact h.elim|with_reducible refine And.intro ?_ ?_
  all_goals try omega
  ·exact(J7 hx (by assumption) hno).symm
  ·exact At.round ⟨i+1,by omega,λj x hj hjx=>by
    by_cases e:j=i
    ·subst e;rw[hx] at hjx;cases hjx;assumption
    ·exact hno j x (by omega) hjx⟩ (by simp;omega) (zv [0,1,7,8])
 ·have hs:=trivial;repeat' first|(with_reducible first|refine zz ?_|refine zr ?_|refine zE Qa ?_)|simp -dsimp[hs]|refine i9 ?_ ?_<;>intro h<;>try exact h.elim|with_reducible refine And.intro ?_ ?_
  all_goals try omega
  exact(U6 λj x hjx=>hno j x (by have:=e7 hjx;omega) hjx).symm
theorem jS (l:List Itm) (p:Itm->Bool) (k:Nat) (caps:List DC) (objs:List DObj) (hok:E6 prog k) (hf:∀ x∈l,DCall prog G k (BH x :: caps.map .one) objs (λd o=>d=bv (p x)/\o=objs)) (hl:l.length<1000000):DCall prog G 223 [.one (.im (.sl (l.map A1))),.one (.fn (.func k) caps)] objs (λd o=>d=bv (l.any p)/\o=objs):=by
 refine g9 func223 rfl ntmps223 (by simp) rfl ?_;have hc:=nE l p k caps objs hok hf hl;repeat' first|(with_reducible first|refine zz ?_|refine zx ?_|refine zE [0,1,4] ?_)|simp -dsimp|refine CallE.here hc ?_|with_reducible refine And.intro ?_ ?_
 simp[B0]
theorem nG (l:List Dim) (p:Dim->Bool) (k:Nat) (caps:List DC) (objs:List DObj) (hok:E6 prog k) (hf:∀ x∈l,DCall prog G k (iZ x :: caps.map .one) objs (λd o=>d=bv (p x)/\o=objs)) (hl:l.length<1000000):DCall prog G 363 [.one (.im (.sl (l.map D3))),.one (.fn (.func k) caps)] objs (λd o=>d=iv (H8 p l)/\o=objs):=by
 refine g9 func363 rfl ntmps363 (by simp) rfl ?_;have hs:=trivial;repeat' first|(with_reducible first|refine zz ?_|refine zE Qa ?_)|simp -dsimp[hs]
 refine i6 (ι:={ k:Nat // k<=l.length/\∀ j x,j<k->l[j]?=some x->p x=false }) (λi=>⟨19,[(0,.one (.im (.sl (l.map D3)))),(1,.one (.fn (.func k) caps)),(7,iv (l.length:Int)),(8,iv (i.1:Int))],objs⟩) (λi=>l.length-i.1) ⟨0,by simp⟩ (zv [0,1,7,8]) ?_;rintro⟨i,hi,hno⟩;simp only[iv];by_cases hlt:i<l.length
 ·have hx:l[i]?=some l[i]:=by simp[hlt]
  have hw:=zk i;have hc:=hf l[i] (by simp);simp only[iZ,D3,List.map_cons,List.map_nil,bv,rI] at hc;have hs:=za hx (za hw hok);repeat' first|(with_reducible first|refine zz ?_|refine And.intro (by omega) ?_|refine zr ?_|refine zE Qa ?_)|simp -dsimp[hs]|refine CallE.here hc ?_|refine i9 ?_ ?_<;>intro h<;>try exact h.elim|with_reducible refine And.intro ?_ ?_
  all_goals try omega
  ·exact(J7 hx (by assumption) hno).symm
  ·exact At.round ⟨i+1,by omega,λj x hj hjx=>by
    by_cases e:j=i
    ·subst e;rw[hx] at hjx;cases hjx;assumption
    ·exact hno j x (by omega) hjx⟩ (by simp;omega) (zv [0,1,7,8])
 ·have hs:=trivial;repeat' first|(with_reducible first|refine zz ?_|refine zr ?_|refine zE Qa ?_)|simp -dsimp[hs]|refine i9 ?_ ?_<;>intro h<;>try exact h.elim|with_reducible refine And.intro ?_ ?_
  all_goals try omega
  exact(U6 λj x hjx=>hno j x (by have:=e7 hjx;omega) hjx).symm
theorem jU (l:List Dim) (p:Dim->Bool) (k:Nat) (caps:List DC) (objs:List DObj) (hok:E6 prog k) (hf:∀ x∈l,DCall prog G k (iZ x :: caps.map .one) objs (λd o=>d=bv (p x)/\o=objs)) (hl:l.length<1000000):DCall prog G 361 [.one (.im (.sl (l.map D3))),.one (.fn (.func k) caps)] objs (λd o=>d=bv (l.any p)/\o=objs):=by
 refine g9 func361 rfl ntmps361 (by simp) rfl ?_;have hc:=nG l p k caps objs hok hf hl;repeat' first|(with_reducible first|refine zz ?_|refine zx ?_|refine zE [0,1,4] ?_)|simp -dsimp|refine CallE.here hc ?_|with_reducible refine And.intro ?_ ?_
 simp[B0]
theorem pf (l:List Itm) (hl:l.length<1000000) (objs:List DObj):DCall prog G 109 [.one (.im (.sl (l.map A1)))] objs (λd objs'=>d=.one (.im (.sl (l.map A1)))/\objs'=objs):=by
 refine DCall.frame ?_ (by simp) (by simp) objs;refine g9 func109 rfl ntmps109 (by simp) rfl ?_;repeat' first|(with_reducible first|refine zz ?_|refine And.intro (by omega) ?_|refine zx ?_|refine zE [0,2,4] ?_)|simp -dsimp|refine i9 ?_ ?_<;>intro h<;>try exact h.elim|with_reducible refine U5 (λh=>?_);(try simp only[List.map_eq_nil_iff] at h);(try subst h);try simp -dsimp|with_reducible refine And.intro ?_ ?_
 all_goals omega
theorem pg (l:List Dim) (hl:l.length<1000000) (objs:List DObj):DCall prog G 110 [.one (.im (.sl (l.map D3)))] objs (λd objs'=>d=.one (.im (.sl (l.map D3)))/\objs'=objs):=by
 refine DCall.frame ?_ (by simp) (by simp) objs;refine g9 func110 rfl ntmps110 (by simp) rfl ?_;repeat' first|(with_reducible first|refine zz ?_|refine And.intro (by omega) ?_|refine zx ?_|refine zE [0,2,4] ?_)|simp -dsimp|refine i9 ?_ ?_<;>intro h<;>try exact h.elim|with_reducible refine U5 (λh=>?_);(try simp only[List.map_eq_nil_iff] at h);(try subst h);try simp -dsimp|with_reducible refine And.intro ?_ ?_
 all_goals omega
end Go.Proofs
namespace Go.Proofs
open Go Go.Ab Tryz
attribute [local simp] F0 setLp
variable {G:MF}
theorem BQ (x lo hi:Int):DCall prog G 236 (iv x :: [DC.ptr 0 0,DC.ptr 1 0].map .one) [.row [.im (rI lo)],.row [.im (rI hi)]] (λd o=>d=bv (decide (x<lo)||decide (hi<x))/\o=[.row [.im (rI lo)],.row [.im (rI hi)]]):=by
 refine g9 func236 rfl ntmps236 (by simp) rfl ?_;simp only[rI];have hs:=trivial;repeat' first|(with_reducible first|refine zz ?_|refine zr ?_|refine zE [0,1,2,4] ?_)|simp -dsimp[hs]|with_reducible refine j0 ?_ ?_<;>intro h<;>have h0:=h<;>(try simp only[i7] at h)<;>have h2:=h<;>(try simp at h2)<;>replace hs:=za h0 (za h (za h2 hs))|with_reducible refine And.intro ?_ ?_
 all_goals try clear hs
 all_goals simp[*]
theorem iN (lo hi:Int) (l:List Int) (hl:l.length<1000000):zP prog G 194 [iv lo,iv hi,v8 l] (bv (l.all λx=>decide (lo<=x)&&decide (x<=hi))):=by
 refine zf func194 ntmps194 ?_;try simp only[iv,iv,v8]
 have hc:=D4 (G:=G) l (λx=>decide (x<lo)||decide (hi<x)) 236 [.ptr 0 0,.ptr 1 0] [.row [.im (rI lo)],.row [.im (rI hi)]] (by simp) (λx _=>BQ x lo hi) hl;simp only[rI] at hc;repeat' first|(with_reducible first|refine zz ?_|refine zx ?_|refine zE [0,1,2,3,4,6] ?_)|simp -dsimp|refine CallE.here hc ?_
 rw[Bool.eq_iff_iff];simp;exact exists_congr λx=>and_congr_right λ_=>by omega
theorem yc (x lo hi:Int):DCall prog G 278 (iv x :: [DC.ptr 0 0,DC.ptr 1 0].map .one) [.row [.im (rI lo)],.row [.im (rI hi)]] (λd o=>d=bv (decide (x<lo)||decide (hi<x))/\o=[.row [.im (rI lo)],.row [.im (rI hi)]]):=by
 refine g9 func278 rfl ntmps278 (by simp) rfl ?_;simp only[rI];have hs:=trivial;repeat' first|(with_reducible first|refine zz ?_|refine zr ?_|refine zE [0,1,2,4] ?_)|simp -dsimp[hs]|with_reducible refine j0 ?_ ?_<;>intro h<;>have h0:=h<;>(try simp only[i7] at h)<;>have h2:=h<;>(try simp at h2)<;>replace hs:=za h0 (za h (za h2 hs))|with_reducible refine And.intro ?_ ?_
 all_goals try clear hs
 all_goals simp[*]
theorem aZ (lo hi:Int) (l:List Int) (hl:l.length<1000000):zP prog G 222 [iv lo,iv hi,v8 l] (bv (l.all λx=>decide (lo<=x)&&decide (x<=hi))):=by
 refine zf func222 ntmps222 ?_;try simp only[iv,iv,v8]
 have hc:=D4 (G:=G) l (λx=>decide (x<lo)||decide (hi<x)) 278 [.ptr 0 0,.ptr 1 0] [.row [.im (rI lo)],.row [.im (rI hi)]] (by simp) (λx _=>yc x lo hi) hl;simp only[rI] at hc;repeat' first|(with_reducible first|refine zz ?_|refine zx ?_|refine zE [0,1,2,3,4,6] ?_)|simp -dsimp|refine CallE.here hc ?_
 rw[Bool.eq_iff_iff];simp;exact exists_congr λx=>and_congr_right λ_=>by omega
theorem BP (x lo hi:Int):DCall prog G 178 (iv x :: [DC.ptr 0 0,DC.ptr 1 0].map .one) [.row [.im (rI lo)],.row [.im (rI hi)]] (λd o=>d=bv (decide (x<lo)||decide (hi<x))/\o=[.row [.im (rI lo)],.row [.im (rI hi)]]):=by
 refine g9 func178 rfl ntmps178 (by simp) rfl ?_;simp only[rI];have hs:=trivial;repeat' first|(with_reducible first|refine zz ?_|refine zr ?_|refine zE [0,1,2,4] ?_)|simp -dsimp[hs]|with_reducible refine j0 ?_ ?_<;>intro h<;>have h0:=h<;>(try simp only[i7] at h)<;>have h2:=h<;>(try simp at h2)<;>replace hs:=za h0 (za h (za h2 hs))|with_reducible refine And.intro ?_ ?_
 all_goals try clear hs
 all_goals simp[*]
theorem EZ (lo hi:Int) (l:List Int) (hl:l.length<1000000):zP prog G 116 [iv lo,iv hi,v8 l] (bv (l.all λx=>decide (lo<=x)&&decide (x<=hi))):=by
 refine zf func116 ntmps116 ?_;try simp only[iv,iv,v8]
 have hc:=D4 (G:=G) l (λx=>decide (x<lo)||decide (hi<x)) 178 [.ptr 0 0,.ptr 1 0] [.row [.im (rI lo)],.row [.im (rI hi)]] (by simp) (λx _=>BP x lo hi) hl;simp only[rI] at hc;repeat' first|(with_reducible first|refine zz ?_|refine zx ?_|refine zE [0,1,2,3,4,6] ?_)|simp -dsimp|refine CallE.here hc ?_
 rw[Bool.eq_iff_iff];simp;exact exists_congr λx=>and_congr_right λ_=>by omega
def K1 (d:Dim):Bool:=decide (0<=d.nominal)&&decide (d.nominal<=1000000000)&&(decide (0<=d.lower)&&decide (d.lower<=1000000000))&&(decide (0<=d.upper)&&decide (d.upper<=1000000000))&&decide (d.lower<=d.upper)
theorem rc (d:Dim):zP prog G 117 [iZ d] (iv (if K1 d then 0 else 10)):=by
 refine zf func117 ntmps117 ?_;try simp only[iZ]
 have hc:=EZ (G:=G) 0 1000000000 [d.nominal,d.lower,d.upper] (by simp);have hs:=trivial;repeat' first|(with_reducible first|refine zz ?_|refine zr ?_|refine zE [0,1,2,18] ?_)|simp -dsimp[hs]|refine zt hc ?_ ?_ ?_;(focus simp;done);focus (simp;done)|refine i9 ?_ ?_<;>intro h<;>try exact h.elim|with_reducible refine j0 ?_ ?_<;>intro h<;>have h0:=h<;>(try simp only[i7] at h)<;>have h2:=h<;>(try simp at h2)<;>replace hs:=za h0 (za h (za h2 hs))
 all_goals try clear hs
 all_goals simp_all [K1]
 all_goals omega
def GQ (x:Issue):DV:=E0 x.drawing x.letter
attribute [simp] GQ
theorem rg (x:Issue):zP prog G 228 [N9 x] (GQ x):=by
 refine zf func228 ntmps228 ?_;try simp only[N9]
 repeat' first|(with_reducible first|refine zz ?_|refine zx ?_|refine zE [0,1,2] ?_)|simp -dsimp
theorem Cy (x:Issue) (hi:x.items.length<=16) (hd:x.dims.length<=8):zP prog G 177 [N9 x] (N9 x):=by
 refine zf func177 ntmps177 ?_;try simp only[N9]
 have h1:=pf (G:=G) x.items (by omega);have h2:=pg (G:=G) x.dims (by omega);repeat' first|(with_reducible first|refine zz ?_|refine zx ?_)|simp -dsimp|refine zq h1 ?_|refine zq h2 ?_|refine zM 1 12 7 [0,1,2] ?_|with_reducible refine zE [0,1,2] ?_
def CB (x:Issue):Bool:=(decide (1<=x.drawing)&&decide (x.drawing<=9999))&&(decide (1<=x.letter)&&decide (x.letter<=8))
theorem Ks (x:Issue):zP prog G 357 [N9 x] (bv (CB x)):=by
 refine zf func357 ntmps357 ?_;try simp only[N9]
 have c1:=aZ (G:=G) 1 9999 [x.drawing] (by simp);have c2:=aZ (G:=G) 1 8 [x.letter] (by simp);have hs:=trivial;repeat' first|(with_reducible first|refine zz ?_|refine zr ?_|refine zE [0,1,2] ?_)|simp -dsimp[hs]|refine zt c1 ?_ ?_ ?_;(focus simp;done);focus (simp;done)|refine zt c2 ?_ ?_ ?_;(focus simp;done);focus (simp;done)|with_reducible refine j0 ?_ ?_<;>intro h<;>have h0:=h<;>(try simp only[i7] at h)<;>have h2:=h<;>(try simp at h2)<;>replace hs:=za h0 (za h (za h2 hs))
 all_goals try clear hs
 all_goals simp_all [CB]
 all_goals omega
def DD (x:Issue):Bool:=if x.kind=1 then (decide (1<=x.items.length)&&decide (x.items.length<=8))&&decide (x.dims.length=0) else (decide (2<=x.kind)&&decide (x.kind<=3))&&decide (x.dims.length<=4)&&decide (x.items.length=0)
theorem Kr (x:Issue) (hk:0<=x.kind/\x.kind<=255):zP prog G 358 [N9 x] (bv (DD x)):=by
 refine zf func358 ntmps358 ?_;try simp only[N9]
 have c1:=aZ (G:=G) 1 8 [(x.items.length:Int)] (by simp);have c2:=aZ (G:=G) 2 3 [x.kind] (by simp);have hw:IntKind.i64.wrap x.kind=x.kind:=p9 (by omega) (by omega);have hs:=hw;repeat' first|(with_reducible first|refine zz ?_|refine zr ?_|refine zE [0,1,2,5] ?_)|simp -dsimp[hs]|refine zt c1 ?_ ?_ ?_;(focus simp;done);focus (simp;done)|refine zt c2 ?_ ?_ ?_;(focus simp;done);focus (simp;done)|refine i9 ?_ ?_<;>intro h<;>try exact h.elim|with_reducible refine j0 ?_ ?_<;>intro h<;>have h0:=h<;>(try simp only[i7] at h)<;>have h2:=h<;>(try simp at h2)<;>replace hs:=za h0 (za h (za h2 hs))
 all_goals try clear hs
 all_goals simp_all [DD]
 all_goals omega
theorem If (d:Dim):zP prog G 362 [iZ d] (bv (!K1 d)):=by
 refine zf func362 ntmps362 ?_;try simp only[iZ]
 have h1:=rc (G:=G) d;cases hd:K1 d<;>simp only[hd] at h1
 ·repeat' first|(with_reducible first|refine zz ?_|refine zx ?_|refine zE [0,1,2] ?_)|simp -dsimp|refine zp h1 ?_
 ·repeat' first|(with_reducible first|refine zz ?_|refine zx ?_|refine zE [0,1,2] ?_)|simp -dsimp|refine zp h1 ?_
theorem Kp (x:Issue) (hl:x.dims.length<1000000):zP prog G 360 [N9 x] (bv (x.dims.all K1)):=by
 refine zf func360 ntmps360 ?_;try simp only[N9]
 have c1:=λobjs=>DCall.fnArg2 (cs:=[]) (jU (G:=G) x.dims (λd=>!K1 d) 362 [] objs (by simp) (λd _=>If d objs) hl);repeat' first|(with_reducible first|refine zz ?_|refine zx ?_|refine zE [0,1,2] ?_)|simp -dsimp|refine zp c1 ?_
 rw[Bool.eq_iff_iff];simp
end Go.Proofs
namespace Go.Proofs
open Go Go.Ab Tryz
attribute [local simp] F0 setLp
variable {G:MF}
theorem iM (x:Int):zP prog G 239 [iv x] (bv false):=by
 refine zf func239 ntmps239 ?_;try simp only[iv]
 repeat' first|(with_reducible first|refine zz ?_|refine zx ?_|refine zE [0,2] ?_)|simp -dsimp
theorem rS (x:Int):zP prog G 197 [iv x] (bv false):=by
 refine zf func197 ntmps197 ?_;try simp only[iv]
 repeat' first|(with_reducible first|refine zz ?_|refine zx ?_|refine zE [0,2] ?_)|simp -dsimp
theorem Ht (x y:Int):zP prog G 196 [iv x,iv y] (bv (decide (x<y))):=by
 refine zf func196 ntmps196 ?_;try simp only[iv,iv]
 have c1:=iM (G:=G) x;have c2:=iM (G:=G) y;repeat' first|(with_reducible first|refine zz ?_|refine zx ?_|refine zE [0,1,4] ?_)|simp -dsimp|refine zp c1 ?_
 all_goals simp_all
def fL (x y:Int):Int:=if x<y then -1 else if y<x then 1 else 0
theorem jV (x y:Int):zP prog G 283 [iv x,iv y] (iv (fL x y)):=by
 refine zf func283 ntmps283 ?_;try simp only[iv,iv]
 have c1:=iM (G:=G) x;have c2:=iM (G:=G) y;repeat' first|(with_reducible first|refine zz ?_|refine zx ?_|refine zE [0,1,4,5,6,11,12,13,16,19] ?_)|simp -dsimp|refine zp c1 ?_|refine zp c2 ?_|refine i9 ?_ ?_<;>intro h<;>try exact h.elim
 all_goals simp_all [fL]
 all_goals omega
theorem mT (x:Issue) (n:Int):zP prog G 282 [N9 x,iv n] (iv (fL x.drawing n)):=by
 refine zf func282 ntmps282 ?_;try simp only[N9,iv]
 have c1:=jV (G:=G) x.drawing n;repeat' first|(with_reducible first|refine zz ?_|refine zx ?_|refine zE [0,1,2,4] ?_)|simp -dsimp|refine zp c1 ?_
end Go.Proofs
namespace Go.Proofs
open Go Go.Ab Tryz
attribute [local simp] F0 setLp
variable {G:MF}
def G1 (d:Int):Int->List Itm->Bool
 | _,[]=>true
 | prev,y :: r=>(decide (1<=y.drawing)&&decide (y.drawing<=9999))&&(decide (1<=y.count)&&decide (y.count<=20)) && !decide (y.drawing=d)&&decide (prev<y.drawing)&&G1 d y.drawing r
def pv (l:List Itm):Nat->Int
 | 0=>0
 | k+1=>((l[k]?).map (·.drawing)).getD 0
@[simp] abbrev QL:List Nat:=[0,1,2,3,4,6,7,8,9,47]
theorem Kq (x:Issue) (hl:x.items.length<1000000):zP prog G 359 [N9 x] (bv (G1 x.drawing 0 x.items)):=by
 refine zf func359 ntmps359 ?_;try simp only[N9]
 have hs:=trivial;repeat' first|(with_reducible first|refine zz ?_|refine zE QL ?_)|simp -dsimp[hs]
 refine i6 (ι:={ k:Nat // k<=x.items.length/\G1 x.drawing 0 x.items=G1 x.drawing (pv x.items k) (x.items.drop k) }) (λp=>⟨49,[(1,.one (.ptr 0 0)),(6,.one (.im (.sl (x.items.map A1)))),(7,iv (x.items.length:Int)),(8,iv (p.1:Int))],[.row ((e8 x).map .im)]⟩) (λp=>x.items.length-p.1) ⟨0,by simp[pv]⟩ (zv [1,6,7,8]) ?_;rintro⟨k,hk,hno⟩;simp only[iv,e8,rI,List.map_cons,List.map_nil];by_cases hlt:k<x.items.length
 ·have hx:x.items[k]?=some x.items[k]:=by simp[hlt]
  have hw:=zk k;have hw2:IntKind.i64.wrap ((k:Int)-1)=(k:Int)-1:=p9 (by omega) (by omega);have c1:=aZ (G:=G) 1 9999 [x.items[k].drawing] (by simp);have c2:=aZ (G:=G) 1 20 [x.items[k].count] (by simp);have hcons:G1 x.drawing 0 x.items=((decide (1<=x.items[k].drawing)&&decide (x.items[k].drawing<=9999))&&(decide (1<=x.items[k].count)&&decide (x.items[k].count<=20)) && !decide (x.items[k].drawing=x.drawing)&&decide (pv x.items k<x.items[k].drawing)&&G1 x.drawing x.items[k].drawing (x.items.drop (k+1))):=by
   rw[hno,List.drop_eq_getElem_cons hlt,G1]
  have hpv1:pv x.items (k+1)=x.items[k].drawing:=by simp[pv,hx]
  by_cases hk0:0<k
  ·have hkx:x.items[k-1]?=some x.items[k-1]:=by simp
   have hcast:(k:Int)-1=((k-1:Nat):Int):=by omega
   have hw3:IntKind.i64.wrap ((k:Int)-1)=((k-1:Nat):Int):=by rw[hw2,hcast]
   have hpv0:pv x.items k=x.items[k-1].drawing:=by
    obtain⟨j,rfl⟩:∃ j,k=j+1:=⟨k-1,by omega⟩
    have:x.items[j]?=some x.items[j]:=by simp
    simp[pv,this]
   rw[hpv0] at hcons;have hs:=za hx (za hw (za hw3 (za hkx hk0)));repeat' first|(with_reducible first|refine zz ?_|refine zr ?_)|simp -dsimp[hs]|refine zq c1 ?_|refine zq c2 ?_|refine zM 4 49 35 QL ?_|with_reducible refine zE QL ?_|refine i9 ?_ ?_<;>intro h<;>try exact h.elim|with_reducible refine j0 ?_ ?_<;>intro h<;>have h0:=h<;>(try simp only[i7] at h)<;>have h2:=h<;>(try simp at h2)<;>replace hs:=za h0 (za h (za h2 hs))
   all_goals try clear hs
   all_goals try omega
   all_goals first
    | (refine zn ⟨k+1,by omega,by clear hno;rw[hcons,hpv1];clear hcons;simp_all;try omega⟩ (zw [1,6,7,8] 1))
    | (clear hno;rw[hcons];clear hcons;simp_all;try omega)
  ·have hpv0:pv x.items k=0:=by
    obtain rfl:k=0:=by omega
    rfl
   rw[hpv0] at hcons;have hs:=za hx (za hw hk0);repeat' first|(with_reducible first|refine zz ?_|refine zr ?_)|simp -dsimp[hs]|refine zq c1 ?_|refine zq c2 ?_|refine zM 4 49 35 QL ?_|with_reducible refine zE QL ?_|refine i9 ?_ ?_<;>intro h<;>try exact h.elim|with_reducible refine j0 ?_ ?_<;>intro h<;>have h0:=h<;>(try simp only[i7] at h)<;>have h2:=h<;>(try simp at h2)<;>replace hs:=za h0 (za h (za h2 hs))
   all_goals try clear hs
   all_goals try omega
   all_goals first
    | (refine zn ⟨k+1,by omega,by clear hno;rw[hcons,hpv1];clear hcons;simp_all;try omega⟩ (zw [1,6,7,8] 1))
    | (clear hno;rw[hcons];clear hcons;simp_all;try omega)
 ·have hs:=trivial;repeat' first|(with_reducible first|refine zz ?_|refine zr ?_|refine zE QL ?_)|simp -dsimp[hs]|refine i9 ?_ ?_<;>intro h<;>try exact h.elim
  all_goals try omega
  rw[hno,List.drop_eq_nil_of_le (by omega)];rfl
end Go.Proofs
namespace Go.Proofs
open Go Go.Ab Tryz
attribute [local simp] F0 setLp
variable {G:MF}
def lb (l:List Int) (x:Int):Nat:=(l.filter λy=>decide (y<x)).length
theorem rN (l:List Int) (x:Int):lb l x<=l.length:=List.length_filter_le _ _
theorem dg:∀ {l:List Int} {x:Int},l.Pairwise (·<=·)->∀ (i:Nat) (y:Int),l[i]?=some y->(y<x↔i<lb l x)
 | [],x,_,i,y,h=>by simp at h
 | a :: l,x,hs,i,y,h=>by
   simp only[List.pairwise_cons] at hs;by_cases ha:a<x
   ·have e:lb (a :: l) x=lb l x+1:=by simp[lb,ha]
    rw[e];cases i with
    | zero=>simp at h;subst h;simp[ha]
    | succ i =>
      have:=dg (x:=x) hs.2 i y (by simpa using h);omega
   ·have hall:∀ z∈l,¬ z<x:=λz hz=>by have:=hs.1 z hz;omega
    have e:lb (a :: l) x=0:=by
     have hf:l.filter (λy=>decide (y<x))=[]:=by
      rw[List.filter_eq_nil_iff];intro z hz;simpa using hall z hz
     simp[lb,ha,hf]
    rw[e];cases i with
    | zero=>simp at h;subst h;simp[ha]
    | succ i =>
      have:=hall y (List.mem_of_getElem? (by simpa using h));omega
theorem ui {l:List Int} {x:Int} (hs:l.Pairwise (·<=·)):x∈l↔l[lb l x]?=some x:=by
 constructor
 ·intro h;obtain⟨i,hi⟩:=List.mem_iff_getElem?.1 h;have h1:=dg (x:=x) hs i x hi;have h2:lb l x<=i:=by omega
  have hlt:=e7 hi;have h3:l[lb l x]?=some l[lb l x]:=by simp
  have h4:=dg (x:=x) hs _ _ h3;have h5:l[lb l x]<=x:=by
   by_cases e:lb l x=i
   ·have:l[lb l x]?=some x:=by rw[e];exact hi
    rw[h3] at this;simp at this;omega
   ·have:=(List.pairwise_iff_getElem.1 hs) (lb l x) i (by omega) hlt (by omega);have h6:=(List.getElem?_eq_some_iff.1 hi).2;omega
  rw[h3]
  congr 1
  omega
 ·exact λh=>List.mem_of_getElem? h
theorem xz:(2:Int) ^ min 1 IntKind.u64.bits=2:=rfl
attribute [simp] xz
theorem IM {n:Int} (h1:0<=n) (h2:n<=18446744073709551615):IntKind.u64.wrap n=n:=IntWalk.u64_in n ⟨h1,h2⟩
@[simp] abbrev QX:List Nat:=[0,1,4,5,6,7,8,9,15,27]
theorem pn (l:List Int) (x:Int) (hs:l.Pairwise (·<=·)) (hl:l.length<1000000):zP prog G 133 [v8 l,iv x] (.tup [iv (lb l x),bv (decide (x∈l))]):=by
 refine zf func133 ntmps133 ?_;try simp only[v8,iv]
 have hlb:=rN l x;have hs:=trivial;repeat' first|(with_reducible first|refine zz ?_|refine zE QX ?_)|simp -dsimp[hs]
 all_goals try clear hs
 refine i6 (ι:={ p:Nat×Nat // p.1<=lb l x/\lb l x<=p.2/\p.2<=l.length }) (λp=>⟨54,[(0,v8 l),(1,iv x),(6,iv (l.length:Int)),(7,iv (p.1.1:Int)),(8,iv (p.1.2:Int))],[]⟩) (λp=>p.1.2-p.1.1) ⟨(0,l.length),by simp;omega⟩ (zv [0,1,6,7,8]) ?_;rintro⟨⟨i,j⟩,h1,h2,h3⟩;simp only at h1 h2 h3;simp only[iv,v8];have hw1:IntKind.i64.wrap ((i:Int)+(j:Int))=(i:Int)+(j:Int):=p9 (by omega) (by omega);have hw2:IntKind.u64.wrap ((i:Int)+(j:Int))=(i:Int)+(j:Int):=IM (by omega) (by omega);have hd:((i:Int)+(j:Int)).fdiv 2=(((i+j) / 2:Nat):Int):=by
  rw[Int.fdiv_eq_ediv_of_nonneg _ (by omega)];omega
 have hw3:IntKind.i64.wrap ((((i+j) / 2:Nat):Int))=(((i+j) / 2:Nat):Int):=p9 (by omega) (by omega);have hw4:IntKind.i64.wrap ((((i+j) / 2:Nat):Int)+1)=(((i+j) / 2+1:Nat):Int):=p9 (by omega) (by omega);by_cases hlt:i<j
 ·generalize hm:(i+j) / 2=m at hd hw3 hw4;have hx:l[m]?=some l[m]:=by simp
  have hsp:=dg (x:=x) hs m l[m] hx;have c1:=Ht (G:=G) l[m] x;by_cases hc:l[m]<x
  ·simp only[hc,decide_true] at c1;have hs:=za hx (za hw1 (za hw2 (za hw3 (za hw4 (za hd hm)))));repeat' first|(with_reducible first|refine zz ?_|refine zr ?_|refine zE QX ?_)|simp -dsimp[hs]|refine zp c1 ?_|refine i9 ?_ ?_<;>intro h<;>try exact h.elim|with_reducible refine j0 ?_ ?_<;>intro h<;>have h0:=h<;>(try simp only[i7] at h)<;>have h2:=h<;>(try simp at h2)<;>replace hs:=za h0 (za h (za h2 hs))
   all_goals try clear hs
   all_goals try omega
   exact zn ⟨(m+1,j),by simp;omega⟩ (zv [0,1,6,7,8])
  ·simp only[hc,decide_false] at c1;have hs:=za hx (za hw1 (za hw2 (za hw3 (za hw4 (za hd hm)))));repeat' first|(with_reducible first|refine zz ?_|refine zr ?_|refine zE QX ?_)|simp -dsimp[hs]|refine zp c1 ?_|refine i9 ?_ ?_<;>intro h<;>try exact h.elim|with_reducible refine j0 ?_ ?_<;>intro h<;>have h0:=h<;>(try simp only[i7] at h)<;>have h2:=h<;>(try simp at h2)<;>replace hs:=za h0 (za h (za h2 hs))
   all_goals try clear hs
   all_goals try omega
   exact zn ⟨(i,m),by simp;omega⟩ (zv [0,1,6,7,8])
 ·have hi:i=lb l x:=by omega
  subst hi;have c2:=rS (G:=G) x;have hmem:=ui (x:=x) hs;by_cases hn:lb l x<l.length
  ·have hx:l[lb l x]?=some l[lb l x]:=by simp[hn]
   have c1:=rS (G:=G) l[lb l x];rw[hx] at hmem;have hs:=za hx (za hlt hn);repeat' first|(with_reducible first|refine zz ?_|refine zr ?_|refine zE QX ?_)|simp -dsimp[hs]|refine zp c1 ?_|refine i9 ?_ ?_<;>intro h<;>try exact h.elim|with_reducible refine j0 ?_ ?_<;>intro h<;>have h0:=h<;>(try simp only[i7] at h)<;>have h2:=h<;>(try simp at h2)<;>replace hs:=za h0 (za h (za h2 hs))
   all_goals try clear hs
   all_goals try omega
   all_goals simp_all
  ·rw[List.getElem?_eq_none (by omega)] at hmem;have hs:=za hlt hn;repeat' first|(with_reducible first|refine zz ?_|refine zr ?_|refine zE QX ?_)|simp -dsimp[hs]|refine i9 ?_ ?_<;>intro h<;>try exact h.elim
   all_goals try clear hs
   all_goals try omega
   all_goals simp_all
end Go.Proofs
namespace Go.Proofs
open Go Go.Ab Tryz
attribute [local simp] F0 setLp
variable {G:MF}
@[simp] abbrev QY:List Nat:=[0,1,2,6,7,8,9,10,11,17,31]
theorem gN (l:List Issue) (x:Int) (hs:(l.map (·.drawing)).Pairwise (·<=·)) (hl:l.length<1000000):zP prog G 281 [.one (.im (.sl (l.map e8))),iv x,.one (.im (.fn (.func 282) []))] (.tup [iv (lb (l.map (·.drawing)) x),bv (decide (x∈l.map (·.drawing)))]):=by
 refine zf func281 ntmps281 ?_;try simp only[iv]
 have hlb:=rN (l.map (·.drawing)) x;simp only[List.length_map] at hlb;have hs:=trivial;repeat' first|(with_reducible first|refine zz ?_|refine zE QY ?_)|simp -dsimp[hs]
 all_goals try clear hs
 refine i6 (ι:={ p:Nat×Nat // p.1<=lb (l.map (·.drawing)) x/\lb (l.map (·.drawing)) x<=p.2/\p.2<=l.length }) (λp=>⟨49,[(0,.one (.im (.sl (l.map e8)))),(1,iv x),(2,.one (.im (.fn (.func 282) []))),(8,iv (l.length:Int)),(9,iv (p.1.1:Int)),(10,iv (p.1.2:Int))],[]⟩) (λp=>p.1.2-p.1.1) ⟨(0,l.length),by simp;omega⟩ (zv [0,1,2,8,9,10]) ?_;rintro⟨⟨i,j⟩,h1,h2,h3⟩;simp only at h1 h2 h3;simp only[iv,v8];have hw1:IntKind.i64.wrap ((i:Int)+(j:Int))=(i:Int)+(j:Int):=p9 (by omega) (by omega);have hw2:IntKind.u64.wrap ((i:Int)+(j:Int))=(i:Int)+(j:Int):=IM (by omega) (by omega);have hd:((i:Int)+(j:Int)).fdiv 2=(((i+j) / 2:Nat):Int):=by
  rw[Int.fdiv_eq_ediv_of_nonneg _ (by omega)];omega
 have hw3:IntKind.i64.wrap ((((i+j) / 2:Nat):Int))=(((i+j) / 2:Nat):Int):=p9 (by omega) (by omega);have hw4:IntKind.i64.wrap ((((i+j) / 2:Nat):Int)+1)=(((i+j) / 2+1:Nat):Int):=p9 (by omega) (by omega);by_cases hlt:i<j
 ·generalize hm:(i+j) / 2=m at hd hw3 hw4;have hx:l[m]?=some l[m]:=by simp
  have hsp:=dg (x:=x) hs m l[m].drawing (by simp[hx]);have c1:=mT (G:=G) l[m] x;by_cases hc:l[m].drawing<x
  ·have hcm:fL l[m].drawing x=-1:=by simp[fL,hc]
   rw[hcm] at c1;have hs:=za hx (za hw1 (za hw2 (za hw3 (za hw4 (za hd hm)))));repeat' first|(with_reducible first|refine zz ?_|refine zr ?_|refine zE QY ?_)|simp -dsimp[hs]|refine zp c1 ?_|refine i9 ?_ ?_<;>intro h<;>try exact h.elim|with_reducible refine j0 ?_ ?_<;>intro h<;>have h0:=h<;>(try simp only[i7] at h)<;>have h2:=h<;>(try simp at h2)<;>replace hs:=za h0 (za h (za h2 hs))
   all_goals try clear hs
   all_goals try omega
   exact zn ⟨(m+1,j),by simp;omega⟩ (zv [0,1,2,8,9,10])
  ·have hcm:¬ fL l[m].drawing x<0:=by simp only[fL,hc,if_false];split<;>omega
   generalize fL l[m].drawing x=q at c1 hcm;have hs:=za hx (za hw1 (za hw2 (za hw3 (za hw4 (za hd hm)))));repeat' first|(with_reducible first|refine zz ?_|refine zr ?_|refine zE QY ?_)|simp -dsimp[hs]|refine zp c1 ?_|refine i9 ?_ ?_<;>intro h<;>try exact h.elim|with_reducible refine j0 ?_ ?_<;>intro h<;>have h0:=h<;>(try simp only[i7] at h)<;>have h2:=h<;>(try simp at h2)<;>replace hs:=za h0 (za h (za h2 hs))
   all_goals try clear hs
   all_goals try omega
   exact zn ⟨(i,m),by simp;omega⟩ (zv [0,1,2,8,9,10])
 ·have hi:i=lb (l.map (·.drawing)) x:=by omega
  subst hi;have hmem:=ui (x:=x) hs;by_cases hn:lb (l.map (·.drawing)) x<l.length
  ·have hx:l[lb (l.map (·.drawing)) x]?=some l[lb (l.map (·.drawing)) x]:=by simp[hn]
   have c1:=mT (G:=G) l[lb (l.map (·.drawing)) x] x;have hq:decide (fL l[lb (l.map (·.drawing)) x].drawing x=0)=decide (x∈l.map (·.drawing)):=by
    rw[decide_eq_decide,hmem,List.getElem?_map,hx];simp only[fL,Option.map_some,Option.some.injEq];split<;>(try split)<;>omega
   generalize fL l[lb (l.map (·.drawing)) x].drawing x=q at c1 hq;have hs:=za hx (za hlt hn);repeat' first|(with_reducible first|refine zz ?_|refine zr ?_|refine zE QY ?_)|simp -dsimp[hs]|refine zp c1 ?_|refine i9 ?_ ?_<;>intro h<;>try exact h.elim
   all_goals try clear hs
   all_goals try omega
   all_goals simp_all
  ·rw[List.getElem?_eq_none (by simp;omega)] at hmem;have hs:=za hlt hn;repeat' first|(with_reducible first|refine zz ?_|refine zr ?_|refine zE QY ?_)|simp -dsimp[hs]|refine i9 ?_ ?_<;>intro h<;>try exact h.elim
   all_goals try clear hs
   all_goals try omega
   all_goals simp_all
def A3 (l:List Issue) (ds:List Int):IC:=.ip [.sl (l.map e8),.sl (ds.map encI)]
theorem BX (l:List Issue) (ds:List Int) (n:Int) (hs:ds.Pairwise (·<=·)) (hl:ds.length<1000000):zP prog G 225 [.one (.im (A3 l ds)),iv n] (bv (decide (n∈ds))):=by
 refine zf func225 ntmps225 ?_;try simp only[iv]
 have c1:=pn (G:=G) ds n hs hl;simp only[A3];have hs:=trivial;repeat' first|(with_reducible first|refine zz ?_|refine zr ?_|refine zE [0,1,4,6] ?_)|simp -dsimp[hs]|refine zp c1 ?_
 all_goals try clear hs
theorem mD (b:IC) (n:Int):zP prog G 227 [.one (.im b),iv n] (.one (.im (.fn (.func 280) [.ip [b],.ip [rI n]]))):=by
 refine zf func227 ntmps227 ?_;try simp only[iv]
 repeat' first|(with_reducible first|refine zz ?_|refine zx ?_|refine zE [0,1,2,3,4] ?_)|simp -dsimp
end Go.Proofs
namespace Go.Ab
open Go
@[simp] theorem Gt {α:Type} (objs:List DObj) (l:List α) (f:α->List IC) (k sz:Nat) (h:k<=l.length) (hf:∀ x,(f x).length=sz) :
 F0 objs (.im (.sl (l.map f))) (k:Int) none sz=some (.im (.sl ((l.drop k).map f))):=by
 simp only[F0,Option.getD_none,List.length_map,Int.toNat_natCast,Int.natCast_eq_zero];rw[if_pos (by omega)];split
 ·rename_i hk;subst hk;simp[List.take_of_length_le]
 ·by_cases hk:k<l.length
  ·simp[hk,hf,List.take_of_length_le,List.map_drop]
  ·have he:k=l.length:=by omega
   subst he;simp
@[simp] theorem Gs {α:Type} (objs:List DObj) (l:List α) (f:α->List IC) (k sz:Nat) (h:k<=l.length) :
 F0 objs (.im (.sl (l.map f))) 0 (some (k:Int)) sz=some (.im (.sl ((l.take k).map f))):=by
 simp only[F0,Option.getD_some,List.length_map,Int.toNat_natCast];rw[if_pos (by omega),if_pos trivial,List.map_take]
theorem uN (objs:List DObj) (o g off len:Nat) (lo:Int) (hi:Option Int) (sz:Nat):F0 objs (.vec o g off len) lo hi sz=if 0<=lo/\lo<=hi.getD len/\hi.getD len<=len then match objs[o]? with
 | some (.vec z _ g' _)=>if g=g'/\(z=sz\/len=0) then some (.vec o g (off+lo.toNat) ((hi.getD len).toNat-lo.toNat)) else none
 | _=>none
 else none:=rfl
attribute [simp] uN
def LoopD.at (r:LoopD) (st:LoopState) (pend:Option Code):LoopD:={ r with st:=st,pend:=pend }
theorem LoopD.at_st (r:LoopD) (st:LoopState) (pend:Option Code):(r.at st pend).st=st:=rfl
theorem LoopD.at_pend (r:LoopD) (st:LoopState) (pend:Option Code):(r.at st pend).pend=pend:=rfl
theorem LoopD.at_nt (r:LoopD) (st:LoopState) (pend:Option Code):(r.at st pend).nt=r.nt:=rfl
theorem LoopD.at_tm (r:LoopD) (st:LoopState) (pend:Option Code):(r.at st pend).tm=r.tm:=rfl
theorem LoopD.at_ps (r:LoopD) (st:LoopState) (pend:Option Code):(r.at st pend).ps=r.ps:=rfl
theorem LoopD.at_asg (r:LoopD) (st:LoopState) (pend:Option Code):(r.at st pend).asg=r.asg:=rfl
theorem LoopD.at_body (r:LoopD) (st:LoopState) (pend:Option Code):(r.at st pend).body=r.body:=rfl
theorem LoopD.at_at (r:LoopD) (st st':LoopState) (pend pend':Option Code):(r.at st pend).at st' pend'=r.at st' pend':=rfl
attribute [simp] LoopD.at_st LoopD.at_pend LoopD.at_nt LoopD.at_tm LoopD.at_ps LoopD.at_asg LoopD.at_body LoopD.at_at
theorem Av (objs:List DObj) (o:Nat) (st:LoopState) (pend:Option Code):setLp objs o st pend=match objs[o]? with
 | some (.loop r)=>objs.set o (.loop (r.at st pend))
 | _=>objs:=rfl
attribute [simp] Av
theorem T4 {P:Program} {G:MF} {o:Nat} {xs:List DV} {objs:List DObj} {C:DV->List DObj->Prop} {t:Tok C} (h:V2 P G o xs objs C objs[o]?):nk P G o xs objs C t:=h
theorem bJ {P:Program} {G:MF} {o m:Nat} {body:Code} {C:DV->List DObj->Prop} {A:DS->Prop} {Q:Exit->DS->Prop} {t:Tok (ae (λS'=>A S'/\Is P G o m body C S') Q)} {S:DS} (h1:A S)
 (h2:DT P G ⟨m,some o⟩ body { S with objs:=setLp S.objs o .busy none } (qG o C)):At (ae (λS'=>A S'/\Is P G o m body C S') Q) .normal t S:=⟨h1,h2⟩
end Go.Ab
namespace Go.Proofs
open Go Go.Ab Tryz
variable {G:MF}
theorem tH {l:List Issue} {d:Int} (hs:(l.map (·.drawing)).Pairwise (·<=·)):∀ x∈l.drop (lb (l.map (·.drawing)) d),d<=x.drawing:=by
 intro x hx;obtain⟨i,hi⟩:=List.mem_iff_getElem?.1 hx;rw[List.getElem?_drop] at hi;have:=dg (x:=d) hs _ x.drawing (by rw[List.getElem?_map,hi];rfl);omega
theorem tG {l:List Issue} {d:Int} (hs:(l.map (·.drawing)).Pairwise (·<=·)):∀ x∈l.take (lb (l.map (·.drawing)) d),x.drawing<d:=by
 intro x hx;obtain⟨i,hi⟩:=List.mem_iff_getElem?.1 hx;have hlt:i<lb (l.map (·.drawing)) d:=by
  have:=(List.getElem?_eq_some_iff.1 hi).1;simp at this;omega
 rw[List.getElem?_take_of_lt hlt] at hi;exact(dg (x:=d) hs i x.drawing (by rw[List.getElem?_map,hi];rfl)).2 hlt
theorem AA {l:List Issue} {d:Int} (lt:Int) (hs:(l.map (·.drawing)).Pairwise (·<=·)):p6 l d lt=p6 (l.drop (lb (l.map (·.drawing)) d)) d lt:=by
 conv=>lhs;rw[<- List.take_append_drop (lb (l.map (·.drawing)) d) l]
 simp only[p6,List.find?_append];rw[List.find?_eq_none.2 λx hx=>?_]
 ·rfl
 ·have:=tG hs x hx;simp;omega
@[simp] abbrev Wk:List Nat:=[0,1,2,3,4,5,6,7,10,11,15,24,25,26,27,39]
theorem wB (l:List Issue) (ds:List Int) (d lt:Int) (hs:(l.map (·.drawing)).Pairwise (·<=·)) (hl:l.length<1000000):zP prog G 176 [.one (.im (A3 l ds)),E0 d lt] (.tup [N9 ((p6 l d lt).getD K4),bv (p6 l d lt).isSome]):=by
 refine zf func176 ntmps176 ?_;try simp only[E0]
 simp only[E0,A3];have c1:=mD (G:=G) (A3 l ds) d;simp only[A3] at c1;have hs:=trivial;repeat' first|(with_reducible first|refine zz ?_|refine zE [0,1,3,4,5,6,10,11,15] ?_)|simp -dsimp[hs]|refine zp c1 ?_
 all_goals try clear hs
 refine V4 (f:=280) (by simp;exact rfl) (by rfl) call280 ?_;generalize hR:LoopD.mk _ _ _ _ _ _ _=R;have hR1:R.st=.ready:=by rw[<- hR]
 have hR2:R.pend=none:=by rw[<- hR]
 have hR3:R.at .ready none=R:=by rw[<- hR];rfl
 have hR4:=(congrArg LoopD.nt hR).symm;have hR5:=(congrArg LoopD.tm hR).symm;have hR6:=(congrArg LoopD.ps hR).symm;have hR7:=(congrArg LoopD.asg hR).symm;have hR8:=(congrArg LoopD.body hR).symm;dsimp only at hR4 hR5 hR6 hR7 hR8;clear hR;refine g9 func280 rfl ntmps280 (by simp) rfl ?_;have hR9:∀ objs:List DObj,(R.tm.map λx=>(x.1,gC 6 objs x.2))=R.tm:=by intro objs;rw[hR5];simp
 have hlb:=rN (l.map (·.drawing)) d;rw[List.length_map] at hlb;have c2:=gN (G:=G) l d hs hl;have hs:=za hR1 (za hR2 (za hR3 hlb));repeat' first|with_reducible refine zz ?_|simp -dsimp[hs]|refine zq c2 ?_|refine zM 0 41 12 [0,1,2,4,7,24,25,26,27,39] ?_|with_reducible refine zE Wk ?_
 all_goals try clear hs
 rw[<- List.map_drop];have hge:=tH (d:=d) hs;have hfs:=AA (d:=d) lt hs;have hss:((l.drop (lb (l.map (·.drawing)) d)).map (·.drawing)).Pairwise (·<=·):=by rw[List.map_drop];exact hs.drop
 have hsl:l.length-lb (l.map (·.drawing)) d=(l.drop (lb (l.map (·.drawing)) d)).length:=by simp
 rw[hsl];have hsl2:(l.drop (lb (l.map (·.drawing)) d)).length<1000000:=by simp;omega
 generalize l.drop (lb (l.map (·.drawing)) d)=s at hge hfs hss hsl2 ⊢;refine i6 (ι:={ k:Nat // k<=s.length/\p6 l d lt=p6 (s.drop k) d lt }) (λp=>⟨41,[(0,.one (.yld 5)),(2,.one (.im (.ip [rI d]))),(24,.one (.im (.sl (s.map e8)))),(25,iv (s.length:Int)),(26,iv (p.1:Int))],[.row [.im (rI d),.im (rI lt)],.vec 0 [] 0 true,.vec 0 [] 0 true,.row ((rI 0 :: rI 0 :: [IC.raw (.int .u8 0)]).map .im++[.vec 1 0 0 0,.vec 2 0 0 0]),.row [.im (rB false)],.loop R]⟩) (λp=>s.length-p.1) ⟨0,by simp[hfs]⟩ (zv [0,2,24,25,26]) ?_;rintro⟨k,hk,hno⟩;simp only[iv];by_cases hlt:k<s.length
 ·have hx:s[k]?=some s[k]:=by simp[hlt]
  have hw:=zk k;have hcons:p6 l d lt=if (s[k].drawing==d&&s[k].letter==lt)=true then some s[k] else p6 (s.drop (k+1)) d lt:=by
   rw[hno,List.drop_eq_getElem_cons hlt];simp only[p6,List.find?_cons];split<;>simp_all
  by_cases hd:s[k].drawing=d
  ·have c3:=rg (G:=G) s[k];simp only[GQ,N9,e8,rI,List.map_cons,List.map_nil,hd] at c3;have hs:=za hR1 (za hR2 (za hR3 (za hx (za hw (za hd hlt)))));repeat' first|(with_reducible first|refine zz ?_|refine zr ?_ (by simp -dsimp[C9,hs];exact rfl))|simp -dsimp[C9,hs]|with_reducible refine At.yield_end ?_;simp -dsimp[hs]|with_reducible refine At.yield_ret ?_;simp -dsimp[hs]|refine bJ ?_ ?_<;>simp -dsimp[hs]|refine T4 ?_;simp -dsimp[V2,hR4,hR5,hR6,hR7,hR8,hs]|with_reducible show C9 _ _ _ _ _ _ _ _;simp -dsimp[C9,hs]|refine zq c3 ?_|refine zM 3 18 4 [0,1,3,4,5,6,10,11,15] ?_|with_reducible refine zE Wk ?_|refine i9 ?_ ?_<;>intro h<;>try exact h.elim
   all_goals try clear hs
   ·have h:s[k].letter=lt:=by assumption
    have hf:p6 l d lt=some s[k]:=by rw[hcons,if_pos (by simp[hd,h])]
    simp[hf,hd]
   ·have h:¬ s[k].letter=lt:=by assumption
    have hf:p6 l d lt=p6 (s.drop (k+1)) d lt:=by rw[hcons,if_neg (by simp[hd,h])]
    exact zn ⟨k+1,by omega,hf⟩ (zw [0,2,24,25,26] 6 (by simp[hR9]))
  ·have hnone:p6 l d lt=none:=by
    rw[hno,p6,List.find?_eq_none];intro x hxm;obtain⟨i,hi⟩:=List.mem_iff_getElem?.1 hxm;rw[List.getElem?_drop] at hi;have h1:s[k].drawing<=x.drawing:=by
     rcases Nat.eq_zero_or_pos i with rfl|hp
     ·rw[Nat.add_zero,hx] at hi;cases hi;exact Int.le_refl _
     ·have hlt2:=(List.getElem?_eq_some_iff.1 hi).1;have:=(List.pairwise_iff_getElem.1 hss) k (k+i) (by simpa using hlt) (by simpa using hlt2) (by omega);have h6:=(List.getElem?_eq_some_iff.1 hi).2;simp at this;rw[h6] at this;exact this
    have h2:=hge s[k] (List.getElem_mem hlt);simp;omega
   have hs:=za hR1 (za hR2 (za hR3 (za hx (za hw (za hd hlt)))));repeat' first|(with_reducible first|refine zz ?_|refine zr ?_ (by simp -dsimp[C9,hs];exact rfl)|refine zE Wk ?_)|simp -dsimp[C9,hs]|with_reducible show C9 _ _ _ _ _ _ _ _;simp -dsimp[C9,hs]|refine i9 ?_ ?_<;>intro h<;>try exact h.elim
   all_goals try clear hs
   all_goals simp[hnone,K4]
 ·have hnone:p6 l d lt=none:=by rw[hno,List.drop_eq_nil_of_le (by omega)];rfl
  have hs:=za hR1 (za hR2 (za hR3 hlt));repeat' first|(with_reducible first|refine zz ?_|refine zr ?_ (by simp -dsimp[C9,hs];exact rfl)|refine ze ?_ (by simp -dsimp[C9,hs];exact rfl)|refine zE Wk ?_)|simp -dsimp[C9,hs]|with_reducible show C9 _ _ _ _ _ _ _ _;simp -dsimp[C9,hs]|refine i9 ?_ ?_<;>intro h<;>try exact h.elim
  all_goals try clear hs
  all_goals simp[hnone,K4]
end Go.Proofs
namespace Go.Ab
open Go
def kI (n:Int):List Value:=[.int .i64 n]
def n7 (m:List (Int×Int)) (n:Int):Int:=match m with
 | []=>0
 | p :: r=>if p.1=n then p.2 else n7 r n
def P2 (n v:Int):List (Int×Int)->List (Int×Int)
 | []=>[(n,v)]
 | p :: r=>if p.1=n then (n,v) :: r else p :: P2 n v r
def P3 (m:List (Int×Int)):List (List Value×List DC):=m.map λp=>(kI p.1,[.im (rI p.2)])
def ba (m:List (Int×Int)):List (List Value×List IC):=m.map λp=>(kI p.1,[rI p.2])
def J8 (l:List Int):List (List Value×List DC):=l.map λn=>(kI n,[.im (rB true)])
def sh (l:List Int):List (List Value×List IC):=l.map λn=>(kI n,[rB true])
def pG (n:Int) (l:List Int):List Int:=if n∈l then l else l++[n]
theorem bn (n m:Int):A7 [.int .i64 n] (kI m)=decide (m=n):=by
 simp only[kI,A7,Bool.and_true];rw[Bool.eq_iff_iff];simp[eq_comm]
@[simp] theorem KZ (m:List (Int×Int)) (n:Int):P8 [.int .i64 n] (P3 m) [.im (.raw (.int .i64 0))]=[.im (.raw (.int .i64 (n7 m n)))]:=by
 induction m with
 | nil=>rfl
 | cons p r ih =>
   have e:P3 (p :: r)=(kI p.1,[.im (rI p.2)]) :: P3 r:=rfl;rw[e];simp only[P8,U2,n7,bn,decide_eq_true_eq] at ih ⊢;split
   ·rfl
   ·exact ih
@[simp] theorem KU (m:List (Int×Int)) (n v:Int):T6 [.int .i64 n] [.im (.raw (.int .i64 v))] (P3 m)=P3 (P2 n v m):=by
 induction m with
 | nil=>rfl
 | cons p r ih =>
   have e:P3 (p :: r)=(kI p.1,[.im (rI p.2)]) :: P3 r:=rfl;rw[e];simp only[T6,P2,bn,decide_eq_true_eq] at ih ⊢;split
   ·rfl
   ·rw[ih];rfl
@[simp] theorem KX (l:List Int) (n:Int):P8 [.int .i64 n] (J8 l) [.im (.raw (.bool false))]=[.im (.raw (.bool (decide (n∈l))))]:=by
 induction l with
 | nil=>rfl
 | cons p r ih =>
   have e:J8 (p :: r)=(kI p,[.im (rB true)]) :: J8 r:=rfl;rw[e];simp only[P8,U2,bn,decide_eq_true_eq] at ih ⊢;split
   ·rename_i h;simp[h]
   ·rename_i h;rw[ih];have:(n∈p :: r)=(n∈r):=propext ⟨λh'=>(List.mem_cons.1 h').resolve_left λe=>h e.symm,List.mem_cons_of_mem _⟩;simp only[this]
@[simp] theorem KT (l:List Int) (n:Int):T6 [.int .i64 n] [.im (.raw (.bool true))] (J8 l)=J8 (pG n l):=by
 have gen:∀ l:List Int,(n∈l->T6 [.int .i64 n] [.im (.raw (.bool true))] (J8 l)=J8 l)/\(n∉l->T6 [.int .i64 n] [.im (.raw (.bool true))] (J8 l)=J8 (l++[n])):=by
  intro l;induction l with
  | nil=>exact⟨λh=>by simp at h,λ_=>rfl⟩
  | cons p r ih =>
    have e:J8 (p :: r)=(kI p,[.im (rB true)]) :: J8 r:=rfl;rw[e];simp only[T6,bn,decide_eq_true_eq];constructor
    ·intro h;split
     ·rename_i hp;rw[hp];rfl
     ·rename_i hp;rw[ih.1 ((List.mem_cons.1 h).resolve_left λe=>hp e.symm)]
    ·intro h;rw[if_neg λe=>h (by simp[e]),ih.2 λe=>h (by simp[e])];rfl
 unfold pG;split
 ·exact(gen l).1 ‹_›
 ·exact(gen l).2 ‹_›
@[simp] theorem Lb (l:List Int) (n:Int):iF [.int .i64 n] (J8 l)=J8 (l.erase n):=by
 induction l with
 | nil=>rfl
 | cons p r ih =>
   have e:J8 (p :: r)=(kI p,[.im (rB true)]) :: J8 r:=rfl;rw[e];simp only[iF,bn,decide_eq_true_eq];split
   ·rename_i h;subst h;simp
   ·rename_i h;rw[ih,List.erase_cons_tail (by simpa using h)];rfl
@[simp] theorem Kg (l:List Int):(J8 l).length=l.length:=by simp[J8]
@[simp] theorem Kh (l:List (Int×Int)):(P3 l).length=l.length:=by simp[P3]
@[simp] theorem HC (m:List (Int×Int)):gz (ba m)=P3 m:=by simp[gz,ba,P3]
@[simp] theorem HB (l:List Int):gz (sh l)=J8 l:=by simp[gz,sh,J8]
@[simp] theorem Lf (k n:Nat) (objs:List DObj) (m:List (Int×Int)):E9 (λx:List Value×List DC=>(E9 (frz (k+1) n objs) x.2).map λl=>(x.1,l)) (P3 m)=some (ba m):=by
 induction m with
 | nil=>rfl
 | cons p r ih =>
   have e:P3 (p :: r)=(kI p.1,[.im (rI p.2)]) :: P3 r:=rfl;rw[e];simp[E9,ih,ba]
@[simp] theorem Ld (k n:Nat) (objs:List DObj) (l:List Int):E9 (λx:List Value×List DC=>(E9 (frz (k+1) n objs) x.2).map λl=>(x.1,l)) (J8 l)=some (sh l):=by
 induction l with
 | nil=>rfl
 | cons p r ih =>
   have e:J8 (p :: r)=(kI p,[.im (rB true)]) :: J8 r:=rfl;rw[e];simp[E9,ih,sh]
@[simp] theorem JH (n:Nat) (objs:List DObj) (m:List (Int×Int)):((P3 m).map λx=>(x.1,x.2.map (fz n objs)))=P3 m:=by
 simp[P3,fz,DC.lt]
@[simp] theorem JF (n:Nat) (objs:List DObj) (l:List Int):((J8 l).map λx=>(x.1,x.2.map (fz n objs)))=J8 l:=by
 simp[J8,fz,DC.lt]
end Go.Ab
