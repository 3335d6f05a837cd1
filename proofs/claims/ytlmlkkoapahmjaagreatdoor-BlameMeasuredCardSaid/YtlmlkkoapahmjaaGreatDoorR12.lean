/- Part 12 of the proofs. -/
import Derived.Test.YtlmlkkoapahmjaaGreatDoorR08
import Derived.Test.YtlmlkkoapahmjaaGreatDoorR11
set_option linter.all false
set_option maxHeartbeats 100000000
namespace Go.Ab
open Go
structure Dim where
 nominal:Int
 lower:Int
 upper:Int
 deriving DecidableEq
structure Itm where
 drawing:Int
 count:Int
 deriving DecidableEq
structure Issue where
 drawing:Int
 letter:Int
 kind:Int
 items:List Itm
 dims:List Dim
 deriving DecidableEq
def rI (n:Int):IC:=.raw (.int .i64 n)
def rB (b:Bool):IC:=.raw (.bool b)
def D5 (d:Dim):List IC:=[rI d.nominal,rI d.lower,rI d.upper]
def A2 (x:Itm):List IC:=[rI x.drawing,rI x.count]
def e9 (x:Issue):List IC:=[rI x.drawing,rI x.letter,.raw (.int .u8 x.kind),.sl (x.items.map A2),.sl (x.dims.map D5)]
def encI (n:Int):List IC:=[rI n]
def iv (n:Int):DV:=.one (.im (.raw (.int .i64 n)))
def bv (b:Bool):DV:=.one (.im (.raw (.bool b)))
def v6 (l:List Int):DV:=.one (.im (.sl (l.map encI)))
def G8 (l:List Issue):DV:=.agg [.im (.sl (l.map e9))]
attribute [simp] iv bv v6 G8 rI rB D5 A2 e9 encI
attribute [simp] qb iL kX aN kT iM kV iN pX qa kW fY pa G2 ge jq
attribute [simp] oW I7 aM iR j5 aK n9 DS.put D8 E4 jp yd Hu pV rW ms mq ux cP pY BL cU tx DV.cells fi H3 zcells cq T0 aZ ev S6 DS.keep CR C0 N5 pW O0 dF gf fzVL Z0
theorem W0 {p:Prop} {Q:Exit->DS->Prop} {e:Exit} {t:Tok Q} {S:DS} (h:p->At Q e t S):p->At Q e t S:=h
theorem ya (objs:List DObj) (l:List (List IC)):ep objs (.im (.sl l))=some (n3 l):=rfl
theorem uu (objs:List DObj) (o g off len:Nat):ep objs (.vec o g off len)=match objs[o]? with
 | some (.vec _ es g' _)=>if g=g'/\off+len<=es.length then some ((es.drop off).take len) else none
 | _=>none:=by unfold ep;rfl
attribute [simp] ya uu
attribute [simp] ImV.one
theorem Fu (l:List DC):ImV (.agg l)↔∀ d∈l,∃ c,d=.im c:=⟨λh=>by cases h;assumption,.agg l⟩
theorem Ft (l:List DV):ImV (.tup l)↔∀ d∈l,ImV d:=⟨λh=>by cases h;assumption,.tup l⟩
attribute [simp] Fu Ft
attribute [simp] EM EL dN h9 B0 wU Fl S8 Op.operands Call.operands
attribute [simp] nc CB fj JV pick V2 cZ jP mr cH
attribute [simp] Eo cR r8 Bt xg GV kM T3 DS.drop U9 sY
theorem KG (a b:Int):(a==b)=decide (a=b):=by by_cases h:a=b<;>simp[h]
theorem KF (a b:Int):(a != b)=!decide (a=b):=by by_cases h:a=b<;>simp[h]
attribute [simp] KG KF
theorem He {n o off:Nat} {objs:List DObj} (h:o<n):fz n objs (.ptr o off)=.ptr o off:=by simp[fz,DC.lt,h]
theorem Hh {n o g i off:Nat} {objs:List DObj} (h:o<n):fz n objs (.ept o g i off)=.ept o g i off:=by simp[fz,DC.lt,h]
theorem Hd {n o g off len:Nat} {objs:List DObj} (h:o<n):fz n objs (.vec o g off len)=.vec o g off len:=by simp[fz,DC.lt,h]
theorem Bk (x:List IC) (l:List (List IC)):n3 (x :: l)=x.map .im :: n3 l:=rfl
theorem rJ (l:List (List IC)) (n:Nat):(∀ e∈n3 l,e.length=n)↔∀ e∈l,e.length=n:=by
 constructor
 ·intro h e he;have:=h (e.map .im) (by simp only[n3,List.mem_map];exact⟨e,he,rfl⟩);simpa using this
 ·exact λh=>fG h
attribute [simp] rJ
theorem zB {α:Type} (f:α->List IC) (l:List α):(n3 (l.map f)).take l.length=n3 (l.map f):=List.take_of_length_le (by simp[r8])
attribute [simp] He Hh Hd Bk zB
def Ay:Option IC->DC
 | some c=>.im c
 | none=>.dead
theorem Ez {n o g off len:Nat} {objs:List DObj} (h:n<=o):fz n objs (.vec o g off len)=Ay (frz 20 n objs (.vec o g off len)):=by
 have h1:DC.lt n (.vec o g off len)=false:=by simp[DC.lt];omega
 simp only[fz,h1];cases frz 20 n objs (.vec o g off len)<;>rfl
theorem EA {n o off:Nat} {objs:List DObj} (h:n<=o):fz n objs (.ptr o off)=Ay (frz 20 n objs (.ptr o off)):=by
 have h1:DC.lt n (.ptr o off)=false:=by simp[DC.lt];omega
 simp only[fz,h1];cases frz 20 n objs (.ptr o off)<;>rfl
theorem Hk (k n:Nat) (objs:List DObj) (c:IC):frz (k+1) n objs (.im c)=some c:=rfl
theorem EF (k n o g off len:Nat) (objs:List DObj):frz (k+1) n objs (.vec o g off len)=if n<=o then match objs[o]? with
 | some (.vec _ es g' _)=>if g=g'/\off+len<=es.length then (E7 (E7 (frz k n objs)) ((es.drop off).take len)).map .sl else none
 | _=>none
 else none:=rfl
theorem EG (k n o off:Nat) (objs:List DObj):frz (k+1) n objs (.ptr o off)=if n<=o then match objs[o]? with
 | some (.row c)=>if off<=c.length then (E7 (frz k n objs) (c.drop off)).map .ip else none
 | _=>none
 else none:=rfl
theorem JC {n:Nat} {f:Fn} {caps:List DC} {objs:List DObj}:fz n objs (.fn f caps)=if DC.ltL n caps=true then .fn f caps else Ay (frz 20 n objs (.fn f caps)):=by
 have h1:DC.lt n (.fn f caps)=DC.ltL n caps:=rfl;simp only[fz,h1];split
 ·rfl
 ·cases frz 20 n objs (.fn f caps)<;>rfl
theorem Hl (k n:Nat) (objs:List DObj) (f:Fn) (caps:List DC):frz (k+1) n objs (.fn f caps)=(E7 (frz k n objs) caps).map (.fn f):=rfl
theorem Hf {n o:Nat} {objs:List DObj} (h:o<n):fz n objs (.map o)=.map o:=by simp[fz,DC.lt,h]
theorem EC {n o:Nat} {objs:List DObj} (h:n<=o):fz n objs (.map o)=Ay (frz 20 n objs (.map o)):=by
 have h1:DC.lt n (.map o)=false:=by simp[DC.lt];omega
 simp only[fz,h1];cases frz 20 n objs (.map o)<;>rfl
theorem EH (k n o:Nat) (objs:List DObj):frz (k+1) n objs (.map o)=if n<=o then match objs[o]? with
 | some (.map ks es)=>(E7 (λx=>(E7 (frz k n objs) x.2).map λl=>(x.1,l)) es).map (.mp (N8 ks))
 | _=>none
 else none:=rfl
theorem Hc {n o:Nat} {objs:List DObj} (h:o<n):fz n objs (.yld o)=.yld o:=by simp[fz,DC.lt,h]
theorem Hg {n o:Nat} {objs:List DObj} (h:o<n):fz n objs (.itr o)=.itr o:=by simp[fz,DC.lt,h]
attribute [simp] JC Hl Hf EC EH Hc Hg DC.ltL DC.lt
attribute [simp] Ay Ez EA Hk EF EG E7
theorem i7:(∀ (p:Prop) [Decidable p],decide p=true↔p)/\(∀ (p:Prop) [Decidable p],decide p=false↔¬p)/\(∀ a b:Bool,(a&&b)=true↔a=true/\b=true)/\(∀ a b:Bool,(a&&b)=false↔a=false\/b=false)/\(∀ a b:Bool,(a||b)=true↔a=true\/b=true)/\(∀ a b:Bool,(a||b)=false↔a=false/\b=false)/\(∀ a:Bool,(!a)=true↔a=false)/\(∀ a:Bool,(!a)=false↔a=true)/\(∀ (α:Type) [BEq α] [LawfulBEq α] (a b:α),(a==b)=true↔a=b)/\(∀ (α:Type) [BEq α] [LawfulBEq α] (a b:α),(a==b)=false↔a≠b)/\(false=true↔False)/\(true=false↔False):=
 ⟨λ_=>decide_eq_true_iff,λ_=>decide_eq_false_iff_not,λ_ _=>Bool.and_eq_true_iff,λa b=>by cases a<;>cases b<;>decide,λa b=>by cases a<;>cases b<;>decide,λa b=>by cases a<;>cases b<;>decide,λa=>by cases a<;>decide,λa=>by cases a<;>decide,λ_ _ _ _ _=>beq_iff_eq,λ_ _ _ _ _=>beq_eq_false_iff_ne,by decide,by decide⟩
abbrev wN:=@At.seq
abbrev LC:=@At.then_ret
abbrev Iw:=@At.then_exit
abbrev HQ:=@At.block_end
abbrev LB:=@At.block_ret
abbrev Iv:=@At.block_exit
abbrev La:=@At.block_out
abbrev LX:=@At.scope_ret
abbrev wM:=@CP
abbrev Dz:=@sU
abbrev LW:=@sQ
abbrev Fy:=@wj
abbrev LV:=@sT
abbrev Iu:=@wl
abbrev KZ:=@CQ
abbrev za:=@And.intro
class Zs (A:Prop) (B:outParam Prop):Prop where
 go:B->A
theorem zz {A B:Prop} [h:Zs A B] (b:B):A:=h.go b
section
variable {P:Program} {G:LY} {n:Cx} {S:DS} {Q:Exit->DS->Prop}
instance {y:Code}:Zs (At (Z0 (λS'=>DT P G n y S' Q) Q) .normal ⟨⟩ S) (DT P G n y S Q):=⟨At.seq⟩
instance {next:DS->Prop}:Zs (At (Z0 next Q) .ret ⟨⟩ S) (At Q .ret ⟨⟩ S):=⟨At.then_ret⟩
instance {next:DS->Prop} {id:Nat}:Zs (At (Z0 next Q) (.exit id) ⟨⟩ S) (At Q (.exit id) ⟨⟩ S):=⟨At.then_exit⟩
instance {id:Nat}:Zs (At (Y9 id Q) .normal ⟨⟩ S) (At Q .normal ⟨⟩ S):=⟨At.block_end⟩
instance {id:Nat}:Zs (At (Y9 id Q) .ret ⟨⟩ S) (At Q .ret ⟨⟩ S):=⟨At.block_ret⟩
instance {id:Nat}:Zs (At (Y9 id Q) (.exit id) ⟨⟩ S) (At Q .normal ⟨⟩ S):=⟨At.block_exit⟩
instance :Zs (At (dJ Q) .normal ⟨⟩ S) (At Q .normal ⟨⟩ S):=⟨At.scope_end⟩
instance :Zs (At (dJ Q) .ret ⟨⟩ S) (At Q .ret ⟨⟩ S):=⟨At.scope_ret⟩
instance {id:Nat}:Zs (At (dJ Q) (.exit id) ⟨⟩ S) (At Q (.exit id) ⟨⟩ S):=⟨At.scope_exit⟩
instance {x y:Code}:Zs (DT P G n (.seq x y) S Q) (DT P G n x S (Z0 (λS'=>DT P G n y S' Q) Q)):=⟨CP⟩
instance {id:Nat} {c:Code}:Zs (DT P G n (.block id c) S Q) (DT P G n c S (Y9 id Q)):=⟨sU⟩
instance {c:Code}:Zs (DT P G n (.scope c) S Q) (DT P G n c S (dJ Q)):=⟨sQ⟩
instance :Zs (DT P G n .skip S Q) (At Q .normal ⟨⟩ S):=⟨wj⟩
instance {l:Nat}:Zs (DT P G n (.label l) S Q) (At Q .normal ⟨⟩ S):=⟨sT⟩
instance {id:Nat}:Zs (DT P G n (.exit id) S Q) (At Q (.exit id) ⟨⟩ S):=⟨wl⟩
instance :Zs (DT P G n .ret S Q) (At Q .ret ⟨⟩ S):=⟨CQ⟩
theorem zx {rs:List ResultVar} {K:DV->List DObj->Prop} {ds:List DV} (hq:K (O0 ds) S.objs) (h:N5 P S rs=some ds:=by simp -dsimp;exact rfl):At (FP P rs K) .ret ⟨⟩ S:=At.fn_ret h hq
theorem zy {rs:List ResultVar} {K:DV->List DObj->Prop} {ds:List DV} (hq:K (O0 ds) S.objs) (h:N5 P S rs=some ds:=by simp -dsimp;exact rfl):At (FP P rs K) .normal ⟨⟩ S:=At.fn_end h hq
theorem zr {rs:List ResultVar} {K:DV->List DObj->Prop} {ds:List DV} (hq:K (O0 ds) S.objs) (h:N5 P S rs=some ds:=by simp -dsimp[hs];exact rfl):At (FP P rs K) .ret ⟨⟩ S:=At.fn_ret h hq
theorem ze {rs:List ResultVar} {K:DV->List DObj->Prop} {ds:List DV} (hq:K (O0 ds) S.objs) (h:N5 P S rs=some ds:=by simp -dsimp[hs];exact rfl):At (FP P rs K) .normal ⟨⟩ S:=At.fn_end h hq
theorem i8 {c:Operand} {x y:Code} {b:Bool} {p q:Prop} (ht:p->DT P G n x S Q) (hf:q->DT P G n y S Q) (hc:j5 G S c=some (.one (.im (.raw (.bool b)))):=by exact rfl) (hp:b=true->p:=by intro h;first|(simp only[i7] at h;exact h)|exact (by simp only[i7] at h:False)|exact h) (hq:b=false->q:=by intro h;first|(simp only[i7] at h;exact h)|exact (by simp only[i7] at h:False)|exact h):DT P G n (.cond c x y) S Q:=P9 hc (λh=>ht (hp h)) λh=>hf (hq h)
theorem zM {l:List Oper} (id nt nq:Nat) (ks:List Nat)
 (h:Fl P G (l.map (·.dst)) (l.take nq) S (λS'=>oW P G (l.map (·.dst)) (l.drop nq) S' (λS''=>At Q .normal ⟨⟩ (S''.keep ks)) ⟨⟩) ⟨⟩) (hm:P.follows .mixedOrders=true:=by exact mixed) (hnt:S.nt=nt:=by rfl) (hB:gT nt nq l=true:=by kernel_rfl):DT P G n (.region id l.toArray true) S Q:=mX nq ks hm hnt hB h
end
abbrev zP (P:Program) (G:LY) (f:FuncId) (av:List DV) (r:DV):Prop:=∀ objs:List DObj,DCall P G f av objs (λd o=>d=r/\o=objs)
theorem zf {P:Program} {G:LY} {f:FuncId} {fn:Func} {c:Code} {nt:Nat} {args:List DV} {d0:DV} {rs:List ResultVar} (hf:P.funcs[f]?=some fn) (hnt:fn.ntmps=nt) (h:DT P G ⟨([]:List DObj).length,none⟩ c ⟨nt,dF args 0,[]⟩ (FP P rs (λd o=>gf 0 o d=d0))) (hb:fn.body=some c:=by exact rfl) (hargs:args.length<=nt:=by simp) (hrs:fn.results.toList=rs:=by exact rfl) (ha:∀ d∈args,ImV d:=by simp) (hd:ImV d0:=by simp):zP P G f args d0:=λobjs=>DCall.frame (g9 hf hb hnt hargs hrs h) ha hd objs
abbrev zp:=@CallE.pure
abbrev zt:=@CallE.thaw
abbrev zh:=@CallE.here
abbrev zq:=@gv
abbrev zE:=@C6
theorem zw {G:LY} {n:Cx} {S S':DS} (ks:List Nat) (m:Nat) (h:(S.keep ks).drop m=S':=by simp) (hm:m<=S.objs.length:=by simp) (hn:n.n<=m:=by simp):Weak G n S S':=Weak.of_drop ks m hm hn h
theorem zv {G:LY} {n:Cx} {S S':DS} (ks:List Nat) (h:S.keep ks=S':=by simp):Weak G n S S':=Weak.of_keep ks h
theorem zn {G:LY} {n:Cx} {S:DS} {Q:Exit->DS->Prop} {ι:Type} {I:ι->DS} {m:ι->Nat} {i:ι} (j:ι) (h2:Weak G n S (I j)) (h1:m j<m i:=by first|omega|(simp only;omega)|(simp;omega)):At (Z0 (λS'=>CE G n I m i S') Q) .normal ⟨⟩ S:=At.round j h1 h2
end Go.Ab
namespace Go.Proofs
open Go Go.Ab Tryz
attribute [local simp] E8 setLp
theorem o7 {n:Int} (h1:-9223372036854775808<=n) (h2:n<=9223372036854775807):IntKind.i64.wrap n=n:=IntWalk.i64_in n ⟨h1,h2⟩
theorem zk (k:Nat) (h:k<4611686018427387904:=by omega):IntKind.i64.wrap ((k:Int)+1)=((k+1:Nat):Int):=o7 (by omega) (by omega)
variable {G:LY}
theorem dy (n lo hi:Int) (objs:List DObj):DCall prog G 140 [iv n,iv lo,iv hi] objs (λd objs'=>d=bv (decide (lo<=n)&&decide (n<=hi))/\objs'=objs):=by
 refine DCall.frame ?_ (by simp) (by simp) objs;refine g9 func140 rfl ntmps140 (by simp) rfl ?_;simp only[iv];have hs:=trivial;repeat' first|(with_reducible first|refine zz ?_|refine zr ?_|refine zE [0,1,2,6] ?_)|simp -dsimp[hs]|with_reducible refine j0 ?_ ?_<;>intro h<;>have h0:=h<;>(try simp only[i7] at h)<;>have h2:=h<;>(try simp at h2)<;>replace hs:=za h0 (za h (za h2 hs))
 all_goals simp[bv, *]
def idx (l:List Int) (x:Int):Int:=match l.idxOf? x with|some i=>i|none=>-1
theorem vO {l:List Int} {x:Int} {k:Nat} (h:l[k]?=some x) (hno:∀ j,j<k->l[j]?≠some x):idx l x=k:=by
 have:l.idxOf? x=some k:=by
  rw[List.idxOf?,List.findIdx?_eq_some_iff_getElem];obtain⟨hlt,he⟩:=List.getElem?_eq_some_iff.1 h;refine⟨hlt,by simp[he],λj hj=>?_⟩;have:=hno j hj;rw[List.getElem?_eq_getElem (by omega)] at this;simpa using this
 simp[idx,this]
theorem Bl {l:List Int} {x:Int} (hno:∀ j,j<l.length->l[j]?≠some x):idx l x=-1:=by
 have:l.idxOf? x=none:=by
  rw[List.idxOf?,List.findIdx?_eq_none_iff];intro y hy;obtain⟨j,hj⟩:=List.mem_iff_getElem?.1 hy;have hlt:=e7 hj;have:=hno j hlt;rw[hj] at this;simpa using this
 simp[idx,this]
theorem pK (l:List Int) (x:Int) (hl:l.length<1000000) (objs:List DObj):DCall prog G 91 [v6 l,iv x] objs (λd objs'=>d=iv (idx l x)/\objs'=objs):=by
 refine DCall.frame ?_ (by simp) (by simp) objs;refine g9 func91 rfl ntmps91 (by simp) rfl ?_;simp only[v6,iv];have hs:=trivial;repeat' first|(with_reducible first|refine zz ?_|refine zE [0,1,4,5,9,17] ?_)|simp -dsimp[hs]
 refine i6 (ι:={ k:Nat // k<=l.length/\∀ j,j<k->l[j]?≠some x }) (λk=>⟨19,[(0,v6 l),(1,iv x),(4,iv 0),(5,iv (k.1:Int))],[]⟩) (λk=>l.length-k.1) ⟨0,by simp,by simp⟩ (zv [0,1,4,5] (by simp[v6,iv])) ?_;rintro⟨k,hk,hno⟩;simp only[v6,iv];by_cases hlt:k<l.length
 ·have hx:l[k]?=some l[k]:=by simp[hlt]
  have hw:=zk k;have hs:=za hx hw;repeat' first|(with_reducible first|refine zz ?_|refine zr ?_ (by simp -dsimp[encI,rI,hs];exact rfl)|refine zE [0,1,4,5,9,17] ?_)|simp -dsimp[encI,rI,hs]|refine i8 ?_ ?_<;>intro h<;>try exact h.elim
  all_goals try clear hs
  all_goals try omega
  ·exact(vO (by rw[hx];simp[*]) hno).symm
  ·refine⟨⟨k+1,by omega,λj hj=>?_⟩,?_,Weak.of_keep [0,1,4,5] (by simp[v6,iv])⟩
   ·by_cases e:j=k
    ·subst e;simp[hx, *]
    ·exact hno j (by omega)
   ·simp;omega
 ·have hs:=trivial;repeat' first|(with_reducible first|refine zz ?_|refine zr ?_|refine zE [0,1,4,5,9,17] ?_)|simp -dsimp[hs]|refine i8 ?_ ?_<;>intro h<;>try exact h.elim
  all_goals try omega
  exact(Bl λj hj=>hno j (by omega)).symm
end Go.Proofs
namespace Go.Proofs
open Go Go.Ab Tryz
attribute [local simp] E8 setLp
variable {G:LY}
theorem mixed:prog.follows .mixedOrders=true:=by kernel_rfl
def N3 (x:Issue):DV:=.agg ((e9 x).map .im)
attribute [simp] N3
end Go.Proofs
namespace Go.Proofs
open Go Go.Ab
attribute [local simp] E8 setLp
variable {G:LY}
theorem Ej (x:Issue):N3 x=.agg [.im (rI x.drawing),.im (rI x.letter),.im (.raw (.int .u8 x.kind)),.im (.sl (x.items.map A2)),.im (.sl (x.dims.map D5))]:=rfl
def ko (l:List Issue):Prop:=l.length<=80/\∀ x∈l,x.items.length<=16/\x.dims.length<=8
end Go.Proofs
namespace Go.Proofs
open Go Go.Ab Tryz
attribute [local simp] E8 setLp
variable {G:LY}
instance (l:List Issue):Decidable (ko l):=inferInstanceAs (Decidable (_/\_))
theorem Ey (l:List Issue) (objs:List DObj):DCall prog G 167 [G8 l] objs (λd objs'=>d=bv (!decide (ko l))/\objs'=objs):=by
 refine DCall.frame ?_ (by simp) (by simp) objs;refine g9 func167 rfl ntmps167 (by simp) rfl ?_;simp only[G8,bv];have hs:=trivial;repeat' first|(with_reducible first|refine zz ?_|refine zr ?_|refine zE [0,1,2,3,7,12,32] ?_)|simp -dsimp[hs]|refine i8 ?_ ?_<;>intro h<;>try exact h.elim
 all_goals try clear hs
 ·exact λhs=>by have:=hs.1;omega
 ·have hl:l.length<=80:=by omega
  refine i6 (ι:={ k:Nat // k<=l.length/\∀ j x,j<k->l[j]?=some x->x.items.length<=16/\x.dims.length<=8 }) (λp=>⟨33,[(1,.one (.ptr 0 0)),(3,iv (p.1:Int))],[.row [.im (.sl (l.map e9))]]⟩) (λp=>l.length-p.1) ⟨0,by simp⟩ (zv [1,3] (by simp[iv])) ?_;rintro⟨k,hk,hno⟩;simp only[iv];by_cases hlt:k<l.length
  ·have hx:l[k]?=some l[k]:=by simp[hlt]
   have hw:=zk k;have bad:16<l[k].items.length\/8<l[k].dims.length->¬ ko l:=λh hs=>by have:=hs.2 l[k] (by simp);omega
   have hs:=za hx hw;repeat' first|(with_reducible first|refine zz ?_|refine zr ?_ (by simp -dsimp[e9,rI,hs];exact rfl)|refine zE [0,1,2,3,7,12,32] ?_)|simp -dsimp[e9,rI,hs]|refine i8 ?_ ?_<;>intro h<;>try exact h.elim|with_reducible refine j0 ?_ ?_<;>intro h<;>have h0:=h<;>(try simp only[i7] at h)<;>have h2:=h<;>(try simp at h2)<;>replace hs:=za h0 (za h (za h2 hs))
   all_goals try clear hs
   all_goals first
    | omega
    | exact bad (by omega)
    | skip
   refine zn ⟨k+1,by omega,λj x hj hjx=>?_⟩ (zv [1,3]);by_cases e:j=k
   ·subst e;rw[hx] at hjx;cases hjx;omega
   ·exact hno j x (by omega) hjx
  ·have hs:=hlt;repeat' first|(with_reducible first|refine zz ?_|refine zr ?_|refine zE [0,1,2,3,7,12,32] ?_)|simp -dsimp[hs]|refine i8 ?_ ?_<;>intro h<;>try exact h.elim
   all_goals try clear hs
   exact⟨hl,λx hx'=>by
    obtain⟨j,hj⟩:=List.mem_iff_getElem?.1 hx';exact hno j x (by have:=e7 hj;omega) hj⟩
end Go.Proofs
namespace Go.Proofs
open Go Go.Ab Tryz
attribute [local simp] E8 setLp
variable {G:LY}
@[simp] abbrev Qh:List Nat:=[0,1,4,5,10,14,25]
theorem lE (l r:List Int) (hl:l.length<1000000) (objs:List DObj):DCall prog G 40 [v6 l,v6 r] objs (λd objs'=>d=bv (decide (l=r))/\objs'=objs):=by
 refine DCall.frame ?_ (by simp) (by simp) objs;refine g9 func40 rfl ntmps40 (by simp) rfl ?_;simp only[v6,bv];have hs:=trivial;repeat' first|(with_reducible first|refine zz ?_|refine zr ?_|refine zE Qh ?_)|simp -dsimp[hs]|refine i8 ?_ ?_<;>intro h<;>try exact h.elim
 ·rintro rfl;omega
 ·have hlen:l.length=r.length:=by omega
  refine i6 (ι:={ k:Nat // k<=l.length/\∀ j,j<k->l[j]?=r[j]? }) (λp=>⟨26,[(0,v6 l),(1,v6 r),(5,iv (p.1:Int))],[]⟩) (λp=>l.length-p.1) ⟨0,by simp⟩ (zv [0,1,5] (by simp[iv,v6])) ?_;rintro⟨k,hk,hno⟩;simp only[iv,v6];by_cases hlt:k<l.length
  ·have hx:l[k]?=some l[k]:=by simp[hlt]
   have hltr:k<r.length:=by omega
   have hy:r[k]?=some r[k]:=by simp[hltr]
   have hw:=zk k;have hs:=za hx (za hy hw);repeat' first|(with_reducible first|refine zz ?_|refine zr ?_ (by simp -dsimp[encI,rI,hs];exact rfl))|simp -dsimp[encI,rI,hs]|refine zM 6 26 9 Qh ?_|with_reducible refine zE Qh ?_|refine i8 ?_ ?_<;>intro h<;>try exact h.elim
   all_goals try omega
   ·rename_i h;rintro rfl;exact h rfl
   ·rename_i h;refine zn ⟨k+1,by omega,λj hj=>?_⟩ (zv [0,1,5]);by_cases e:j=k
    ·subst e;rw[hx,hy,h]
    ·exact hno j (by omega)
  ·have hs:=hlt;repeat' first|(with_reducible first|refine zz ?_|refine zr ?_|refine zE Qh ?_)|simp -dsimp[hs]|refine i8 ?_ ?_<;>intro h<;>try exact h.elim
   refine List.ext_getElem? λj=>?_;by_cases hj:j<k
   ·exact hno j hj
   ·rw[List.getElem?_eq_none (by omega),List.getElem?_eq_none (by omega)]
end Go.Proofs
namespace Go.Proofs
open Go Go.Ab Tryz
attribute [local simp] E8 setLp
variable {G:LY}
def Ei (l:List Itm):DV:=.one (.im (.sl (l.map A2)))
attribute [simp] Ei
theorem qO (l r:List Itm) (hl:l.length<1000000) (objs:List DObj):DCall prog G 266 [Ei l,Ei r] objs (λd objs'=>d=bv (decide (l=r))/\objs'=objs):=by
 refine DCall.frame ?_ (by simp) (by simp) objs;refine g9 func266 rfl ntmps266 (by simp) rfl ?_;simp only[Ei,bv];have hs:=trivial;repeat' first|(with_reducible first|refine zz ?_|refine zr ?_|refine zE Qh ?_)|simp -dsimp[hs]|refine i8 ?_ ?_<;>intro h<;>try exact h.elim
 ·rintro rfl;omega
 ·have hlen:l.length=r.length:=by omega
  refine i6 (ι:={ k:Nat // k<=l.length/\∀ j,j<k->l[j]?=r[j]? }) (λp=>⟨26,[(0,Ei l),(1,Ei r),(5,iv (p.1:Int))],[]⟩) (λp=>l.length-p.1) ⟨0,by simp⟩ (zv [0,1,5] (by simp[iv,Ei])) ?_;rintro⟨k,hk,hno⟩;simp only[iv,Ei];by_cases hlt:k<l.length
  ·have hx:l[k]?=some l[k]:=by simp[hlt]
   have hltr:k<r.length:=by omega
   have hy:r[k]?=some r[k]:=by simp[hltr]
   have hw:=zk k;have hs:=za hx (za hy hw);repeat' first|(with_reducible first|refine zz ?_|refine zr ?_ (by simp -dsimp[A2,rI,hs];exact rfl))|simp -dsimp[A2,rI,hs]|refine zM 6 26 9 Qh ?_|with_reducible refine zE Qh ?_|refine i8 ?_ ?_<;>intro h<;>try exact h.elim
   all_goals try omega
   ·rename_i h;rintro rfl;simp at h
   ·rename_i h;refine zn ⟨k+1,by omega,λj hj=>?_⟩ (zv [0,1,5]);by_cases e:j=k
    ·subst e;have:l[j]=r[j]:=by cases hc:l[j];cases hd:r[j];rw[hc,hd] at h;simp at h;simp[h]
     rw[hx,hy,this]
    ·exact hno j (by omega)
  ·have hs:=hlt;repeat' first|(with_reducible first|refine zz ?_|refine zr ?_|refine zE Qh ?_)|simp -dsimp[hs]|refine i8 ?_ ?_<;>intro h<;>try exact h.elim
   refine List.ext_getElem? λj=>?_;by_cases hj:j<k
   ·exact hno j hj
   ·rw[List.getElem?_eq_none (by omega),List.getElem?_eq_none (by omega)]
end Go.Proofs
namespace Go.Proofs
open Go Go.Ab Tryz
attribute [local simp] E8 setLp
variable {G:LY}
@[simp] abbrev Wk:List Nat:=[0,1,2,3,4,5,41,46,59]
theorem qP (x y:Issue) (hx:x.items.length<1000000/\x.dims.length<1000000) (objs:List DObj):DCall prog G 226 [N3 x,N3 y] objs (λd objs'=>d=bv (decide (x=y))/\objs'=objs):=by
 refine DCall.frame ?_ (by simp) (by simp) objs;refine g9 func226 rfl ntmps226 (by simp) rfl ?_;have hc:=λobjs=>qO (G:=G) x.items y.items hx.1 objs;simp only[Ei] at hc;simp only[N3,bv];have hs:=trivial;repeat' first|(with_reducible first|refine zz ?_|refine zr ?_ (by simp -dsimp[e9,rI,bv,hs];exact rfl)|refine zE Wk ?_)|simp -dsimp[e9,rI,bv,hs]|refine CallE.pure hc ?_|refine i8 ?_ ?_<;>intro h<;>try exact h.elim|with_reducible refine j0 ?_ ?_<;>intro h<;>have h0:=h<;>(try simp only[i7] at h)<;>have h2:=h<;>(try simp at h2)<;>replace hs:=za h0 (za h (za h2 hs))
 all_goals try clear hs
 all_goals try (rintro rfl;simp_all;done)
 obtain⟨hx1,hx2⟩:=hx;have e1:x.drawing=y.drawing:=by assumption
 have e2:x.letter=y.letter:=by assumption
 have e3:x.kind=y.kind:=by assumption
 have e4:x.items=y.items:=by assumption
 have e5:x.dims.length=y.dims.length:=by omega
 refine i6 (ι:={ k:Nat // k<=x.dims.length/\∀ j,j<k->x.dims[j]?=y.dims[j]? }) (λp=>⟨60,[(2,.one (.ptr 0 0)),(3,.one (.ptr 1 0)),(5,iv (p.1:Int))],[.row ((e9 x).map .im),.row ((e9 y).map .im)]⟩) (λp=>x.dims.length-p.1) ⟨0,by simp⟩ (zv [2,3,5] (by simp[iv,e9,rI,<- e1,<- e2,<- e3,<- e4])) ?_;rintro⟨k,hk,hno⟩;simp only[iv,e9,rI,List.map_cons,List.map_nil];by_cases hlt:k<x.dims.length
 ·have hx:x.dims[k]?=some x.dims[k]:=by simp[hlt]
  have hltr:k<y.dims.length:=by omega
  have hy:y.dims[k]?=some y.dims[k]:=by simp[hltr]
  have hw:=zk k;have hs:=za hx (za hy hw);repeat' first|(with_reducible first|refine zz ?_|refine zr ?_ (by simp -dsimp[D5,rI,hs];exact rfl))|simp -dsimp[D5,rI,hs]|refine zM 6 60 11 Wk ?_|with_reducible refine zE Wk ?_|refine i8 ?_ ?_<;>intro h<;>try exact h.elim
  all_goals try omega
  ·rename_i h;rintro rfl;simp at h
  ·rename_i h;refine zn ⟨k+1,by omega,λj hj=>?_⟩ (zv [2,3,5]);by_cases e:j=k
   ·subst e;have:x.dims[j]=y.dims[j]:=by cases hc:x.dims[j];cases hd:y.dims[j];rw[hc,hd] at h;simp at h;simp[h]
    rw[hx,hy,this]
   ·exact hno j (by omega)
 ·have hs:=hlt;repeat' first|(with_reducible first|refine zz ?_|refine zr ?_|refine zE Wk ?_)|simp -dsimp[hs]|refine i8 ?_ ?_<;>intro h<;>try exact h.elim
  have:x.dims=y.dims:=by
   refine List.ext_getElem? λj=>?_;by_cases hj:j<k
   ·exact hno j hj
   ·rw[List.getElem?_eq_none (by omega),List.getElem?_eq_none (by omega)]
  cases x;cases y;simp_all
end Go.Proofs
namespace Go.Proofs
open Go Go.Ab Tryz
attribute [local simp] E8 setLp
variable {G:LY}
@[simp] abbrev Wl:List Nat:=[0,1,2,3,4,5,12,17,31]
theorem Gc (l r:List Issue) (hl:ko l) (objs:List DObj):DCall prog G 174 [G8 l,G8 r] objs (λd objs'=>d=bv (decide (l=r))/\objs'=objs):=by
 refine DCall.frame ?_ (by simp) (by simp) objs;refine g9 func174 rfl ntmps174 (by simp) rfl ?_;obtain⟨hl1,hl2⟩:=hl;simp only[G8,bv];have hs:=trivial;repeat' first|(with_reducible first|refine zz ?_|refine zr ?_|refine zE Wl ?_)|simp -dsimp[hs]|refine i8 ?_ ?_<;>intro h<;>try exact h.elim
 ·rintro rfl;omega
 ·have hlen:l.length=r.length:=by omega
  refine i6 (ι:={ k:Nat // k<=l.length/\∀ j,j<k->l[j]?=r[j]? }) (λp=>⟨32,[(2,.one (.ptr 0 0)),(3,.one (.ptr 1 0)),(5,iv (p.1:Int))],[.row [.im (.sl (l.map e9))],.row [.im (.sl (r.map e9))]]⟩) (λp=>l.length-p.1) ⟨0,by simp⟩ (zv [2,3,5] (by simp[iv])) ?_;rintro⟨k,hk,hno⟩;simp only[iv];by_cases hlt:k<l.length
  ·have hx:l[k]?=some l[k]:=by simp[hlt]
   have hltr:k<r.length:=by omega
   have hy:r[k]?=some r[k]:=by simp[hltr]
   have hw:=zk k;have hb:=hl2 l[k] (by simp);have hc:=λobjs=>qP (G:=G) l[k] r[k] ⟨by omega,by omega⟩ objs;simp only[Ej] at hc;have hs:=za hx (za hy hw);repeat' first|(with_reducible first|refine zz ?_|refine zr ?_ (by simp -dsimp[e9,rI,bv,hs];exact rfl))|simp -dsimp[e9,rI,bv,hs]|refine gv hc ?_|refine zM 6 32 12 Wl ?_|with_reducible refine zE Wl ?_|refine i8 ?_ ?_<;>intro h<;>try exact h.elim
   all_goals try omega
   ·rename_i h;rintro rfl;simp at h
   ·rename_i h;refine zn ⟨k+1,by omega,λj hj=>?_⟩ (zv [2,3,5]);by_cases e:j=k
    ·subst e;rw[hx,hy,h]
    ·exact hno j (by omega)
  ·have hs:=hlt;repeat' first|(with_reducible first|refine zz ?_|refine zr ?_|refine zE Wl ?_)|simp -dsimp[hs]|refine i8 ?_ ?_<;>intro h<;>try exact h.elim
   refine List.ext_getElem? λj=>?_;by_cases hj:j<k
   ·exact hno j hj
   ·rw[List.getElem?_eq_none (by omega),List.getElem?_eq_none (by omega)]
end Go.Proofs
namespace Go.Proofs
open Go Go.Ab Tryz
attribute [local simp] E8 setLp
variable {G:LY}
def K1:Issue:=⟨0,0,0,[],[]⟩
def p6 (l:List Issue) (d lt:Int):Option Issue:=l.find? λx=>x.drawing==d&&x.letter==lt
def E0 (d lt:Int):DV:=.agg [.im (rI d),.im (rI lt)]
attribute [simp] E0
@[simp] abbrev WE:List Nat:=[0,1,2,3,4,5,6,7,12,31]
theorem uh (l:List Issue) (d lt:Int) (hl:l.length<1000000) (objs:List DObj):DCall prog G 137 [G8 l,E0 d lt] objs (λr objs'=>r=.tup [N3 ((p6 l d lt).getD K1),bv (p6 l d lt).isSome]/\objs'=objs):=by
 refine DCall.frame ?_ (by simp) (by simp) objs;refine g9 func137 rfl ntmps137 (by simp) rfl ?_;simp only[G8,E0,bv,N3];have hs:=trivial;repeat' first|(with_reducible first|refine zz ?_|refine zE WE ?_)|simp -dsimp[hs]
 refine i6 (ι:={ k:Nat // k<=l.length/\p6 l d lt=p6 (l.drop k) d lt }) (λp=>⟨34,[(2,.one (.ptr 0 0)),(3,.one (.ptr 1 0)),(4,.one (.ptr 4 0)),(6,iv (p.1:Int))],[.row [.im (.sl (l.map e9))],.row [.im (rI d),.im (rI lt)],.vec 0 [] 0 true,.vec 0 [] 0 true,.row ((rI 0 :: rI 0 :: [IC.raw (.int .u8 0)]).map .im++[.vec 2 0 0 0,.vec 3 0 0 0])]⟩) (λp=>l.length-p.1) ⟨0,by simp⟩ (zv [2,3,4,6] (by simp[iv,rI])) ?_;rintro⟨k,hk,hno⟩;simp only[iv];by_cases hlt:k<l.length
 ·have hx:l[k]?=some l[k]:=by simp[hlt]
  have hw:=zk k;have hcons:p6 l d lt=if (l[k].drawing==d&&l[k].letter==lt)=true then some l[k] else p6 (l.drop (k+1)) d lt:=by
   rw[hno,List.drop_eq_getElem_cons hlt];simp only[p6,List.find?_cons];split<;>simp_all
  have hs:=za hx hw;repeat' first|(with_reducible first|refine zz ?_|refine zr ?_ (by simp -dsimp[e9,rI,hs];exact rfl)|refine zE WE ?_)|simp -dsimp[e9,rI,hs]|refine i8 ?_ ?_<;>intro h<;>try exact h.elim|with_reducible refine j0 ?_ ?_<;>intro h<;>have h0:=h<;>(try simp only[i7] at h)<;>have h2:=h<;>(try simp at h2)<;>replace hs:=za h0 (za h (za h2 hs))
  all_goals try clear hs
  all_goals try omega
  ·have hf:p6 l d lt=some l[k]:=by simp_all
   simp[hf, *]
  ·rename_i h;have hf:p6 l d lt=p6 (l.drop (k+1)) d lt:=by rw[hcons];simp[h]
   exact zn ⟨k+1,by omega,hf⟩ (zw [2,3,4,6] 5 (by simp[rI]))
  ·rename_i h2 h;have hf:p6 l d lt=p6 (l.drop (k+1)) d lt:=by rw[hcons];simp[h2]
   exact zn ⟨k+1,by omega,hf⟩ (zw [2,3,4,6] 5 (by simp[rI]))
 ·have hf:p6 l d lt=none:=by rw[hno,List.drop_eq_nil_of_le (by omega)];rfl
  have hs:=hlt;repeat' first|(with_reducible first|refine zz ?_|refine zr ?_ (by simp -dsimp[e9,rI,hs];exact rfl)|refine zE WE ?_)|simp -dsimp[e9,rI,hs]|refine i8 ?_ ?_<;>intro h<;>try exact h.elim
  all_goals simp[hf,K1]
end Go.Proofs
namespace Go.Proofs
open Go Go.Ab Tryz
attribute [local simp] E8 setLp
variable {G:LY}
def J1 {α:Type} (p:α->Bool) (l:List α):Int:=match l.findIdx? p with|some i=>i|none=>-1
theorem N4 {α:Type} {p:α->Bool} {l:List α} {i:Nat} {x:α} (h:l[i]?=some x) (hp:p x=true) (hno:∀ (j:Nat) (x:α),j<i->l[j]?=some x->p x=false):J1 p l=i:=by
 have:l.findIdx? p=some i:=by
  rw[List.findIdx?_eq_some_iff_getElem];obtain⟨hlt,he⟩:=List.getElem?_eq_some_iff.1 h;refine⟨hlt,by rw[he];exact hp,λj hj=>?_⟩;have:=hno j l[j] hj (by simp);simp[this]
 simp[J1,this]
theorem T5 {α:Type} {p:α->Bool} {l:List α} (hno:∀ (j:Nat) (x:α),l[j]?=some x->p x=false):J1 p l=-1:=by
 have:l.findIdx? p=none:=by
  rw[List.findIdx?_eq_none_iff];intro y hy;obtain⟨j,hj⟩:=List.mem_iff_getElem?.1 hy;exact hno j y hj
 simp[J1,this]
theorem B6 {α:Type} (p:α->Bool) (l:List α):decide (0<=J1 p l)=l.any p:=by
 unfold J1;split
 ·rename_i i h;rw[List.findIdx?_eq_some_iff_getElem] at h;obtain⟨hlt,hp,_⟩:=h;have:l.any p=true:=List.any_eq_true.2 ⟨l[i],by simp,hp⟩;simp[this]
 ·rename_i h;rw[List.findIdx?_eq_none_iff] at h;have:l.any p=false:=by rw[List.any_eq_false];intro x hx;simp[h x hx]
  simp[this]
def AZ (x:Itm):DV:=.agg ((A2 x).map .im)
def iO (x:Dim):DV:=.agg ((D5 x).map .im)
attribute [simp] AZ iO
@[simp] abbrev LZ:List Nat:=[0,1,4,5,7,8,9,16]
theorem fF (l:List Int) (p:Int->Bool) (k:Nat) (caps:List DC) (objs:List DObj) (hok:E2 prog k) (hf:∀ x∈l,DCall prog G k (iv x :: caps.map .one) objs (λd o=>d=bv (p x)/\o=objs)) (hl:l.length<1000000):DCall prog G 179 [.one (.im (.sl (l.map encI))),.one (.fn (.func k) caps)] objs (λd o=>d=iv (J1 p l)/\o=objs):=by
 refine g9 func179 rfl ntmps179 (by simp) rfl ?_;have hs:=trivial;repeat' first|(with_reducible first|refine zz ?_|refine zE LZ ?_)|simp -dsimp[hs]
 refine i6 (ι:={ k:Nat // k<=l.length/\∀ j x,j<k->l[j]?=some x->p x=false }) (λi=>⟨19,[(0,.one (.im (.sl (l.map encI)))),(1,.one (.fn (.func k) caps)),(7,iv (l.length:Int)),(8,iv (i.1:Int))],objs⟩) (λi=>l.length-i.1) ⟨0,by simp⟩ (zv [0,1,7,8]) ?_;rintro⟨i,hi,hno⟩;simp only[iv];by_cases hlt:i<l.length
 ·have hx:l[i]?=some l[i]:=by simp[hlt]
  have hw:=zk i;have hc:=hf l[i] (by simp);simp only[iv,encI,List.map_cons,List.map_nil,bv,rI] at hc;have hs:=za hx (za hw hok);repeat' first|(with_reducible first|refine zz ?_|refine And.intro (by omega) ?_|refine zr ?_|refine zE LZ ?_)|simp -dsimp[hs]|refine CallE.here hc ?_|refine i8 ?_ ?_<;>intro h<;>try exact h.elim|with_reducible refine And.intro ?_ ?_
  all_goals try omega
  ·exact(N4 hx (by assumption) hno).symm
  ·exact At.round ⟨i+1,by omega,λj x hj hjx=>by
    by_cases e:j=i
    ·subst e;rw[hx] at hjx;cases hjx;assumption
    ·exact hno j x (by omega) hjx⟩ (by simp;omega) (zv [0,1,7,8])
 ·have hs:=trivial;repeat' first|(with_reducible first|refine zz ?_|refine zr ?_|refine zE LZ ?_)|simp -dsimp[hs]|refine i8 ?_ ?_<;>intro h<;>try exact h.elim|with_reducible refine And.intro ?_ ?_
  all_goals try omega
  exact(T5 λj x hjx=>hno j x (by have:=e7 hjx;omega) hjx).symm
theorem D6 (l:List Int) (p:Int->Bool) (k:Nat) (caps:List DC) (objs:List DObj) (hok:E2 prog k) (hf:∀ x∈l,DCall prog G k (iv x :: caps.map .one) objs (λd o=>d=bv (p x)/\o=objs)) (hl:l.length<1000000):DCall prog G 122 [.one (.im (.sl (l.map encI))),.one (.fn (.func k) caps)] objs (λd o=>d=bv (l.any p)/\o=objs):=by
 refine g9 func122 rfl ntmps122 (by simp) rfl ?_;have hc:=fF l p k caps objs hok hf hl;repeat' first|(with_reducible first|refine zz ?_|refine zx ?_|refine zE [0,1,4] ?_)|simp -dsimp|refine CallE.here hc ?_|with_reducible refine And.intro ?_ ?_
 simp[B6]
theorem nk (l:List Itm) (p:Itm->Bool) (k:Nat) (caps:List DC) (objs:List DObj) (hok:E2 prog k) (hf:∀ x∈l,DCall prog G k (AZ x :: caps.map .one) objs (λd o=>d=bv (p x)/\o=objs)) (hl:l.length<1000000):DCall prog G 248 [.one (.im (.sl (l.map A2))),.one (.fn (.func k) caps)] objs (λd o=>d=iv (J1 p l)/\o=objs):=by
 refine g9 func248 rfl ntmps248 (by simp) rfl ?_;have hs:=trivial;repeat' first|(with_reducible first|refine zz ?_|refine zE LZ ?_)|simp -dsimp[hs]
 refine i6 (ι:={ k:Nat // k<=l.length/\∀ j x,j<k->l[j]?=some x->p x=false }) (λi=>⟨19,[(0,.one (.im (.sl (l.map A2)))),(1,.one (.fn (.func k) caps)),(7,iv (l.length:Int)),(8,iv (i.1:Int))],objs⟩) (λi=>l.length-i.1) ⟨0,by simp⟩ (zv [0,1,7,8]) ?_;rintro⟨i,hi,hno⟩;simp only[iv];by_cases hlt:i<l.length
 ·have hx:l[i]?=some l[i]:=by simp[hlt]
  have hw:=zk i;have hc:=hf l[i] (by simp);simp only[AZ,A2,List.map_cons,List.map_nil,bv,rI] at hc;have hs:=za hx (za hw hok);repeat' first|(with_reducible first|refine zz ?_|refine And.intro (by omega) ?_|refine zr ?_|refine zE LZ ?_)|simp -dsimp[hs]|refine CallE.here hc ?_|refine i8 ?_ ?_<;>intro h<;>try exact h.elim|with_reducible refine And.intro ?_ ?_
  all_goals try omega
  ·exact(N4 hx (by assumption) hno).symm
  ·exact At.round ⟨i+1,by omega,λj x hj hjx=>by
    by_cases e:j=i
    ·subst e;rw[hx] at hjx;cases hjx;assumption
    ·exact hno j x (by omega) hjx⟩ (by simp;omega) (zv [0,1,7,8])
 ·have hs:=trivial;repeat' first|(with_reducible first|refine zz ?_|refine zr ?_|refine zE LZ ?_)|simp -dsimp[hs]|refine i8 ?_ ?_<;>intro h<;>try exact h.elim|with_reducible refine And.intro ?_ ?_
  all_goals try omega
  exact(T5 λj x hjx=>hno j x (by have:=e7 hjx;omega) hjx).symm
theorem jI (l:List Itm) (p:Itm->Bool) (k:Nat) (caps:List DC) (objs:List DObj) (hok:E2 prog k) (hf:∀ x∈l,DCall prog G k (AZ x :: caps.map .one) objs (λd o=>d=bv (p x)/\o=objs)) (hl:l.length<1000000):DCall prog G 195 [.one (.im (.sl (l.map A2))),.one (.fn (.func k) caps)] objs (λd o=>d=bv (l.any p)/\o=objs):=by
 refine g9 func195 rfl ntmps195 (by simp) rfl ?_;have hc:=nk l p k caps objs hok hf hl;repeat' first|(with_reducible first|refine zz ?_|refine zx ?_|refine zE [0,1,4] ?_)|simp -dsimp|refine CallE.here hc ?_|with_reducible refine And.intro ?_ ?_
 simp[B6]
theorem nn (l:List Dim) (p:Dim->Bool) (k:Nat) (caps:List DC) (objs:List DObj) (hok:E2 prog k) (hf:∀ x∈l,DCall prog G k (iO x :: caps.map .one) objs (λd o=>d=bv (p x)/\o=objs)) (hl:l.length<1000000):DCall prog G 322 [.one (.im (.sl (l.map D5))),.one (.fn (.func k) caps)] objs (λd o=>d=iv (J1 p l)/\o=objs):=by
 refine g9 func322 rfl ntmps322 (by simp) rfl ?_;have hs:=trivial;repeat' first|(with_reducible first|refine zz ?_|refine zE LZ ?_)|simp -dsimp[hs]
 refine i6 (ι:={ k:Nat // k<=l.length/\∀ j x,j<k->l[j]?=some x->p x=false }) (λi=>⟨19,[(0,.one (.im (.sl (l.map D5)))),(1,.one (.fn (.func k) caps)),(7,iv (l.length:Int)),(8,iv (i.1:Int))],objs⟩) (λi=>l.length-i.1) ⟨0,by simp⟩ (zv [0,1,7,8]) ?_;rintro⟨i,hi,hno⟩;simp only[iv];by_cases hlt:i<l.length
 ·have hx:l[i]?=some l[i]:=by simp[hlt]
  have hw:=zk i;have hc:=hf l[i] (by simp);simp only[iO,D5,List.map_cons,List.map_nil,bv,rI] at hc;have hs:=za hx (za hw hok);repeat' first|(with_reducible first|refine zz ?_|refine And.intro (by omega) ?_|refine zr ?_|refine zE LZ ?_)|simp -dsimp[hs]|refine CallE.here hc ?_|refine i8 ?_ ?_<;>intro h<;>try exact h.elim|with_reducible refine And.intro ?_ ?_
  all_goals try omega
  ·exact(N4 hx (by assumption) hno).symm
  ·exact At.round ⟨i+1,by omega,λj x hj hjx=>by
    by_cases e:j=i
    ·subst e;rw[hx] at hjx;cases hjx;assumption
    ·exact hno j x (by omega) hjx⟩ (by simp;omega) (zv [0,1,7,8])
 ·have hs:=trivial;repeat' first|(with_reducible first|refine zz ?_|refine zr ?_|refine zE LZ ?_)|simp -dsimp[hs]|refine i8 ?_ ?_<;>intro h<;>try exact h.elim|with_reducible refine And.intro ?_ ?_
  all_goals try omega
  exact(T5 λj x hjx=>hno j x (by have:=e7 hjx;omega) hjx).symm
theorem jK (l:List Dim) (p:Dim->Bool) (k:Nat) (caps:List DC) (objs:List DObj) (hok:E2 prog k) (hf:∀ x∈l,DCall prog G k (iO x :: caps.map .one) objs (λd o=>d=bv (p x)/\o=objs)) (hl:l.length<1000000):DCall prog G 319 [.one (.im (.sl (l.map D5))),.one (.fn (.func k) caps)] objs (λd o=>d=bv (l.any p)/\o=objs):=by
 refine g9 func319 rfl ntmps319 (by simp) rfl ?_;have hc:=nn l p k caps objs hok hf hl;repeat' first|(with_reducible first|refine zz ?_|refine zx ?_|refine zE [0,1,4] ?_)|simp -dsimp|refine CallE.here hc ?_|with_reducible refine And.intro ?_ ?_
 simp[B6]
theorem yh (l:List Itm) (hl:l.length<1000000) (objs:List DObj):DCall prog G 126 [.one (.im (.sl (l.map A2)))] objs (λd objs'=>d=.one (.im (.sl (l.map A2)))/\objs'=objs):=by
 refine DCall.frame ?_ (by simp) (by simp) objs;refine g9 func126 rfl ntmps126 (by simp) rfl ?_;repeat' first|(with_reducible first|refine zz ?_|refine And.intro (by omega) ?_|refine zx ?_|refine zE [0,2,4] ?_)|simp -dsimp|refine i8 ?_ ?_<;>intro h<;>try exact h.elim|with_reducible refine W0 (λh=>?_);(try simp only[List.map_eq_nil_iff] at h);(try subst h);try simp -dsimp|with_reducible refine And.intro ?_ ?_
 all_goals omega
theorem yi (l:List Dim) (hl:l.length<1000000) (objs:List DObj):DCall prog G 127 [.one (.im (.sl (l.map D5)))] objs (λd objs'=>d=.one (.im (.sl (l.map D5)))/\objs'=objs):=by
 refine DCall.frame ?_ (by simp) (by simp) objs;refine g9 func127 rfl ntmps127 (by simp) rfl ?_;repeat' first|(with_reducible first|refine zz ?_|refine And.intro (by omega) ?_|refine zx ?_|refine zE [0,2,4] ?_)|simp -dsimp|refine i8 ?_ ?_<;>intro h<;>try exact h.elim|with_reducible refine W0 (λh=>?_);(try simp only[List.map_eq_nil_iff] at h);(try subst h);try simp -dsimp|with_reducible refine And.intro ?_ ?_
 all_goals omega
end Go.Proofs
namespace Go.Proofs
open Go Go.Ab Tryz
attribute [local simp] E8 setLp
variable {G:LY}
theorem Bj (x lo hi:Int):DCall prog G 211 (iv x :: [DC.ptr 0 0,DC.ptr 1 0].map .one) [.row [.im (rI lo)],.row [.im (rI hi)]] (λd o=>d=bv (decide (x<lo)||decide (hi<x))/\o=[.row [.im (rI lo)],.row [.im (rI hi)]]):=by
 refine g9 func211 rfl ntmps211 (by simp) rfl ?_;simp only[rI];have hs:=trivial;repeat' first|(with_reducible first|refine zz ?_|refine zr ?_|refine zE [0,1,2,4] ?_)|simp -dsimp[hs]|with_reducible refine j0 ?_ ?_<;>intro h<;>have h0:=h<;>(try simp only[i7] at h)<;>have h2:=h<;>(try simp at h2)<;>replace hs:=za h0 (za h (za h2 hs))|with_reducible refine And.intro ?_ ?_
 all_goals try clear hs
 all_goals simp[*]
theorem iw (lo hi:Int) (l:List Int) (hl:l.length<1000000):zP prog G 162 [iv lo,iv hi,v6 l] (bv (l.all λx=>decide (lo<=x)&&decide (x<=hi))):=by
 refine zf func162 ntmps162 ?_;try simp only[iv,iv,v6]
 have hc:=D6 (G:=G) l (λx=>decide (x<lo)||decide (hi<x)) 211 [.ptr 0 0,.ptr 1 0] [.row [.im (rI lo)],.row [.im (rI hi)]] (by simp) (λx _=>Bj x lo hi) hl;simp only[rI] at hc;repeat' first|(with_reducible first|refine zz ?_|refine zx ?_|refine zE [0,1,2,3,4,6] ?_)|simp -dsimp|refine CallE.here hc ?_
 rw[Bool.eq_iff_iff];simp;exact exists_congr λx=>and_congr_right λ_=>by omega
theorem xz (x lo hi:Int):DCall prog G 247 (iv x :: [DC.ptr 0 0,DC.ptr 1 0].map .one) [.row [.im (rI lo)],.row [.im (rI hi)]] (λd o=>d=bv (decide (x<lo)||decide (hi<x))/\o=[.row [.im (rI lo)],.row [.im (rI hi)]]):=by
 refine g9 func247 rfl ntmps247 (by simp) rfl ?_;simp only[rI];have hs:=trivial;repeat' first|(with_reducible first|refine zz ?_|refine zr ?_|refine zE [0,1,2,4] ?_)|simp -dsimp[hs]|with_reducible refine j0 ?_ ?_<;>intro h<;>have h0:=h<;>(try simp only[i7] at h)<;>have h2:=h<;>(try simp at h2)<;>replace hs:=za h0 (za h (za h2 hs))|with_reducible refine And.intro ?_ ?_
 all_goals try clear hs
 all_goals simp[*]
theorem aI (lo hi:Int) (l:List Int) (hl:l.length<1000000):zP prog G 194 [iv lo,iv hi,v6 l] (bv (l.all λx=>decide (lo<=x)&&decide (x<=hi))):=by
 refine zf func194 ntmps194 ?_;try simp only[iv,iv,v6]
 have hc:=D6 (G:=G) l (λx=>decide (x<lo)||decide (hi<x)) 247 [.ptr 0 0,.ptr 1 0] [.row [.im (rI lo)],.row [.im (rI hi)]] (by simp) (λx _=>xz x lo hi) hl;simp only[rI] at hc;repeat' first|(with_reducible first|refine zz ?_|refine zx ?_|refine zE [0,1,2,3,4,6] ?_)|simp -dsimp|refine CallE.here hc ?_
 rw[Bool.eq_iff_iff];simp;exact exists_congr λx=>and_congr_right λ_=>by omega
theorem Bi (x lo hi:Int):DCall prog G 324 (iv x :: [DC.ptr 0 0,DC.ptr 1 0].map .one) [.row [.im (rI lo)],.row [.im (rI hi)]] (λd o=>d=bv (decide (x<lo)||decide (hi<x))/\o=[.row [.im (rI lo)],.row [.im (rI hi)]]):=by
 refine g9 func324 rfl ntmps324 (by simp) rfl ?_;simp only[rI];have hs:=trivial;repeat' first|(with_reducible first|refine zz ?_|refine zr ?_|refine zE [0,1,2,4] ?_)|simp -dsimp[hs]|with_reducible refine j0 ?_ ?_<;>intro h<;>have h0:=h<;>(try simp only[i7] at h)<;>have h2:=h<;>(try simp at h2)<;>replace hs:=za h0 (za h (za h2 hs))|with_reducible refine And.intro ?_ ?_
 all_goals try clear hs
 all_goals simp[*]
theorem En (lo hi:Int) (l:List Int) (hl:l.length<1000000):zP prog G 323 [iv lo,iv hi,v6 l] (bv (l.all λx=>decide (lo<=x)&&decide (x<=hi))):=by
 refine zf func323 ntmps323 ?_;try simp only[iv,iv,v6]
 have hc:=D6 (G:=G) l (λx=>decide (x<lo)||decide (hi<x)) 324 [.ptr 0 0,.ptr 1 0] [.row [.im (rI lo)],.row [.im (rI hi)]] (by simp) (λx _=>Bi x lo hi) hl;simp only[rI] at hc;repeat' first|(with_reducible first|refine zz ?_|refine zx ?_|refine zE [0,1,2,3,4,6] ?_)|simp -dsimp|refine CallE.here hc ?_
 rw[Bool.eq_iff_iff];simp;exact exists_congr λx=>and_congr_right λ_=>by omega
def J9 (d:Dim):Bool:=decide (0<=d.nominal)&&decide (d.nominal<=1000000000)&&(decide (0<=d.lower)&&decide (d.lower<=1000000000))&&(decide (0<=d.upper)&&decide (d.upper<=1000000000))&&decide (d.lower<=d.upper)
theorem qI (d:Dim):zP prog G 321 [iO d] (iv (if J9 d then 0 else 10)):=by
 refine zf func321 ntmps321 ?_;try simp only[iO]
 have hc:=En (G:=G) 0 1000000000 [d.nominal,d.lower,d.upper] (by simp);have hs:=trivial;repeat' first|(with_reducible first|refine zz ?_|refine zr ?_|refine zE [0,1,2,18] ?_)|simp -dsimp[hs]|refine zt hc ?_ ?_ ?_;(focus simp;done);focus (simp;done)|refine i8 ?_ ?_<;>intro h<;>try exact h.elim|with_reducible refine j0 ?_ ?_<;>intro h<;>have h0:=h<;>(try simp only[i7] at h)<;>have h2:=h<;>(try simp at h2)<;>replace hs:=za h0 (za h (za h2 hs))
 all_goals try clear hs
 all_goals simp_all [J9]
 all_goals omega
def Gi (x:Issue):DV:=E0 x.drawing x.letter
attribute [simp] Gi
theorem qL (x:Issue):zP prog G 200 [N3 x] (Gi x):=by
 refine zf func200 ntmps200 ?_;try simp only[N3]
 repeat' first|(with_reducible first|refine zz ?_|refine zx ?_|refine zE [0,1,2] ?_)|simp -dsimp
theorem BO (x:Issue) (hi:x.items.length<=16) (hd:x.dims.length<=8):zP prog G 153 [N3 x] (N3 x):=by
 refine zf func153 ntmps153 ?_;try simp only[N3]
 have h1:=yh (G:=G) x.items (by omega);have h2:=yi (G:=G) x.dims (by omega);repeat' first|(with_reducible first|refine zz ?_|refine zx ?_)|simp -dsimp|refine zq h1 ?_|refine zq h2 ?_|refine zM 1 12 7 [0,1,2] ?_|with_reducible refine zE [0,1,2] ?_
def BR (x:Issue):Bool:=(decide (1<=x.drawing)&&decide (x.drawing<=9999))&&(decide (1<=x.letter)&&decide (x.letter<=8))
theorem JP (x:Issue):zP prog G 315 [N3 x] (bv (BR x)):=by
 refine zf func315 ntmps315 ?_;try simp only[N3]
 have c1:=aI (G:=G) 1 9999 [x.drawing] (by simp);have c2:=aI (G:=G) 1 8 [x.letter] (by simp);have hs:=trivial;repeat' first|(with_reducible first|refine zz ?_|refine zr ?_|refine zE [0,1,2] ?_)|simp -dsimp[hs]|refine zt c1 ?_ ?_ ?_;(focus simp;done);focus (simp;done)|refine zt c2 ?_ ?_ ?_;(focus simp;done);focus (simp;done)|with_reducible refine j0 ?_ ?_<;>intro h<;>have h0:=h<;>(try simp only[i7] at h)<;>have h2:=h<;>(try simp at h2)<;>replace hs:=za h0 (za h (za h2 hs))
 all_goals try clear hs
 all_goals simp_all [BR]
 all_goals omega
def CT (x:Issue):Bool:=if x.kind=1 then (decide (1<=x.items.length)&&decide (x.items.length<=8))&&decide (x.dims.length=0) else (decide (2<=x.kind)&&decide (x.kind<=3))&&decide (x.dims.length<=4)&&decide (x.items.length=0)
theorem JO (x:Issue) (hk:0<=x.kind/\x.kind<=255):zP prog G 316 [N3 x] (bv (CT x)):=by
 refine zf func316 ntmps316 ?_;try simp only[N3]
 have c1:=aI (G:=G) 1 8 [(x.items.length:Int)] (by simp);have c2:=aI (G:=G) 2 3 [x.kind] (by simp);have hw:IntKind.i64.wrap x.kind=x.kind:=o7 (by omega) (by omega);have hs:=hw;repeat' first|(with_reducible first|refine zz ?_|refine zr ?_|refine zE [0,1,2,5] ?_)|simp -dsimp[hs]|refine zt c1 ?_ ?_ ?_;(focus simp;done);focus (simp;done)|refine zt c2 ?_ ?_ ?_;(focus simp;done);focus (simp;done)|refine i8 ?_ ?_<;>intro h<;>try exact h.elim|with_reducible refine j0 ?_ ?_<;>intro h<;>have h0:=h<;>(try simp only[i7] at h)<;>have h2:=h<;>(try simp at h2)<;>replace hs:=za h0 (za h (za h2 hs))
 all_goals try clear hs
 all_goals simp_all [CT]
 all_goals omega
theorem HB (d:Dim):zP prog G 320 [iO d] (bv (!J9 d)):=by
 refine zf func320 ntmps320 ?_;try simp only[iO]
 have h1:=qI (G:=G) d;cases hd:J9 d<;>simp only[hd] at h1
 ·repeat' first|(with_reducible first|refine zz ?_|refine zx ?_|refine zE [0,1,2] ?_)|simp -dsimp|refine zp h1 ?_
 ·repeat' first|(with_reducible first|refine zz ?_|refine zx ?_|refine zE [0,1,2] ?_)|simp -dsimp|refine zp h1 ?_
theorem JM (x:Issue) (hl:x.dims.length<1000000):zP prog G 318 [N3 x] (bv (x.dims.all J9)):=by
 refine zf func318 ntmps318 ?_;try simp only[N3]
 have c1:=λobjs=>DCall.fnArg2 (cs:=[]) (jK (G:=G) x.dims (λd=>!J9 d) 320 [] objs (by simp) (λd _=>HB d objs) hl);repeat' first|(with_reducible first|refine zz ?_|refine zx ?_|refine zE [0,1,2] ?_)|simp -dsimp|refine zp c1 ?_
 rw[Bool.eq_iff_iff];simp
end Go.Proofs
namespace Go.Proofs
open Go Go.Ab Tryz
attribute [local simp] E8 setLp
variable {G:LY}
theorem iu (x:Int):zP prog G 215 [iv x] (bv false):=by
 refine zf func215 ntmps215 ?_;try simp only[iv]
 repeat' first|(with_reducible first|refine zz ?_|refine zx ?_|refine zE [0,2] ?_)|simp -dsimp
theorem rF (x:Int):zP prog G 166 [iv x] (bv false):=by
 refine zf func166 ntmps166 ?_;try simp only[iv]
 repeat' first|(with_reducible first|refine zz ?_|refine zx ?_|refine zE [0,2] ?_)|simp -dsimp
theorem GQ (x y:Int):zP prog G 165 [iv x,iv y] (bv (decide (x<y))):=by
 refine zf func165 ntmps165 ?_;try simp only[iv,iv]
 have c1:=iu (G:=G) x;have c2:=iu (G:=G) y;repeat' first|(with_reducible first|refine zz ?_|refine zx ?_|refine zE [0,1,4] ?_)|simp -dsimp|refine zp c1 ?_
 all_goals simp_all
def fr (x y:Int):Int:=if x<y then -1 else if y<x then 1 else 0
theorem jL (x y:Int):zP prog G 252 [iv x,iv y] (iv (fr x y)):=by
 refine zf func252 ntmps252 ?_;try simp only[iv,iv]
 have c1:=iu (G:=G) x;have c2:=iu (G:=G) y;repeat' first|(with_reducible first|refine zz ?_|refine zx ?_|refine zE [0,1,4,5,6,11,12,13,16,19] ?_)|simp -dsimp|refine zp c1 ?_|refine zp c2 ?_|refine i8 ?_ ?_<;>intro h<;>try exact h.elim
 all_goals simp_all [fr]
 all_goals omega
theorem mC (x:Issue) (n:Int):zP prog G 251 [N3 x,iv n] (iv (fr x.drawing n)):=by
 refine zf func251 ntmps251 ?_;try simp only[N3,iv]
 have c1:=jL (G:=G) x.drawing n;repeat' first|(with_reducible first|refine zz ?_|refine zx ?_|refine zE [0,1,2,4] ?_)|simp -dsimp|refine zp c1 ?_
end Go.Proofs
namespace Go.Proofs
open Go Go.Ab Tryz
attribute [local simp] E8 setLp
variable {G:LY}
def G0 (d:Int):Int->List Itm->Bool
 | _,[]=>true
 | prev,y :: r=>(decide (1<=y.drawing)&&decide (y.drawing<=9999))&&(decide (1<=y.count)&&decide (y.count<=20)) && !decide (y.drawing=d)&&decide (prev<y.drawing)&&G0 d y.drawing r
def pv (l:List Itm):Nat->Int
 | 0=>0
 | k+1=>((l[k]?).map (·.drawing)).getD 0
@[simp] abbrev QK:List Nat:=[0,1,2,3,4,6,7,8,9,47]
theorem JN (x:Issue) (hl:x.items.length<1000000):zP prog G 317 [N3 x] (bv (G0 x.drawing 0 x.items)):=by
 refine zf func317 ntmps317 ?_;try simp only[N3]
 have hs:=trivial;repeat' first|(with_reducible first|refine zz ?_|refine zE QK ?_)|simp -dsimp[hs]
 refine i6 (ι:={ k:Nat // k<=x.items.length/\G0 x.drawing 0 x.items=G0 x.drawing (pv x.items k) (x.items.drop k) }) (λp=>⟨49,[(1,.one (.ptr 0 0)),(6,.one (.im (.sl (x.items.map A2)))),(7,iv (x.items.length:Int)),(8,iv (p.1:Int))],[.row ((e9 x).map .im)]⟩) (λp=>x.items.length-p.1) ⟨0,by simp[pv]⟩ (zv [1,6,7,8]) ?_;rintro⟨k,hk,hno⟩;simp only[iv,e9,rI,List.map_cons,List.map_nil];by_cases hlt:k<x.items.length
 ·have hx:x.items[k]?=some x.items[k]:=by simp[hlt]
  have hw:=zk k;have hw2:IntKind.i64.wrap ((k:Int)-1)=(k:Int)-1:=o7 (by omega) (by omega);have c1:=aI (G:=G) 1 9999 [x.items[k].drawing] (by simp);have c2:=aI (G:=G) 1 20 [x.items[k].count] (by simp);have hcons:G0 x.drawing 0 x.items=((decide (1<=x.items[k].drawing)&&decide (x.items[k].drawing<=9999))&&(decide (1<=x.items[k].count)&&decide (x.items[k].count<=20)) && !decide (x.items[k].drawing=x.drawing)&&decide (pv x.items k<x.items[k].drawing)&&G0 x.drawing x.items[k].drawing (x.items.drop (k+1))):=by
   rw[hno,List.drop_eq_getElem_cons hlt,G0]
  have hpv1:pv x.items (k+1)=x.items[k].drawing:=by simp[pv,hx]
  by_cases hk0:0<k
  ·have hkx:x.items[k-1]?=some x.items[k-1]:=by simp
   have hcast:(k:Int)-1=((k-1:Nat):Int):=by omega
   have hw3:IntKind.i64.wrap ((k:Int)-1)=((k-1:Nat):Int):=by rw[hw2,hcast]
   have hpv0:pv x.items k=x.items[k-1].drawing:=by
    obtain⟨j,rfl⟩:∃ j,k=j+1:=⟨k-1,by omega⟩
    have:x.items[j]?=some x.items[j]:=by simp
    simp[pv,this]
   rw[hpv0] at hcons;have hs:=za hx (za hw (za hw3 (za hkx hk0)));repeat' first|(with_reducible first|refine zz ?_|refine zr ?_)|simp -dsimp[hs]|refine zq c1 ?_|refine zq c2 ?_|refine zM 4 49 35 QK ?_|with_reducible refine zE QK ?_|refine i8 ?_ ?_<;>intro h<;>try exact h.elim|with_reducible refine j0 ?_ ?_<;>intro h<;>have h0:=h<;>(try simp only[i7] at h)<;>have h2:=h<;>(try simp at h2)<;>replace hs:=za h0 (za h (za h2 hs))
   all_goals try clear hs
   all_goals try omega
   all_goals first
    | (refine zn ⟨k+1,by omega,by clear hno;rw[hcons,hpv1];clear hcons;simp_all;try omega⟩ (zw [1,6,7,8] 1))
    | (clear hno;rw[hcons];clear hcons;simp_all;try omega)
  ·have hpv0:pv x.items k=0:=by
    obtain rfl:k=0:=by omega
    rfl
   rw[hpv0] at hcons;have hs:=za hx (za hw hk0);repeat' first|(with_reducible first|refine zz ?_|refine zr ?_)|simp -dsimp[hs]|refine zq c1 ?_|refine zq c2 ?_|refine zM 4 49 35 QK ?_|with_reducible refine zE QK ?_|refine i8 ?_ ?_<;>intro h<;>try exact h.elim|with_reducible refine j0 ?_ ?_<;>intro h<;>have h0:=h<;>(try simp only[i7] at h)<;>have h2:=h<;>(try simp at h2)<;>replace hs:=za h0 (za h (za h2 hs))
   all_goals try clear hs
   all_goals try omega
   all_goals first
    | (refine zn ⟨k+1,by omega,by clear hno;rw[hcons,hpv1];clear hcons;simp_all;try omega⟩ (zw [1,6,7,8] 1))
    | (clear hno;rw[hcons];clear hcons;simp_all;try omega)
 ·have hs:=trivial;repeat' first|(with_reducible first|refine zz ?_|refine zr ?_|refine zE QK ?_)|simp -dsimp[hs]|refine i8 ?_ ?_<;>intro h<;>try exact h.elim
  all_goals try omega
  rw[hno,List.drop_eq_nil_of_le (by omega)];rfl
end Go.Proofs
namespace Go.Proofs
open Go Go.Ab Tryz
attribute [local simp] E8 setLp
variable {G:LY}
def lb (l:List Int) (x:Int):Nat:=(l.filter λy=>decide (y<x)).length
theorem rv (l:List Int) (x:Int):lb l x<=l.length:=List.length_filter_le _ _
theorem cM:∀ {l:List Int} {x:Int},l.Pairwise (·<=·)->∀ (i:Nat) (y:Int),l[i]?=some y->(y<x↔i<lb l x)
 | [],x,_,i,y,h=>by simp at h
 | a :: l,x,hs,i,y,h=>by
   simp only[List.pairwise_cons] at hs;by_cases ha:a<x
   ·have e:lb (a :: l) x=lb l x+1:=by simp[lb,ha]
    rw[e];cases i with
    | zero=>simp at h;subst h;simp[ha]
    | succ i =>
      have:=cM (x:=x) hs.2 i y (by simpa using h);omega
   ·have hall:∀ z∈l,¬ z<x:=λz hz=>by have:=hs.1 z hz;omega
    have e:lb (a :: l) x=0:=by
     have hf:l.filter (λy=>decide (y<x))=[]:=by
      rw[List.filter_eq_nil_iff];intro z hz;simpa using hall z hz
     simp[lb,ha,hf]
    rw[e];cases i with
    | zero=>simp at h;subst h;simp[ha]
    | succ i =>
      have:=hall y (List.mem_of_getElem? (by simpa using h));omega
theorem tM {l:List Int} {x:Int} (hs:l.Pairwise (·<=·)):x∈l↔l[lb l x]?=some x:=by
 constructor
 ·intro h;obtain⟨i,hi⟩:=List.mem_iff_getElem?.1 h;have h1:=cM (x:=x) hs i x hi;have h2:lb l x<=i:=by omega
  have hlt:=e7 hi;have h3:l[lb l x]?=some l[lb l x]:=by simp
  have h4:=cM (x:=x) hs _ _ h3;have h5:l[lb l x]<=x:=by
   by_cases e:lb l x=i
   ·have:l[lb l x]?=some x:=by rw[e];exact hi
    rw[h3] at this;simp at this;omega
   ·have:=(List.pairwise_iff_getElem.1 hs) (lb l x) i (by omega) hlt (by omega);have h6:=(List.getElem?_eq_some_iff.1 hi).2;omega
  rw[h3]
  congr 1
  omega
 ·exact λh=>List.mem_of_getElem? h
theorem wQ:(2:Int) ^ min 1 IntKind.u64.bits=2:=rfl
attribute [simp] wQ
theorem Ih {n:Int} (h1:0<=n) (h2:n<=18446744073709551615):IntKind.u64.wrap n=n:=IntWalk.u64_in n ⟨h1,h2⟩
@[simp] abbrev QW:List Nat:=[0,1,4,5,6,7,8,9,15,27]
theorem oN (l:List Int) (x:Int) (hs:l.Pairwise (·<=·)) (hl:l.length<1000000):zP prog G 105 [v6 l,iv x] (.tup [iv (lb l x),bv (decide (x∈l))]):=by
 refine zf func105 ntmps105 ?_;try simp only[v6,iv]
 have hlb:=rv l x;have hs:=trivial;repeat' first|(with_reducible first|refine zz ?_|refine zE QW ?_)|simp -dsimp[hs]
 all_goals try clear hs
 refine i6 (ι:={ p:Nat×Nat // p.1<=lb l x/\lb l x<=p.2/\p.2<=l.length }) (λp=>⟨54,[(0,v6 l),(1,iv x),(6,iv (l.length:Int)),(7,iv (p.1.1:Int)),(8,iv (p.1.2:Int))],[]⟩) (λp=>p.1.2-p.1.1) ⟨(0,l.length),by simp;omega⟩ (zv [0,1,6,7,8]) ?_;rintro⟨⟨i,j⟩,h1,h2,h3⟩;simp only at h1 h2 h3;simp only[iv,v6];have hw1:IntKind.i64.wrap ((i:Int)+(j:Int))=(i:Int)+(j:Int):=o7 (by omega) (by omega);have hw2:IntKind.u64.wrap ((i:Int)+(j:Int))=(i:Int)+(j:Int):=Ih (by omega) (by omega);have hd:((i:Int)+(j:Int)).fdiv 2=(((i+j) / 2:Nat):Int):=by
  rw[Int.fdiv_eq_ediv_of_nonneg _ (by omega)];omega
 have hw3:IntKind.i64.wrap ((((i+j) / 2:Nat):Int))=(((i+j) / 2:Nat):Int):=o7 (by omega) (by omega);have hw4:IntKind.i64.wrap ((((i+j) / 2:Nat):Int)+1)=(((i+j) / 2+1:Nat):Int):=o7 (by omega) (by omega);by_cases hlt:i<j
 ·generalize hm:(i+j) / 2=m at hd hw3 hw4;have hx:l[m]?=some l[m]:=by simp
  have hsp:=cM (x:=x) hs m l[m] hx;have c1:=GQ (G:=G) l[m] x;by_cases hc:l[m]<x
  ·simp only[hc,decide_true] at c1;have hs:=za hx (za hw1 (za hw2 (za hw3 (za hw4 (za hd hm)))));repeat' first|(with_reducible first|refine zz ?_|refine zr ?_|refine zE QW ?_)|simp -dsimp[hs]|refine zp c1 ?_|refine i8 ?_ ?_<;>intro h<;>try exact h.elim|with_reducible refine j0 ?_ ?_<;>intro h<;>have h0:=h<;>(try simp only[i7] at h)<;>have h2:=h<;>(try simp at h2)<;>replace hs:=za h0 (za h (za h2 hs))
   all_goals try clear hs
   all_goals try omega
   exact zn ⟨(m+1,j),by simp;omega⟩ (zv [0,1,6,7,8])
  ·simp only[hc,decide_false] at c1;have hs:=za hx (za hw1 (za hw2 (za hw3 (za hw4 (za hd hm)))));repeat' first|(with_reducible first|refine zz ?_|refine zr ?_|refine zE QW ?_)|simp -dsimp[hs]|refine zp c1 ?_|refine i8 ?_ ?_<;>intro h<;>try exact h.elim|with_reducible refine j0 ?_ ?_<;>intro h<;>have h0:=h<;>(try simp only[i7] at h)<;>have h2:=h<;>(try simp at h2)<;>replace hs:=za h0 (za h (za h2 hs))
   all_goals try clear hs
   all_goals try omega
   exact zn ⟨(i,m),by simp;omega⟩ (zv [0,1,6,7,8])
 ·have hi:i=lb l x:=by omega
  subst hi;have c2:=rF (G:=G) x;have hmem:=tM (x:=x) hs;by_cases hn:lb l x<l.length
  ·have hx:l[lb l x]?=some l[lb l x]:=by simp[hn]
   have c1:=rF (G:=G) l[lb l x];rw[hx] at hmem;have hs:=za hx (za hlt hn);repeat' first|(with_reducible first|refine zz ?_|refine zr ?_|refine zE QW ?_)|simp -dsimp[hs]|refine zp c1 ?_|refine i8 ?_ ?_<;>intro h<;>try exact h.elim|with_reducible refine j0 ?_ ?_<;>intro h<;>have h0:=h<;>(try simp only[i7] at h)<;>have h2:=h<;>(try simp at h2)<;>replace hs:=za h0 (za h (za h2 hs))
   all_goals try clear hs
   all_goals try omega
   all_goals simp_all
  ·rw[List.getElem?_eq_none (by omega)] at hmem;have hs:=za hlt hn;repeat' first|(with_reducible first|refine zz ?_|refine zr ?_|refine zE QW ?_)|simp -dsimp[hs]|refine i8 ?_ ?_<;>intro h<;>try exact h.elim
   all_goals try clear hs
   all_goals try omega
   all_goals simp_all
end Go.Proofs
namespace Go.Proofs
open Go Go.Ab Tryz
attribute [local simp] E8 setLp
variable {G:LY}
@[simp] abbrev QX:List Nat:=[0,1,2,6,7,8,9,10,11,17,31]
theorem gt (l:List Issue) (x:Int) (hs:(l.map (·.drawing)).Pairwise (·<=·)) (hl:l.length<1000000):zP prog G 250 [.one (.im (.sl (l.map e9))),iv x,.one (.im (.fn (.func 251) []))] (.tup [iv (lb (l.map (·.drawing)) x),bv (decide (x∈l.map (·.drawing)))]):=by
 refine zf func250 ntmps250 ?_;try simp only[iv]
 have hlb:=rv (l.map (·.drawing)) x;simp only[List.length_map] at hlb;have hs:=trivial;repeat' first|(with_reducible first|refine zz ?_|refine zE QX ?_)|simp -dsimp[hs]
 all_goals try clear hs
 refine i6 (ι:={ p:Nat×Nat // p.1<=lb (l.map (·.drawing)) x/\lb (l.map (·.drawing)) x<=p.2/\p.2<=l.length }) (λp=>⟨49,[(0,.one (.im (.sl (l.map e9)))),(1,iv x),(2,.one (.im (.fn (.func 251) []))),(8,iv (l.length:Int)),(9,iv (p.1.1:Int)),(10,iv (p.1.2:Int))],[]⟩) (λp=>p.1.2-p.1.1) ⟨(0,l.length),by simp;omega⟩ (zv [0,1,2,8,9,10]) ?_;rintro⟨⟨i,j⟩,h1,h2,h3⟩;simp only at h1 h2 h3;simp only[iv,v6];have hw1:IntKind.i64.wrap ((i:Int)+(j:Int))=(i:Int)+(j:Int):=o7 (by omega) (by omega);have hw2:IntKind.u64.wrap ((i:Int)+(j:Int))=(i:Int)+(j:Int):=Ih (by omega) (by omega);have hd:((i:Int)+(j:Int)).fdiv 2=(((i+j) / 2:Nat):Int):=by
  rw[Int.fdiv_eq_ediv_of_nonneg _ (by omega)];omega
 have hw3:IntKind.i64.wrap ((((i+j) / 2:Nat):Int))=(((i+j) / 2:Nat):Int):=o7 (by omega) (by omega);have hw4:IntKind.i64.wrap ((((i+j) / 2:Nat):Int)+1)=(((i+j) / 2+1:Nat):Int):=o7 (by omega) (by omega);by_cases hlt:i<j
 ·generalize hm:(i+j) / 2=m at hd hw3 hw4;have hx:l[m]?=some l[m]:=by simp
  have hsp:=cM (x:=x) hs m l[m].drawing (by simp[hx]);have c1:=mC (G:=G) l[m] x;by_cases hc:l[m].drawing<x
  ·have hcm:fr l[m].drawing x=-1:=by simp[fr,hc]
   rw[hcm] at c1;have hs:=za hx (za hw1 (za hw2 (za hw3 (za hw4 (za hd hm)))));repeat' first|(with_reducible first|refine zz ?_|refine zr ?_|refine zE QX ?_)|simp -dsimp[hs]|refine zp c1 ?_|refine i8 ?_ ?_<;>intro h<;>try exact h.elim|with_reducible refine j0 ?_ ?_<;>intro h<;>have h0:=h<;>(try simp only[i7] at h)<;>have h2:=h<;>(try simp at h2)<;>replace hs:=za h0 (za h (za h2 hs))
   all_goals try clear hs
   all_goals try omega
   exact zn ⟨(m+1,j),by simp;omega⟩ (zv [0,1,2,8,9,10])
  ·have hcm:¬ fr l[m].drawing x<0:=by simp only[fr,hc,if_false];split<;>omega
   generalize fr l[m].drawing x=q at c1 hcm;have hs:=za hx (za hw1 (za hw2 (za hw3 (za hw4 (za hd hm)))));repeat' first|(with_reducible first|refine zz ?_|refine zr ?_|refine zE QX ?_)|simp -dsimp[hs]|refine zp c1 ?_|refine i8 ?_ ?_<;>intro h<;>try exact h.elim|with_reducible refine j0 ?_ ?_<;>intro h<;>have h0:=h<;>(try simp only[i7] at h)<;>have h2:=h<;>(try simp at h2)<;>replace hs:=za h0 (za h (za h2 hs))
   all_goals try clear hs
   all_goals try omega
   exact zn ⟨(i,m),by simp;omega⟩ (zv [0,1,2,8,9,10])
 ·have hi:i=lb (l.map (·.drawing)) x:=by omega
  subst hi;have hmem:=tM (x:=x) hs;by_cases hn:lb (l.map (·.drawing)) x<l.length
  ·have hx:l[lb (l.map (·.drawing)) x]?=some l[lb (l.map (·.drawing)) x]:=by simp[hn]
   have c1:=mC (G:=G) l[lb (l.map (·.drawing)) x] x;have hq:decide (fr l[lb (l.map (·.drawing)) x].drawing x=0)=decide (x∈l.map (·.drawing)):=by
    rw[decide_eq_decide,hmem,List.getElem?_map,hx];simp only[fr,Option.map_some,Option.some.injEq];split<;>(try split)<;>omega
   generalize fr l[lb (l.map (·.drawing)) x].drawing x=q at c1 hq;have hs:=za hx (za hlt hn);repeat' first|(with_reducible first|refine zz ?_|refine zr ?_|refine zE QX ?_)|simp -dsimp[hs]|refine zp c1 ?_|refine i8 ?_ ?_<;>intro h<;>try exact h.elim
   all_goals try clear hs
   all_goals try omega
   all_goals simp_all
  ·rw[List.getElem?_eq_none (by simp;omega)] at hmem;have hs:=za hlt hn;repeat' first|(with_reducible first|refine zz ?_|refine zr ?_|refine zE QX ?_)|simp -dsimp[hs]|refine i8 ?_ ?_<;>intro h<;>try exact h.elim
   all_goals try clear hs
   all_goals try omega
   all_goals simp_all
def A4 (l:List Issue) (ds:List Int):IC:=.ip [.sl (l.map e9),.sl (ds.map encI)]
theorem Bp (l:List Issue) (ds:List Int) (n:Int) (hs:ds.Pairwise (·<=·)) (hl:ds.length<1000000):zP prog G 197 [.one (.im (A4 l ds)),iv n] (bv (decide (n∈ds))):=by
 refine zf func197 ntmps197 ?_;try simp only[iv]
 have c1:=oN (G:=G) ds n hs hl;simp only[A4];have hs:=trivial;repeat' first|(with_reducible first|refine zz ?_|refine zr ?_|refine zE [0,1,4,6] ?_)|simp -dsimp[hs]|refine zp c1 ?_
 all_goals try clear hs
theorem me (b:IC) (n:Int):zP prog G 199 [.one (.im b),iv n] (.one (.im (.fn (.func 249) [.ip [b],.ip [rI n]]))):=by
 refine zf func199 ntmps199 ?_;try simp only[iv]
 repeat' first|(with_reducible first|refine zz ?_|refine zx ?_|refine zE [0,1,2,3,4] ?_)|simp -dsimp
end Go.Proofs
namespace Go.Ab
open Go
@[simp] theorem FL {α:Type} (objs:List DObj) (l:List α) (f:α->List IC) (k sz:Nat) (h:k<=l.length) (hf:∀ x,(f x).length=sz) :
 E8 objs (.im (.sl (l.map f))) (k:Int) none sz=some (.im (.sl ((l.drop k).map f))):=by
 simp only[E8,Option.getD_none,List.length_map,Int.toNat_natCast,Int.natCast_eq_zero];rw[if_pos (by omega)];split
 ·rename_i hk;subst hk;simp[List.take_of_length_le]
 ·by_cases hk:k<l.length
  ·simp[hk,hf,List.take_of_length_le,List.map_drop]
  ·have he:k=l.length:=by omega
   subst he;simp
@[simp] theorem FK {α:Type} (objs:List DObj) (l:List α) (f:α->List IC) (k sz:Nat) (h:k<=l.length) :
 E8 objs (.im (.sl (l.map f))) 0 (some (k:Int)) sz=some (.im (.sl ((l.take k).map f))):=by
 simp only[E8,Option.getD_some,List.length_map,Int.toNat_natCast];rw[if_pos (by omega),if_pos trivial,List.map_take]
theorem uo (objs:List DObj) (o g off len:Nat) (lo:Int) (hi:Option Int) (sz:Nat):E8 objs (.vec o g off len) lo hi sz=if 0<=lo/\lo<=hi.getD len/\hi.getD len<=len then match objs[o]? with
 | some (.vec z _ g' _)=>if g=g'/\(z=sz\/len=0) then some (.vec o g (off+lo.toNat) ((hi.getD len).toNat-lo.toNat)) else none
 | _=>none
 else none:=rfl
attribute [simp] uo
def LoopD.at (r:LoopD) (st:LoopState) (pend:Option Code):LoopD:={ r with st:=st,pend:=pend }
theorem LoopD.at_st (r:LoopD) (st:LoopState) (pend:Option Code):(r.at st pend).st=st:=rfl
theorem LoopD.at_pend (r:LoopD) (st:LoopState) (pend:Option Code):(r.at st pend).pend=pend:=rfl
theorem LoopD.at_nt (r:LoopD) (st:LoopState) (pend:Option Code):(r.at st pend).nt=r.nt:=rfl
theorem LoopD.at_tm (r:LoopD) (st:LoopState) (pend:Option Code):(r.at st pend).tm=r.tm:=rfl
theorem LoopD.at_ps (r:LoopD) (st:LoopState) (pend:Option Code):(r.at st pend).ps=r.ps:=rfl
theorem LoopD.at_asg (r:LoopD) (st:LoopState) (pend:Option Code):(r.at st pend).asg=r.asg:=rfl
theorem LoopD.at_body (r:LoopD) (st:LoopState) (pend:Option Code):(r.at st pend).body=r.body:=rfl
theorem LoopD.at_at (r:LoopD) (st st':LoopState) (pend pend':Option Code):(r.at st pend).at st' pend'=r.at st' pend':=rfl
attribute [simp] LoopD.at_st LoopD.at_pend LoopD.at_nt LoopD.at_tm LoopD.at_ps LoopD.at_asg LoopD.at_body LoopD.at_at
theorem zL (objs:List DObj) (o:Nat) (st:LoopState) (pend:Option Code):setLp objs o st pend=match objs[o]? with
 | some (.loop r)=>objs.set o (.loop (r.at st pend))
 | _=>objs:=rfl
attribute [simp] zL
theorem R7 {P:Program} {G:LY} {o:Nat} {xs:List DV} {objs:List DObj} {C:DV->List DObj->Prop} {t:Tok C} (h:U3 P G o xs objs C objs[o]?):mQ P G o xs objs C t:=h
theorem bn {P:Program} {G:LY} {o m:Nat} {body:Code} {C:DV->List DObj->Prop} {A:DS->Prop} {Q:Exit->DS->Prop} {t:Tok (Z0 (λS'=>A S'/\HP P G o m body C S') Q)} {S:DS} (h1:A S)
 (h2:DT P G ⟨m,some o⟩ body { S with objs:=setLp S.objs o .busy none } (qk o C)):At (Z0 (λS'=>A S'/\HP P G o m body C S') Q) .normal t S:=⟨h1,h2⟩
end Go.Ab
namespace Go.Proofs
open Go Go.Ab Tryz
variable {G:LY}
theorem tn {l:List Issue} {d:Int} (hs:(l.map (·.drawing)).Pairwise (·<=·)):∀ x∈l.drop (lb (l.map (·.drawing)) d),d<=x.drawing:=by
 intro x hx;obtain⟨i,hi⟩:=List.mem_iff_getElem?.1 hx;rw[List.getElem?_drop] at hi;have:=cM (x:=d) hs _ x.drawing (by rw[List.getElem?_map,hi];rfl);omega
theorem tl {l:List Issue} {d:Int} (hs:(l.map (·.drawing)).Pairwise (·<=·)):∀ x∈l.take (lb (l.map (·.drawing)) d),x.drawing<d:=by
 intro x hx;obtain⟨i,hi⟩:=List.mem_iff_getElem?.1 hx;have hlt:i<lb (l.map (·.drawing)) d:=by
  have:=(List.getElem?_eq_some_iff.1 hi).1;simp at this;omega
 rw[List.getElem?_take_of_lt hlt] at hi;exact(cM (x:=d) hs i x.drawing (by rw[List.getElem?_map,hi];rfl)).2 hlt
theorem zR {l:List Issue} {d:Int} (lt:Int) (hs:(l.map (·.drawing)).Pairwise (·<=·)):p6 l d lt=p6 (l.drop (lb (l.map (·.drawing)) d)) d lt:=by
 conv=>lhs;rw[<- List.take_append_drop (lb (l.map (·.drawing)) d) l]
 simp only[p6,List.find?_append];rw[List.find?_eq_none.2 λx hx=>?_]
 ·rfl
 ·have:=tl hs x hx;simp;omega
@[simp] abbrev Wm:List Nat:=[0,1,2,3,4,5,6,7,10,11,15,24,25,26,27,39]
theorem wb (l:List Issue) (ds:List Int) (d lt:Int) (hs:(l.map (·.drawing)).Pairwise (·<=·)) (hl:l.length<1000000):zP prog G 152 [.one (.im (A4 l ds)),E0 d lt] (.tup [N3 ((p6 l d lt).getD K1),bv (p6 l d lt).isSome]):=by
 refine zf func152 ntmps152 ?_;try simp only[E0]
 simp only[E0,A4];have c1:=me (G:=G) (A4 l ds) d;simp only[A4] at c1;have hs:=trivial;repeat' first|(with_reducible first|refine zz ?_|refine zE [0,1,3,4,5,6,10,11,15] ?_)|simp -dsimp[hs]|refine zp c1 ?_
 all_goals try clear hs
 refine U6 (f:=249) (by simp;exact rfl) (by rfl) call249 ?_;generalize hR:LoopD.mk _ _ _ _ _ _ _=R;have hR1:R.st=.ready:=by rw[<- hR]
 have hR2:R.pend=none:=by rw[<- hR]
 have hR3:R.at .ready none=R:=by rw[<- hR];rfl
 have hR4:=(congrArg LoopD.nt hR).symm;have hR5:=(congrArg LoopD.tm hR).symm;have hR6:=(congrArg LoopD.ps hR).symm;have hR7:=(congrArg LoopD.asg hR).symm;have hR8:=(congrArg LoopD.body hR).symm;dsimp only at hR4 hR5 hR6 hR7 hR8;clear hR;refine g9 func249 rfl ntmps249 (by simp) rfl ?_;have hR9:∀ objs:List DObj,(R.tm.map λx=>(x.1,gf 6 objs x.2))=R.tm:=by intro objs;rw[hR5];simp
 have hlb:=rv (l.map (·.drawing)) d;rw[List.length_map] at hlb;have c2:=gt (G:=G) l d hs hl;have hs:=za hR1 (za hR2 (za hR3 hlb));repeat' first|with_reducible refine zz ?_|simp -dsimp[hs]|refine zq c2 ?_|refine zM 0 41 12 [0,1,2,4,7,24,25,26,27,39] ?_|with_reducible refine zE Wm ?_
 all_goals try clear hs
 rw[<- List.map_drop];have hge:=tn (d:=d) hs;have hfs:=zR (d:=d) lt hs;have hss:((l.drop (lb (l.map (·.drawing)) d)).map (·.drawing)).Pairwise (·<=·):=by rw[List.map_drop];exact hs.drop
 have hsl:l.length-lb (l.map (·.drawing)) d=(l.drop (lb (l.map (·.drawing)) d)).length:=by simp
 rw[hsl];have hsl2:(l.drop (lb (l.map (·.drawing)) d)).length<1000000:=by simp;omega
 generalize l.drop (lb (l.map (·.drawing)) d)=s at hge hfs hss hsl2 ⊢;refine i6 (ι:={ k:Nat // k<=s.length/\p6 l d lt=p6 (s.drop k) d lt }) (λp=>⟨41,[(0,.one (.yld 5)),(2,.one (.im (.ip [rI d]))),(24,.one (.im (.sl (s.map e9)))),(25,iv (s.length:Int)),(26,iv (p.1:Int))],[.row [.im (rI d),.im (rI lt)],.vec 0 [] 0 true,.vec 0 [] 0 true,.row ((rI 0 :: rI 0 :: [IC.raw (.int .u8 0)]).map .im++[.vec 1 0 0 0,.vec 2 0 0 0]),.row [.im (rB false)],.loop R]⟩) (λp=>s.length-p.1) ⟨0,by simp[hfs]⟩ (zv [0,2,24,25,26]) ?_;rintro⟨k,hk,hno⟩;simp only[iv];by_cases hlt:k<s.length
 ·have hx:s[k]?=some s[k]:=by simp[hlt]
  have hw:=zk k;have hcons:p6 l d lt=if (s[k].drawing==d&&s[k].letter==lt)=true then some s[k] else p6 (s.drop (k+1)) d lt:=by
   rw[hno,List.drop_eq_getElem_cons hlt];simp only[p6,List.find?_cons];split<;>simp_all
  by_cases hd:s[k].drawing=d
  ·have c3:=qL (G:=G) s[k];simp only[Gi,N3,e9,rI,List.map_cons,List.map_nil,hd] at c3;have hs:=za hR1 (za hR2 (za hR3 (za hx (za hw (za hd hlt)))));repeat' first|(with_reducible first|refine zz ?_|refine zr ?_ (by simp -dsimp[D4,hs];exact rfl))|simp -dsimp[D4,hs]|with_reducible refine At.yield_end ?_;simp -dsimp[hs]|with_reducible refine At.yield_ret ?_;simp -dsimp[hs]|refine bn ?_ ?_<;>simp -dsimp[hs]|refine R7 ?_;simp -dsimp[U3,hR4,hR5,hR6,hR7,hR8,hs]|with_reducible show D4 _ _ _ _ _ _ _ _;simp -dsimp[D4,hs]|refine zq c3 ?_|refine zM 3 18 4 [0,1,3,4,5,6,10,11,15] ?_|with_reducible refine zE Wm ?_|refine i8 ?_ ?_<;>intro h<;>try exact h.elim
   all_goals try clear hs
   ·have h:s[k].letter=lt:=by assumption
    have hf:p6 l d lt=some s[k]:=by rw[hcons,if_pos (by simp[hd,h])]
    simp[hf,hd]
   ·have h:¬ s[k].letter=lt:=by assumption
    have hf:p6 l d lt=p6 (s.drop (k+1)) d lt:=by rw[hcons,if_neg (by simp[hd,h])]
    exact zn ⟨k+1,by omega,hf⟩ (zw [0,2,24,25,26] 6 (by simp[hR9]))
  ·have hnone:p6 l d lt=none:=by
    rw[hno,p6,List.find?_eq_none];intro x hxm;obtain⟨i,hi⟩:=List.mem_iff_getElem?.1 hxm;rw[List.getElem?_drop] at hi;have h1:s[k].drawing<=x.drawing:=by
     rcases Nat.eq_zero_or_pos i with rfl|hp
     ·rw[Nat.add_zero,hx] at hi;cases hi;exact Int.le_refl _
     ·have hlt2:=(List.getElem?_eq_some_iff.1 hi).1;have:=(List.pairwise_iff_getElem.1 hss) k (k+i) (by simpa using hlt) (by simpa using hlt2) (by omega);have h6:=(List.getElem?_eq_some_iff.1 hi).2;simp at this;rw[h6] at this;exact this
    have h2:=hge s[k] (List.getElem_mem hlt);simp;omega
   have hs:=za hR1 (za hR2 (za hR3 (za hx (za hw (za hd hlt)))));repeat' first|(with_reducible first|refine zz ?_|refine zr ?_ (by simp -dsimp[D4,hs];exact rfl)|refine zE Wm ?_)|simp -dsimp[D4,hs]|with_reducible show D4 _ _ _ _ _ _ _ _;simp -dsimp[D4,hs]|refine i8 ?_ ?_<;>intro h<;>try exact h.elim
   all_goals try clear hs
   all_goals simp[hnone,K1]
 ·have hnone:p6 l d lt=none:=by rw[hno,List.drop_eq_nil_of_le (by omega)];rfl
  have hs:=za hR1 (za hR2 (za hR3 hlt));repeat' first|(with_reducible first|refine zz ?_|refine zr ?_ (by simp -dsimp[D4,hs];exact rfl)|refine ze ?_ (by simp -dsimp[D4,hs];exact rfl)|refine zE Wm ?_)|simp -dsimp[D4,hs]|with_reducible show D4 _ _ _ _ _ _ _ _;simp -dsimp[D4,hs]|refine i8 ?_ ?_<;>intro h<;>try exact h.elim
  all_goals try clear hs
  all_goals simp[hnone,K1]
end Go.Proofs
namespace Go.Ab
open Go
def kI (n:Int):List Value:=[.int .i64 n]
def n7 (m:List (Int×Int)) (n:Int):Int:=match m with
 | []=>0
 | p :: r=>if p.1=n then p.2 else n7 r n
def O5 (n v:Int):List (Int×Int)->List (Int×Int)
 | []=>[(n,v)]
 | p :: r=>if p.1=n then (n,v) :: r else p :: O5 n v r
def O7 (m:List (Int×Int)):List (List Value×List DC):=m.map λp=>(kI p.1,[.im (rI p.2)])
def aL (m:List (Int×Int)):List (List Value×List IC):=m.map λp=>(kI p.1,[rI p.2])
def J6 (l:List Int):List (List Value×List DC):=l.map λn=>(kI n,[.im (rB true)])
def rS (l:List Int):List (List Value×List IC):=l.map λn=>(kI n,[rB true])
def ph (n:Int) (l:List Int):List Int:=if n∈l then l else l++[n]
theorem aV (n m:Int):B0 [.int .i64 n] (kI m)=decide (m=n):=by
 simp only[kI,B0,Bool.and_true];rw[Bool.eq_iff_iff];simp[eq_comm]
@[simp] theorem Kv (m:List (Int×Int)) (n:Int):P1 [.int .i64 n] (O7 m) [.im (.raw (.int .i64 0))]=[.im (.raw (.int .i64 (n7 m n)))]:=by
 induction m with
 | nil=>rfl
 | cons p r ih =>
   have e:O7 (p :: r)=(kI p.1,[.im (rI p.2)]) :: O7 r:=rfl;rw[e];simp only[P1,T2,n7,aV,decide_eq_true_eq] at ih ⊢;split
   ·rfl
   ·exact ih
@[simp] theorem Kq (m:List (Int×Int)) (n v:Int):R8 [.int .i64 n] [.im (.raw (.int .i64 v))] (O7 m)=O7 (O5 n v m):=by
 induction m with
 | nil=>rfl
 | cons p r ih =>
   have e:O7 (p :: r)=(kI p.1,[.im (rI p.2)]) :: O7 r:=rfl;rw[e];simp only[R8,O5,aV,decide_eq_true_eq] at ih ⊢;split
   ·rfl
   ·rw[ih];rfl
@[simp] theorem Kt (l:List Int) (n:Int):P1 [.int .i64 n] (J6 l) [.im (.raw (.bool false))]=[.im (.raw (.bool (decide (n∈l))))]:=by
 induction l with
 | nil=>rfl
 | cons p r ih =>
   have e:J6 (p :: r)=(kI p,[.im (rB true)]) :: J6 r:=rfl;rw[e];simp only[P1,T2,aV,decide_eq_true_eq] at ih ⊢;split
   ·rename_i h;simp[h]
   ·rename_i h;rw[ih];have:(n∈p :: r)=(n∈r):=propext ⟨λh'=>(List.mem_cons.1 h').resolve_left λe=>h e.symm,List.mem_cons_of_mem _⟩;simp only[this]
@[simp] theorem Kp (l:List Int) (n:Int):R8 [.int .i64 n] [.im (.raw (.bool true))] (J6 l)=J6 (ph n l):=by
 have gen:∀ l:List Int,(n∈l->R8 [.int .i64 n] [.im (.raw (.bool true))] (J6 l)=J6 l)/\(n∉l->R8 [.int .i64 n] [.im (.raw (.bool true))] (J6 l)=J6 (l++[n])):=by
  intro l;induction l with
  | nil=>exact⟨λh=>by simp at h,λ_=>rfl⟩
  | cons p r ih =>
    have e:J6 (p :: r)=(kI p,[.im (rB true)]) :: J6 r:=rfl;rw[e];simp only[R8,aV,decide_eq_true_eq];constructor
    ·intro h;split
     ·rename_i hp;rw[hp];rfl
     ·rename_i hp;rw[ih.1 ((List.mem_cons.1 h).resolve_left λe=>hp e.symm)]
    ·intro h;rw[if_neg λe=>h (by simp[e]),ih.2 λe=>h (by simp[e])];rfl
 unfold ph;split
 ·exact(gen l).1 ‹_›
 ·exact(gen l).2 ‹_›
@[simp] theorem Kx (l:List Int) (n:Int):ic [.int .i64 n] (J6 l)=J6 (l.erase n):=by
 induction l with
 | nil=>rfl
 | cons p r ih =>
   have e:J6 (p :: r)=(kI p,[.im (rB true)]) :: J6 r:=rfl;rw[e];simp only[ic,aV,decide_eq_true_eq];split
   ·rename_i h;subst h;simp
   ·rename_i h;rw[ih,List.erase_cons_tail (by simpa using h)];rfl
@[simp] theorem JD (l:List Int):(J6 l).length=l.length:=by simp[J6]
@[simp] theorem JE (l:List (Int×Int)):(O7 l).length=l.length:=by simp[O7]
@[simp] theorem GY (m:List (Int×Int)):ge (aL m)=O7 m:=by simp[ge,aL,O7]
@[simp] theorem GX (l:List Int):ge (rS l)=J6 l:=by simp[ge,rS,J6]
@[simp] theorem KB (k n:Nat) (objs:List DObj) (m:List (Int×Int)):E7 (λx:List Value×List DC=>(E7 (frz (k+1) n objs) x.2).map λl=>(x.1,l)) (O7 m)=some (aL m):=by
 induction m with
 | nil=>rfl
 | cons p r ih =>
   have e:O7 (p :: r)=(kI p.1,[.im (rI p.2)]) :: O7 r:=rfl;rw[e];simp[E7,ih,aL]
@[simp] theorem Kz (k n:Nat) (objs:List DObj) (l:List Int):E7 (λx:List Value×List DC=>(E7 (frz (k+1) n objs) x.2).map λl=>(x.1,l)) (J6 l)=some (rS l):=by
 induction l with
 | nil=>rfl
 | cons p r ih =>
   have e:J6 (p :: r)=(kI p,[.im (rB true)]) :: J6 r:=rfl;rw[e];simp[E7,ih,rS]
@[simp] theorem Je (n:Nat) (objs:List DObj) (m:List (Int×Int)):((O7 m).map λx=>(x.1,x.2.map (fz n objs)))=O7 m:=by
 simp[O7,fz,DC.lt]
@[simp] theorem Jc (n:Nat) (objs:List DObj) (l:List Int):((J6 l).map λx=>(x.1,x.2.map (fz n objs)))=J6 l:=by
 simp[J6,fz,DC.lt]
end Go.Ab
