/- Part 15 of the proofs: laws and walks that hold without conditions beyond those that each theorem names. -/
import Derived.Test.YtmkbmkonpglgdaaGreatDoorP10
import Derived.Test.YtmkbmkonpglgdaaGreatDoorP12
import Derived.Test.YtmkbmkonpglgdaaGreatDoorP14
set_option linter.all false
set_option linter.deprecated false
namespace Go.Ab
open Go
structure Dim where
 nominal:Int
 lower:Int
 upper:Int
 deriving DecidableEq
structure Itm where
 drawing:Int
 count:Int
 deriving DecidableEq
structure Issue where
 drawing:Int
 letter:Int
 kind:Int
 items:List Itm
 dims:List Dim
 deriving DecidableEq
def rI (n:Int):IC:=.raw (.int .i64 n)
def rB (b:Bool):IC:=.raw (.bool b)
def encDim (d:Dim):List IC:=[rI d.nominal,rI d.lower,rI d.upper]
def encItem (x:Itm):List IC:=[rI x.drawing,rI x.count]
def encIssue (x:Issue):List IC:=[rI x.drawing,rI x.letter,.raw (.int .u8 x.kind),.sl (x.items.map encItem),.sl (x.dims.map encDim)]
def encI (n:Int):List IC:=[rI n]
def iv (n:Int):DV:=.one (.im (.raw (.int .i64 n)))
def bv (b:Bool):DV:=.one (.im (.raw (.bool b)))
def isv (l:List Int):DV:=.one (.im (.sl (l.map encI)))
def regv (l:List Issue):DV:=.agg [.im (.sl (l.map encIssue))]
attribute [simp] iv bv isv regv rI rB encDim encItem encIssue encI
attribute [simp] dclear dmakeMap ddelete dmapUpdate dlookup dlookupI dlenMap dlenMapI drange dentry dindexA keyOfV valOfV valV imE putAll
attribute [simp] RTe kindOf dstep dbuiltin evalG evals tget DS.put wantedA rawOf rawD dbin dint dshift dunop dload dstore dadd isAddr dindex dlen dappend optI DV.cells mkDV dcallee zcells dfill partsOf zic chunk splice DS.keep sel Plain dresults dresult theResult startT fzV fzVL thenQ
theorem imp_At {p:Prop} {Q:Exit→DS→Prop} {e:Exit} {t:Tok Q} {S:DS} (h:p→At Q e t S):p→At Q e t S:=h
theorem delems_im (objs:List DObj) (l:List (List IC)):delems objs (.im (.sl l))=some (ims l):=rfl
theorem delems_vec (objs:List DObj) (o g off len:Nat):delems objs (.vec o g off len)=match objs[o]? with
 | some (.vec _ es g' _)=>if g=g'∧off + len≤es.length then some ((es.drop off).take len) else none
 | _=>none:=by unfold delems;rfl
attribute [simp] delems_im delems_vec
attribute [simp] ImV.one
theorem ImV_agg (l:List DC):ImV (.agg l)↔∀ d∈l,∃ c,d=.im c:=⟨fun h=>by cases h;assumption,.agg l⟩
theorem ImV_tup (l:List DV):ImV (.tup l)↔∀ d∈l,ImV d:=⟨fun h=>by cases h;assumption,.tup l⟩
attribute [simp] ImV_agg ImV_tup
attribute [simp] dcmp dnil raws shapeOk beqs ones RQe slotsOf Op.operands Call.operands
attribute [simp] RXe XStep isAl zOk pick alsOf adoptL adopt1 dstL sameAt
attribute [simp] ims_nil ims_append ims_length fz_im map_fz_im ims_fz mapO_im mapO_ims DS.drop dropO fzO
theorem ibeq (a b:Int):(a == b)=decide (a=b):=by by_cases h:a=b<;>simp [h]
theorem ibne (a b:Int):(a != b)=!decide (a=b):=by by_cases h:a=b<;>simp [h]
attribute [simp] ibeq ibne
theorem fz_ptr {n o off:Nat} {objs:List DObj} (h:o < n):fz n objs (.ptr o off)=.ptr o off:=by simp [fz,DC.lt,h]
theorem fz_ept {n o g i off:Nat} {objs:List DObj} (h:o < n):fz n objs (.ept o g i off)=.ept o g i off:=by simp [fz,DC.lt,h]
theorem fz_vec {n o g off len:Nat} {objs:List DObj} (h:o < n):fz n objs (.vec o g off len)=.vec o g off len:=by simp [fz,DC.lt,h]
theorem ims_cons (x:List IC) (l:List (List IC)):ims (x :: l)=x.map .im :: ims l:=rfl
theorem ims_len_iff (l:List (List IC)) (n:Nat):(∀ e∈ims l,e.length=n)↔∀ e∈l,e.length=n:=by
 constructor
 ·intro h e he
  have:=h (e.map .im) (by simp only [ims,List.mem_map];exact ⟨e,he,rfl⟩)
  simpa using this
 ·exact fun h=>ims_len_elems h
attribute [simp] ims_len_iff
theorem take_ims {α:Type} (f:α→List IC) (l:List α):(ims (l.map f)).take l.length=ims (l.map f):=List.take_of_length_le (by simp [ims_length])
attribute [simp] fz_ptr fz_ept fz_vec ims_cons take_ims
def outF:Option IC→DC
 | some c=>.im c
 | none=>.dead
theorem fz_vecg {n o g off len:Nat} {objs:List DObj} (h:n≤o):fz n objs (.vec o g off len)=outF (frz 20 n objs (.vec o g off len)):=by
 have h1:DC.lt n (.vec o g off len)=false:=by simp [DC.lt];omega
 simp only [fz,h1]
 cases frz 20 n objs (.vec o g off len)<;>rfl
theorem fz_ptrg {n o off:Nat} {objs:List DObj} (h:n≤o):fz n objs (.ptr o off)=outF (frz 20 n objs (.ptr o off)):=by
 have h1:DC.lt n (.ptr o off)=false:=by simp [DC.lt];omega
 simp only [fz,h1]
 cases frz 20 n objs (.ptr o off)<;>rfl
theorem frz_im (k n:Nat) (objs:List DObj) (c:IC):frz (k + 1) n objs (.im c)=some c:=rfl
theorem frz_vec (k n o g off len:Nat) (objs:List DObj):frz (k + 1) n objs (.vec o g off len)=if n≤o then match objs[o]? with
 | some (.vec _ es g' _)=>if g=g'∧off + len≤es.length then (mapO (mapO (frz k n objs)) ((es.drop off).take len)).map .sl else none
 | _=>none
 else none:=rfl
theorem frz_ptr (k n o off:Nat) (objs:List DObj):frz (k + 1) n objs (.ptr o off)=if n≤o then match objs[o]? with
 | some (.row c)=>if off≤c.length then (mapO (frz k n objs) (c.drop off)).map .ip else none
 | _=>none
 else none:=rfl
theorem fz_fn {n:Nat} {f:Fn} {caps:List DC} {objs:List DObj}:fz n objs (.fn f caps)=if DC.ltL n caps=true then .fn f caps else outF (frz 20 n objs (.fn f caps)):=by
 have h1:DC.lt n (.fn f caps)=DC.ltL n caps:=rfl
 simp only [fz,h1]
 split
 ·rfl
 ·cases frz 20 n objs (.fn f caps)<;>rfl
theorem frz_fn (k n:Nat) (objs:List DObj) (f:Fn) (caps:List DC):frz (k + 1) n objs (.fn f caps)=(mapO (frz k n objs) caps).map (.fn f):=rfl
theorem fz_map {n o:Nat} {objs:List DObj} (h:o < n):fz n objs (.map o)=.map o:=by simp [fz,DC.lt,h]
theorem fz_mapg {n o:Nat} {objs:List DObj} (h:n≤o):fz n objs (.map o)=outF (frz 20 n objs (.map o)):=by
 have h1:DC.lt n (.map o)=false:=by simp [DC.lt];omega
 simp only [fz,h1]
 cases frz 20 n objs (.map o)<;>rfl
theorem frz_map (k n o:Nat) (objs:List DObj):frz (k + 1) n objs (.map o)=if n≤o then match objs[o]? with
 | some (.map ks es)=>(mapO (fun x=>(mapO (frz k n objs) x.2).map fun l=>(x.1,l)) es).map (.mp (ckBase ks))
 | _=>none
 else none:=rfl
theorem fz_yld {n o:Nat} {objs:List DObj} (h:o < n):fz n objs (.yld o)=.yld o:=by simp [fz,DC.lt,h]
theorem fz_itr {n o:Nat} {objs:List DObj} (h:o < n):fz n objs (.itr o)=.itr o:=by simp [fz,DC.lt,h]
attribute [simp] fz_fn frz_fn fz_map fz_mapg frz_map fz_yld fz_itr DC.ltL DC.lt
attribute [simp] outF fz_vecg fz_ptrg frz_im frz_vec frz_ptr mapO
theorem nrm:(∀ (p:Prop) [Decidable p],decide p=true↔p)∧(∀ (p:Prop) [Decidable p],decide p=false↔¬p)∧(∀ a b:Bool,(a && b)=true↔a=true∧b=true)∧(∀ a b:Bool,(a && b)=false↔a=false∨b=false)∧(∀ a b:Bool,(a || b)=true↔a=true∨b=true)∧(∀ a b:Bool,(a || b)=false↔a=false∧b=false)∧(∀ a:Bool,(!a)=true↔a=false)∧(∀ a:Bool,(!a)=false↔a=true)∧(∀ (α:Type) [BEq α] [LawfulBEq α] (a b:α),(a == b)=true↔a=b)∧(∀ (α:Type) [BEq α] [LawfulBEq α] (a b:α),(a == b)=false↔a≠b):=
 ⟨fun _=>decide_eq_true_iff,fun _=>decide_eq_false_iff_not,fun _ _=>Bool.and_eq_true_iff,fun a b=>by cases a<;>cases b<;>decide,fun a b=>by cases a<;>cases b<;>decide,fun a b=>by cases a<;>cases b<;>decide,fun a=>by cases a<;>decide,fun a=>by cases a<;>decide,fun _ _ _ _ _=>beq_iff_eq,fun _ _ _ _ _=>beq_eq_false_iff_ne⟩
abbrev q01:=@At.seq
abbrev q02:=@At.then_ret
abbrev q03:=@At.then_exit
abbrev q04:=@At.block_end
abbrev q05:=@At.block_ret
abbrev q06:=@At.block_exit
abbrev q07:=@At.block_out
abbrev q09:=@At.scope_ret
abbrev q11:=@DT_seq
abbrev q12:=@DT_block
abbrev q13:=@DT_scope
abbrev q14:=@DT_skip
abbrev q15:=@DT_label
abbrev q16:=@DT_exit
abbrev q17:=@DT_ret
end Go.Ab
namespace Go.Proofs
open Go Go.Ab
attribute [local simp] dslice setLp
theorem i64w {n:Int} (h1:-9223372036854775808≤n) (h2:n≤9223372036854775807):IntKind.i64.wrap n=n:=IntWalk.i64_in n ⟨h1,h2⟩
set_option linter.unusedSimpArgs false
variable {G:Nat→Option (List IC)}
theorem within_c (n lo hi:Int) (objs:List DObj):DCall Tryz.prog G 125 [iv n,iv lo,iv hi] objs (fun d objs'=>d=bv (decide (lo≤n) && decide (n≤hi))∧objs'=objs):=by
 refine DCall.frame ?_ (by simp) (by simp) objs
 refine DCall_intro Tryz.func125 rfl Tryz.ntmps125 (by simp) rfl ?_
 simp only [iv]
 have hs:True:=trivial
 repeat' first|(with_reducible first|refine q01 ?_|refine q11 ?_|refine q17 ?_)|(with_reducible refine At.fn_ret (by simp -dsimp [hs];exact rfl) ?_)|(with_reducible refine DT_regionE [0,1,2,6] ?_;simp -dsimp [hs])|(with_reducible refine GStop_split ?_ ?_<;>intro h<;>have h0:=h<;>(try simp only [nrm] at h)<;>(try exact Bool.noConfusion h)<;>have h2:=h<;>(try simp at h2)<;>(replace hs:=And.intro h0 (And.intro h (And.intro h2 hs)))<;>simp -dsimp [h0,h,h2,hs])
 all_goals try simp -dsimp [hs]
 all_goals try clear hs
 all_goals simp [bv, *]
def idx (l:List Int) (x:Int):Int:=match l.idxOf? x with|some i=>i|none=>-1
theorem idx_yes {l:List Int} {x:Int} {k:Nat} (h:l[k]?=some x) (hno:∀ j,j < k→l[j]?≠some x):idx l x=k:=by
 have:l.idxOf? x=some k:=by
  rw [List.idxOf?,List.findIdx?_eq_some_iff_getElem]
  obtain ⟨hlt,he⟩:=List.getElem?_eq_some_iff.1 h
  refine ⟨hlt,by simp [he],fun j hj=>?_⟩
  have:=hno j hj
  rw [List.getElem?_eq_getElem (by omega)] at this
  simpa using this
 simp [idx,this]
theorem idx_no {l:List Int} {x:Int} (hno:∀ j,j < l.length→l[j]?≠some x):idx l x=-1:=by
 have:l.idxOf? x=none:=by
  rw [List.idxOf?,List.findIdx?_eq_none_iff]
  intro y hy
  obtain ⟨j,hj⟩:=List.mem_iff_getElem?.1 hy
  have hlt:=lt_of_getElem? hj
  have:=hno j hlt
  rw [hj] at this
  simpa using this
 simp [idx,this]
theorem index_c (l:List Int) (x:Int) (hl:l.length < 1000000) (objs:List DObj):DCall Tryz.prog G 127 [isv l,iv x] objs (fun d objs'=>d=iv (idx l x)∧objs'=objs):=by
 refine DCall.frame ?_ (by simp) (by simp) objs
 refine DCall_intro Tryz.func127 rfl Tryz.ntmps127 (by simp) rfl ?_
 simp only [isv,iv]
 have hs:True:=trivial
 repeat' first|(with_reducible first|refine q01 ?_|refine q11 ?_|refine q12 ?_)|(with_reducible refine DT_regionE [0,1,4,5,9,17] ?_;simp -dsimp [hs])
 all_goals try simp -dsimp [hs]
 all_goals try clear hs
 refine DT_loop (ι:={ k:Nat // k≤l.length∧∀ j,j < k→l[j]?≠some x }) (fun k=>⟨19,[(0,isv l),(1,iv x),(4,iv 0),(5,iv (k.1:Int))],[]⟩) (fun k=>l.length - k.1) ⟨0,by simp,by simp⟩ (Weak.of_keep [0,1,4,5] (by simp [isv,iv])) ?_
 rintro ⟨k,hk,hno⟩
 simp only [isv,iv]
 by_cases hlt:k < l.length
 ·have hx:l[k]?=some l[k]:=by simp [hlt]
  have hw:IntKind.i64.wrap ((k:Int) + 1)=((k + 1:Nat):Int):=i64w (by omega) (by omega)
  have hs:True:=trivial
  repeat' first|(with_reducible first|refine q01 ?_|refine q02 ?_|refine q03 ?_|refine q04 ?_|refine q05 ?_|refine q06 ?_|refine q11 ?_|refine q12 ?_|refine q14 ?_|refine q16 ?_|refine q17 ?_)|(with_reducible refine At.fn_ret (by simp -dsimp [hx,encI,rI,hw,hs];exact rfl) ?_)|(with_reducible refine DT_regionE [0,1,4,5,9,17] ?_;simp -dsimp [hx,encI,rI,hw,hs])|(refine DT_cond rfl (fun h=>?_) (fun h=>?_)<;>(try simp only [nrm] at h)<;>(try exact Bool.noConfusion h))
  all_goals try simp -dsimp [hx,encI,rI,hw,hs]
  all_goals try clear hs
  all_goals try omega
  ·exact (idx_yes (by rw [hx];simp [*]) hno).symm
  ·refine ⟨⟨k + 1,by omega,fun j hj=>?_⟩,?_,Weak.of_keep [0,1,4,5] (by simp [isv,iv])⟩
   ·by_cases e:j=k
    ·subst e;simp [hx, *]
    ·exact hno j (by omega)
   ·simp;omega
 ·have hs:True:=trivial
  repeat' first|(with_reducible first|refine q01 ?_|refine q03 ?_|refine q06 ?_|refine q11 ?_|refine q12 ?_|refine q14 ?_|refine q16 ?_|refine q17 ?_)|(with_reducible refine At.fn_ret (by simp -dsimp [hs];exact rfl) ?_)|(with_reducible refine DT_regionE [0,1,4,5,9,17] ?_;simp -dsimp [hs])|(refine DT_cond rfl (fun h=>?_) (fun h=>?_)<;>(try simp only [nrm] at h)<;>(try exact Bool.noConfusion h))
  all_goals try simp -dsimp [hs]
  all_goals try clear hs
  all_goals try omega
  exact (idx_no fun j hj=>hno j (by omega)).symm
end Go.Proofs
namespace Go.Proofs
open Go Go.Ab
attribute [local simp] dslice setLp
set_option linter.unusedSimpArgs false
variable {G:Nat→Option (List IC)}
theorem mixed:Tryz.prog.follows .mixedOrders=true:=by kernel_rfl
def issv (x:Issue):DV:=.agg ((encIssue x).map .im)
attribute [simp] issv
theorem lenItem (l:List Itm):∀ e∈l.map encItem,e.length=2:=by simp [encItem]
theorem lenDim (l:List Dim):∀ e∈l.map encDim,e.length=3:=by simp [encDim]
theorem twinIssue_c (x:Issue) (hi:x.items.length≤16) (hd:x.dims.length≤8) (objs:List DObj):DCall Tryz.prog G 90 [issv x] objs (fun d objs'=>d=issv x∧objs'=objs):=by
 refine DCall.frame ?_ (by simp) (by simp) objs
 refine DCall_intro Tryz.func90 rfl Tryz.ntmps90 (by simp) rfl ?_
 try simp only [issv]
 have h1:=lenItem x.items
 have h2:=lenDim x.dims
 have hs:True:=trivial
 repeat' first|(with_reducible first|refine q01 ?_|refine q11 ?_|refine q17 ?_|refine And.intro (by omega) ?_)|(with_reducible refine At.fn_ret (by simp -dsimp [encIssue,rI,hs];exact rfl) ?_)|(refine DT_regionM (id:=1) (nt:=14) 9 [0,1,2] mixed rfl (by kernel_rfl) ?_;simp -dsimp [encIssue,rI,hs])|(with_reducible refine DT_regionE [0,1,2] ?_;simp -dsimp [encIssue,rI,hs])
 all_goals try simp -dsimp [encIssue,rI,hs]
 all_goals try clear hs
end Go.Proofs
namespace Go.Proofs
open Go Go.Ab
attribute [local simp] dslice setLp
set_option linter.unusedSimpArgs false
variable {G:Nat→Option (List IC)}
theorem issv_eq (x:Issue):issv x=.agg [.im (rI x.drawing),.im (rI x.letter),.im (.raw (.int .u8 x.kind)),.im (.sl (x.items.map encItem)),.im (.sl (x.dims.map encDim))]:=rfl
def Small (l:List Issue):Prop:=l.length≤80∧∀ x∈l,x.items.length≤16∧x.dims.length≤8
theorem twin_c (l:List Issue) (hl:Small l) (objs:List DObj):DCall Tryz.prog G 69 [regv l] objs (fun d objs'=>d=regv l∧objs'=objs):=by
 refine DCall.frame ?_ (by simp) (by simp) objs
 refine DCall_intro Tryz.func69 rfl Tryz.ntmps69 (by simp) rfl ?_
 obtain ⟨hl1,hl2⟩:=hl
 simp only [regv]
 have hs:True:=trivial
 repeat' first|(with_reducible first|refine q01 ?_|refine q11 ?_|refine q12 ?_)|(with_reducible refine DT_regionE [0,1,2,3,4,9] ?_;simp -dsimp [hs])
 all_goals try simp -dsimp [hs]
 all_goals try clear hs
 refine DT_loop (ι:={ p:Nat×Nat×Nat×Bool // p.1≤l.length∧(p.2.2.1=5∨p.2.2.2=true) }) (fun p=>⟨24,[(1,.one (.ptr 0 0)),(2,.one (.ptr 2 0)),(3,.one (.ptr 4 0)),(4,iv (p.1.1:Int))],[.row [.im (.sl (l.map encIssue))],.vec 0 [] 0 true,.row [.vec 1 0 0 0],.vec p.1.2.2.1 (ims ((l.take p.1.1).map encIssue)) p.1.2.1 p.1.2.2.2,.row [.vec 3 p.1.2.1 0 p.1.1]]⟩) (fun p=>l.length - p.1.1) ⟨(0,0,0,true),by simp⟩ (Weak.of_keep [1,2,3,4] (by simp [iv])) ?_
 rintro ⟨⟨k,g,sz,nl⟩,hk,hz⟩
 simp only at hk hz
 simp only [iv]
 have htk:(ims ((l.map encIssue).take k)).take k=ims ((l.map encIssue).take k):=List.take_of_length_le (by simp [ims_length];omega)
 by_cases hlt:k < l.length
 ·have hx:l[k]?=some l[k]:=by simp [hlt]
  have hw:IntKind.i64.wrap ((k:Int) + 1)=((k + 1:Nat):Int):=i64w (by omega) (by omega)
  have hc:=fun objs=>twinIssue_c (G:=G) l[k] (hl2 _ (by simp)).1 (hl2 _ (by simp)).2 objs
  have hmin:min k l.length=k:=Nat.min_eq_left (by omega)
  simp only [issv_eq] at hc
  have hs:True:=trivial
  repeat' first|(with_reducible first|refine q01 ?_|refine q03 ?_|refine q04 ?_|refine q06 ?_|refine q11 ?_|refine q12 ?_|refine q14 ?_|refine q16 ?_|refine q17 ?_|refine And.intro (by omega) ?_)|(with_reducible refine At.fn_ret (by simp -dsimp [hx,encIssue,rI,hw,hz,hmin,hs];exact rfl) ?_)|(refine QCall_pure hc ?_;try simp -dsimp [hx,encIssue,rI,hw,hz,hmin,hs])|(refine DT_regionM (id:=5) (nt:=24) 9 [0,1,2,3,4,9] mixed rfl (by kernel_rfl) ?_;simp -dsimp [hx,encIssue,rI,hw,hz,hmin,hs])|(with_reducible refine DT_regionE [0,1,2,3,4,9] ?_;simp -dsimp [hx,encIssue,rI,hw,hz,hmin,hs])|(refine DT_cond rfl (fun h=>?_) (fun h=>?_)<;>(try simp only [nrm] at h)<;>(try exact Bool.noConfusion h))
  all_goals try simp -dsimp [hx,encIssue,rI,hw,hz,hmin,hs]
  all_goals try clear hs
  all_goals try omega
  refine At.round ⟨(k + 1,g + 1,5,false),by simp;omega⟩ (by simp;omega) (Weak.of_drop [1,2,3,4] 5 (by simp) (by simp) ?_)
  have hs:(l.map encIssue).take (k + 1)=(l.map encIssue).take k ++ [encIssue l[k]]:=by
   rw [List.take_succ];simp [hx]
  simp [hs,htk,ims_append,encIssue,rI]
 ·have hkl:k=l.length:=by omega
  subst hkl
  have hall:(l.map encIssue).take l.length=l.map encIssue:=List.take_of_length_le (by simp)
  rw [hall] at htk
  have hs:True:=trivial
  repeat' first|(with_reducible first|refine q01 ?_|refine q03 ?_|refine q06 ?_|refine q11 ?_|refine q16 ?_|refine q17 ?_)|(with_reducible refine At.fn_ret (by simp -dsimp [hall,htk,hs];exact rfl) ?_)|(with_reducible refine DT_regionE [0,1,2,3,4,9] ?_;simp -dsimp [hall,htk,hs])|(refine DT_cond rfl (fun h=>?_) (fun h=>?_)<;>(try simp only [nrm] at h)<;>(try exact Bool.noConfusion h))
  all_goals try simp -dsimp [hall,htk,hs]
  all_goals try clear hs
end Go.Proofs
namespace Go.Proofs
open Go Go.Ab
attribute [local simp] dslice setLp
set_option linter.unusedSimpArgs false
variable {G:Nat→Option (List IC)}
instance (l:List Issue):Decidable (Small l):=inferInstanceAs (Decidable (_∧_))
theorem great_c (l:List Issue) (objs:List DObj):DCall Tryz.prog G 68 [regv l] objs (fun d objs'=>d=bv (!decide (Small l))∧objs'=objs):=by
 refine DCall.frame ?_ (by simp) (by simp) objs
 refine DCall_intro Tryz.func68 rfl Tryz.ntmps68 (by simp) rfl ?_
 simp only [regv,bv]
 have hs:True:=trivial
 repeat' first|(with_reducible first|refine q01 ?_|refine q02 ?_|refine q11 ?_|refine q12 ?_|refine q14 ?_|refine q17 ?_)|(with_reducible refine At.fn_ret (by simp -dsimp [hs];exact rfl) ?_)|(with_reducible refine DT_regionE [0,1,2,3,7,12,32] ?_;simp -dsimp [hs])|(refine DT_cond rfl (fun h=>?_) (fun h=>?_)<;>(try simp only [nrm] at h)<;>(try exact Bool.noConfusion h))
 all_goals try simp -dsimp [hs]
 all_goals try clear hs
 ·exact fun hs=>by have:=hs.1;omega
 ·have hl:l.length≤80:=by omega
  refine DT_loop (ι:={ k:Nat // k≤l.length∧∀ j x,j < k→l[j]?=some x→x.items.length≤16∧x.dims.length≤8 }) (fun p=>⟨33,[(1,.one (.ptr 0 0)),(3,iv (p.1:Int))],[.row [.im (.sl (l.map encIssue))]]⟩) (fun p=>l.length - p.1) ⟨0,by simp⟩ (Weak.of_keep [1,3] (by simp [iv])) ?_
  rintro ⟨k,hk,hno⟩
  simp only [iv]
  by_cases hlt:k < l.length
  ·have hx:l[k]?=some l[k]:=by simp [hlt]
   have hw:IntKind.i64.wrap ((k:Int) + 1)=((k + 1:Nat):Int):=i64w (by omega) (by omega)
   have bad:16 < l[k].items.length∨8 < l[k].dims.length→¬ Small l:=fun h hs=>by have:=hs.2 l[k] (by simp);omega
   have hs:True:=trivial
   repeat' first|(with_reducible first|refine q01 ?_|refine q02 ?_|refine q03 ?_|refine q04 ?_|refine q05 ?_|refine q06 ?_|refine q11 ?_|refine q12 ?_|refine q14 ?_|refine q16 ?_|refine q17 ?_)|(with_reducible refine At.fn_ret (by simp -dsimp [hx,encIssue,rI,hw,hs];exact rfl) ?_)|(with_reducible refine DT_regionE [0,1,2,3,7,12,32] ?_;simp -dsimp [hx,encIssue,rI,hw,hs])|(refine DT_cond rfl (fun h=>?_) (fun h=>?_)<;>(try simp only [nrm] at h)<;>(try exact Bool.noConfusion h))|(with_reducible refine GStop_split ?_ ?_<;>intro h<;>have h0:=h<;>(try simp only [nrm] at h)<;>(try exact Bool.noConfusion h)<;>have h2:=h<;>(try simp at h2)<;>(replace hs:=And.intro h0 (And.intro h (And.intro h2 hs)))<;>simp -dsimp [h0,h,h2,hx,encIssue,rI,hw,hs])
   all_goals try simp -dsimp [hx,encIssue,rI,hw,hs]
   all_goals try clear hs
   all_goals first
    | omega
    | exact bad (by omega)
    | skip
   refine At.round ⟨k + 1,by omega,fun j x hj hjx=>?_⟩ (by simp;omega) (Weak.of_keep [1,3] (by simp))
   by_cases e:j=k
   ·subst e;rw [hx] at hjx;cases hjx;omega
   ·exact hno j x (by omega) hjx
  ·have hs:True:=trivial
   repeat' first|(with_reducible first|refine q01 ?_|refine q03 ?_|refine q06 ?_|refine q11 ?_|refine q16 ?_|refine q17 ?_)|(with_reducible refine At.fn_ret (by simp -dsimp [hlt,hs];exact rfl) ?_)|(with_reducible refine DT_regionE [0,1,2,3,7,12,32] ?_;simp -dsimp [hlt,hs])|(refine DT_cond rfl (fun h=>?_) (fun h=>?_)<;>(try simp only [nrm] at h)<;>(try exact Bool.noConfusion h))
   all_goals try simp -dsimp [hlt,hs]
   all_goals try clear hs
   exact ⟨hl,fun x hx'=>by
    obtain ⟨j,hj⟩:=List.mem_iff_getElem?.1 hx'
    exact hno j x (by have:=lt_of_getElem? hj;omega) hj⟩
end Go.Proofs
namespace Go.Proofs
open Go Go.Ab
attribute [local simp] dslice setLp
set_option linter.unusedSimpArgs false
variable {G:Nat→Option (List IC)}
theorem sameInts_c (l r:List Int) (hl:l.length < 1000000) (objs:List DObj):DCall Tryz.prog G 15 [isv l,isv r] objs (fun d objs'=>d=bv (decide (l=r))∧objs'=objs):=by
 refine DCall.frame ?_ (by simp) (by simp) objs
 refine DCall_intro Tryz.func15 rfl Tryz.ntmps15 (by simp) rfl ?_
 simp only [isv,bv]
 have hs:True:=trivial
 repeat' first|(with_reducible first|refine q01 ?_|refine q02 ?_|refine q11 ?_|refine q12 ?_|refine q14 ?_|refine q17 ?_)|(with_reducible refine At.fn_ret (by simp -dsimp [hs];exact rfl) ?_)|(with_reducible refine DT_regionE [0,1,4,5,10,14,25] ?_;simp -dsimp [hs])|(refine DT_cond rfl (fun h=>?_) (fun h=>?_)<;>(try simp only [nrm] at h)<;>(try exact Bool.noConfusion h))
 all_goals try simp -dsimp [hs]
 all_goals try clear hs
 ·rintro rfl;omega
 ·have hlen:l.length=r.length:=by omega
  refine DT_loop (ι:={ k:Nat // k≤l.length∧∀ j,j < k→l[j]?=r[j]? }) (fun p=>⟨26,[(0,isv l),(1,isv r),(5,iv (p.1:Int))],[]⟩) (fun p=>l.length - p.1) ⟨0,by simp⟩ (Weak.of_keep [0,1,5] (by simp [iv,isv])) ?_
  rintro ⟨k,hk,hno⟩
  simp only [iv,isv]
  by_cases hlt:k < l.length
  ·have hx:l[k]?=some l[k]:=by simp [hlt]
   have hltr:k < r.length:=by omega
   have hy:r[k]?=some r[k]:=by simp [hltr]
   have hw:IntKind.i64.wrap ((k:Int) + 1)=((k + 1:Nat):Int):=i64w (by omega) (by omega)
   have hs:True:=trivial
   repeat' first|(with_reducible first|refine q01 ?_|refine q02 ?_|refine q03 ?_|refine q04 ?_|refine q05 ?_|refine q06 ?_|refine q11 ?_|refine q12 ?_|refine q14 ?_|refine q16 ?_|refine q17 ?_)|(with_reducible refine At.fn_ret (by simp -dsimp [hx,hy,encI,rI,hw,hs];exact rfl) ?_)|(refine DT_regionM (id:=6) (nt:=26) 9 [0,1,4,5,10,14,25] mixed rfl (by kernel_rfl) ?_;simp -dsimp [hx,hy,encI,rI,hw,hs])|(with_reducible refine DT_regionE [0,1,4,5,10,14,25] ?_;simp -dsimp [hx,hy,encI,rI,hw,hs])|(refine DT_cond rfl (fun h=>?_) (fun h=>?_)<;>(try simp only [nrm] at h)<;>(try exact Bool.noConfusion h))
   all_goals try simp -dsimp [hx,hy,encI,rI,hw,hs]
   all_goals try clear hs
   all_goals try omega
   ·rename_i h
    rintro rfl;exact h rfl
   ·rename_i h
    refine At.round ⟨k + 1,by omega,fun j hj=>?_⟩ (by simp;omega) (Weak.of_keep [0,1,5] (by simp))
    by_cases e:j=k
    ·subst e;rw [hx,hy,h]
    ·exact hno j (by omega)
  ·have hs:True:=trivial
   repeat' first|(with_reducible first|refine q01 ?_|refine q03 ?_|refine q06 ?_|refine q11 ?_|refine q16 ?_|refine q17 ?_)|(with_reducible refine At.fn_ret (by simp -dsimp [hlt,hs];exact rfl) ?_)|(with_reducible refine DT_regionE [0,1,4,5,10,14,25] ?_;simp -dsimp [hlt,hs])|(refine DT_cond rfl (fun h=>?_) (fun h=>?_)<;>(try simp only [nrm] at h)<;>(try exact Bool.noConfusion h))
   all_goals try simp -dsimp [hlt,hs]
   all_goals try clear hs
   refine List.ext_getElem? fun j=>?_
   by_cases hj:j < k
   ·exact hno j hj
   ·rw [List.getElem?_eq_none (by omega),List.getElem?_eq_none (by omega)]
end Go.Proofs
namespace Go.Proofs
open Go Go.Ab
attribute [local simp] dslice setLp
set_option linter.unusedSimpArgs false
variable {G:Nat→Option (List IC)}
def itv (l:List Itm):DV:=.one (.im (.sl (l.map encItem)))
attribute [simp] itv
theorem sameItems_c (l r:List Itm) (hl:l.length < 1000000) (objs:List DObj):DCall Tryz.prog G 129 [itv l,itv r] objs (fun d objs'=>d=bv (decide (l=r))∧objs'=objs):=by
 refine DCall.frame ?_ (by simp) (by simp) objs
 refine DCall_intro Tryz.func129 rfl Tryz.ntmps129 (by simp) rfl ?_
 simp only [itv,bv]
 have hs:True:=trivial
 repeat' first|(with_reducible first|refine q01 ?_|refine q02 ?_|refine q11 ?_|refine q12 ?_|refine q14 ?_|refine q17 ?_)|(with_reducible refine At.fn_ret (by simp -dsimp [hs];exact rfl) ?_)|(with_reducible refine DT_regionE [0,1,4,5,10,14,25] ?_;simp -dsimp [hs])|(refine DT_cond rfl (fun h=>?_) (fun h=>?_)<;>(try simp only [nrm] at h)<;>(try exact Bool.noConfusion h))
 all_goals try simp -dsimp [hs]
 all_goals try clear hs
 ·rintro rfl;omega
 ·have hlen:l.length=r.length:=by omega
  refine DT_loop (ι:={ k:Nat // k≤l.length∧∀ j,j < k→l[j]?=r[j]? }) (fun p=>⟨26,[(0,itv l),(1,itv r),(5,iv (p.1:Int))],[]⟩) (fun p=>l.length - p.1) ⟨0,by simp⟩ (Weak.of_keep [0,1,5] (by simp [iv,itv])) ?_
  rintro ⟨k,hk,hno⟩
  simp only [iv,itv]
  by_cases hlt:k < l.length
  ·have hx:l[k]?=some l[k]:=by simp [hlt]
   have hltr:k < r.length:=by omega
   have hy:r[k]?=some r[k]:=by simp [hltr]
   have hw:IntKind.i64.wrap ((k:Int) + 1)=((k + 1:Nat):Int):=i64w (by omega) (by omega)
   have hs:True:=trivial
   repeat' first|(with_reducible first|refine q01 ?_|refine q02 ?_|refine q03 ?_|refine q04 ?_|refine q05 ?_|refine q06 ?_|refine q11 ?_|refine q12 ?_|refine q14 ?_|refine q16 ?_|refine q17 ?_)|(with_reducible refine At.fn_ret (by simp -dsimp [hx,hy,encItem,rI,hw,hs];exact rfl) ?_)|(refine DT_regionM (id:=6) (nt:=26) 9 [0,1,4,5,10,14,25] mixed rfl (by kernel_rfl) ?_;simp -dsimp [hx,hy,encItem,rI,hw,hs])|(with_reducible refine DT_regionE [0,1,4,5,10,14,25] ?_;simp -dsimp [hx,hy,encItem,rI,hw,hs])|(refine DT_cond rfl (fun h=>?_) (fun h=>?_)<;>(try simp only [nrm] at h)<;>(try exact Bool.noConfusion h))
   all_goals try simp -dsimp [hx,hy,encItem,rI,hw,hs]
   all_goals try clear hs
   all_goals try omega
   ·rename_i h
    rintro rfl;simp at h
   ·rename_i h
    refine At.round ⟨k + 1,by omega,fun j hj=>?_⟩ (by simp;omega) (Weak.of_keep [0,1,5] (by simp))
    by_cases e:j=k
    ·subst e
     have:l[j]=r[j]:=by cases hc:l[j];cases hd:r[j];rw [hc,hd] at h;simp at h;simp [h]
     rw [hx,hy,this]
    ·exact hno j (by omega)
  ·have hs:True:=trivial
   repeat' first|(with_reducible first|refine q01 ?_|refine q03 ?_|refine q06 ?_|refine q11 ?_|refine q16 ?_|refine q17 ?_)|(with_reducible refine At.fn_ret (by simp -dsimp [hlt,hs];exact rfl) ?_)|(with_reducible refine DT_regionE [0,1,4,5,10,14,25] ?_;simp -dsimp [hlt,hs])|(refine DT_cond rfl (fun h=>?_) (fun h=>?_)<;>(try simp only [nrm] at h)<;>(try exact Bool.noConfusion h))
   all_goals try simp -dsimp [hlt,hs]
   all_goals try clear hs
   refine List.ext_getElem? fun j=>?_
   by_cases hj:j < k
   ·exact hno j hj
   ·rw [List.getElem?_eq_none (by omega),List.getElem?_eq_none (by omega)]
end Go.Proofs
namespace Go.Proofs
open Go Go.Ab
attribute [local simp] dslice setLp
set_option linter.unusedSimpArgs false
variable {G:Nat→Option (List IC)}
theorem sameIssue_c (x y:Issue) (hx:x.items.length < 1000000∧x.dims.length < 1000000) (objs:List DObj):DCall Tryz.prog G 116 [issv x,issv y] objs (fun d objs'=>d=bv (decide (x=y))∧objs'=objs):=by
 refine DCall.frame ?_ (by simp) (by simp) objs
 refine DCall_intro Tryz.func116 rfl Tryz.ntmps116 (by simp) rfl ?_
 have hc:=fun objs=>sameItems_c (G:=G) x.items y.items hx.1 objs
 simp only [itv] at hc
 simp only [issv,bv]
 have hs:True:=trivial
 repeat' first|(with_reducible first|refine q01 ?_|refine q02 ?_|refine q11 ?_|refine q12 ?_|refine q14 ?_|refine q17 ?_)|(with_reducible refine At.fn_ret (by simp -dsimp [encIssue,rI,bv,hs];exact rfl) ?_)|(refine CallE.pure hc ?_;try simp -dsimp [encIssue,rI,bv,hs])|(with_reducible refine DT_regionE [0,1,2,3,4,5,41,46,59] ?_;simp -dsimp [encIssue,rI,bv,hs])|(refine DT_cond rfl (fun h=>?_) (fun h=>?_)<;>(try simp only [nrm] at h)<;>(try exact Bool.noConfusion h))|(with_reducible refine GStop_split ?_ ?_<;>intro h<;>have h0:=h<;>(try simp only [nrm] at h)<;>(try exact Bool.noConfusion h)<;>have h2:=h<;>(try simp at h2)<;>(replace hs:=And.intro h0 (And.intro h (And.intro h2 hs)))<;>simp -dsimp [h0,h,h2,encIssue,rI,bv,hs])
 all_goals try simp -dsimp [encIssue,rI,bv,hs]
 all_goals try clear hs
 all_goals try (rintro rfl;simp_all;done)
 obtain ⟨hx1,hx2⟩:=hx
 have e1:x.drawing=y.drawing:=by assumption
 have e2:x.letter=y.letter:=by assumption
 have e3:x.kind=y.kind:=by assumption
 have e4:x.items=y.items:=by assumption
 have e5:x.dims.length=y.dims.length:=by omega
 refine DT_loop (ι:={ k:Nat // k≤x.dims.length∧∀ j,j < k→x.dims[j]?=y.dims[j]? }) (fun p=>⟨60,[(2,.one (.ptr 0 0)),(3,.one (.ptr 1 0)),(5,iv (p.1:Int))],[.row ((encIssue x).map .im),.row ((encIssue y).map .im)]⟩) (fun p=>x.dims.length - p.1) ⟨0,by simp⟩ (Weak.of_keep [2,3,5] (by simp [iv,encIssue,rI,← e1,← e2,← e3,← e4])) ?_
 rintro ⟨k,hk,hno⟩
 simp only [iv,encIssue,rI,List.map_cons,List.map_nil]
 by_cases hlt:k < x.dims.length
 ·have hx:x.dims[k]?=some x.dims[k]:=by simp [hlt]
  have hltr:k < y.dims.length:=by omega
  have hy:y.dims[k]?=some y.dims[k]:=by simp [hltr]
  have hw:IntKind.i64.wrap ((k:Int) + 1)=((k + 1:Nat):Int):=i64w (by omega) (by omega)
  have hs:True:=trivial
  repeat' first|(with_reducible first|refine q01 ?_|refine q02 ?_|refine q03 ?_|refine q04 ?_|refine q05 ?_|refine q06 ?_|refine q11 ?_|refine q12 ?_|refine q14 ?_|refine q16 ?_|refine q17 ?_)|(with_reducible refine At.fn_ret (by simp -dsimp [hx,hy,encDim,rI,hw,hs];exact rfl) ?_)|(refine DT_regionM (id:=6) (nt:=60) 11 [0,1,2,3,4,5,41,46,59] mixed rfl (by kernel_rfl) ?_;simp -dsimp [hx,hy,encDim,rI,hw,hs])|(with_reducible refine DT_regionE [0,1,2,3,4,5,41,46,59] ?_;simp -dsimp [hx,hy,encDim,rI,hw,hs])|(refine DT_cond rfl (fun h=>?_) (fun h=>?_)<;>(try simp only [nrm] at h)<;>(try exact Bool.noConfusion h))
  all_goals try simp -dsimp [hx,hy,encDim,rI,hw,hs]
  all_goals try clear hs
  all_goals try omega
  ·rename_i h
   rintro rfl;simp at h
  ·rename_i h
   refine At.round ⟨k + 1,by omega,fun j hj=>?_⟩ (by simp;omega) (Weak.of_keep [2,3,5] (by simp))
   by_cases e:j=k
   ·subst e
    have:x.dims[j]=y.dims[j]:=by cases hc:x.dims[j];cases hd:y.dims[j];rw [hc,hd] at h;simp at h;simp [h]
    rw [hx,hy,this]
   ·exact hno j (by omega)
 ·have hs:True:=trivial
  repeat' first|(with_reducible first|refine q01 ?_|refine q03 ?_|refine q06 ?_|refine q11 ?_|refine q16 ?_|refine q17 ?_)|(with_reducible refine At.fn_ret (by simp -dsimp [hlt,hs];exact rfl) ?_)|(with_reducible refine DT_regionE [0,1,2,3,4,5,41,46,59] ?_;simp -dsimp [hlt,hs])|(refine DT_cond rfl (fun h=>?_) (fun h=>?_)<;>(try simp only [nrm] at h)<;>(try exact Bool.noConfusion h))
  all_goals try simp -dsimp [hlt,hs]
  all_goals try clear hs
  have:x.dims=y.dims:=by
   refine List.ext_getElem? fun j=>?_
   by_cases hj:j < k
   ·exact hno j hj
   ·rw [List.getElem?_eq_none (by omega),List.getElem?_eq_none (by omega)]
  cases x;cases y;simp_all
end Go.Proofs
namespace Go.Proofs
open Go Go.Ab
attribute [local simp] dslice setLp
set_option linter.unusedSimpArgs false
variable {G:Nat→Option (List IC)}
theorem same_c (l r:List Issue) (hl:Small l) (objs:List DObj):DCall Tryz.prog G 89 [regv l,regv r] objs (fun d objs'=>d=bv (decide (l=r))∧objs'=objs):=by
 refine DCall.frame ?_ (by simp) (by simp) objs
 refine DCall_intro Tryz.func89 rfl Tryz.ntmps89 (by simp) rfl ?_
 obtain ⟨hl1,hl2⟩:=hl
 simp only [regv,bv]
 have hs:True:=trivial
 repeat' first|(with_reducible first|refine q01 ?_|refine q02 ?_|refine q11 ?_|refine q12 ?_|refine q14 ?_|refine q17 ?_)|(with_reducible refine At.fn_ret (by simp -dsimp [hs];exact rfl) ?_)|(with_reducible refine DT_regionE [0,1,2,3,4,5,12,17,31] ?_;simp -dsimp [hs])|(refine DT_cond rfl (fun h=>?_) (fun h=>?_)<;>(try simp only [nrm] at h)<;>(try exact Bool.noConfusion h))
 all_goals try simp -dsimp [hs]
 all_goals try clear hs
 ·rintro rfl;omega
 ·have hlen:l.length=r.length:=by omega
  refine DT_loop (ι:={ k:Nat // k≤l.length∧∀ j,j < k→l[j]?=r[j]? }) (fun p=>⟨32,[(2,.one (.ptr 0 0)),(3,.one (.ptr 1 0)),(5,iv (p.1:Int))],[.row [.im (.sl (l.map encIssue))],.row [.im (.sl (r.map encIssue))]]⟩) (fun p=>l.length - p.1) ⟨0,by simp⟩ (Weak.of_keep [2,3,5] (by simp [iv])) ?_
  rintro ⟨k,hk,hno⟩
  simp only [iv]
  by_cases hlt:k < l.length
  ·have hx:l[k]?=some l[k]:=by simp [hlt]
   have hltr:k < r.length:=by omega
   have hy:r[k]?=some r[k]:=by simp [hltr]
   have hw:IntKind.i64.wrap ((k:Int) + 1)=((k + 1:Nat):Int):=i64w (by omega) (by omega)
   have hb:=hl2 l[k] (by simp)
   have hc:=fun objs=>sameIssue_c (G:=G) l[k] r[k] ⟨by omega,by omega⟩ objs
   simp only [issv_eq] at hc
   have hs:True:=trivial
   repeat' first|(with_reducible first|refine q01 ?_|refine q02 ?_|refine q03 ?_|refine q04 ?_|refine q05 ?_|refine q06 ?_|refine q11 ?_|refine q12 ?_|refine q14 ?_|refine q16 ?_|refine q17 ?_)|(with_reducible refine At.fn_ret (by simp -dsimp [hx,hy,encIssue,rI,hw,bv,hs];exact rfl) ?_)|(refine QCall_pure hc ?_;try simp -dsimp [hx,hy,encIssue,rI,hw,bv,hs])|(refine DT_regionM (id:=6) (nt:=32) 12 [0,1,2,3,4,5,12,17,31] mixed rfl (by kernel_rfl) ?_;simp -dsimp [hx,hy,encIssue,rI,hw,bv,hs])|(with_reducible refine DT_regionE [0,1,2,3,4,5,12,17,31] ?_;simp -dsimp [hx,hy,encIssue,rI,hw,bv,hs])|(refine DT_cond rfl (fun h=>?_) (fun h=>?_)<;>(try simp only [nrm] at h)<;>(try exact Bool.noConfusion h))
   all_goals try simp -dsimp [hx,hy,encIssue,rI,hw,bv,hs]
   all_goals try clear hs
   all_goals try omega
   ·rename_i h
    rintro rfl;simp at h
   ·rename_i h
    refine At.round ⟨k + 1,by omega,fun j hj=>?_⟩ (by simp;omega) (Weak.of_keep [2,3,5] (by simp))
    by_cases e:j=k
    ·subst e;rw [hx,hy,h]
    ·exact hno j (by omega)
  ·have hs:True:=trivial
   repeat' first|(with_reducible first|refine q01 ?_|refine q03 ?_|refine q06 ?_|refine q11 ?_|refine q16 ?_|refine q17 ?_)|(with_reducible refine At.fn_ret (by simp -dsimp [hlt,hs];exact rfl) ?_)|(with_reducible refine DT_regionE [0,1,2,3,4,5,12,17,31] ?_;simp -dsimp [hlt,hs])|(refine DT_cond rfl (fun h=>?_) (fun h=>?_)<;>(try simp only [nrm] at h)<;>(try exact Bool.noConfusion h))
   all_goals try simp -dsimp [hlt,hs]
   all_goals try clear hs
   refine List.ext_getElem? fun j=>?_
   by_cases hj:j < k
   ·exact hno j hj
   ·rw [List.getElem?_eq_none (by omega),List.getElem?_eq_none (by omega)]
end Go.Proofs
namespace Go.Proofs
open Go Go.Ab
attribute [local simp] dslice setLp
set_option linter.unusedSimpArgs false
variable {G:Nat→Option (List IC)}
def zIssue:Issue:=⟨0,0,0,[],[]⟩
def findI (l:List Issue) (d lt:Int):Option Issue:=l.find? fun x=>x.drawing == d && x.letter == lt
def refv (d lt:Int):DV:=.agg [.im (rI d),.im (rI lt)]
attribute [simp] refv
theorem find_c (l:List Issue) (d lt:Int) (hl:l.length < 1000000) (objs:List DObj):DCall Tryz.prog G 56 [regv l,refv d lt] objs (fun r objs'=>r=.tup [issv ((findI l d lt).getD zIssue),bv (findI l d lt).isSome]∧objs'=objs):=by
 refine DCall.frame ?_ (by simp) (by simp) objs
 refine DCall_intro Tryz.func56 rfl Tryz.ntmps56 (by simp) rfl ?_
 simp only [regv,refv,bv,issv]
 have hs:True:=trivial
 repeat' first|(with_reducible first|refine q01 ?_|refine q11 ?_|refine q12 ?_)|(with_reducible refine DT_regionE [0,1,2,3,4,5,6,7,12,31] ?_;simp -dsimp [hs])
 all_goals try simp -dsimp [hs]
 all_goals try clear hs
 refine DT_loop (ι:={ k:Nat // k≤l.length∧findI l d lt=findI (l.drop k) d lt }) (fun p=>⟨34,[(2,.one (.ptr 0 0)),(3,.one (.ptr 1 0)),(4,.one (.ptr 4 0)),(6,iv (p.1:Int))],[.row [.im (.sl (l.map encIssue))],.row [.im (rI d),.im (rI lt)],.vec 0 [] 0 true,.vec 0 [] 0 true,.row ((rI 0 :: rI 0 :: [IC.raw (.int .u8 0)]).map .im ++ [.vec 2 0 0 0,.vec 3 0 0 0])]⟩) (fun p=>l.length - p.1) ⟨0,by simp⟩ (Weak.of_keep [2,3,4,6] (by simp [iv,rI])) ?_
 rintro ⟨k,hk,hno⟩
 simp only [iv]
 by_cases hlt:k < l.length
 ·have hx:l[k]?=some l[k]:=by simp [hlt]
  have hw:IntKind.i64.wrap ((k:Int) + 1)=((k + 1:Nat):Int):=i64w (by omega) (by omega)
  have hcons:findI l d lt=if (l[k].drawing == d && l[k].letter == lt)=true then some l[k] else findI (l.drop (k + 1)) d lt:=by
   rw [hno,List.drop_eq_getElem_cons hlt]
   simp only [findI,List.find?_cons]
   split<;>simp_all
  have hs:True:=trivial
  repeat' first|(with_reducible first|refine q01 ?_|refine q02 ?_|refine q03 ?_|refine q04 ?_|refine q05 ?_|refine q06 ?_|refine q11 ?_|refine q12 ?_|refine q14 ?_|refine q16 ?_|refine q17 ?_)|(with_reducible refine At.fn_ret (by simp -dsimp [hx,encIssue,rI,hw,hs];exact rfl) ?_)|(with_reducible refine DT_regionE [0,1,2,3,4,5,6,7,12,31] ?_;simp -dsimp [hx,encIssue,rI,hw,hs])|(refine DT_cond rfl (fun h=>?_) (fun h=>?_)<;>(try simp only [nrm] at h)<;>(try exact Bool.noConfusion h))|(with_reducible refine GStop_split ?_ ?_<;>intro h<;>have h0:=h<;>(try simp only [nrm] at h)<;>(try exact Bool.noConfusion h)<;>have h2:=h<;>(try simp at h2)<;>(replace hs:=And.intro h0 (And.intro h (And.intro h2 hs)))<;>simp -dsimp [h0,h,h2,hx,encIssue,rI,hw,hs])
  all_goals try simp -dsimp [hx,encIssue,rI,hw,hs]
  all_goals try clear hs
  all_goals try omega
  ·have hf:findI l d lt=some l[k]:=by simp_all
   simp [hf, *]
  ·rename_i h
   have hf:findI l d lt=findI (l.drop (k + 1)) d lt:=by rw [hcons];simp [h]
   exact At.round ⟨k + 1,by omega,hf⟩ (by simp;omega) (Weak.of_drop [2,3,4,6] 5 (by simp) (by simp) (by simp [rI]))
  ·rename_i h2 h
   have hf:findI l d lt=findI (l.drop (k + 1)) d lt:=by rw [hcons];simp [h2]
   exact At.round ⟨k + 1,by omega,hf⟩ (by simp;omega) (Weak.of_drop [2,3,4,6] 5 (by simp) (by simp) (by simp [rI]))
 ·have hf:findI l d lt=none:=by rw [hno,List.drop_eq_nil_of_le (by omega)];rfl
  have hs:True:=trivial
  repeat' first|(with_reducible first|refine q01 ?_|refine q03 ?_|refine q06 ?_|refine q11 ?_|refine q16 ?_|refine q17 ?_)|(with_reducible refine At.fn_ret (by simp -dsimp [hlt,encIssue,rI,hs];exact rfl) ?_)|(with_reducible refine DT_regionE [0,1,2,3,4,5,6,7,12,31] ?_;simp -dsimp [hlt,encIssue,rI,hs])|(refine DT_cond rfl (fun h=>?_) (fun h=>?_)<;>(try simp only [nrm] at h)<;>(try exact Bool.noConfusion h))
  all_goals try simp -dsimp [hlt,encIssue,rI,hs]
  all_goals try clear hs
  all_goals simp [hf,zIssue]
end Go.Proofs
namespace Go.Proofs
open Go Go.Ab
attribute [local simp] dslice setLp
set_option linter.unusedSimpArgs false
variable {G:Nat→Option (List IC)}
def fidx {α:Type} (p:α→Bool) (l:List α):Int:=match l.findIdx? p with|some i=>i|none=>-1
theorem fidx_yes {α:Type} {p:α→Bool} {l:List α} {i:Nat} {x:α} (h:l[i]?=some x) (hp:p x=true) (hno:∀ (j:Nat) (x:α),j < i→l[j]?=some x→p x=false):fidx p l=i:=by
 have:l.findIdx? p=some i:=by
  rw [List.findIdx?_eq_some_iff_getElem]
  obtain ⟨hlt,he⟩:=List.getElem?_eq_some_iff.1 h
  refine ⟨hlt,by rw [he];exact hp,fun j hj=>?_⟩
  have:=hno j l[j] hj (by simp)
  simp [this]
 simp [fidx,this]
theorem fidx_no {α:Type} {p:α→Bool} {l:List α} (hno:∀ (j:Nat) (x:α),l[j]?=some x→p x=false):fidx p l=-1:=by
 have:l.findIdx? p=none:=by
  rw [List.findIdx?_eq_none_iff]
  intro y hy
  obtain ⟨j,hj⟩:=List.mem_iff_getElem?.1 hy
  exact hno j y hj
 simp [fidx,this]
theorem fidx_nonneg {α:Type} (p:α→Bool) (l:List α):decide (0≤fidx p l)=l.any p:=by
 unfold fidx
 split
 ·rename_i i h
  rw [List.findIdx?_eq_some_iff_getElem] at h
  obtain ⟨hlt,hp,_⟩:=h
  have:l.any p=true:=List.any_eq_true.2 ⟨l[i],by simp,hp⟩
  simp [this]
 ·rename_i h
  rw [List.findIdx?_eq_none_iff] at h
  have:l.any p=false:=by rw [List.any_eq_false];intro x hx;simp [h x hx]
  simp [this]
def itmv (x:Itm):DV:=.agg ((encItem x).map .im)
def dimv (x:Dim):DV:=.agg ((encDim x).map .im)
attribute [simp] itmv dimv
theorem indexFunc_int (l:List Int) (p:Int→Bool) (k:Nat) (caps:List DC) (objs:List DObj) (hok:CallOk Tryz.prog k) (hf:∀ x∈l,DCall Tryz.prog G k (iv x :: caps.map .one) objs (fun d o=>d=bv (p x)∧o=objs)) (hl:l.length < 1000000):DCall Tryz.prog G 70 [.one (.im (.sl (l.map encI))),.one (.fn (.func k) caps)] objs (fun d o=>d=iv (fidx p l)∧o=objs):=by
 refine DCall_intro Tryz.func70 rfl Tryz.ntmps70 (by simp) rfl ?_
 have hs:True:=trivial
 repeat' first|(with_reducible first|refine q01 ?_|refine q11 ?_|refine q12 ?_)|(with_reducible refine DT_regionE [0,1,4,5,7,8,9,16] ?_;simp -dsimp [hs])
 all_goals try simp -dsimp [hs]
 all_goals try clear hs
 refine DT_loop (ι:={ k:Nat // k≤l.length∧∀ j x,j < k→l[j]?=some x→p x=false }) (fun i=>⟨19,[(0,.one (.im (.sl (l.map encI)))),(1,.one (.fn (.func k) caps)),(7,iv (l.length:Int)),(8,iv (i.1:Int))],objs⟩) (fun i=>l.length - i.1) ⟨0,by simp⟩ (Weak.of_keep [0,1,7,8] (by simp)) ?_
 rintro ⟨i,hi,hno⟩
 simp only [iv]
 by_cases hlt:i < l.length
 ·have hx:l[i]?=some l[i]:=by simp [hlt]
  have hw:IntKind.i64.wrap ((i:Int) + 1)=((i + 1:Nat):Int):=i64w (by omega) (by omega)
  have hc:=hf l[i] (by simp)
  simp only [iv,encI,List.map_cons,List.map_nil,bv,rI] at hc
  have hs:True:=trivial
  repeat' first|(with_reducible first|refine q01 ?_|refine q02 ?_|refine q03 ?_|refine q04 ?_|refine q05 ?_|refine q06 ?_|refine q11 ?_|refine q12 ?_|refine q14 ?_|refine q16 ?_|refine q17 ?_|refine And.intro (by omega) ?_)|(with_reducible refine At.fn_ret (by simp -dsimp [hx,hw,hok,hs];exact rfl) ?_)|(refine CallE.here hc ?_;try simp -dsimp [hx,hw,hok,hs])|(with_reducible refine DT_regionE [0,1,4,5,7,8,9,16] ?_;simp -dsimp [hx,hw,hok,hs])|(refine DT_cond rfl (fun h=>?_) (fun h=>?_)<;>(try simp only [nrm] at h)<;>(try exact Bool.noConfusion h))|with_reducible refine And.intro ?_ ?_
  all_goals try simp -dsimp [hx,hw,hok,hs]
  all_goals try clear hs
  all_goals try omega
  ·exact (fidx_yes hx (by assumption) hno).symm
  ·exact At.round ⟨i + 1,by omega,fun j x hj hjx=>by
    by_cases e:j=i
    ·subst e;rw [hx] at hjx;cases hjx;assumption
    ·exact hno j x (by omega) hjx⟩ (by simp;omega) (Weak.of_keep [0,1,7,8] (by simp))
 ·have hs:True:=trivial
  repeat' first|(with_reducible first|refine q01 ?_|refine q03 ?_|refine q06 ?_|refine q11 ?_|refine q12 ?_|refine q14 ?_|refine q16 ?_|refine q17 ?_)|(with_reducible refine At.fn_ret (by simp -dsimp [hs];exact rfl) ?_)|(with_reducible refine DT_regionE [0,1,4,5,7,8,9,16] ?_;simp -dsimp [hs])|(refine DT_cond rfl (fun h=>?_) (fun h=>?_)<;>(try simp only [nrm] at h)<;>(try exact Bool.noConfusion h))|with_reducible refine And.intro ?_ ?_
  all_goals try simp -dsimp [hs]
  all_goals try clear hs
  all_goals try omega
  exact (fidx_no fun j x hjx=>hno j x (by have:=lt_of_getElem? hjx;omega) hjx).symm
theorem containsFunc_int (l:List Int) (p:Int→Bool) (k:Nat) (caps:List DC) (objs:List DObj) (hok:CallOk Tryz.prog k) (hf:∀ x∈l,DCall Tryz.prog G k (iv x :: caps.map .one) objs (fun d o=>d=bv (p x)∧o=objs)) (hl:l.length < 1000000):DCall Tryz.prog G 42 [.one (.im (.sl (l.map encI))),.one (.fn (.func k) caps)] objs (fun d o=>d=bv (l.any p)∧o=objs):=by
 refine DCall_intro Tryz.func42 rfl Tryz.ntmps42 (by simp) rfl ?_
 have hc:=indexFunc_int l p k caps objs hok hf hl
 have hs:True:=trivial
 repeat' first|(with_reducible first|refine q01 ?_|refine q11 ?_|refine q17 ?_)|(with_reducible refine At.fn_ret (by simp -dsimp [hs];exact rfl) ?_)|(refine CallE.here hc ?_;try simp -dsimp [hs])|(with_reducible refine DT_regionE [0,1,4] ?_;simp -dsimp [hs])|with_reducible refine And.intro ?_ ?_
 all_goals try simp -dsimp [hs]
 all_goals try clear hs
 simp [fidx_nonneg]
theorem indexFunc_itm (l:List Itm) (p:Itm→Bool) (k:Nat) (caps:List DC) (objs:List DObj) (hok:CallOk Tryz.prog k) (hf:∀ x∈l,DCall Tryz.prog G k (itmv x :: caps.map .one) objs (fun d o=>d=bv (p x)∧o=objs)) (hl:l.length < 1000000):DCall Tryz.prog G 111 [.one (.im (.sl (l.map encItem))),.one (.fn (.func k) caps)] objs (fun d o=>d=iv (fidx p l)∧o=objs):=by
 refine DCall_intro Tryz.func111 rfl Tryz.ntmps111 (by simp) rfl ?_
 have hs:True:=trivial
 repeat' first|(with_reducible first|refine q01 ?_|refine q11 ?_|refine q12 ?_)|(with_reducible refine DT_regionE [0,1,4,5,7,8,9,16] ?_;simp -dsimp [hs])
 all_goals try simp -dsimp [hs]
 all_goals try clear hs
 refine DT_loop (ι:={ k:Nat // k≤l.length∧∀ j x,j < k→l[j]?=some x→p x=false }) (fun i=>⟨19,[(0,.one (.im (.sl (l.map encItem)))),(1,.one (.fn (.func k) caps)),(7,iv (l.length:Int)),(8,iv (i.1:Int))],objs⟩) (fun i=>l.length - i.1) ⟨0,by simp⟩ (Weak.of_keep [0,1,7,8] (by simp)) ?_
 rintro ⟨i,hi,hno⟩
 simp only [iv]
 by_cases hlt:i < l.length
 ·have hx:l[i]?=some l[i]:=by simp [hlt]
  have hw:IntKind.i64.wrap ((i:Int) + 1)=((i + 1:Nat):Int):=i64w (by omega) (by omega)
  have hc:=hf l[i] (by simp)
  simp only [itmv,encItem,List.map_cons,List.map_nil,bv,rI] at hc
  have hs:True:=trivial
  repeat' first|(with_reducible first|refine q01 ?_|refine q02 ?_|refine q03 ?_|refine q04 ?_|refine q05 ?_|refine q06 ?_|refine q11 ?_|refine q12 ?_|refine q14 ?_|refine q16 ?_|refine q17 ?_|refine And.intro (by omega) ?_)|(with_reducible refine At.fn_ret (by simp -dsimp [hx,hw,hok,hs];exact rfl) ?_)|(refine CallE.here hc ?_;try simp -dsimp [hx,hw,hok,hs])|(with_reducible refine DT_regionE [0,1,4,5,7,8,9,16] ?_;simp -dsimp [hx,hw,hok,hs])|(refine DT_cond rfl (fun h=>?_) (fun h=>?_)<;>(try simp only [nrm] at h)<;>(try exact Bool.noConfusion h))|with_reducible refine And.intro ?_ ?_
  all_goals try simp -dsimp [hx,hw,hok,hs]
  all_goals try clear hs
  all_goals try omega
  ·exact (fidx_yes hx (by assumption) hno).symm
  ·exact At.round ⟨i + 1,by omega,fun j x hj hjx=>by
    by_cases e:j=i
    ·subst e;rw [hx] at hjx;cases hjx;assumption
    ·exact hno j x (by omega) hjx⟩ (by simp;omega) (Weak.of_keep [0,1,7,8] (by simp))
 ·have hs:True:=trivial
  repeat' first|(with_reducible first|refine q01 ?_|refine q03 ?_|refine q06 ?_|refine q11 ?_|refine q12 ?_|refine q14 ?_|refine q16 ?_|refine q17 ?_)|(with_reducible refine At.fn_ret (by simp -dsimp [hs];exact rfl) ?_)|(with_reducible refine DT_regionE [0,1,4,5,7,8,9,16] ?_;simp -dsimp [hs])|(refine DT_cond rfl (fun h=>?_) (fun h=>?_)<;>(try simp only [nrm] at h)<;>(try exact Bool.noConfusion h))|with_reducible refine And.intro ?_ ?_
  all_goals try simp -dsimp [hs]
  all_goals try clear hs
  all_goals try omega
  exact (fidx_no fun j x hjx=>hno j x (by have:=lt_of_getElem? hjx;omega) hjx).symm
theorem containsFunc_itm (l:List Itm) (p:Itm→Bool) (k:Nat) (caps:List DC) (objs:List DObj) (hok:CallOk Tryz.prog k) (hf:∀ x∈l,DCall Tryz.prog G k (itmv x :: caps.map .one) objs (fun d o=>d=bv (p x)∧o=objs)) (hl:l.length < 1000000):DCall Tryz.prog G 81 [.one (.im (.sl (l.map encItem))),.one (.fn (.func k) caps)] objs (fun d o=>d=bv (l.any p)∧o=objs):=by
 refine DCall_intro Tryz.func81 rfl Tryz.ntmps81 (by simp) rfl ?_
 have hc:=indexFunc_itm l p k caps objs hok hf hl
 have hs:True:=trivial
 repeat' first|(with_reducible first|refine q01 ?_|refine q11 ?_|refine q17 ?_)|(with_reducible refine At.fn_ret (by simp -dsimp [hs];exact rfl) ?_)|(refine CallE.here hc ?_;try simp -dsimp [hs])|(with_reducible refine DT_regionE [0,1,4] ?_;simp -dsimp [hs])|with_reducible refine And.intro ?_ ?_
 all_goals try simp -dsimp [hs]
 all_goals try clear hs
 simp [fidx_nonneg]
theorem indexFunc_dim (l:List Dim) (p:Dim→Bool) (k:Nat) (caps:List DC) (objs:List DObj) (hok:CallOk Tryz.prog k) (hf:∀ x∈l,DCall Tryz.prog G k (dimv x :: caps.map .one) objs (fun d o=>d=bv (p x)∧o=objs)) (hl:l.length < 1000000):DCall Tryz.prog G 173 [.one (.im (.sl (l.map encDim))),.one (.fn (.func k) caps)] objs (fun d o=>d=iv (fidx p l)∧o=objs):=by
 refine DCall_intro Tryz.func173 rfl Tryz.ntmps173 (by simp) rfl ?_
 have hs:True:=trivial
 repeat' first|(with_reducible first|refine q01 ?_|refine q11 ?_|refine q12 ?_)|(with_reducible refine DT_regionE [0,1,4,5,7,8,9,16] ?_;simp -dsimp [hs])
 all_goals try simp -dsimp [hs]
 all_goals try clear hs
 refine DT_loop (ι:={ k:Nat // k≤l.length∧∀ j x,j < k→l[j]?=some x→p x=false }) (fun i=>⟨19,[(0,.one (.im (.sl (l.map encDim)))),(1,.one (.fn (.func k) caps)),(7,iv (l.length:Int)),(8,iv (i.1:Int))],objs⟩) (fun i=>l.length - i.1) ⟨0,by simp⟩ (Weak.of_keep [0,1,7,8] (by simp)) ?_
 rintro ⟨i,hi,hno⟩
 simp only [iv]
 by_cases hlt:i < l.length
 ·have hx:l[i]?=some l[i]:=by simp [hlt]
  have hw:IntKind.i64.wrap ((i:Int) + 1)=((i + 1:Nat):Int):=i64w (by omega) (by omega)
  have hc:=hf l[i] (by simp)
  simp only [dimv,encDim,List.map_cons,List.map_nil,bv,rI] at hc
  have hs:True:=trivial
  repeat' first|(with_reducible first|refine q01 ?_|refine q02 ?_|refine q03 ?_|refine q04 ?_|refine q05 ?_|refine q06 ?_|refine q11 ?_|refine q12 ?_|refine q14 ?_|refine q16 ?_|refine q17 ?_|refine And.intro (by omega) ?_)|(with_reducible refine At.fn_ret (by simp -dsimp [hx,hw,hok,hs];exact rfl) ?_)|(refine CallE.here hc ?_;try simp -dsimp [hx,hw,hok,hs])|(with_reducible refine DT_regionE [0,1,4,5,7,8,9,16] ?_;simp -dsimp [hx,hw,hok,hs])|(refine DT_cond rfl (fun h=>?_) (fun h=>?_)<;>(try simp only [nrm] at h)<;>(try exact Bool.noConfusion h))|with_reducible refine And.intro ?_ ?_
  all_goals try simp -dsimp [hx,hw,hok,hs]
  all_goals try clear hs
  all_goals try omega
  ·exact (fidx_yes hx (by assumption) hno).symm
  ·exact At.round ⟨i + 1,by omega,fun j x hj hjx=>by
    by_cases e:j=i
    ·subst e;rw [hx] at hjx;cases hjx;assumption
    ·exact hno j x (by omega) hjx⟩ (by simp;omega) (Weak.of_keep [0,1,7,8] (by simp))
 ·have hs:True:=trivial
  repeat' first|(with_reducible first|refine q01 ?_|refine q03 ?_|refine q06 ?_|refine q11 ?_|refine q12 ?_|refine q14 ?_|refine q16 ?_|refine q17 ?_)|(with_reducible refine At.fn_ret (by simp -dsimp [hs];exact rfl) ?_)|(with_reducible refine DT_regionE [0,1,4,5,7,8,9,16] ?_;simp -dsimp [hs])|(refine DT_cond rfl (fun h=>?_) (fun h=>?_)<;>(try simp only [nrm] at h)<;>(try exact Bool.noConfusion h))|with_reducible refine And.intro ?_ ?_
  all_goals try simp -dsimp [hs]
  all_goals try clear hs
  all_goals try omega
  exact (fidx_no fun j x hjx=>hno j x (by have:=lt_of_getElem? hjx;omega) hjx).symm
theorem containsFunc_dim (l:List Dim) (p:Dim→Bool) (k:Nat) (caps:List DC) (objs:List DObj) (hok:CallOk Tryz.prog k) (hf:∀ x∈l,DCall Tryz.prog G k (dimv x :: caps.map .one) objs (fun d o=>d=bv (p x)∧o=objs)) (hl:l.length < 1000000):DCall Tryz.prog G 170 [.one (.im (.sl (l.map encDim))),.one (.fn (.func k) caps)] objs (fun d o=>d=bv (l.any p)∧o=objs):=by
 refine DCall_intro Tryz.func170 rfl Tryz.ntmps170 (by simp) rfl ?_
 have hc:=indexFunc_dim l p k caps objs hok hf hl
 have hs:True:=trivial
 repeat' first|(with_reducible first|refine q01 ?_|refine q11 ?_|refine q17 ?_)|(with_reducible refine At.fn_ret (by simp -dsimp [hs];exact rfl) ?_)|(refine CallE.here hc ?_;try simp -dsimp [hs])|(with_reducible refine DT_regionE [0,1,4] ?_;simp -dsimp [hs])|with_reducible refine And.intro ?_ ?_
 all_goals try simp -dsimp [hs]
 all_goals try clear hs
 simp [fidx_nonneg]
theorem clone_itm (l:List Itm) (hl:l.length < 1000000) (objs:List DObj):DCall Tryz.prog G 61 [.one (.im (.sl (l.map encItem)))] objs (fun d objs'=>d=.one (.im (.sl (l.map encItem)))∧objs'=objs):=by
 refine DCall.frame ?_ (by simp) (by simp) objs
 refine DCall_intro Tryz.func61 rfl Tryz.ntmps61 (by simp) rfl ?_
 have hs:True:=trivial
 repeat' first|(with_reducible first|refine q01 ?_|refine q02 ?_|refine q11 ?_|refine q14 ?_|refine q17 ?_|refine And.intro (by omega) ?_)|(with_reducible refine At.fn_ret (by simp -dsimp [hs];exact rfl) ?_)|(with_reducible refine DT_regionE [0,2,4] ?_;simp -dsimp [hs])|(refine DT_cond rfl (fun h=>?_) (fun h=>?_)<;>(try simp only [nrm] at h)<;>(try exact Bool.noConfusion h))|(with_reducible refine imp_At (fun h=>?_);(try simp only [List.map_eq_nil_iff] at h);(try subst h);try simp -dsimp [hs])|with_reducible refine And.intro ?_ ?_
 all_goals try simp -dsimp [hs]
 all_goals try clear hs
 all_goals omega
theorem clone_dim (l:List Dim) (hl:l.length < 1000000) (objs:List DObj):DCall Tryz.prog G 62 [.one (.im (.sl (l.map encDim)))] objs (fun d objs'=>d=.one (.im (.sl (l.map encDim)))∧objs'=objs):=by
 refine DCall.frame ?_ (by simp) (by simp) objs
 refine DCall_intro Tryz.func62 rfl Tryz.ntmps62 (by simp) rfl ?_
 have hs:True:=trivial
 repeat' first|(with_reducible first|refine q01 ?_|refine q02 ?_|refine q11 ?_|refine q14 ?_|refine q17 ?_|refine And.intro (by omega) ?_)|(with_reducible refine At.fn_ret (by simp -dsimp [hs];exact rfl) ?_)|(with_reducible refine DT_regionE [0,2,4] ?_;simp -dsimp [hs])|(refine DT_cond rfl (fun h=>?_) (fun h=>?_)<;>(try simp only [nrm] at h)<;>(try exact Bool.noConfusion h))|(with_reducible refine imp_At (fun h=>?_);(try simp only [List.map_eq_nil_iff] at h);(try subst h);try simp -dsimp [hs])|with_reducible refine And.intro ?_ ?_
 all_goals try simp -dsimp [hs]
 all_goals try clear hs
 all_goals omega
end Go.Proofs
