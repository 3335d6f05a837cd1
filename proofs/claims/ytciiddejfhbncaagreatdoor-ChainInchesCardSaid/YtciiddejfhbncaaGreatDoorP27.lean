/- Part 27 of the proofs: laws and walks that hold without conditions beyond those that each theorem names. -/
import Derived.Test.YtciiddejfhbncaaGreatDoorP11
import Derived.Test.YtciiddejfhbncaaGreatDoorP21
import Derived.Test.YtciiddejfhbncaaGreatDoorP23
import Derived.Test.YtciiddejfhbncaaGreatDoorP26
set_option linter.all false
set_option linter.deprecated false
namespace Go.Proofs
open Go Go.Ab
set_option linter.unusedSimpArgs false
variable {G:Nat→Option (List IC)}
def SmallG (c:Chains):Prop:=Small c.reg∧c.lets.length≤80∧c.loops.length≤10∧∀ x∈c.loops,x.links.length≤12
def smallB (c:Chains):Bool:=open Classical in decide (Small c.reg) && (decide (c.lets.length≤80) && decide (c.loops.length≤10) && c.loops.all fun x=>decide (x.links.length≤12))
set_option maxHeartbeats 1000000 in
theorem great6_c (c:Chains) (objs:List DObj):DCall Tryz.prog G 15 [chv c] objs (fun rr objs'=>rr=bv (!smallB c)∧objs'=objs):=by
 refine DCall.frame ?_ (by simp) (by simp) objs
 refine DCall_intro Tryz.func15 rfl Tryz.ntmps15 (by simp) rfl ?_
 try simp only [chv]
 have c1:=great_c (G:=G) c.reg
 have hE:smallB c=(open Classical in decide (Small c.reg) && (decide (c.lets.length≤80) && decide (c.loops.length≤10) && c.loops.all fun x=>decide (x.links.length≤12))):=rfl
 by_cases hS:Small c.reg
 ·have e1:(!(open Classical in decide (Small c.reg)))=false:=by simp [hS]
  have c1':∀ objs,DCall Tryz.prog G 61 [regv c.reg] objs (fun d objs'=>d=bv false∧objs'=objs):=fun objs=>(c1 objs).mono fun d o ⟨h1,h2⟩=>⟨by rw [h1];simp [hS],h2⟩
  rw [decide_eq_true hS,Bool.true_and] at hE
  by_cases h80:c.lets.length≤80
  ·have h80':¬ (80:Int) < (c.lets.length:Int):=by omega
   by_cases h10:c.loops.length≤10
   ·have h10':¬ (10:Int) < (c.loops.length:Int):=by omega
    rw [decide_eq_true h80,decide_eq_true h10,Bool.true_and,Bool.true_and] at hE
    have hs:True:=trivial
    repeat' first|(with_reducible first|refine q01 ?_|refine q11 ?_|refine q12 ?_|refine q14 ?_)|(refine CallE.pure (c1') ?_;try simp -dsimp [h80',h10',hs])|(with_reducible refine DT_regionE [0,1,2,3,18,23,33] ?_;simp -dsimp [h80',h10',hs])|(refine DT_cond rfl (fun h=>?_) (fun h=>?_)<;>(try simp only [nrm] at h)<;>(try exact Bool.noConfusion h))
    all_goals try simp -dsimp [h80',h10',hs]
    all_goals try clear hs
    refine DT_loop (ι:={ k:Nat // k≤c.loops.length∧(c.loops.all fun x=>decide (x.links.length≤12))=(c.loops.drop k).all fun x=>decide (x.links.length≤12) }) (fun p=>⟨34,[(1,.one (.ptr 0 0)),(2,bv false),(3,iv (p.1:Int))],[.row ((encChains c).map .im)]⟩) (fun p=>c.loops.length - p.1) ⟨0,by simp⟩ (Weak.of_keep [1,2,3] (by simp)) ?_
    rintro ⟨k,hk,hall⟩
    simp only [iv,bv]
    by_cases hlt:k < c.loops.length
    ·have hx:c.loops[k]?=some c.loops[k]:=by simp [hlt]
     have hw:IntKind.i64.wrap ((k:Int) + 1)=((k + 1:Nat):Int):=i64w (by omega) (by omega)
     have hst:=all_step hlt hall
     by_cases h12:c.loops[k].links.length≤12
     ·have h12':¬ (12:Int) < (c.loops[k].links.length:Int):=by omega
      have hs:True:=trivial
      repeat' first|(with_reducible first|refine q01 ?_|refine q04 ?_|refine q11 ?_|refine q12 ?_|refine q14 ?_)|(with_reducible refine DT_regionE [0,1,2,3,18,23,33] ?_;simp -dsimp [hx,hlt,hw,h12',hs])|(refine DT_cond rfl (fun h=>?_) (fun h=>?_)<;>(try simp only [nrm] at h)<;>(try exact Bool.noConfusion h))
      all_goals try simp -dsimp [hx,hlt,hw,h12',hs]
      all_goals try clear hs
      exact At.round ⟨k + 1,by omega,eq_of_step hst (by simpa using h12)⟩ (by simp;omega) (Weak.of_keep [1,2,3] (by simp))
     ·have h12':(12:Int) < (c.loops[k].links.length:Int):=by omega
      have hs:True:=trivial
      repeat' first|(with_reducible first|refine q01 ?_|refine q02 ?_|refine q05 ?_|refine q11 ?_|refine q12 ?_|refine q14 ?_|refine q17 ?_)|(with_reducible refine At.fn_ret (by simp -dsimp [hx,hlt,hw,h12',hs];exact rfl) ?_)|(with_reducible refine DT_regionE [0,1,2,3,18,23,33] ?_;simp -dsimp [hx,hlt,hw,h12',hs])|(refine DT_cond rfl (fun h=>?_) (fun h=>?_)<;>(try simp only [nrm] at h)<;>(try exact Bool.noConfusion h))
      all_goals try simp -dsimp [hx,hlt,hw,h12',hs]
      all_goals try clear hs
      rw [hE,false_step hst (by simpa using h12)];try rfl
    ·have hok:(c.loops.all fun x=>decide (x.links.length≤12))=true:=by rw [hall,List.drop_eq_nil_of_le (by omega)];rfl
     have hs:True:=trivial
     repeat' first|(with_reducible first|refine q01 ?_|refine q03 ?_|refine q06 ?_|refine q11 ?_|refine q16 ?_|refine q17 ?_)|(with_reducible refine At.fn_ret (by simp -dsimp [hlt,hs];exact rfl) ?_)|(with_reducible refine DT_regionE [0,1,2,3,18,23,33] ?_;simp -dsimp [hlt,hs])|(refine DT_cond rfl (fun h=>?_) (fun h=>?_)<;>(try simp only [nrm] at h)<;>(try exact Bool.noConfusion h))
     all_goals try simp -dsimp [hlt,hs]
     all_goals try clear hs
     rw [hE,hok];try rfl
   ·have h10':(10:Int) < (c.loops.length:Int):=by omega
    rw [decide_eq_false h10,Bool.and_false,Bool.false_and] at hE
    have hs:True:=trivial
    repeat' first|(with_reducible first|refine q01 ?_|refine q02 ?_|refine q11 ?_|refine q17 ?_)|(with_reducible refine At.fn_ret (by simp -dsimp [h80',h10',hs];exact rfl) ?_)|(refine CallE.pure (c1') ?_;try simp -dsimp [h80',h10',hs])|(with_reducible refine DT_regionE [0,1,2,3,18,23,33] ?_;simp -dsimp [h80',h10',hs])|(refine DT_cond rfl (fun h=>?_) (fun h=>?_)<;>(try simp only [nrm] at h)<;>(try exact Bool.noConfusion h))
    all_goals try simp -dsimp [h80',h10',hs]
    all_goals try clear hs
    rw [hE];try rfl
  ·have h80':(80:Int) < (c.lets.length:Int):=by omega
   rw [decide_eq_false h80,Bool.false_and,Bool.false_and] at hE
   have hs:True:=trivial
   repeat' first|(with_reducible first|refine q01 ?_|refine q02 ?_|refine q11 ?_|refine q17 ?_)|(with_reducible refine At.fn_ret (by simp -dsimp [h80',hs];exact rfl) ?_)|(refine CallE.pure (c1') ?_;try simp -dsimp [h80',hs])|(with_reducible refine DT_regionE [0,1,2,3,18,23,33] ?_;simp -dsimp [h80',hs])|(refine DT_cond rfl (fun h=>?_) (fun h=>?_)<;>(try simp only [nrm] at h)<;>(try exact Bool.noConfusion h))
   all_goals try simp -dsimp [h80',hs]
   all_goals try clear hs
   rw [hE];try rfl
 ·have c1':∀ objs,DCall Tryz.prog G 61 [regv c.reg] objs (fun d objs'=>d=bv true∧objs'=objs):=fun objs=>(c1 objs).mono fun d o ⟨h1,h2⟩=>⟨by rw [h1];simp [hS],h2⟩
  rw [decide_eq_false hS,Bool.false_and] at hE
  have hs:True:=trivial
  repeat' first|(with_reducible first|refine q01 ?_|refine q02 ?_|refine q11 ?_|refine q17 ?_)|(with_reducible refine At.fn_ret (by simp -dsimp [hs];exact rfl) ?_)|(refine CallE.pure (c1') ?_;try simp -dsimp [hs])|(with_reducible refine DT_regionE [0,1,2,3,18,23,33] ?_;simp -dsimp [hs])|(refine DT_cond rfl (fun h=>?_) (fun h=>?_)<;>(try simp only [nrm] at h)<;>(try exact Bool.noConfusion h))
  all_goals try simp -dsimp [hs]
  all_goals try clear hs
  rw [hE];try rfl
end Go.Proofs
namespace Go.Proofs
open Go Go.Ab
set_option linter.unusedSimpArgs false
variable {G:Nat→Option (List IC)}
def KindOk (l:List Issue):Prop:=∀ x∈l,0≤x.kind∧x.kind≤255
theorem smallB_iff {c:Chains}:smallB c=true↔SmallG c:=by
 simp only [smallB,SmallG,Bool.and_eq_true,decide_eq_true_eq,List.all_eq_true,and_assoc]
end Go.Proofs
namespace Go.Proofs
open Go Go.Ab
set_option linter.unusedSimpArgs false
variable {G:Nat→Option (List IC)}
theorem allSpots_len {c:Chains} (h:OkC c) (hs:SmallC c):(allSpots c).length≤120:=by
 have h0:=(spots_perm h).length_eq
 have h1:=List.length_filter_le (looseP (tkM c.reg c.lets)) ((spotsOf c).foldl (fun l x=>sputS x l) [])
 have h2:=foldP_len (spotsOf c) []
 have h3:=spots_len c.loops hs.2.2.2
 have h4:=hs.2.2.1
 simp only [spotsOf,List.length_nil] at *
 omega
end Go.Proofs
namespace Go.Proofs
open Go Go.Ab
set_option linter.unusedSimpArgs false
variable {G:Nat→Option (List IC)}
attribute [simp] permL reO gones noLoop nilV nilX ZK
end Go.Proofs
namespace Go.Proofs
open Go Go.Ab
set_option linter.unusedSimpArgs false
variable {G:Nat→Option (List IC)}
attribute [simp] permL reO gones noLoop nilV nilX ZK
end Go.Proofs
namespace Go.Proofs
open Go Go.Ab
set_option linter.unusedSimpArgs false
variable {G:Nat→Option (List IC)}
attribute [simp] permL reO cutL cutE gones noLoop nilV nilX ZK
theorem cloneDM_c (l:List Dim) (hl:l.length < 1000):DCall Tryz.prog G 71 [.one (.im (.sl (l.map encDim)))] [] (fun d o=>∃ i:Nat×Bool,(i.2=true→l=[])∧d=.one (.vec 1 i.1 0 l.length)∧o=[.vec 3 [] 0 true,.vec 3 (ims (l.map encDim)) i.1 i.2]):=by
 refine DCall_intro Tryz.func71 rfl Tryz.ntmps71 (by simp) rfl ?_
 have hs:True:=trivial
 repeat' first|(with_reducible first|refine q01 ?_|refine q02 ?_|refine q11 ?_|refine q14 ?_|refine q17 ?_|refine And.intro (by omega) ?_)|(with_reducible refine At.fn_ret (by simp -dsimp [hs];exact rfl) ?_)|(with_reducible refine DT_regionE [0,2,4] ?_;simp -dsimp [hs])|(refine DT_cond rfl (fun h=>?_) (fun h=>?_)<;>(try simp only [nrm] at h)<;>(try exact Bool.noConfusion h))|(with_reducible refine imp_At (fun h=>?_);(try simp only [List.map_eq_nil_iff] at h);(try subst h);try simp -dsimp [hs])|with_reducible refine And.intro ?_ ?_
 all_goals try simp -dsimp [hs]
 all_goals try clear hs
@[simp] theorem ims_getDm (L:List Dim) (k:Nat) (h:k < (ims (L.map encDim)).length):(ims (L.map encDim))[k]=[DC.im (.raw (.int .i64 (L[k]'(by simpa [ims_length] using h)).nominal)),DC.im (.raw (.int .i64 (L[k]'(by simpa [ims_length] using h)).lower)),DC.im (.raw (.int .i64 (L[k]'(by simpa [ims_length] using h)).upper))]:=by
 simp [ims,encDim,rI]
theorem ims_setDm (L:List Dim) (k:Nat) (d:Dim):(ims (L.map encDim)).set k [DC.im (.raw (.int .i64 d.nominal)),DC.im (.raw (.int .i64 d.lower)),DC.im (.raw (.int .i64 d.upper))]=ims ((L.set k d).map encDim):=by
 simp [ims,encDim,rI,List.map_set]
def mixD (T ds:List Dim) (k:Nat):List Dim:=T.take k ++ ds.drop k
theorem mix_len {T ds:List Dim} (hl:T.length=ds.length) {k:Nat} (hk:k≤ds.length):(mixD T ds k).length=ds.length:=by
 simp [mixD];omega
theorem mix_end {T ds:List Dim} (hl:T.length=ds.length):mixD T ds ds.length=T:=by simp [mixD,← hl]
theorem mix_get {T ds:List Dim} (hl:T.length=ds.length) {k:Nat} (hk:k < ds.length):(mixD T ds k)[k]?=some ds[k]:=by
 rw [mixD,List.getElem?_append_right (by simp;omega)]
 simp [show k - min k T.length=0 by omega,hk]
theorem mix_set {T ds:List Dim} (hl:T.length=ds.length) {k:Nat} (hk:k < ds.length) {d:Dim} (hd:T[k]?=some d):(mixD T ds k).set k d=mixD T ds (k + 1):=by
 have hkT:k < T.length:=by omega
 have hTk:T[k]=d:=by rw [List.getElem?_eq_getElem hkT] at hd;exact Option.some.inj hd
 rw [mixD,List.set_append_right _ _ (by simp;omega),mixD]
 rw [List.take_succ_eq_append_getElem hkT,hTk,List.append_assoc]
 congr 1
 rw [show k - (T.take k).length=0 by simp;omega,List.drop_eq_getElem_cons hk,List.set_cons_zero]
 rfl
theorem mix_same {T ds:List Dim} (hl:T.length=ds.length) {k:Nat} (hk:k < ds.length) (hd:T[k]?=some ds[k]):mixD T ds (k + 1)=mixD T ds k:=by
 rw [← mix_set hl hk hd]
 exact set_self (mix_get hl hk)
def tgT (l:List Spot) (g:Int) (x:Issue):List Dim:=x.dims.mapIdx fun i d=>if inS l ⟨x.drawing,(i:Int)⟩ then tightD d g else d
theorem tgT_len (l:List Spot) (g:Int) (x:Issue):(tgT l g x).length=x.dims.length:=by simp [tgT]
theorem tgT_get (l:List Spot) (g:Int) (x:Issue) {k:Nat} (hk:k < x.dims.length):(tgT l g x)[k]?=some (if inS l ⟨x.drawing,(k:Int)⟩ then tightD x.dims[k] g else x.dims[k]):=by simp [tgT,hk]
set_option maxHeartbeats 1000000 in
theorem tighten1_c (x:Issue) (l:List Spot) (g:Int) (hx:x.dims.length≤8) (hd:∀ d∈x.dims,dimOk d=true) (hl:l.length < 1000000) (h0:0≤g) (h1:g≤2000000000) (objs:List DObj):DCall Tryz.prog G 70 [issv x,.one (.im (.ip [.sl (l.map encSpot)])),.one (.im (.ip [rI g]))] objs (fun rr objs'=>rr=.tup [.one (.im (.sl ((tgT l g x).map encDim))),iv 0]∧objs'=objs):=by
 refine DCall.frame ?_ (by simp) (by simp) objs
 refine DCall_intro Tryz.func70 rfl Tryz.ntmps70 (by simp) rfl ?_
 try simp only [issv]
 have c1:=cloneDM_c (G:=G) x.dims (by omega)
 simp only [issv,encIssue,rI,List.map_cons,List.map_nil]
 have hs:True:=trivial
 repeat' first|(with_reducible first|refine q01 ?_|refine q11 ?_|refine q12 ?_)|(refine CallE.embed_ex [] (c1) ?_ ?_ ?_ ?_ ?_ ?_;(focus (simp [emb];done));(focus (simp;done));(focus (simp;done));(focus (simp;done));(focus (refine emb_all ?_;simp [emb,embAll];done));intro mmA hmmA;try simp -dsimp [mergeO,emb,hs])|(with_reducible refine DT_regionE [0,1,2,3,4,5,6,7,12,13,14,21] ?_;simp -dsimp [hs])
 all_goals try simp -dsimp [hs]
 all_goals try clear hs
 have hTl:=tgT_len l g x
 have hTg:=fun k hk=>tgT_get l g x (k:=k) hk
 generalize tgT l g x=T at *
 refine DT_loop (ι:={ k:Nat // k≤x.dims.length }) (fun k=>⟨33,[(1,.one (.im (.ip [.sl (l.map encSpot)]))),(2,.one (.im (.ip [rI g]))),(3,.one (.ptr 0 0)),(6,.one (.vec 3 mmA.1 0 x.dims.length)),(12,iv (x.dims.length:Int)),(13,iv (k.1:Int))],[.row [.im (rI x.drawing),.im (rI x.letter),.im (.raw (.int .u8 x.kind)),.im (.sl (x.items.map encItem)),.im (.sl (x.dims.map encDim))],.vec 3 [] 0 true,.vec 3 [] 0 true,.vec 3 (ims ((mixD T x.dims k.1).map encDim)) mmA.1 mmA.2]⟩) (fun k=>x.dims.length - k.1) ⟨0,by omega⟩ (Weak.of_keep [1,2,3,6,12,13] (by simp [mixD])) ?_
 rintro ⟨k,hk⟩
 simp only [iv,rI]
 by_cases hlt:k < x.dims.length
 ·have hw:IntKind.i64.wrap ((k:Int) + 1)=((k + 1:Nat):Int):=i64w (by omega) (by omega)
  have hlm:=mix_len hTl hk
  have hge:=mix_get hTl hlt
  have hgm:∀ h,(mixD T x.dims k)[k]'h=x.dims[k]:=fun h=>by rw [List.getElem?_eq_getElem h] at hge;exact Option.some.inj hge
  have hklm:k < (mixD T x.dims k).length:=by omega
  have c2:=containsSp_c (G:=G) l ⟨x.drawing,(k:Int)⟩ hl
  have hTk:=hTg k hlt
  have c3:=tight_c (G:=G) x.dims[k] g (hd _ (List.getElem_mem hlt)) h0 h1
  have hset:=ims_setDm (mixD T x.dims k) k (tightD x.dims[k] g)
  simp only [spotsv,refv] at c2
  generalize hdk:x.dims[k]=dk at *
  cases hin:inS l ⟨x.drawing,(k:Int)⟩
  ·rw [hin] at c2 hTk
   have hst:=mix_same hTl hlt (by rw [hTk,hdk];rfl)
   have hs:True:=trivial
   repeat' first|(with_reducible first|refine q01 ?_|refine q04 ?_|refine q11 ?_|refine q12 ?_|refine q14 ?_)|(refine CallE.pure (c2) ?_;try simp -dsimp [hlt,hw,hs])|(with_reducible refine DT_regionE [0,1,2,3,4,5,6,7,12,13,14,21] ?_;simp -dsimp [hlt,hw,hs])|(refine DT_cond rfl (fun h=>?_) (fun h=>?_)<;>(try simp only [nrm] at h)<;>(try exact Bool.noConfusion h))
   all_goals try simp -dsimp [hlt,hw,hs]
   all_goals try clear hs
   all_goals exact At.round ⟨k + 1,by omega⟩ (by simp;omega) (Weak.of_keep [1,2,3,6,12,13] (by simp [hst]))
  ·rw [hin,if_pos rfl] at hTk
   rw [hin] at c2
   have hst:=mix_set hTl hlt hTk
   rw [hst] at hset
   have hs:True:=trivial
   repeat' first|(with_reducible first|refine q01 ?_|refine q04 ?_|refine q11 ?_|refine q12 ?_|refine q14 ?_)|(refine CallE.pure (c2) ?_;try simp -dsimp [hlt,hw,hlm,hklm,hgm,hset,hs])|(refine QCall_pure (c3) ?_;try simp -dsimp [hlt,hw,hlm,hklm,hgm,hset,hs])|(refine DT_regionM (id:=6) (nt:=33) 9 [0,1,2,3,4,5,6,7,12,13,14,21] mixed rfl (by kernel_rfl) ?_;simp -dsimp [hlt,hw,hlm,hklm,hgm,hset,hs])|(with_reducible refine DT_regionE [0,1,2,3,4,5,6,7,12,13,14,21] ?_;simp -dsimp [hlt,hw,hlm,hklm,hgm,hset,hs])|(refine DT_cond rfl (fun h=>?_) (fun h=>?_)<;>(try simp only [nrm] at h)<;>(try exact Bool.noConfusion h))
   all_goals try simp -dsimp [hlt,hw,hlm,hklm,hgm,hset,hs]
   all_goals try clear hs
   all_goals exact At.round ⟨k + 1,by omega⟩ (by simp;omega) (Weak.of_keep [1,2,3,6,12,13] (by simp [hst]))
 ·obtain rfl:k=x.dims.length:=by omega
  have hme:=mix_end hTl
  have hs:True:=trivial
  repeat' first|(with_reducible first|refine q01 ?_|refine q03 ?_|refine q06 ?_|refine q11 ?_|refine q16 ?_|refine q17 ?_)|(with_reducible refine At.fn_ret (by simp -dsimp [hlt,hme,hs];exact rfl) ?_)|(with_reducible refine DT_regionE [0,1,2,3,4,5,6,7,12,13,14,21] ?_;simp -dsimp [hlt,hme,hs])|(refine DT_cond rfl (fun h=>?_) (fun h=>?_)<;>(try simp only [nrm] at h)<;>(try exact Bool.noConfusion h))
  all_goals try simp -dsimp [hlt,hme,hs]
  all_goals try clear hs
  all_goals (rw [← hTl];simp)
def okL (S:List Spot):Option Spot→List Spot→Bool
 | _,[]=>true
 | p,x :: r=>(inS S x && (match p with|none=>true|some y=>decide (ordS y x < 0))) && okL S (some x) r
theorem okL_cons (S:List Spot) (p:Option Spot) (x:Spot) (r:List Spot):okL S p (x :: r)=((inS S x && (match p with|none=>true|some y=>decide (ordS y x < 0))) && okL S (some x) r):=by cases p<;>rfl
theorem okL_nil (S:List Spot) (p:Option Spot):okL S p []=true:=by cases p<;>rfl
def prevS (l:List Spot):Nat→Option Spot
 | 0=>none
 | k + 1=>l[k]?
def tgF (l:List Spot) (g:Int):Issue→List Dim×Int:=fun x=>(tgT l g x,0)
def tighE (c:Chains) (l:List Spot) (g:Int):Int:=if chainsE c≠0 then chainsE c else if okL (allSpots c) none l=true∧0≤g∧g≤1000000000 then changedE c (tgF l g) else 2
def tighR (c:Chains) (l:List Spot) (g:Int):Chains:=if tighE c l g=0 then changedC c (tgF l g) else zChains
theorem tg_other {c:Chains} (hOk:OkC c) (hsm:SmallC c) {l:List Spot} {g:Int} (hl:l.length < 1000000) (h0:0≤g) (h1:g≤2000000000):OtherF G c (.fn (.func 70) [.ip [.sl (l.map encSpot)],.ip [rI g]]) (tgF l g):=by
 refine ⟨70,_,rfl,by simp,fun n hn=>?_⟩
 have hm:=tk_mem hOk hn
 have h8:=(hsm.1.2 _ hm.1).2.2.2
 refine ⟨by simp only [tgF,tgT_len];exact h8,fun objs=>?_⟩
 refine tighten1_c (G:=G) _ l g h8 (fun d hd=>?_) hl h0 h1 objs
 have h:=(scan_all (listed_scan (check_listed hOk.reg))).2.2.2.1 _ hm.1
 simp only [issueOk,Bool.and_eq_true,List.all_eq_true] at h
 exact h.2 d hd
set_option maxHeartbeats 1000000 in
theorem pTighten_c (c:Chains) (l:List Spot) (g:Int) (hG:sheetG G) (hC:chainG G) (hsm:SmallC c) (hSF:SortFOk G) (hSG:SortGOk G) (hl:l.length < 1000000) (objs:List DObj):DCall Tryz.prog G 17 [chv c,spotsv l,iv g] objs (fun rr objs'=>rr=.tup [chv (tighR c l g),iv (tighE c l g)]∧objs'=objs):=by
 refine DCall.frame ?_ (by simp) (by simp) objs
 refine DCall_intro Tryz.func17 rfl Tryz.ntmps17 (by simp) rfl ?_
 try simp only [chv,iv]
 have c1:=chOpen_c c hG hC hsm
 simp only [spotsv]
 by_cases h00:chainsE c=0
 ·have hOk:=okC h00
  have c2:=spotsF_c (G:=G) (deskC c (cntD c) (tkM c.reg c.lets))
  have c3:=collect_c (G:=G) c (cntD c) hOk hsm hSF
  rw [h00] at c1
  simp only [deskR,h00,if_true,deskC] at c1
  simp only [deskC] at c2 c3
  have hSlen:(allSpots c).length < 1000000:=by have:=allSpots_len hOk hsm;omega
  generalize hS:allSpots c=S at *
  have hs:True:=trivial
  repeat' first|(with_reducible first|refine q01 ?_|refine q11 ?_|refine q12 ?_|refine q14 ?_)|(refine CallE.pure (c1) ?_;try simp -dsimp [hs])|(refine CallE.pure (c2) ?_;try simp -dsimp [hs])|(refine CallE.pure (c3) ?_;try simp -dsimp [hs])|(with_reducible refine DT_regionE [0,1,2,3,4,5,6,7,8,9,10,11,12,19,25,26,27,28,49,55] ?_;simp -dsimp [hs])|(refine DT_cond rfl (fun h=>?_) (fun h=>?_)<;>(try simp only [nrm] at h)<;>(try exact Bool.noConfusion h))
  all_goals try simp -dsimp [hs]
  all_goals try clear hs
  have hE0:tighE c l g=if okL S none l=true∧0≤g∧g≤1000000000 then changedE c (tgF l g) else 2:=by rw [tighE,if_neg (by simp [h00]),hS]
  refine DT_loop (ι:={ k:Nat // k≤l.length∧okL S none l=okL S (prevS l k) (l.drop k) }) (fun k=>⟨62,[(3,.one (.ptr 0 0)),(4,.one (.ptr 1 0)),(5,.one (.ptr 2 0)),(6,.one (.ptr 6 0)),(7,iv 0),(8,.one (.im (deskC c (cntD c) (tkM c.reg c.lets)))),(10,.one (.im (.sl (S.map encSpot)))),(25,.one (.im (.sl (l.map encSpot)))),(26,iv (l.length:Int)),(27,iv (k.1:Int))],
   [.row [.im (.sl (c.reg.map encIssue)),.im (.sl (c.lets.map Ab.encI)),.im (rI c.of),.im (.sl (c.loops.map encLoop))],.row [.im (.sl (l.map encSpot))],.row [.im (rI g)],.vec 0 [] 0 true,.vec 0 [] 0 true,.vec 0 [] 0 true,.row [.vec 3 0 0 0,.vec 4 0 0 0,.im (rI 0),.vec 5 0 0 0]]⟩) (fun k=>l.length - k.1) ⟨0,by simp [prevS]⟩ (Weak.of_keep [3,4,5,6,7,8,10,25,26,27] (by simp [deskC])) ?_
  rintro ⟨k,hk,hok⟩
  simp only [iv,rI,deskC]
  by_cases hlt:k < l.length
  ·obtain ⟨x,hx⟩:∃ x,l[k]?=some x:=⟨l[k],by simp [hlt]⟩
   have hxe:∀ h,l[k]'h=x:=fun h=>by rw [List.getElem?_eq_getElem h] at hx;exact Option.some.inj hx
   have hdr:l.drop k=x :: l.drop (k + 1):=by rw [List.drop_eq_getElem_cons hlt,hxe]
   have hw:IntKind.i64.wrap ((k:Int) + 1)=((k + 1:Nat):Int):=i64w (by omega) (by omega)
   rw [hdr,okL_cons] at hok
   have hpv:prevS l (k + 1)=some x:=hx
   have c4:=containsSp_c (G:=G) S x hSlen
   simp only [spotsv,refv] at c4
   cases hin:inS S x
   ·rw [hin] at c4 hok
    rw [Bool.false_and,Bool.false_and] at hok
    have hE:tighE c l g=2:=by rw [hE0,hok];simp
    rw [tighR,hE,if_neg (by decide)]
    have hs:True:=trivial
    repeat' first|(with_reducible first|refine q01 ?_|refine q02 ?_|refine q05 ?_|refine q11 ?_|refine q12 ?_|refine q14 ?_|refine q17 ?_)|(with_reducible refine At.fn_ret (by simp -dsimp [hlt,hx,hxe,hw,hs];exact rfl) ?_)|(refine QCall_pure (c4) ?_;try simp -dsimp [hlt,hx,hxe,hw,hs])|(refine DT_regionM (id:=8) (nt:=62) 18 [0,1,2,3,4,5,6,7,8,9,10,11,12,19,25,26,27,28,49,55] mixed rfl (by kernel_rfl) ?_;simp -dsimp [hlt,hx,hxe,hw,hs])|(with_reducible refine DT_regionE [0,1,2,3,4,5,6,7,8,9,10,11,12,19,25,26,27,28,49,55] ?_;simp -dsimp [hlt,hx,hxe,hw,hs])|(refine DT_cond rfl (fun h=>?_) (fun h=>?_)<;>(try simp only [nrm] at h)<;>(try exact Bool.noConfusion h))
    all_goals try simp -dsimp [hlt,hx,hxe,hw,hs]
    all_goals try clear hs
    all_goals simp [zChains]
   ·rw [hin] at c4 hok
    rw [Bool.true_and] at hok
    cases k with
    | zero =>
      simp only [prevS,Bool.true_and] at hok
      have hw1:IntKind.i64.wrap 1=1:=by decide
      have hs:True:=trivial
      repeat' first|(with_reducible first|refine q01 ?_|refine q04 ?_|refine q11 ?_|refine q12 ?_|refine q14 ?_)|(refine QCall_pure (c4) ?_;try simp -dsimp [hlt,hx,hxe,hw,hw1,hs])|(refine DT_regionM (id:=8) (nt:=62) 18 [0,1,2,3,4,5,6,7,8,9,10,11,12,19,25,26,27,28,49,55] mixed rfl (by kernel_rfl) ?_;simp -dsimp [hlt,hx,hxe,hw,hw1,hs])|(with_reducible refine DT_regionE [0,1,2,3,4,5,6,7,8,9,10,11,12,19,25,26,27,28,49,55] ?_;simp -dsimp [hlt,hx,hxe,hw,hw1,hs])|(refine DT_cond rfl (fun h=>?_) (fun h=>?_)<;>(try simp only [nrm] at h)<;>(try exact Bool.noConfusion h))
      all_goals try simp -dsimp [hlt,hx,hxe,hw,hw1,hs]
      all_goals try clear hs
      all_goals exact At.round ⟨0 + 1,by omega,by rw [hpv];exact hok⟩ (by simp;omega) (Weak.of_drop [3,4,5,6,7,8,10,25,26,27] 7 (by simp) (by simp) (by simp [deskC,hw1]))
    | succ k =>
      obtain ⟨y,hy⟩:∃ y,l[k]?=some y:=⟨l[k],by simp [show k < l.length by omega]⟩
      have hye:∀ h,l[k]'h=y:=fun h=>by rw [List.getElem?_eq_getElem h] at hy;exact Option.some.inj hy
      simp only [prevS,hy] at hok
      have c5:=order_c (G:=G) y x
      simp only [refv] at c5
      have hw2:IntKind.i64.wrap (k:Int)=(k:Int):=i64w (by omega) (by omega)
      have hw3:((k + 1:Nat):Int) - 1=(k:Int):=by omega
      have hw4:IntKind.i64.wrap ((k:Int) + 1 + 1)=(k:Int) + 1 + 1:=i64w (by omega) (by omega)
      have hltI:(k:Int) + 1 < (l.length:Int):=by omega
      have hkn:(0:Int)≤(k:Int) + 1:=by omega
      have hkq:(0:Int) < (k:Int) + 1:=by omega
      have hkm:¬ ((k:Int) < 0):=by omega
      have hkp:(0:Int) < ((k + 1:Nat):Int):=by omega
      generalize ordS y x=q at *
      by_cases hq:q < 0
      ·rw [decide_eq_true hq,Bool.true_and] at hok
       have hq':¬ (0:Int)≤q:=by omega
       have hs:True:=trivial
       repeat' first|(with_reducible first|refine q01 ?_|refine q04 ?_|refine q11 ?_|refine q12 ?_|refine q14 ?_)|(refine QCall_pure (c4) ?_;try simp -dsimp [hlt,hx,hxe,hw,hw2,hw3,hy,hye,hkp,hltI,hkn,hkq,hkm,hq',hs])|(refine QCall_pure (c5) ?_;try simp -dsimp [hlt,hx,hxe,hw,hw2,hw3,hy,hye,hkp,hltI,hkn,hkq,hkm,hq',hs])|(refine DT_regionM (id:=8) (nt:=62) 18 [0,1,2,3,4,5,6,7,8,9,10,11,12,19,25,26,27,28,49,55] mixed rfl (by kernel_rfl) ?_;simp -dsimp [hlt,hx,hxe,hw,hw2,hw3,hy,hye,hkp,hltI,hkn,hkq,hkm,hq',hs])|(with_reducible refine DT_regionE [0,1,2,3,4,5,6,7,8,9,10,11,12,19,25,26,27,28,49,55] ?_;simp -dsimp [hlt,hx,hxe,hw,hw2,hw3,hy,hye,hkp,hltI,hkn,hkq,hkm,hq',hs])|(refine DT_cond rfl (fun h=>?_) (fun h=>?_)<;>(try simp only [nrm] at h)<;>(try exact Bool.noConfusion h))
       all_goals try simp -dsimp [hlt,hx,hxe,hw,hw2,hw3,hy,hye,hkp,hltI,hkn,hkq,hkm,hq',hs]
       all_goals try clear hs
       all_goals exact At.round ⟨k + 1 + 1,by omega,by rw [hpv];exact hok⟩ (by simp;omega) (Weak.of_drop [3,4,5,6,7,8,10,25,26,27] 7 (by simp) (by simp) (by simp [deskC,hw4]))
      ·rw [decide_eq_false hq,Bool.false_and] at hok
       have hq':(0:Int)≤q:=by omega
       have hE:tighE c l g=2:=by rw [hE0,hok];simp
       rw [tighR,hE,if_neg (by decide)]
       have hs:True:=trivial
       repeat' first|(with_reducible first|refine q01 ?_|refine q02 ?_|refine q05 ?_|refine q11 ?_|refine q12 ?_|refine q14 ?_|refine q17 ?_)|(with_reducible refine At.fn_ret (by simp -dsimp [hlt,hx,hxe,hw,hw2,hw3,hy,hye,hkp,hltI,hkn,hkq,hkm,hq',hs];exact rfl) ?_)|(refine QCall_pure (c4) ?_;try simp -dsimp [hlt,hx,hxe,hw,hw2,hw3,hy,hye,hkp,hltI,hkn,hkq,hkm,hq',hs])|(refine QCall_pure (c5) ?_;try simp -dsimp [hlt,hx,hxe,hw,hw2,hw3,hy,hye,hkp,hltI,hkn,hkq,hkm,hq',hs])|(refine DT_regionM (id:=8) (nt:=62) 18 [0,1,2,3,4,5,6,7,8,9,10,11,12,19,25,26,27,28,49,55] mixed rfl (by kernel_rfl) ?_;simp -dsimp [hlt,hx,hxe,hw,hw2,hw3,hy,hye,hkp,hltI,hkn,hkq,hkm,hq',hs])|(with_reducible refine DT_regionE [0,1,2,3,4,5,6,7,8,9,10,11,12,19,25,26,27,28,49,55] ?_;simp -dsimp [hlt,hx,hxe,hw,hw2,hw3,hy,hye,hkp,hltI,hkn,hkq,hkm,hq',hs])|(refine DT_cond rfl (fun h=>?_) (fun h=>?_)<;>(try simp only [nrm] at h)<;>(try exact Bool.noConfusion h))
       all_goals try simp -dsimp [hlt,hx,hxe,hw,hw2,hw3,hy,hye,hkp,hltI,hkn,hkq,hkm,hq',hs]
       all_goals try clear hs
       all_goals simp [zChains]
  ·obtain rfl:k=l.length:=by omega
   rw [List.drop_eq_nil_of_le (Nat.le_refl _),okL_nil] at hok
   rw [hok] at hE0
   simp only [true_and] at hE0
   have c6:=in_chain (G:=G) 0 1000000000 [g] (by simp)
   simp only [isv,List.map_cons,List.map_nil,Ab.encI,encI,rI,List.all_cons,List.all_nil,Bool.and_true] at c6
   by_cases hg:0≤g∧g≤1000000000
   ·have c7:=changed_c (G:=G) c (cntD c) _ _ hG hOk hsm (tg_other (G:=G) hOk hsm hl hg.1 (by omega)) hSG
    rw [if_pos hg] at hE0
    have hR:tighR c l g=changedR c (tgF l g):=by rw [tighR,changedR,hE0]
    rw [hR,hE0]
    have hgt:(decide (0≤g) && decide (g≤1000000000))=true:=by simp [hg]
    simp only [deskC,rI] at c7
    rw [hgt] at c6
    have c8:DCall Tryz.prog G 69 [.one (.im (deskC c (cntD c) (tkM c.reg c.lets))),.one (.fn (.func 70) [.ptr 0 0,.ptr 1 0])] [.row [.im (.sl (l.map encSpot))],.row [.im (.raw (.int .i64 g))]] (fun d o=>d=.tup [chv (changedR c (tgF l g)),iv (changedE c (tgF l g))]∧o=[] ++ gones 2):=
     DCall.freeze 0 (c7 []) (Nat.zero_le _) rfl (by simp [fz,DC.lt,frz,mapO,deskC,rI]) (fun o r _ h=>by
      match o with
      | 0=>simp at h
      | 1=>simp at h
      | o + 2=>simp at h)
    simp only [deskC,rI,List.nil_append,gones,List.replicate] at c8
    have hs:True:=trivial
    repeat' first|(with_reducible first|refine q01 ?_|refine q03 ?_|refine q06 ?_|refine q11 ?_|refine q14 ?_|refine q16 ?_|refine q17 ?_)|(with_reducible refine At.fn_ret (by simp -dsimp [hlt,hs];exact rfl) ?_)|(refine CallE.thaw (c6) ?_ ?_ ?_;(focus (simp;done));(focus (simp;done));try simp -dsimp [hlt,hs])|(refine CallE.embed [1,2] (c8) ?_ ?_ ?_ ?_ ?_ ?_;(focus (simp [emb];done));(focus (simp;done));(focus (simp;done));(focus (simp;done));(focus (refine emb_all ?_;simp [emb,embAll];done));try simp -dsimp [mergeO,emb,hlt,hs])|(with_reducible refine DT_regionE [0,1,2,3,4,5,6,7,8,9,10,11,12,19,25,26,27,28,49,55] ?_;simp -dsimp [hlt,hs])|(refine DT_cond rfl (fun h=>?_) (fun h=>?_)<;>(try simp only [nrm] at h)<;>(try exact Bool.noConfusion h))
    all_goals try simp -dsimp [hlt,hs]
    all_goals try clear hs
   ·rw [if_neg hg] at hE0
    rw [tighR,hE0,if_neg (by decide)]
    have hgt:(decide (0≤g) && decide (g≤1000000000))=false:=by
     rw [Bool.eq_false_iff];simpa using hg
    rw [hgt] at c6
    have hs:True:=trivial
    repeat' first|(with_reducible first|refine q01 ?_|refine q02 ?_|refine q03 ?_|refine q06 ?_|refine q11 ?_|refine q16 ?_|refine q17 ?_)|(with_reducible refine At.fn_ret (by simp -dsimp [hlt,hs];exact rfl) ?_)|(refine CallE.thaw (c6) ?_ ?_ ?_;(focus (simp;done));(focus (simp;done));try simp -dsimp [hlt,hs])|(with_reducible refine DT_regionE [0,1,2,3,4,5,6,7,8,9,10,11,12,19,25,26,27,28,49,55] ?_;simp -dsimp [hlt,hs])|(refine DT_cond rfl (fun h=>?_) (fun h=>?_)<;>(try simp only [nrm] at h)<;>(try exact Bool.noConfusion h))
    all_goals try simp -dsimp [hlt,hs]
    all_goals try clear hs
    all_goals simp [zChains]
 ·obtain ⟨X,hX⟩:=deskR_one c
  rw [hX] at c1
  have hE:tighE c l g=chainsE c:=by rw [tighE,if_pos h00]
  rw [tighR,hE,if_neg h00]
  have hs:True:=trivial
  repeat' first|(with_reducible first|refine q01 ?_|refine q02 ?_|refine q11 ?_|refine q17 ?_)|(with_reducible refine At.fn_ret (by simp -dsimp [h00,hs];exact rfl) ?_)|(refine CallE.pure (c1) ?_;try simp -dsimp [h00,hs])|(with_reducible refine DT_regionE [0,1,2,3,4,5,6,7,8,9,10,11,12,19,25,26,27,28,49,55] ?_;simp -dsimp [h00,hs])|(refine DT_cond rfl (fun h=>?_) (fun h=>?_)<;>(try simp only [nrm] at h)<;>(try exact Bool.noConfusion h))
  all_goals try simp -dsimp [h00,hs]
  all_goals try clear hs
  all_goals simp [zChains]
end Go.Proofs
namespace Go.Proofs
open Go Go.Ab
set_option linter.unusedSimpArgs false
variable {G:Nat→Option (List IC)}
attribute [simp] permL reO cutL cutE gones noLoop nilV nilX ZK
@[simp] theorem tzU:tzero Tryz.prog 177=some [.int .i64 0,.int .i64 0,.string ⟨#[]⟩,.nilFunc]:=by kernel_rfl
def rdn (n s:Int):Int:=n - n % s
def rup (n s:Int):Int:=if n % s=0 then n else n - n % s + s
theorem rounded_c (n s:Int) (h0:0≤n) (h1:n≤1000000000) (h2:1≤s) (h3:s≤1000) (objs:List DObj):DCall Tryz.prog G 225 [iv n,iv s] objs (fun rr objs'=>rr=.tup [iv (rdn n s),iv (rup n s)]∧objs'=objs):=by
 refine DCall.frame ?_ (by simp) (by simp) objs
 refine DCall_intro Tryz.func225 rfl Tryz.ntmps225 (by simp) rfl ?_
 try simp only [iv,iv]
 have hm:n.tmod s=n % s:=Int.tmod_eq_emod_of_nonneg h0
 have m0:0≤n % s:=Int.emod_nonneg _ (by omega)
 have m1:n % s < s:=Int.emod_lt_of_pos _ (by omega)
 have m2:n % s≤n:=by
  have:=Int.ediv_mul_add_emod n s
  have h5:0≤n / s:=Int.ediv_nonneg h0 (by omega)
  have h6:0≤n / s * s:=Int.mul_nonneg h5 (by omega)
  omega
 have hs0:¬ s=0:=by omega
 rw [rdn,rup]
 generalize n % s=m at *
 have w1:IntKind.i64.wrap m=m:=i64w (by omega) (by omega)
 have w2:IntKind.i64.wrap (n - m)=n - m:=i64w (by omega) (by omega)
 have w3:IntKind.i64.wrap (n - m + s)=n - m + s:=i64w (by omega) (by omega)
 by_cases hz:m=0
 ·subst hz
  have w4:IntKind.i64.wrap n=n:=i64w (by omega) (by omega)
  have hs:True:=trivial
  repeat' first|(with_reducible first|refine q01 ?_|refine q02 ?_|refine q11 ?_|refine q17 ?_)|(with_reducible refine At.fn_ret (by simp -dsimp [hm,w1,w2,w3,w4,hs0,hs];exact rfl) ?_)|(with_reducible refine DT_regionE [0,1,4,5,13] ?_;simp -dsimp [hm,w1,w2,w3,w4,hs0,hs])|(refine DT_cond rfl (fun h=>?_) (fun h=>?_)<;>(try simp only [nrm] at h)<;>(try exact Bool.noConfusion h))
  all_goals try simp -dsimp [hm,w1,w2,w3,w4,hs0,hs]
  all_goals try clear hs
 ·have hne:¬ n - m=n:=by omega
  have hs:True:=trivial
  repeat' first|(with_reducible first|refine q01 ?_|refine q11 ?_|refine q14 ?_|refine q17 ?_)|(with_reducible refine At.fn_ret (by simp -dsimp [hm,w1,w2,w3,hs0,hne,hs];exact rfl) ?_)|(with_reducible refine DT_regionE [0,1,4,5,13] ?_;simp -dsimp [hm,w1,w2,w3,hs0,hne,hs])|(refine DT_cond rfl (fun h=>?_) (fun h=>?_)<;>(try simp only [nrm] at h)<;>(try exact Bool.noConfusion h))
  all_goals try simp -dsimp [hm,w1,w2,w3,hs0,hne,hs]
  all_goals try clear hs
  all_goals simp [hz]
def unitG (G:Nat→Option (List IC)) (a b c:IC):Prop:=G 0=some [rI 0,rI 0,a,.raw .nilFunc,rI 100,rI 3,b,.fn (.func 225) [],rI 254,rI 4,c,.fn (.func 225) []]
def stU (n:Int):Int:=if n=1 then 100 else 254
def unitV (s t:Int) (a:IC):DV:=.agg [.im (rI s),.im (rI t),.im a,.im (.fn (.func 225) [])]
theorem unitV_im (s t:Int) (a:IC):ImV (unitV s t a):=by simp [unitV]
attribute [simp] unitV_im
def unitOf (b c:IC) (n:Int):DV:=if n=1 then unitV 100 3 b else unitV 254 4 c
theorem unitOf_im (b c:IC) (n:Int):ImV (unitOf b c n):=by unfold unitOf;split<;>simp
attribute [simp] unitOf_im
def agnD (d:Dim) (s:Int):Dim:=⟨if rup d.nominal s > 1000000000∨d.nominal - rdn d.nominal s≤rup d.nominal s - d.nominal then rdn d.nominal s else rup d.nominal s,rup d.lower s,rdn d.upper s⟩
theorem rdn_le {n s:Int} (h0:0≤n) (h2:1≤s):0≤rdn n s∧rdn n s≤n∧n≤rup n s∧rup n s < n + s:=by
 have m0:0≤n % s:=Int.emod_nonneg _ (by omega)
 have m1:n % s < s:=Int.emod_lt_of_pos _ (by omega)
 have m2:n % s≤n:=by
  have:=Int.ediv_mul_add_emod n s
  have h5:0≤n / s:=Int.ediv_nonneg h0 (by omega)
  have h6:0≤n / s * s:=Int.mul_nonneg h5 (by omega)
  omega
 unfold rdn rup
 split<;>omega
theorem again_c (d:Dim) (s t:Int) (a:IC) (hd:dimOk d=true) (h2:1≤s) (h3:s≤1000) (objs:List DObj):DCall Tryz.prog G 194 [dimv d,unitV s t a] objs (fun rr objs'=>rr=.tup [dimv (agnD d s),bv (decide (rup d.lower s≤rdn d.upper s))]∧objs'=objs):=by
 refine DCall.frame ?_ (by simp) (by simp) objs
 refine DCall_intro Tryz.func194 rfl Tryz.ntmps194 (by simp) rfl ?_
 try simp only [dimv]
 rw [dimOk_iff] at hd
 obtain ⟨d1,d2,d3,d4,d5,d6⟩:=hd
 have c1:=rounded_c (G:=G) d.lower s (by omega) (by omega) h2 h3
 have c2:=rounded_c (G:=G) d.upper s (by omega) (by omega) h2 h3
 have c3:=rounded_c (G:=G) d.nominal s (by omega) (by omega) h2 h3
 have e1:=rdn_le (n:=d.nominal) (s:=s) (by omega) h2
 have e2:=rdn_le (n:=d.lower) (s:=s) (by omega) h2
 have e3:=rdn_le (n:=d.upper) (s:=s) (by omega) h2
 simp only [unitV,rI,agnD]
 generalize rdn d.nominal s=dn at *
 generalize rup d.nominal s=up at *
 generalize rup d.lower s=lo at *
 generalize rdn d.upper s=hi at *
 have w1:IntKind.i64.wrap (d.nominal - dn)=d.nominal - dn:=i64w (by omega) (by omega)
 have w2:IntKind.i64.wrap (up - d.nominal)=up - d.nominal:=i64w (by omega) (by omega)
 by_cases hb:1000000000 < up
 ·rw [if_pos (Or.inl hb)]
  have hs:True:=trivial
  repeat' first|(with_reducible first|refine q01 ?_|refine q11 ?_|refine q17 ?_)|(with_reducible refine At.fn_ret (by simp -dsimp [w1,w2,hb,hs];exact rfl) ?_)|(refine CallE.pure (c1) ?_;try simp -dsimp [w1,w2,hb,hs])|(refine CallE.pure (c2) ?_;try simp -dsimp [w1,w2,hb,hs])|(refine CallE.pure (c3) ?_;try simp -dsimp [w1,w2,hb,hs])|(with_reducible refine DT_regionE [0,1,2,3,4,5,7,8,10,11,59] ?_;simp -dsimp [w1,w2,hb,hs])|(refine DT_cond rfl (fun h=>?_) (fun h=>?_)<;>(try simp only [nrm] at h)<;>(try exact Bool.noConfusion h))
  all_goals try simp -dsimp [w1,w2,hb,hs]
  all_goals try clear hs
 ·by_cases hc:d.nominal - dn≤up - d.nominal
  ·rw [if_pos (Or.inr hc)]
   have hs:True:=trivial
   repeat' first|(with_reducible first|refine q01 ?_|refine q11 ?_|refine q17 ?_)|(with_reducible refine At.fn_ret (by simp -dsimp [w1,w2,hb,hc,hs];exact rfl) ?_)|(refine CallE.pure (c1) ?_;try simp -dsimp [w1,w2,hb,hc,hs])|(refine CallE.pure (c2) ?_;try simp -dsimp [w1,w2,hb,hc,hs])|(refine CallE.pure (c3) ?_;try simp -dsimp [w1,w2,hb,hc,hs])|(with_reducible refine DT_regionE [0,1,2,3,4,5,7,8,10,11,59] ?_;simp -dsimp [w1,w2,hb,hc,hs])|(refine DT_cond rfl (fun h=>?_) (fun h=>?_)<;>(try simp only [nrm] at h)<;>(try exact Bool.noConfusion h))
   all_goals try simp -dsimp [w1,w2,hb,hc,hs]
   all_goals try clear hs
  ·rw [if_neg (by omega)]
   have hs:True:=trivial
   repeat' first|(with_reducible first|refine q01 ?_|refine q11 ?_|refine q14 ?_|refine q17 ?_)|(with_reducible refine At.fn_ret (by simp -dsimp [w1,w2,hb,hc,hs];exact rfl) ?_)|(refine CallE.pure (c1) ?_;try simp -dsimp [w1,w2,hb,hc,hs])|(refine CallE.pure (c2) ?_;try simp -dsimp [w1,w2,hb,hc,hs])|(refine CallE.pure (c3) ?_;try simp -dsimp [w1,w2,hb,hc,hs])|(with_reducible refine DT_regionE [0,1,2,3,4,5,7,8,10,11,59] ?_;simp -dsimp [w1,w2,hb,hc,hs])|(refine DT_cond rfl (fun h=>?_) (fun h=>?_)<;>(try simp only [nrm] at h)<;>(try exact Bool.noConfusion h))
   all_goals try simp -dsimp [w1,w2,hb,hc,hs]
   all_goals try clear hs
theorem of_c (n:Int) (a b c:IC) (hU:unitG G a b c) (hn:n=1∨n=2) (objs:List DObj):DCall Tryz.prog G 164 [u8v n] objs (fun rr objs'=>rr=.tup [unitOf b c n,iv 0]∧objs'=objs):=by
 refine DCall.frame ?_ (by simp) (by simp) objs
 refine DCall_intro Tryz.func164 rfl Tryz.ntmps164 (by simp) rfl ?_
 try simp only [u8v]
 have c1:=in_size (G:=G) 1 2 [n] (by simp)
 simp only [isv,List.map_cons,List.map_nil,Ab.encI,encI,rI,List.all_cons,List.all_nil,Bool.and_true] at c1
 unfold unitG at hU
 rw [show (decide ((1:Int)≤n) && decide (n≤(2:Int)))=true by rw [Bool.and_eq_true,decide_eq_true_iff,decide_eq_true_iff];omega] at c1
 have w0:IntKind.i64.wrap n=n:=i64w (by omega) (by omega)
 rw [unitOf]
 rcases hn with rfl|rfl
 ·have w0':IntKind.i64.wrap 1=1:=by decide
  rw [if_pos rfl]
  have hs:True:=trivial
  repeat' first|(with_reducible first|refine q01 ?_|refine q11 ?_|refine q14 ?_|refine q17 ?_)|(with_reducible refine At.fn_ret (by simp -dsimp [hU,w0',hs];exact rfl) ?_)|(refine CallE.thaw (c1) ?_ ?_ ?_;(focus (simp;done));(focus (simp;done));try simp -dsimp [hU,w0',hs])|(with_reducible refine DT_regionE [0,2,3,8] ?_;simp -dsimp [hU,w0',hs])|(refine DT_cond rfl (fun h=>?_) (fun h=>?_)<;>(try simp only [nrm] at h)<;>(try exact Bool.noConfusion h))
  all_goals try simp -dsimp [hU,w0',hs]
  all_goals try clear hs
  all_goals simp [unitV]
 ·have w0':IntKind.i64.wrap 2=2:=by decide
  rw [if_neg (by decide)]
  have hs:True:=trivial
  repeat' first|(with_reducible first|refine q01 ?_|refine q11 ?_|refine q14 ?_|refine q17 ?_)|(with_reducible refine At.fn_ret (by simp -dsimp [hU,w0',hs];exact rfl) ?_)|(refine CallE.thaw (c1) ?_ ?_ ?_;(focus (simp;done));(focus (simp;done));try simp -dsimp [hU,w0',hs])|(with_reducible refine DT_regionE [0,2,3,8] ?_;simp -dsimp [hU,w0',hs])|(refine DT_cond rfl (fun h=>?_) (fun h=>?_)<;>(try simp only [nrm] at h)<;>(try exact Bool.noConfusion h))
  all_goals try simp -dsimp [hU,w0',hs]
  all_goals try clear hs
  all_goals simp [unitV]
theorem sizes_c (d:Dim) (n:Int):DCall Tryz.prog G 165 [dimv d,.one (.im (.sl [[.raw (.int .u8 n)]]))] [] (fun r o=>r=.one (.fn (.func 193) [.ptr 1 0,.ptr 0 0])∧o=[.row [.im (rI d.nominal),.im (rI d.lower),.im (rI d.upper)],.row [.im (.sl [[.raw (.int .u8 n)]])]]):=by
 simp only [dimv,rI]
 refine DCall_intro Tryz.func165 rfl Tryz.ntmps165 (by simp) rfl ?_
 have hs:True:=trivial
 repeat' first|(with_reducible first|refine q01 ?_|refine q11 ?_|refine q17 ?_)|(with_reducible refine At.fn_ret (by simp -dsimp [hs];exact rfl) ?_)|(with_reducible refine DT_regionE [0,1,2,3,4] ?_;simp -dsimp [hs])|with_reducible refine And.intro ?_ ?_
 all_goals try simp -dsimp [hs]
 all_goals try clear hs
end Go.Proofs
namespace Go.Proofs
open Go Go.Ab
set_option linter.unusedSimpArgs false
variable {G:Nat→Option (List IC)}
attribute [simp] permL reO cutL cutE gones noLoop nilV nilX ZK
def cvE (d:Dim) (n:Int):Int:=if (agnD d (stU n)).lower≤(agnD d (stU n)).upper then 0 else 6
def cvD (d:Dim) (n:Int):Dim:=if (agnD d (stU n)).lower≤(agnD d (stU n)).upper then agnD d (stU n) else zDim
set_option maxHeartbeats 1000000 in
theorem sredraw_c (d:Dim) (n:Int) (a b c:IC) (hU:unitG G a b c) (hd:dimOk d=true) (hn:n=1∨n=2) (objs:List DObj):DCall Tryz.prog G 132 [dimv d,.one (.im (.sl [[.raw (.int .u8 n)]]))] objs (fun rr objs'=>rr=.tup [dimv (cvD d n),iv (cvE d n)]∧objs'=objs):=by
 refine DCall.frame ?_ (by simp) (by simp) objs
 refine DCall_intro Tryz.func132 rfl Tryz.ntmps132 (by simp) rfl ?_
 try simp only [dimv]
 have c1:=sizeCheck_c (G:=G) d
 rw [if_pos hd] at c1
 have c2:=of_c (G:=G) n a b c hU hn
 obtain ⟨t,m,hUe⟩:∃ t m,unitOf b c n=unitV (stU n) t m:=by
  rcases hn with rfl|rfl
  ·exact ⟨3,b,rfl⟩
  ·exact ⟨4,c,rfl⟩
 rw [hUe] at c2
 simp only [unitV,rI] at c2
 have c3:=sizes_c (G:=G) d n
 simp only [dimv,rI] at c1 c3
 have hs:True:=trivial
 repeat' first|(with_reducible first|refine q01 ?_|refine q11 ?_|refine q12 ?_|refine q14 ?_)|(refine CallE.pure (c1) ?_;try simp -dsimp [hs])|(with_reducible refine DT_regionE [0,1,2,4,5,6,8,10,11,12,13,17,22,24,25,26,27,36,44,45,52] ?_;simp -dsimp [hs])|(refine DT_cond rfl (fun h=>?_) (fun h=>?_)<;>(try simp only [nrm] at h)<;>(try exact Bool.noConfusion h))
 all_goals try simp -dsimp [hs]
 all_goals try clear hs
 refine DT_loop (ι:={ k:Nat // k≤1 }) (fun k=>⟨56,[(1,.one (.im (.sl [[.raw (.int .u8 n)]]))),(2,.one (.ptr 0 0)),(4,.one (.ptr 1 0)),(5,iv 0),(24,.one (.im (.sl [[.raw (.int .u8 n)]]))),(25,iv 1),(26,iv (k.1:Int))],[.row [.im (rI d.nominal),.im (rI d.lower),.im (rI d.upper)],.row [.im (rI 0),.im (rI 0),.im (rI 0)]]⟩) (fun k=>1 - k.1) ⟨0,by omega⟩ (Weak.of_keep [1,2,4,5,24,25,26] (by simp)) ?_
 rintro ⟨k,hk⟩
 simp only [iv,rI]
 have hk2:k=0∨k=1:=by omega
 rcases hk2 with rfl|rfl
 ·have w1:IntKind.i64.wrap 1=1:=by decide
  have hs:True:=trivial
  repeat' first|(with_reducible first|refine q01 ?_|refine q04 ?_|refine q11 ?_|refine q12 ?_|refine q14 ?_)|(refine CallE.pure (c2) ?_;try simp -dsimp [w1,hs])|(with_reducible refine DT_regionE [0,1,2,4,5,6,8,10,11,12,13,17,22,24,25,26,27,36,44,45,52] ?_;simp -dsimp [w1,hs])|(refine DT_cond rfl (fun h=>?_) (fun h=>?_)<;>(try simp only [nrm] at h)<;>(try exact Bool.noConfusion h))
  all_goals try simp -dsimp [w1,hs]
  all_goals try clear hs
  all_goals exact At.round ⟨1,by omega⟩ (by simp) (Weak.of_drop [1,2,4,5,24,25,26] 2 (by simp) (by simp) (by simp [w1]))
 ·have hs:True:=trivial
  repeat' first|(with_reducible first|refine q01 ?_|refine q03 ?_|refine q06 ?_|refine q11 ?_|refine q12 ?_|refine q16 ?_)|(refine CallE.embed [] (c3) ?_ ?_ ?_ ?_ ?_ ?_;(focus (simp [emb];done));(focus (simp;done));(focus (simp;done));(focus (simp;done));(focus (refine emb_all ?_;simp [emb,embAll];done));try simp -dsimp [mergeO,emb,hs])|(with_reducible refine DT_regionE [0,1,2,4,5,6,8,10,11,12,13,17,22,24,25,26,27,36,44,45,52] ?_;simp -dsimp [hs])|(refine DT_cond rfl (fun h=>?_) (fun h=>?_)<;>(try simp only [nrm] at h)<;>(try exact Bool.noConfusion h))
  all_goals try simp -dsimp [hs]
  all_goals try clear hs
  refine DT_rangeFunc (f:=193) (by simp;exact rfl) (by rfl) Tryz.call193 ?_
  generalize hR:LoopD.mk _ _ _ _ _ _ _=R
  have hR1:R.st=.ready:=by rw [← hR]
  have hR2:R.pend=none:=by rw [← hR]
  have hR3:R.at .ready none=R:=by rw [← hR];rfl
  have hR4:=(congrArg LoopD.nt hR).symm
  have hR5:=(congrArg LoopD.tm hR).symm
  have hR6:=(congrArg LoopD.ps hR).symm
  have hR7:=(congrArg LoopD.asg hR).symm
  have hR8:=(congrArg LoopD.body hR).symm
  dsimp only at hR4 hR5 hR6 hR7 hR8
  clear hR
  refine DCall_intro Tryz.func193 rfl Tryz.ntmps193 (by simp) rfl ?_
  have hs:True:=trivial
  repeat' first|(with_reducible first|refine q01 ?_|refine q11 ?_|refine q12 ?_)|(with_reducible refine DT_regionE [0,1,2,4,5,6,7,8,9,10,11,12,13,17,22,24,25,26,27,29,36,44,45,52] ?_;simp -dsimp [hR1,hR2,hR3,hs])
  all_goals try simp -dsimp [hR1,hR2,hR3,hs]
  all_goals try clear hs
  have c4:=again_c (G:=G) d (stU n) t m hd (by unfold stU;split<;>omega) (by unfold stU;split<;>omega)
  have hcv:cvE d n=if (agnD d (stU n)).lower≤(agnD d (stU n)).upper then 0 else 6:=rfl
  have hcd:cvD d n=if (agnD d (stU n)).lower≤(agnD d (stU n)).upper then agnD d (stU n) else zDim:=rfl
  have hlo:rup d.lower (stU n)=(agnD d (stU n)).lower:=rfl
  have hhi:rdn d.upper (stU n)=(agnD d (stU n)).upper:=rfl
  rw [hlo,hhi] at c4
  rw [hcv,hcd]
  simp only [unitV,unitOf,rI] at c4 hUe
  generalize agnD d (stU n)=x at *
  generalize stU n=s at *
  unfold unitG at hU
  refine DT_loop (ι:={ k:Nat // k≤1∧(k=1→x.lower≤x.upper) }) (fun k=>⟨32,[(0,.one (.yld 6)),(1,.one (.ptr 5 0)),(2,.one (.ptr 4 0)),(8,.one (.im (.sl [[.raw (.int .u8 n)]]))),(9,iv 1),(10,iv (k.1:Int))],[.row [.im (rI d.nominal),.im (rI d.lower),.im (rI d.upper)],.row [.im (rI 0),.im (rI 0),.im (rI 0)],.row [.im (rI (if k.1=0 then d else x).nominal),.im (rI (if k.1=0 then d else x).lower),.im (rI (if k.1=0 then d else x).upper)],.row [.im (rI (k.1:Int))],.row [.im (rI (if k.1=0 then d else x).nominal),.im (rI (if k.1=0 then d else x).lower),.im (rI (if k.1=0 then d else x).upper)],.row [.im (.sl [[.raw (.int .u8 n)]])],.loop R]⟩) (fun k=>1 - k.1) ⟨0,by simp⟩ (Weak.of_keep [0,1,2,8,9,10] (by simp)) ?_
  rintro ⟨k,hk,hxk⟩
  simp only [iv,rI]
  have hk2:k=0∨k=1:=by omega
  rcases hk2 with rfl|rfl
  ·have w1:IntKind.i64.wrap 1=1:=by decide
   have hR9:∀ objs:List DObj,(R.tm.map fun x=>(x.1,fzV 7 objs x.2))=R.tm:=by intro objs;rw [hR5];simp
   by_cases hle:x.lower≤x.upper
   ·rw [if_pos hle,if_pos hle]
    rw [decide_eq_true hle] at c4
    rcases hn with rfl|rfl
    ·simp at hUe
     obtain ⟨rfl,rfl,rfl⟩:=hUe
     have hs:True:=trivial
     repeat' first|(with_reducible first|refine q01 ?_|refine q04 ?_|refine q11 ?_|refine q12 ?_|refine q14 ?_)|(with_reducible refine At.yield_end ?_;simp -dsimp [hR1,hR2,hR3,w1,hU,hle,hs])|(refine At_busy ?_ ?_<;>simp -dsimp [hR1,hR2,hR3,w1,hU,hle,hs])|(refine YieldE_go ?_;simp -dsimp [YieldR,hR4,hR5,hR6,hR7,hR8,hR1,hR2,hR3,w1,hU,hle,hs])|(refine QCall_pure (c4) ?_;try simp -dsimp [hR1,hR2,hR3,w1,hU,hle,hs])|(refine DT_regionX (id:=3) (nt:=32) 9 [7] [0,1,2,5,6,7,8,9,10,11,14,15,16,17,18,19,20,29] [0,1,2,5,6,7,8,9,10,11,29] mixed rfl (by kernel_rfl) ?_;simp -dsimp [hR1,hR2,hR3,w1,hU,hle,hs])|(with_reducible refine DT_regionE [0,1,2,4,5,6,7,8,9,10,11,12,13,17,22,24,25,26,27,29,36,44,45,52] ?_;simp -dsimp [hR1,hR2,hR3,w1,hU,hle,hs])|(refine DT_cond rfl (fun h=>?_) (fun h=>?_)<;>(try simp only [nrm] at h)<;>(try exact Bool.noConfusion h))
     all_goals try simp -dsimp [hR1,hR2,hR3,w1,hU,hle,hs]
     all_goals try clear hs
     all_goals exact At.round ⟨1,by omega,fun _=>hle⟩ (by simp) (Weak.of_drop [0,1,2,8,9,10] 7 (by simp) (by simp) (by simp [hR9]))
    ·simp at hUe
     obtain ⟨rfl,rfl,rfl⟩:=hUe
     have hs:True:=trivial
     repeat' first|(with_reducible first|refine q01 ?_|refine q04 ?_|refine q11 ?_|refine q12 ?_|refine q14 ?_)|(with_reducible refine At.yield_end ?_;simp -dsimp [hR1,hR2,hR3,w1,hU,hle,hs])|(refine At_busy ?_ ?_<;>simp -dsimp [hR1,hR2,hR3,w1,hU,hle,hs])|(refine YieldE_go ?_;simp -dsimp [YieldR,hR4,hR5,hR6,hR7,hR8,hR1,hR2,hR3,w1,hU,hle,hs])|(refine QCall_pure (c4) ?_;try simp -dsimp [hR1,hR2,hR3,w1,hU,hle,hs])|(refine DT_regionX (id:=3) (nt:=32) 9 [7] [0,1,2,5,6,7,8,9,10,11,14,15,16,17,18,19,20,29] [0,1,2,5,6,7,8,9,10,11,29] mixed rfl (by kernel_rfl) ?_;simp -dsimp [hR1,hR2,hR3,w1,hU,hle,hs])|(with_reducible refine DT_regionE [0,1,2,4,5,6,7,8,9,10,11,12,13,17,22,24,25,26,27,29,36,44,45,52] ?_;simp -dsimp [hR1,hR2,hR3,w1,hU,hle,hs])|(refine DT_cond rfl (fun h=>?_) (fun h=>?_)<;>(try simp only [nrm] at h)<;>(try exact Bool.noConfusion h))
     all_goals try simp -dsimp [hR1,hR2,hR3,w1,hU,hle,hs]
     all_goals try clear hs
     all_goals exact At.round ⟨1,by omega,fun _=>hle⟩ (by simp) (Weak.of_drop [0,1,2,8,9,10] 7 (by simp) (by simp) (by simp [hR9]))
   ·rw [if_neg hle,if_neg hle]
    rw [decide_eq_false hle] at c4
    rcases hn with rfl|rfl
    ·simp at hUe
     obtain ⟨rfl,rfl,rfl⟩:=hUe
     have hs:True:=trivial
     repeat' first|(with_reducible first|refine q01 ?_|refine q02 ?_|refine q04 ?_|refine q05 ?_|refine q11 ?_|refine q12 ?_|refine q14 ?_|refine q17 ?_)|(with_reducible refine At.fn_ret (by simp -dsimp [hR1,hR2,hR3,w1,hU,hle,hs];exact rfl) ?_)|(with_reducible show LoopR _ _ _ _ _ _ _ _;simp -dsimp [LoopR,hR1,hR2,hR3,w1,hU,hle,hs])|(refine QCall_pure (c4) ?_;try simp -dsimp [hR1,hR2,hR3,w1,hU,hle,hs])|(refine DT_regionX (id:=3) (nt:=32) 9 [7] [0,1,2,5,6,7,8,9,10,11,14,15,16,17,18,19,20,29] [0,1,2,5,6,7,8,9,10,11,29] mixed rfl (by kernel_rfl) ?_;simp -dsimp [hR1,hR2,hR3,w1,hU,hle,hs])|(with_reducible refine DT_regionE [0,1,2,4,5,6,7,8,9,10,11,12,13,17,22,24,25,26,27,29,36,44,45,52] ?_;simp -dsimp [hR1,hR2,hR3,w1,hU,hle,hs])|(refine DT_cond rfl (fun h=>?_) (fun h=>?_)<;>(try simp only [nrm] at h)<;>(try exact Bool.noConfusion h))
     all_goals try simp -dsimp [hR1,hR2,hR3,w1,hU,hle,hs]
     all_goals try clear hs
     all_goals simp [zDim]
    ·simp at hUe
     obtain ⟨rfl,rfl,rfl⟩:=hUe
     have hs:True:=trivial
     repeat' first|(with_reducible first|refine q01 ?_|refine q02 ?_|refine q04 ?_|refine q05 ?_|refine q11 ?_|refine q12 ?_|refine q14 ?_|refine q17 ?_)|(with_reducible refine At.fn_ret (by simp -dsimp [hR1,hR2,hR3,w1,hU,hle,hs];exact rfl) ?_)|(with_reducible show LoopR _ _ _ _ _ _ _ _;simp -dsimp [LoopR,hR1,hR2,hR3,w1,hU,hle,hs])|(refine QCall_pure (c4) ?_;try simp -dsimp [hR1,hR2,hR3,w1,hU,hle,hs])|(refine DT_regionX (id:=3) (nt:=32) 9 [7] [0,1,2,5,6,7,8,9,10,11,14,15,16,17,18,19,20,29] [0,1,2,5,6,7,8,9,10,11,29] mixed rfl (by kernel_rfl) ?_;simp -dsimp [hR1,hR2,hR3,w1,hU,hle,hs])|(with_reducible refine DT_regionE [0,1,2,4,5,6,7,8,9,10,11,12,13,17,22,24,25,26,27,29,36,44,45,52] ?_;simp -dsimp [hR1,hR2,hR3,w1,hU,hle,hs])|(refine DT_cond rfl (fun h=>?_) (fun h=>?_)<;>(try simp only [nrm] at h)<;>(try exact Bool.noConfusion h))
     all_goals try simp -dsimp [hR1,hR2,hR3,w1,hU,hle,hs]
     all_goals try clear hs
     all_goals simp [zDim]
  ·have hle:=hxk rfl
   rw [if_pos hle,if_pos hle]
   have hs:True:=trivial
   repeat' first|(with_reducible first|refine q01 ?_|refine q03 ?_|refine q04 ?_|refine q06 ?_|refine q11 ?_|refine q14 ?_|refine q16 ?_|refine q17 ?_)|(with_reducible refine At.fn_ret (by simp -dsimp [hR1,hR2,hR3,hs];exact rfl) ?_)|(with_reducible refine At.fn_end (by simp -dsimp [hR1,hR2,hR3,hs];exact rfl) ?_)|(with_reducible show LoopR _ _ _ _ _ _ _ _;simp -dsimp [LoopR,hR1,hR2,hR3,hs])|(with_reducible refine DT_regionE [0,1,2,4,5,6,7,8,9,10,11,12,13,17,22,24,25,26,27,29,36,44,45,52] ?_;simp -dsimp [hR1,hR2,hR3,hs])|(refine DT_cond rfl (fun h=>?_) (fun h=>?_)<;>(try simp only [nrm] at h)<;>(try exact Bool.noConfusion h))
   all_goals try simp -dsimp [hR1,hR2,hR3,hs]
   all_goals try clear hs
theorem convert_c (d:Dim) (n:Int) (a b c:IC) (hU:unitG G a b c) (hd:dimOk d=true) (hn:n=1∨n=2) (objs:List DObj):DCall Tryz.prog G 82 [dimv d,u8v n] objs (fun rr objs'=>rr=.tup [dimv (cvD d n),iv (cvE d n)]∧objs'=objs):=by
 refine DCall.frame ?_ (by simp) (by simp) objs
 refine DCall_intro Tryz.func82 rfl Tryz.ntmps82 (by simp) rfl ?_
 try simp only [dimv,u8v]
 have c1:=sredraw_c (G:=G) d n a b c hU hd hn
 generalize cvD d n=x at *
 generalize cvE d n=e at *
 simp only [dimv,rI] at c1
 have hs:True:=trivial
 repeat' first|(with_reducible first|refine q01 ?_|refine q11 ?_|refine q17 ?_)|(with_reducible refine At.fn_ret (by simp -dsimp [hs];exact rfl) ?_)|(refine CallE.thaw (c1) ?_ ?_ ?_;(focus (simp;done));(focus (simp;done));try simp -dsimp [hs])|(with_reducible refine DT_regionE [0,1,2,4,5] ?_;simp -dsimp [hs])
 all_goals try simp -dsimp [hs]
 all_goals try clear hs
end Go.Proofs
