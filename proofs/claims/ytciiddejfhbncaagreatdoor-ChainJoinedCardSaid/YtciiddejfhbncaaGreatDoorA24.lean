/- Part 24 of the proofs: laws and walks that hold without conditions beyond those that each theorem names. -/
import Derived.Test.YtciiddejfhbncaaGreatDoorA12
import Derived.Test.YtciiddejfhbncaaGreatDoorA23
set_option linter.all false
set_option linter.deprecated false
namespace Go.Proofs
open Go Go.Ab
set_option linter.unusedSimpArgs false
variable {G:Nat→Option (List IC)}
attribute [simp] permL reO gones noLoop nilV nilX ZK
theorem indexSp_c (l:List Spot) (v:Spot) (hl:l.length < 1000000) (objs:List DObj):DCall Tryz.prog G 116 [spotsv l,refv v.drawing v.dim] objs (fun rr objs'=>rr=iv (fidx (fun x=>decide (v=x)) l)∧objs'=objs):=by
 refine DCall.frame ?_ (by simp) (by simp) objs
 refine DCall_intro Tryz.func116 rfl Tryz.ntmps116 (by simp) rfl ?_
 try simp only [refv]
 simp only [spotsv,refv]
 have hs:True:=trivial
 repeat' first|(with_reducible first|refine q01 ?_|refine q11 ?_|refine q12 ?_)|(with_reducible refine DT_regionE [0,1,3,4,5,7,8,9,16] ?_;simp -dsimp [hs])
 all_goals try simp -dsimp [hs]
 all_goals try clear hs
 refine DT_loop (ι:={ k:Nat // k≤l.length∧∀ j x,j < k→l[j]?=some x→decide (v=x)=false }) (fun i=>⟨19,[(0,spotsv l),(3,.one (.ptr 0 0)),(7,iv (l.length:Int)),(8,iv (i.1:Int))],[.row [.im (rI v.drawing),.im (rI v.dim)]]⟩) (fun i=>l.length - i.1) ⟨0,by simp⟩ (Weak.of_keep [0,3,7,8] (by simp)) ?_
 rintro ⟨i,hi,hno⟩
 simp only [iv,spotsv]
 by_cases hlt:i < l.length
 ·have hx0:l[i]?=some l[i]:=by simp [hlt]
  have hw:IntKind.i64.wrap ((i:Int) + 1)=((i + 1:Nat):Int):=i64w (by omega) (by omega)
  generalize hx:l[i]=x at *
  have hiff:v=x↔v.drawing=x.drawing∧v.dim=x.dim:=⟨fun e=>by rw [e];exact ⟨rfl,rfl⟩,fun ⟨a,b⟩=>by cases v;cases x;simp_all⟩
  have hs:True:=trivial
  repeat' first|(with_reducible first|refine q01 ?_|refine q02 ?_|refine q04 ?_|refine q05 ?_|refine q11 ?_|refine q12 ?_|refine q14 ?_|refine q17 ?_)|(with_reducible refine At.fn_ret (by simp -dsimp [hx,hw,hlt,hs];exact rfl) ?_)|(refine DT_regionM (id:=4) (nt:=19) 6 [0,1,3,4,5,7,8,9,16] mixed rfl (by kernel_rfl) ?_;simp -dsimp [hx,hw,hlt,hs])|(with_reducible refine DT_regionE [0,1,3,4,5,7,8,9,16] ?_;simp -dsimp [hx,hw,hlt,hs])|(refine DT_cond rfl (fun h=>?_) (fun h=>?_)<;>(try simp only [nrm] at h)<;>(try exact Bool.noConfusion h))
  all_goals try simp -dsimp [hx,hw,hlt,hs]
  all_goals try clear hs
  all_goals first
   | exact (fidx_yes hx0 (by rw [decide_eq_true_iff,hiff];omega) hno).symm
   | exact At.round ⟨i + 1,by omega,fun j y hj hjx=>by
    by_cases e:j=i
    ·subst e;rw [hx0] at hjx;cases hjx;rw [decide_eq_false_iff_not,hiff];omega
    ·exact hno j y (by omega) hjx⟩ (by simp;omega) (Weak.of_keep [0,3,7,8] (by simp))
 ·have hs:True:=trivial
  repeat' first|(with_reducible first|refine q01 ?_|refine q03 ?_|refine q06 ?_|refine q11 ?_|refine q16 ?_|refine q17 ?_)|(with_reducible refine At.fn_ret (by simp -dsimp [hlt,hs];exact rfl) ?_)|(with_reducible refine DT_regionE [0,1,3,4,5,7,8,9,16] ?_;simp -dsimp [hlt,hs])|(refine DT_cond rfl (fun h=>?_) (fun h=>?_)<;>(try simp only [nrm] at h)<;>(try exact Bool.noConfusion h))
  all_goals try simp -dsimp [hlt,hs]
  all_goals try clear hs
  exact (fidx_no fun j x hjx=>hno j x (by have:=lt_of_getElem? hjx;omega) hjx).symm
theorem containsSp_c (l:List Spot) (v:Spot) (hl:l.length < 1000000) (objs:List DObj):DCall Tryz.prog G 66 [spotsv l,refv v.drawing v.dim] objs (fun rr objs'=>rr=bv (inS l v)∧objs'=objs):=by
 refine DCall.frame ?_ (by simp) (by simp) objs
 refine DCall_intro Tryz.func66 rfl Tryz.ntmps66 (by simp) rfl ?_
 try simp only [refv]
 have hc:=indexSp_c (G:=G) l v hl
 simp only [spotsv,refv] at hc
 simp only [spotsv,refv]
 have hs:True:=trivial
 repeat' first|(with_reducible first|refine q01 ?_|refine q11 ?_|refine q17 ?_)|(with_reducible refine At.fn_ret (by simp -dsimp [hs];exact rfl) ?_)|(refine CallE.pure (hc) ?_;try simp -dsimp [hs])|(with_reducible refine DT_regionE [0,1,3,4] ?_;simp -dsimp [hs])
 all_goals try simp -dsimp [hs]
 all_goals try clear hs
 have h1:=fidx_nonneg (fun x=>decide (v=x)) l
 rw [h1,Bool.eq_iff_iff]
 simp [inS]
theorem fewF_c (l:List Spot) (v:Spot) (hl:l.length < 1000000) (objs:List DObj):DCall Tryz.prog G 96 [refv v.drawing v.dim,.one (.im (.ip [.sl (l.map encSpot)]))] objs (fun rr objs'=>rr=bv (inS l v)∧objs'=objs):=by
 refine DCall.frame ?_ (by simp) (by simp) objs
 refine DCall_intro Tryz.func96 rfl Tryz.ntmps96 (by simp) rfl ?_
 try simp only [refv]
 have hc:=containsSp_c (G:=G) l v hl
 simp only [spotsv,refv] at hc
 have hs:True:=trivial
 repeat' first|(with_reducible first|refine q01 ?_|refine q11 ?_|refine q17 ?_)|(with_reducible refine At.fn_ret (by simp -dsimp [hs];exact rfl) ?_)|(refine CallE.pure (hc) ?_;try simp -dsimp [hs])|(with_reducible refine DT_regionE [0,1,2,3] ?_;simp -dsimp [hs])
 all_goals try simp -dsimp [hs]
 all_goals try clear hs
def fewF (l:List Spot):IC:=.fn (.func 96) [.ip [.sl (l.map encSpot)]]
theorem few_so (c:Chains) {l:List Spot} (hl:l.length < 1000000):SoF G c (fewF l) (inS l):=.inl ⟨96,_,rfl,by simp,fun x _ objs=>fewF_c (G:=G) l x hl objs⟩
def cmpL:List Spot→List Spot→Int
 | [],[]=>0
 | [],_ :: _=>-1
 | _ :: _,[]=>1
 | a :: l,b :: m=>if ordS a b≠0 then ordS a b else cmpL l m
theorem ordS_zero {a b:Spot}:ordS a b=0↔a=b:=by
 have h1:a=b↔a.drawing=b.drawing∧a.dim=b.dim:=⟨fun e=>by rw [e];exact ⟨rfl,rfl⟩,fun ⟨p,q⟩=>by cases a;cases b;simp_all⟩
 rw [h1]
 unfold ordS cmpI orI' orI' orI'
 repeat' split
 all_goals omega
theorem cmpL_lt:∀ {a b:List Spot},a.length=b.length→(cmpL a b < 0↔lexB a b=true)
 | [],[],_=>by simp [cmpL,lexB]
 | [],_ :: _,h=>by simp at h
 | _ :: _,[],h=>by simp at h
 | x :: a,y :: b,h=>by
   rw [cmpL,lexB]
   by_cases e:x=y
   ·have h0:ordS x y=0:=ordS_zero.2 e
    rw [if_neg (by simp [h0]),if_pos e]
    exact cmpL_lt (by simpa using h)
   ·have h0:ordS x y≠0:=fun h=>e (ordS_zero.1 h)
    rw [if_pos h0,if_neg e,ordS_lt]
set_option maxHeartbeats 1000000 in
theorem cmpL_c (a b:List Spot) (ha:a.length < 1000000) (hb:b.length < 1000000) (objs:List DObj):DCall Tryz.prog G 95 [spotsv a,spotsv b,.one (.im (.fn (.func 67) []))] objs (fun rr objs'=>rr=iv (cmpL a b)∧objs'=objs):=by
 refine DCall.frame ?_ (by simp) (by simp) objs
 refine DCall_intro Tryz.func95 rfl Tryz.ntmps95 (by simp) rfl ?_
 try simp only [iv]
 simp only [spotsv]
 have hs:True:=trivial
 repeat' first|(with_reducible first|refine q01 ?_|refine q11 ?_|refine q12 ?_)|(with_reducible refine DT_regionE [0,1,2,6,7,8,9,10,11,12,13,14,21,31,38] ?_;simp -dsimp [hs])
 all_goals try simp -dsimp [hs]
 all_goals try clear hs
 refine DT_loop (ι:={ k:Nat // k≤a.length∧k≤b.length∧cmpL a b=cmpL (a.drop k) (b.drop k) }) (fun i=>⟨39,[(0,spotsv a),(1,spotsv b),(2,.one (.im (.fn (.func 67) []))),(11,spotsv a),(12,iv (a.length:Int)),(13,iv (i.1:Int))],[]⟩) (fun i=>a.length - i.1) ⟨0,by simp⟩ (Weak.of_keep [0,1,2,11,12,13] (by simp)) ?_
 rintro ⟨k,hk,hkb,hE⟩
 simp only [iv,spotsv]
 by_cases hlt:k < a.length
 ·have hx:a[k]?=some a[k]:=by simp [hlt]
  by_cases hltb:k < b.length
  ·have hy:b[k]?=some b[k]:=by simp [hltb]
   have hw:IntKind.i64.wrap ((k:Int) + 1)=((k + 1:Nat):Int):=i64w (by omega) (by omega)
   rw [List.drop_eq_getElem_cons hlt,List.drop_eq_getElem_cons hltb,cmpL] at hE
   generalize hxe:a[k]=x at *
   generalize hye:b[k]=y at *
   have c1:=order_c (G:=G) x y
   have hnb:¬ (b.length:Int)≤(k:Int):=by omega
   simp only [refv] at c1
   generalize ordS x y=r at *
   by_cases hr:r=0
   ·rw [if_neg (by simp [hr])] at hE
    have hs:True:=trivial
    repeat' first|(with_reducible first|refine q01 ?_|refine q04 ?_|refine q11 ?_|refine q12 ?_|refine q14 ?_)|(refine CallE.pure (c1) ?_;try simp -dsimp [hx,hy,hxe,hye,hlt,hltb,hw,hnb,hr,hs])|(with_reducible refine DT_regionE [0,1,2,6,7,8,9,10,11,12,13,14,21,31,38] ?_;simp -dsimp [hx,hy,hxe,hye,hlt,hltb,hw,hnb,hr,hs])|(refine DT_cond rfl (fun h=>?_) (fun h=>?_)<;>(try simp only [nrm] at h)<;>(try exact Bool.noConfusion h))
    all_goals try simp -dsimp [hx,hy,hxe,hye,hlt,hltb,hw,hnb,hr,hs]
    all_goals try clear hs
    all_goals exact At.round ⟨k + 1,by omega,by omega,hE⟩ (by simp;omega) (Weak.of_drop [0,1,2,11,12,13] 0 (by simp) (by simp) (by simp))
   ·rw [if_pos hr] at hE
    have hs:True:=trivial
    repeat' first|(with_reducible first|refine q01 ?_|refine q02 ?_|refine q05 ?_|refine q11 ?_|refine q12 ?_|refine q14 ?_|refine q17 ?_)|(with_reducible refine At.fn_ret (by simp -dsimp [hx,hy,hxe,hye,hlt,hltb,hw,hnb,hr,hs];exact rfl) ?_)|(refine CallE.pure (c1) ?_;try simp -dsimp [hx,hy,hxe,hye,hlt,hltb,hw,hnb,hr,hs])|(with_reducible refine DT_regionE [0,1,2,6,7,8,9,10,11,12,13,14,21,31,38] ?_;simp -dsimp [hx,hy,hxe,hye,hlt,hltb,hw,hnb,hr,hs])|(refine DT_cond rfl (fun h=>?_) (fun h=>?_)<;>(try simp only [nrm] at h)<;>(try exact Bool.noConfusion h))
    all_goals try simp -dsimp [hx,hy,hxe,hye,hlt,hltb,hw,hnb,hr,hs]
    all_goals try clear hs
    all_goals rw [hE]
  ·have hyb:(b.length:Int)≤(k:Int):=by omega
   have hb0:b.drop k=[]:=List.drop_eq_nil_of_le (by omega)
   rw [List.drop_eq_getElem_cons hlt,hb0,cmpL] at hE
   have hs:True:=trivial
   repeat' first|(with_reducible first|refine q01 ?_|refine q02 ?_|refine q05 ?_|refine q11 ?_|refine q12 ?_|refine q14 ?_|refine q17 ?_)|(with_reducible refine At.fn_ret (by simp -dsimp [hx,hlt,hltb,hyb,hs];exact rfl) ?_)|(with_reducible refine DT_regionE [0,1,2,6,7,8,9,10,11,12,13,14,21,31,38] ?_;simp -dsimp [hx,hlt,hltb,hyb,hs])|(refine DT_cond rfl (fun h=>?_) (fun h=>?_)<;>(try simp only [nrm] at h)<;>(try exact Bool.noConfusion h))
   all_goals try simp -dsimp [hx,hlt,hltb,hyb,hs]
   all_goals try clear hs
   all_goals rw [hE]
 ·have ha0:a.drop k=[]:=List.drop_eq_nil_of_le (by omega)
  by_cases hltb:k < b.length
  ·have hlb:(a.length:Int) < (b.length:Int):=by omega
   rw [ha0,List.drop_eq_getElem_cons hltb,cmpL] at hE
   have hs:True:=trivial
   repeat' first|(with_reducible first|refine q01 ?_|refine q02 ?_|refine q03 ?_|refine q06 ?_|refine q11 ?_|refine q16 ?_|refine q17 ?_)|(with_reducible refine At.fn_ret (by simp -dsimp [hlt,hltb,hlb,hs];exact rfl) ?_)|(with_reducible refine DT_regionE [0,1,2,6,7,8,9,10,11,12,13,14,21,31,38] ?_;simp -dsimp [hlt,hltb,hlb,hs])|(refine DT_cond rfl (fun h=>?_) (fun h=>?_)<;>(try simp only [nrm] at h)<;>(try exact Bool.noConfusion h))
   all_goals try simp -dsimp [hlt,hltb,hlb,hs]
   all_goals try clear hs
   all_goals rw [hE]
  ·have hlb:¬ (a.length:Int) < (b.length:Int):=by omega
   rw [ha0,List.drop_eq_nil_of_le (by omega),cmpL] at hE
   have hs:True:=trivial
   repeat' first|(with_reducible first|refine q01 ?_|refine q03 ?_|refine q06 ?_|refine q11 ?_|refine q14 ?_|refine q16 ?_|refine q17 ?_)|(with_reducible refine At.fn_ret (by simp -dsimp [hlt,hltb,hlb,hs];exact rfl) ?_)|(with_reducible refine DT_regionE [0,1,2,6,7,8,9,10,11,12,13,14,21,31,38] ?_;simp -dsimp [hlt,hltb,hlb,hs])|(refine DT_cond rfl (fun h=>?_) (fun h=>?_)<;>(try simp only [nrm] at h)<;>(try exact Bool.noConfusion h))
   all_goals try simp -dsimp [hlt,hltb,hlb,hs]
   all_goals try clear hs
   all_goals rw [hE]
end Go.Proofs
namespace Go.Proofs
open Go Go.Ab
set_option linter.unusedSimpArgs false
variable {G:Nat→Option (List IC)}
attribute [simp] permL reO cutL cutE gones noLoop nilV nilX ZK
@[simp] theorem ims_getLp (L:List ChLoop) (k:Nat) (h:k < (ims (L.map encLoop)).length):(ims (L.map encLoop))[k]=[DC.im (.sl ((L[k]'(by simpa [ims_length] using h)).links.map encLink)),DC.im (.raw (.int .i64 (L[k]'(by simpa [ims_length] using h)).lo)),DC.im (.raw (.int .i64 (L[k]'(by simpa [ims_length] using h)).hi))]:=by
 simp [ims,encLoop,rI]
@[simp] theorem ims_getSh (L:List Issue) (k:Nat) (h:k < (ims (L.map encIssue)).length):(ims (L.map encIssue))[k]=(encIssue (L[k]'(by simpa [ims_length] using h))).map .im:=by
 simp [ims]
theorem set_self {α:Type} {l:List α} {k:Nat} {x:α} (h:l[k]?=some x):l.set k x=l:=by
 apply List.ext_getElem?
 intro j
 by_cases e:k=j
 ·subst e
  rw [List.getElem?_set_self (List.getElem?_eq_some_iff.1 h).1,h]
 ·rw [List.getElem?_set_ne e]
theorem ims_setLp {L:List ChLoop} {k:Nat} {x:ChLoop} (h:L[k]?=some x):(ims (L.map encLoop)).set k [DC.im (.sl (x.links.map encLink)),DC.im (.raw (.int .i64 x.lo)),DC.im (.raw (.int .i64 x.hi))]=ims (L.map encLoop):=
 set_self (by simp [ims,h,encLoop,rI])
theorem ims_setSh {L:List Issue} {k:Nat} {x:Issue} (h:L[k]?=some x):(ims (L.map encIssue)).set k ((encIssue x).map .im)=ims (L.map encIssue):=
 set_self (by simp [ims,h])
theorem clone_link (l:List Link) (hl:l.length < 1000000) (objs:List DObj):DCall Tryz.prog G 155 [.one (.im (.sl (l.map encLink)))] objs (fun d objs'=>d=.one (.im (.sl (l.map encLink)))∧objs'=objs):=by
 refine DCall.frame ?_ (by simp) (by simp) objs
 refine DCall_intro Tryz.func155 rfl Tryz.ntmps155 (by simp) rfl ?_
 have hs:True:=trivial
 repeat' first|(with_reducible first|refine q01 ?_|refine q02 ?_|refine q11 ?_|refine q14 ?_|refine q17 ?_|refine And.intro (by omega) ?_)|(with_reducible refine At.fn_ret (by simp -dsimp [hs];exact rfl) ?_)|(with_reducible refine DT_regionE [0,2,4] ?_;simp -dsimp [hs])|(refine DT_cond rfl (fun h=>?_) (fun h=>?_)<;>(try simp only [nrm] at h)<;>(try exact Bool.noConfusion h))|(with_reducible refine imp_At (fun h=>?_);(try simp only [List.map_eq_nil_iff] at h);(try subst h);try simp -dsimp [hs])|with_reducible refine And.intro ?_ ?_
 all_goals try simp -dsimp [hs]
 all_goals try clear hs
 all_goals omega
theorem cloneIM_c (l:List Int) (hl:l.length < 1000):DCall Tryz.prog G 153 [isv l] [] (fun d o=>∃ i:Nat×Bool,(i.2=true→l=[])∧d=.one (.vec 1 i.1 0 l.length)∧o=[.vec 1 [] 0 true,.vec 1 (ims (l.map encI)) i.1 i.2]):=by
 refine DCall_intro Tryz.func153 rfl Tryz.ntmps153 (by simp) rfl ?_
 simp only [isv]
 have hs:True:=trivial
 repeat' first|(with_reducible first|refine q01 ?_|refine q02 ?_|refine q11 ?_|refine q14 ?_|refine q17 ?_|refine And.intro (by omega) ?_)|(with_reducible refine At.fn_ret (by simp -dsimp [hs];exact rfl) ?_)|(with_reducible refine DT_regionE [0,2,4] ?_;simp -dsimp [hs])|(refine DT_cond rfl (fun h=>?_) (fun h=>?_)<;>(try simp only [nrm] at h)<;>(try exact Bool.noConfusion h))|(with_reducible refine imp_At (fun h=>?_);(try simp only [List.map_eq_nil_iff] at h);(try subst h);try simp -dsimp [hs])|with_reducible refine And.intro ?_ ?_
 all_goals try simp -dsimp [hs]
 all_goals try clear hs
theorem cloneLM_c (l:List ChLoop) (hl:l.length < 1000):DCall Tryz.prog G 154 [.one (.im (.sl (l.map encLoop)))] [] (fun d o=>∃ i:Nat×Bool,(i.2=true→l=[])∧d=.one (.vec 1 i.1 0 l.length)∧o=[.vec 3 [] 0 true,.vec 3 (ims (l.map encLoop)) i.1 i.2]):=by
 refine DCall_intro Tryz.func154 rfl Tryz.ntmps154 (by simp) rfl ?_
 have hs:True:=trivial
 repeat' first|(with_reducible first|refine q01 ?_|refine q02 ?_|refine q11 ?_|refine q14 ?_|refine q17 ?_|refine And.intro (by omega) ?_)|(with_reducible refine At.fn_ret (by simp -dsimp [hs];exact rfl) ?_)|(with_reducible refine DT_regionE [0,2,4] ?_;simp -dsimp [hs])|(refine DT_cond rfl (fun h=>?_) (fun h=>?_)<;>(try simp only [nrm] at h)<;>(try exact Bool.noConfusion h))|(with_reducible refine imp_At (fun h=>?_);(try simp only [List.map_eq_nil_iff] at h);(try subst h);try simp -dsimp [hs])|with_reducible refine And.intro ?_ ?_
 all_goals try simp -dsimp [hs]
 all_goals try clear hs
theorem cloneSM_c (l:List Issue) (hl:l.length < 1000):DCall Tryz.prog G 156 [.one (.im (.sl (l.map encIssue)))] [] (fun d o=>∃ i:Nat×Bool,(i.2=true→l=[])∧d=.one (.vec 1 i.1 0 l.length)∧o=[.vec 5 [] 0 true,.vec 5 (ims (l.map encIssue)) i.1 i.2]):=by
 refine DCall_intro Tryz.func156 rfl Tryz.ntmps156 (by simp) rfl ?_
 have hs:True:=trivial
 repeat' first|(with_reducible first|refine q01 ?_|refine q02 ?_|refine q11 ?_|refine q14 ?_|refine q17 ?_|refine And.intro (by omega) ?_)|(with_reducible refine At.fn_ret (by simp -dsimp [hs];exact rfl) ?_)|(with_reducible refine DT_regionE [0,2,4] ?_;simp -dsimp [hs])|(refine DT_cond rfl (fun h=>?_) (fun h=>?_)<;>(try simp only [nrm] at h)<;>(try exact Bool.noConfusion h))|(with_reducible refine imp_At (fun h=>?_);(try simp only [List.map_eq_nil_iff] at h);(try subst h);try simp -dsimp [hs])|with_reducible refine And.intro ?_ ?_
 all_goals try simp -dsimp [hs]
 all_goals try clear hs
abbrev Gaps:=(Nat×Bool)×(Nat×Bool)×(Nat×Bool)
def chD (m:Gaps) (c:Chains):DV:=.agg [.vec 10 m.2.2.1 0 c.reg.length,.vec 6 m.1.1 0 c.lets.length,.im (rI c.of),.vec 8 m.2.1.1 0 c.loops.length]
def chO (m:Gaps) (c:Chains):List DObj:=[.row [.vec 10 m.2.2.1 0 c.reg.length,.vec 6 m.1.1 0 c.lets.length,.im (rI c.of),.vec 8 m.2.1.1 0 c.loops.length],.vec 0 [] 0 true,.vec 0 [] 0 true,.vec 0 [] 0 true,.row [.vec 10 m.2.2.1 0 c.reg.length,.vec 6 m.1.1 0 c.lets.length,.im (rI c.of),.vec 8 m.2.1.1 0 c.loops.length],.vec 1 [] 0 true,.vec 1 (ims (c.lets.map encI)) m.1.1 m.1.2,.vec 3 [] 0 true,.vec 3 (ims (c.loops.map encLoop)) m.2.1.1 m.2.1.2,.vec 5 [] 0 true,.vec 5 (ims (c.reg.map encIssue)) m.2.2.1 m.2.2.2]
def GapsOk (m:Gaps) (c:Chains):Prop:=(m.1.2=true→c.lets=[])∧(m.2.1.2=true→c.loops=[])∧(m.2.2.2=true→c.reg=[])
def CopiedQ (c:Chains) (d:DV) (o:List DObj):Prop:=∃ m:Gaps,GapsOk m c∧d=chD m c∧o=chO m c
set_option maxHeartbeats 4000000 in
theorem chCopied_q (c:Chains) (hsm:SmallC c):DCall Tryz.prog G 121 [chv c] [] (CopiedQ c):=by
 refine DCall_intro Tryz.func121 rfl Tryz.ntmps121 (by simp) rfl ?_
 have c1:=cloneIM_c (G:=G) c.lets (by have:=hsm.2.1;omega)
 have c2:=cloneLM_c (G:=G) c.loops (by have:=hsm.2.2.1;omega)
 have c3:=cloneSM_c (G:=G) c.reg (by have:=hsm.1.1;omega)
 simp only [isv] at c1
 have hs:True:=trivial
 repeat' first|(with_reducible first|refine q01 ?_|refine q11 ?_|refine q12 ?_)|(refine CallE.embed_ex [] (c1) ?_ ?_ ?_ ?_ ?_ ?_;(focus (simp [emb];done));(focus (simp;done));(focus (simp;done));(focus (simp;done));(focus (refine emb_all ?_;simp [emb,embAll];done));intro mmA hmmA;try simp -dsimp [mergeO,emb,hs])|(refine CallE.embed_ex [] (c2) ?_ ?_ ?_ ?_ ?_ ?_;(focus (simp [emb];done));(focus (simp;done));(focus (simp;done));(focus (simp;done));(focus (refine emb_all ?_;simp [emb,embAll];done));intro mmB hmmB;try simp -dsimp [mergeO,emb,hs])|(refine DT_regionZc (id:=1) (nt:=69) [none,none,none,none,none,none,some [],none,some [],none] [0,1,3,4,6,8,2,5,7,9] 6 [([2,3,4,5],[0,1,2,3,4,5,7,16,17,18,42,43,44]),([4,5],[0,1,2,3,4,5,8,10,16,17,18,42,43,44]),([5],[0,1,2,3,4,5,8,11,12,16,17,18,42,43,44])] [0,1,2,3,4,5,16,17,18,42,43,44] mixed rfl (by kernel_rfl) (by kernel_rfl) (by kernel_rfl) ?_;simp -dsimp [hs])|(with_reducible refine DT_regionE [0,1,2,3,4,5,16,17,18,42,43,44] ?_;simp -dsimp [hs])
 all_goals try simp -dsimp [hs]
 all_goals try clear hs
 refine DT_loop (ι:={ i:Nat // i≤c.loops.length }) (fun i=>⟨69,[(0,chv c),(1,.one (.ptr 0 0)),(2,.one (.ptr 4 0)),(16,iv (c.loops.length:Int)),(17,iv (i.1:Int))],[.row [.im (.sl (c.reg.map encIssue)),.vec 6 mmA.1 0 c.lets.length,.im (rI c.of),.vec 8 mmB.1 0 c.loops.length],.vec 0 [] 0 true,.vec 0 [] 0 true,.vec 0 [] 0 true,.row [.vec 1 0 0 0,.vec 2 0 0 0,.im (rI 0),.vec 3 0 0 0],.vec 1 [] 0 true,.vec 1 (ims (c.lets.map encI)) mmA.1 mmA.2,.vec 3 [] 0 true,.vec 3 (ims (c.loops.map encLoop)) mmB.1 mmB.2]⟩) (fun i=>c.loops.length - i.1) ⟨0,by omega⟩ (Weak.of_keep [0,1,2,16,17] (by simp [chv])) ?_
 rintro ⟨i,hi⟩
 simp only [iv,rI,chv]
 by_cases hlt:i < c.loops.length
 ·obtain ⟨x,hx⟩:∃ x,c.loops[i]?=some x:=⟨c.loops[i],by simp [hlt]⟩
  have hxm:x∈c.loops:=List.mem_of_getElem? hx
  have hxe:∀ h,c.loops[i]'h=x:=fun h=>by rw [List.getElem?_eq_getElem h] at hx;exact Option.some.inj hx
  have c4:=clone_link (G:=G) x.links (by have:=hsm.2.2.2 x hxm;omega)
  have hw:IntKind.i64.wrap ((i:Int) + 1)=((i + 1:Nat):Int):=i64w (by omega) (by have:=hsm.2.2.1;omega)
  have hset:=ims_setLp hx
  have hs:True:=trivial
  repeat' first|(with_reducible first|refine q01 ?_|refine q04 ?_|refine q11 ?_|refine q12 ?_|refine q14 ?_)|(refine CallE.pure (c4) ?_;try simp -dsimp [hlt,hx,hxe,hw,hset,hs])|(refine DT_regionZc (id:=5) (nt:=69) [none,none,none,none,none,none,none,none,none,none,some [1,2],some [10],none] [0,1,2,3,4,5,6,7,8,10,11,9,12] 11 [([0,1,2,9,10],[0,1,2,3,4,5,16,17,18,28,42,43,44])] [0,1,2,3,4,5,16,17,18,42,43,44] mixed rfl (by kernel_rfl) (by kernel_rfl) (by kernel_rfl) ?_;simp -dsimp [hlt,hx,hxe,hw,hset,hs])|(with_reducible refine DT_regionE [0,1,2,3,4,5,16,17,18,42,43,44] ?_;simp -dsimp [hlt,hx,hxe,hw,hset,hs])|(refine DT_cond rfl (fun h=>?_) (fun h=>?_)<;>(try simp only [nrm] at h)<;>(try exact Bool.noConfusion h))
  all_goals try simp -dsimp [hlt,hx,hxe,hw,hset,hs]
  all_goals try clear hs
  all_goals exact At.round ⟨i + 1,by omega⟩ (by simp;omega) (Weak.of_keep [0,1,2,16,17] (by simp))
 ·have hs:True:=trivial
  repeat' first|(with_reducible first|refine q01 ?_|refine q03 ?_|refine q06 ?_|refine q11 ?_|refine q12 ?_|refine q16 ?_)|(refine CallE.embed_ex [] (c3) ?_ ?_ ?_ ?_ ?_ ?_;(focus (simp [emb];done));(focus (simp;done));(focus (simp;done));(focus (simp;done));(focus (refine emb_all ?_;simp [emb,embAll];done));intro mmC hmmC;try simp -dsimp [mergeO,emb,hlt,hs])|(with_reducible refine DT_regionE [0,1,2,3,4,5,16,17,18,42,43,44] ?_;simp -dsimp [hlt,hs])|(refine DT_cond rfl (fun h=>?_) (fun h=>?_)<;>(try simp only [nrm] at h)<;>(try exact Bool.noConfusion h))
  all_goals try simp -dsimp [hlt,hs]
  all_goals try clear hs
  refine DT_loop (ι:={ i:Nat // i≤c.reg.length }) (fun i=>⟨69,[(0,chv c),(1,.one (.ptr 0 0)),(2,.one (.ptr 4 0)),(42,iv (c.reg.length:Int)),(43,iv (i.1:Int))],[.row [.vec 10 mmC.1 0 c.reg.length,.vec 6 mmA.1 0 c.lets.length,.im (rI c.of),.vec 8 mmB.1 0 c.loops.length],.vec 0 [] 0 true,.vec 0 [] 0 true,.vec 0 [] 0 true,.row [.vec 1 0 0 0,.vec 2 0 0 0,.im (rI 0),.vec 3 0 0 0],.vec 1 [] 0 true,.vec 1 (ims (c.lets.map encI)) mmA.1 mmA.2,.vec 3 [] 0 true,.vec 3 (ims (c.loops.map encLoop)) mmB.1 mmB.2,.vec 5 [] 0 true,.vec 5 (ims (c.reg.map encIssue)) mmC.1 mmC.2]⟩) (fun i=>c.reg.length - i.1) ⟨0,by omega⟩ (Weak.of_keep [0,1,2,42,43] (by simp [chv])) ?_
  rintro ⟨i,hi⟩
  simp only [iv,rI,chv]
  by_cases hlt:i < c.reg.length
  ·obtain ⟨x,hx⟩:∃ x,c.reg[i]?=some x:=⟨c.reg[i],by simp [hlt]⟩
   have hxm:x∈c.reg:=List.mem_of_getElem? hx
   have hxe:∀ h,c.reg[i]'h=x:=fun h=>by rw [List.getElem?_eq_getElem h] at hx;exact Option.some.inj hx
   have c4:=clone_itm (G:=G) x.items (by have:=hsm.1.2 x hxm;omega)
   have c5:=clone_dim (G:=G) x.dims (by have:=hsm.1.2 x hxm;omega)
   have hw:IntKind.i64.wrap ((i:Int) + 1)=((i + 1:Nat):Int):=i64w (by omega) (by have:=hsm.1.1;omega)
   have hset:=ims_setSh hx
   simp only [encIssue,List.map_cons,List.map_nil,rI] at hset
   have hs:True:=trivial
   repeat' first|(with_reducible first|refine q01 ?_|refine q04 ?_|refine q11 ?_|refine q12 ?_|refine q14 ?_)|(refine CallE.pure (c4) ?_;try simp -dsimp [hlt,hx,hxe,hw,encIssue,rI,hset,hs])|(refine CallE.pure (c5) ?_;try simp -dsimp [hlt,hx,hxe,hw,encIssue,rI,hset,hs])|(refine DT_regionZc (id:=12) (nt:=69) [none,none,none,none,none,none,none,none,none,none,none,none,some [0],some [12],none,some [1],some [15],none] [0,1,2,3,4,5,7,8,9,10,12,13,15,16,6,11,14,17] 14 [([0,1,6,7,8,9,10,11,12,13],[0,1,2,3,4,5,16,17,18,42,43,44,56]),([0,1,10,11,12,13],[0,1,2,3,4,5,16,17,18,42,43,44,57,61]),([1,12,13],[0,1,2,3,4,5,16,17,18,42,43,44,57,62,64])] [0,1,2,3,4,5,16,17,18,42,43,44] mixed rfl (by kernel_rfl) (by kernel_rfl) (by kernel_rfl) ?_;simp -dsimp [hlt,hx,hxe,hw,encIssue,rI,hset,hs])|(with_reducible refine DT_regionE [0,1,2,3,4,5,16,17,18,42,43,44] ?_;simp -dsimp [hlt,hx,hxe,hw,encIssue,rI,hset,hs])|(refine DT_cond rfl (fun h=>?_) (fun h=>?_)<;>(try simp only [nrm] at h)<;>(try exact Bool.noConfusion h))
   all_goals try simp -dsimp [hlt,hx,hxe,hw,encIssue,rI,hset,hs]
   all_goals try clear hs
   all_goals exact At.round ⟨i + 1,by omega⟩ (by simp;omega) (Weak.of_keep [0,1,2,42,43] (by simp))
  ·have hs:True:=trivial
   repeat' first|(with_reducible first|refine q01 ?_|refine q03 ?_|refine q06 ?_|refine q11 ?_|refine q16 ?_|refine q17 ?_)|(with_reducible refine At.fn_ret (by simp -dsimp [hlt,hs];exact rfl) ?_)|(with_reducible refine DT_regionE [0,1,2,3,4,5,16,17,18,42,43,44] ?_;simp -dsimp [hlt,hs])|(refine DT_cond rfl (fun h=>?_) (fun h=>?_)<;>(try simp only [nrm] at h)<;>(try exact Bool.noConfusion h))
   all_goals try simp -dsimp [hlt,hs]
   all_goals try clear hs
   all_goals exact ⟨(mmA,mmB,mmC),⟨hmmA,hmmB,hmmC⟩,rfl,rfl⟩
theorem chCopied_c (c:Chains) (hsm:SmallC c):DCall Tryz.prog G 121 [chv c] [] (fun d o=>∃ m:Gaps,GapsOk m c∧d=chD m c∧o=chO m c):=chCopied_q c hsm
end Go.Proofs
namespace Go.Proofs
open Go Go.Ab
set_option linter.unusedSimpArgs false
variable {G:Nat→Option (List IC)}
def knownR (l:List Issue) (d:Int):DV:=if checkR l=0∧d∈nums l then .one (.im (bookI l (nums l))) else .one (.im (.raw (.pointer none)))
theorem knownR_im (l:List Issue) (d:Int):ImV (knownR l d):=by unfold knownR;split<;>simp [bookI]
attribute [simp] knownR_im
def knownE (l:List Issue) (d:Int):Int:=if checkR l≠0 then checkR l else if d∈nums l then 0 else 6
theorem known_c (l:List Issue) (d:Int) (hG:sheetG G) (hs:SmallR l) (objs:List DObj):DCall Tryz.prog G 157 [regv l,iv d] objs (fun rr objs'=>rr=.tup [knownR l d,iv (knownE l d)]∧objs'=objs):=by
 refine DCall.frame ?_ (by simp) (by simp) objs
 refine DCall_intro Tryz.func157 rfl Tryz.ntmps157 (by simp) rfl ?_
 try simp only [regv,iv]
 have c1:=open2_c l hG hs
 by_cases h0:checkR l=0
 ·simp only [bookR,h0,if_true] at c1
  have c2:=has_c (G:=G) l (nums l) d ((check_nums h0).1.imp fun h=>Int.le_of_lt h) (by have:=hs.1;have:=numsTo_length l l.length;unfold nums;omega)
  by_cases hm:d∈nums l
  ·simp only [hm,decide_true,bookI] at c1 c2
   have hs:True:=trivial
   repeat' first|(with_reducible first|refine q01 ?_|refine q11 ?_|refine q14 ?_|refine q17 ?_)|(with_reducible refine At.fn_ret (by simp -dsimp [hs];exact rfl) ?_)|(refine CallE.pure (c1) ?_;try simp -dsimp [hs])|(refine CallE.pure (c2) ?_;try simp -dsimp [hs])|(with_reducible refine DT_regionE [0,1,2,4,5,6,7,14,19] ?_;simp -dsimp [hs])|(refine DT_cond rfl (fun h=>?_) (fun h=>?_)<;>(try simp only [nrm] at h)<;>(try exact Bool.noConfusion h))
   all_goals try simp -dsimp [hs]
   all_goals try clear hs
   all_goals simp [knownR,knownE,h0,hm,bookI]
  ·simp only [hm,decide_false,bookI] at c1 c2
   have hs:True:=trivial
   repeat' first|(with_reducible first|refine q01 ?_|refine q02 ?_|refine q11 ?_|refine q14 ?_|refine q17 ?_)|(with_reducible refine At.fn_ret (by simp -dsimp [hs];exact rfl) ?_)|(refine CallE.pure (c1) ?_;try simp -dsimp [hs])|(refine CallE.pure (c2) ?_;try simp -dsimp [hs])|(with_reducible refine DT_regionE [0,1,2,4,5,6,7,14,19] ?_;simp -dsimp [hs])|(refine DT_cond rfl (fun h=>?_) (fun h=>?_)<;>(try simp only [nrm] at h)<;>(try exact Bool.noConfusion h))
   all_goals try simp -dsimp [hs]
   all_goals try clear hs
   all_goals simp [knownR,knownE,h0,hm,bookI]
 ·simp only [bookR,h0,if_false] at c1
  have hs:True:=trivial
  repeat' first|(with_reducible first|refine q01 ?_|refine q02 ?_|refine q11 ?_|refine q17 ?_)|(with_reducible refine At.fn_ret (by simp -dsimp [h0,hs];exact rfl) ?_)|(refine CallE.pure (c1) ?_;try simp -dsimp [h0,hs])|(with_reducible refine DT_regionE [0,1,2,4,5,6,7,14,19] ?_;simp -dsimp [h0,hs])|(refine DT_cond rfl (fun h=>?_) (fun h=>?_)<;>(try simp only [nrm] at h)<;>(try exact Bool.noConfusion h))
  all_goals try simp -dsimp [h0,hs]
  all_goals try clear hs
  all_goals simp [knownR,knownE,h0]
def cntN (l:List Issue) (d:Int):Nat:=(l.filter fun x=>decide (x.drawing=d)).length
theorem seg_cnt {l:List Issue} {d:Int} (hs:(l.map (·.drawing)).Pairwise (·≤·)):cntN l d=cntN (l.drop (lb (l.map (·.drawing)) d)) d:=by
 conv=>lhs;rw [← List.take_append_drop (lb (l.map (·.drawing)) d) l]
 simp only [cntN,List.filter_append]
 rw [List.filter_eq_nil_iff.2 fun x hx=>?_]
 ·rfl
 ·have:=seg_lt hs x hx
  simp;omega
theorem lastB_c (l:List Issue) (ds:List Int) (d:Int) (hs:(l.map (·.drawing)).Pairwise (·≤·)) (hl:l.length < 1000000) (objs:List DObj):DCall Tryz.prog G 158 [.one (.im (bookI l ds)),iv d] objs (fun rr objs'=>rr=iv (cntN l d:Int)∧objs'=objs):=by
 refine DCall.frame ?_ (by simp) (by simp) objs
 refine DCall_intro Tryz.func158 rfl Tryz.ntmps158 (by simp) rfl ?_
 try simp only [iv]
 simp only [bookI]
 have c1:=issues_c (G:=G) (bookI l ds) d
 simp only [bookI] at c1
 have hs:True:=trivial
 repeat' first|(with_reducible first|refine q01 ?_|refine q11 ?_|refine q12 ?_)|(refine CallE.pure (c1) ?_;try simp -dsimp [hs])|(with_reducible refine DT_regionE [0,1,4,5,8] ?_;simp -dsimp [hs])
 all_goals try simp -dsimp [hs]
 all_goals try clear hs
 refine DT_rangeFunc (f:=170) (by simp;exact rfl) (by rfl) Tryz.call170 ?_
 generalize hR:LoopD.mk _ _ _ _ _ _ _=R
 have hR1:R.st=.ready:=by rw [← hR]
 have hR2:R.pend=none:=by rw [← hR]
 have hR3:R.at .ready none=R:=by rw [← hR];rfl
 have hR4:=(congrArg LoopD.nt hR).symm
 have hR5:=(congrArg LoopD.tm hR).symm
 have hR6:=(congrArg LoopD.ps hR).symm
 have hR7:=(congrArg LoopD.asg hR).symm
 have hR8:=(congrArg LoopD.body hR).symm
 dsimp only at hR4 hR5 hR6 hR7 hR8
 clear hR
 refine DCall_intro Tryz.func170 rfl Tryz.ntmps170 (by simp) rfl ?_
 have hR9:∀ objs:List DObj,(R.tm.map fun x=>(x.1,fzV 2 objs x.2))=R.tm:=by intro objs;rw [hR5];simp
 have hlb:=lb_le (l.map (·.drawing)) d
 rw [List.length_map] at hlb
 have c2:=bsearchI_c (G:=G) l d hs hl
 have hs:True:=trivial
 repeat' first|(with_reducible first|refine q01 ?_|refine q11 ?_|refine q12 ?_)|(refine QCall_pure (c2) ?_;try simp -dsimp [hR1,hR2,hR3,hlb,hs])|(refine DT_regionM (id:=0) (nt:=41) 12 [0,1,2,4,7,24,25,26,27,39] mixed rfl (by kernel_rfl) ?_;simp -dsimp [hR1,hR2,hR3,hlb,hs])|(with_reducible refine DT_regionE [0,1,2,4,5,7,8,24,25,26,27,39] ?_;simp -dsimp [hR1,hR2,hR3,hlb,hs])
 all_goals try simp -dsimp [hR1,hR2,hR3,hlb,hs]
 all_goals try clear hs
 rw [← List.map_drop]
 have hge:=seg_ge (d:=d) hs
 have hss:((l.drop (lb (l.map (·.drawing)) d)).map (·.drawing)).Pairwise (·≤·):=by rw [List.map_drop];exact hs.drop
 have hsl:l.length - lb (l.map (·.drawing)) d=(l.drop (lb (l.map (·.drawing)) d)).length:=by simp
 rw [hsl]
 have hsl2:(l.drop (lb (l.map (·.drawing)) d)).length < 1000000:=by simp;omega
 rw [seg_cnt hs]
 generalize l.drop (lb (l.map (·.drawing)) d)=s at hge hss hsl2 ⊢
 refine DT_loop (ι:={ k:Nat // k≤s.length∧k + cntN (s.drop k) d=cntN s d }) (fun p=>⟨41,[(0,.one (.yld 1)),(2,.one (.im (.ip [rI d]))),(24,.one (.im (.sl (s.map encIssue)))),(25,iv (s.length:Int)),(26,iv (p.1:Int))],[.row [.im (rI (p.1:Int))],.loop R]⟩) (fun p=>s.length - p.1) ⟨0,by simp⟩ (Weak.of_keep [0,2,24,25,26] (by simp)) ?_
 rintro ⟨k,hk,hno⟩
 simp only [iv]
 by_cases hlt:k < s.length
 ·have hx:s[k]?=some s[k]:=by simp [hlt]
  have hw:IntKind.i64.wrap ((k:Int) + 1)=((k + 1:Nat):Int):=i64w (by omega) (by omega)
  have hcons:s.drop k=s[k] :: s.drop (k + 1):=List.drop_eq_getElem_cons hlt
  by_cases hd:s[k].drawing=d
  ·have hno':k + 1 + cntN (s.drop (k + 1)) d=cntN s d:=by
    rw [← hno,cntN,cntN,hcons,List.filter_cons_of_pos (by simp [hd]),List.length_cons];omega
   have hs:True:=trivial
   repeat' first|(with_reducible first|refine q01 ?_|refine q04 ?_|refine q11 ?_|refine q12 ?_|refine q14 ?_)|(with_reducible refine At.yield_end ?_;simp -dsimp [hR1,hR2,hR3,hx,hw,hd,hlt,hs])|(refine At_busy ?_ ?_<;>simp -dsimp [hR1,hR2,hR3,hx,hw,hd,hlt,hs])|(refine YieldE_go ?_;simp -dsimp [YieldR,hR4,hR5,hR6,hR7,hR8,hR1,hR2,hR3,hx,hw,hd,hlt,hs])|(with_reducible refine DT_regionE [0,1,2,4,5,7,8,24,25,26,27,39] ?_;simp -dsimp [hR1,hR2,hR3,hx,hw,hd,hlt,hs])|(refine DT_cond rfl (fun h=>?_) (fun h=>?_)<;>(try simp only [nrm] at h)<;>(try exact Bool.noConfusion h))
   all_goals try simp -dsimp [hR1,hR2,hR3,hx,hw,hd,hlt,hs]
   all_goals try clear hs
   all_goals exact At.round ⟨k + 1,by omega,hno'⟩ (by simp;omega) (Weak.of_drop [0,2,24,25,26] 2 (by simp) (by simp) (by simp [hR9]))
  ·have hnone:cntN (s.drop k) d=0:=by
    simp only [cntN,List.length_eq_zero_iff,List.filter_eq_nil_iff]
    intro x hxm
    obtain ⟨i,hi⟩:=List.mem_iff_getElem?.1 hxm
    rw [List.getElem?_drop] at hi
    have h1:s[k].drawing≤x.drawing:=by
     rcases Nat.eq_zero_or_pos i with rfl|hp
     ·rw [Nat.add_zero,hx] at hi;cases hi;exact Int.le_refl _
     ·have hlt2:=(List.getElem?_eq_some_iff.1 hi).1
      have:=(List.pairwise_iff_getElem.1 hss) k (k + i) (by simpa using hlt) (by simpa using hlt2) (by omega)
      have h6:=(List.getElem?_eq_some_iff.1 hi).2
      simp at this;rw [h6] at this;exact this
    have h2:=hge s[k] (List.getElem_mem hlt)
    simp;omega
   have hN:cntN s d=k:=by omega
   have hs:True:=trivial
   repeat' first|(with_reducible first|refine q01 ?_|refine q02 ?_|refine q04 ?_|refine q05 ?_|refine q11 ?_|refine q12 ?_|refine q14 ?_|refine q17 ?_)|(with_reducible refine At.fn_ret (by simp -dsimp [hR1,hR2,hR3,hx,hw,hd,hlt,hs];exact rfl) ?_)|(with_reducible show LoopR _ _ _ _ _ _ _ _;simp -dsimp [LoopR,hR1,hR2,hR3,hx,hw,hd,hlt,hs])|(with_reducible refine DT_regionE [0,1,2,4,5,7,8,24,25,26,27,39] ?_;simp -dsimp [hR1,hR2,hR3,hx,hw,hd,hlt,hs])|(refine DT_cond rfl (fun h=>?_) (fun h=>?_)<;>(try simp only [nrm] at h)<;>(try exact Bool.noConfusion h))
   all_goals try simp -dsimp [hR1,hR2,hR3,hx,hw,hd,hlt,hs]
   all_goals try clear hs
   all_goals simp [hN]
 ·have hN:cntN s d=k:=by rw [← hno,List.drop_eq_nil_of_le (by omega)];simp [cntN]
  have hs:True:=trivial
  repeat' first|(with_reducible first|refine q01 ?_|refine q03 ?_|refine q04 ?_|refine q06 ?_|refine q11 ?_|refine q16 ?_|refine q17 ?_)|(with_reducible refine At.fn_ret (by simp -dsimp [hR1,hR2,hR3,hlt,hs];exact rfl) ?_)|(with_reducible refine At.fn_end (by simp -dsimp [hR1,hR2,hR3,hlt,hs];exact rfl) ?_)|(with_reducible show LoopR _ _ _ _ _ _ _ _;simp -dsimp [LoopR,hR1,hR2,hR3,hlt,hs])|(with_reducible refine DT_regionE [0,1,2,4,5,7,8,24,25,26,27,39] ?_;simp -dsimp [hR1,hR2,hR3,hlt,hs])|(refine DT_cond rfl (fun h=>?_) (fun h=>?_)<;>(try simp only [nrm] at h)<;>(try exact Bool.noConfusion h))
  all_goals try simp -dsimp [hR1,hR2,hR3,hlt,hs]
  all_goals try clear hs
  all_goals simp [hN]
def lastR (l:List Issue) (d:Int):Int:=if knownE l d=0 then (cntN l d:Int) else 0
theorem pLast_c (l:List Issue) (d:Int) (hG:sheetG G) (hs:SmallR l) (objs:List DObj):DCall Tryz.prog G 123 [regv l,iv d] objs (fun rr objs'=>rr=.tup [iv (lastR l d),iv (knownE l d)]∧objs'=objs):=by
 refine DCall.frame ?_ (by simp) (by simp) objs
 refine DCall_intro Tryz.func123 rfl Tryz.ntmps123 (by simp) rfl ?_
 try simp only [regv,iv]
 have c1:=known_c (G:=G) l d hG hs
 by_cases h0:knownE l d=0
 ·have hk:checkR l=0∧d∈nums l:=by
   unfold knownE at h0
   by_cases h1:checkR l=0
   ·refine ⟨h1,?_⟩
    rw [if_neg (by simp [h1])] at h0
    by_cases h2:d∈nums l
    ·exact h2
    ·rw [if_neg h2] at h0;cases h0
   ·rw [if_pos h1] at h0;exact absurd h0 h1
  have c2:=lastB_c (G:=G) l (nums l) d (check_sorted hk.1) (by have:=hs.1;omega)
  rw [knownR,if_pos hk,h0] at c1
  rw [lastR,if_pos h0,h0]
  simp only [bookI] at c1 c2
  have hs:True:=trivial
  repeat' first|(with_reducible first|refine q01 ?_|refine q11 ?_|refine q14 ?_|refine q17 ?_)|(with_reducible refine At.fn_ret (by simp -dsimp [hs];exact rfl) ?_)|(refine CallE.pure (c1) ?_;try simp -dsimp [hs])|(refine CallE.pure (c2) ?_;try simp -dsimp [hs])|(with_reducible refine DT_regionE [0,1,2,4,5,6,7,15] ?_;simp -dsimp [hs])|(refine DT_cond rfl (fun h=>?_) (fun h=>?_)<;>(try simp only [nrm] at h)<;>(try exact Bool.noConfusion h))
  all_goals try simp -dsimp [hs]
  all_goals try clear hs
 ·rw [lastR,if_neg h0]
  generalize hX:knownR l d=X at c1
  have hXo:∃ x,X=.one (.im x):=by subst hX;unfold knownR;split<;>exact ⟨_,rfl⟩
  obtain ⟨x,rfl⟩:=hXo
  generalize knownE l d=e at *
  have hs:True:=trivial
  repeat' first|(with_reducible first|refine q01 ?_|refine q02 ?_|refine q11 ?_|refine q17 ?_)|(with_reducible refine At.fn_ret (by simp -dsimp [h0,hs];exact rfl) ?_)|(refine CallE.pure (c1) ?_;try simp -dsimp [h0,hs])|(with_reducible refine DT_regionE [0,1,2,4,5,6,7,15] ?_;simp -dsimp [h0,hs])|(refine DT_cond rfl (fun h=>?_) (fun h=>?_)<;>(try simp only [nrm] at h)<;>(try exact Bool.noConfusion h))
  all_goals try simp -dsimp [h0,hs]
  all_goals try clear hs
end Go.Proofs
