/- Part 23 of the proofs: laws and walks that hold without conditions beyond those that each theorem names. -/
import Derived.Test.YtciiddejfhbncaaGreatDoorP12
import Derived.Test.YtciiddejfhbncaaGreatDoorP22
set_option linter.all false
set_option linter.deprecated false
namespace Go.Proofs
open Go Go.Ab
set_option linter.unusedSimpArgs false
variable {G:Nat→Option (List IC)}
attribute [simp] permL reO gones noLoop nilV nilX ZK
theorem collect_c (c:Chains) (D:List (Int×Int)) (hOk:OkC c) (hsm:SmallC c) (hSF:SortFOk G) (objs:List DObj):DCall Tryz.prog G 64 [.one (.im (.fn (.func 113) [.ip [deskC c D (tkM c.reg c.lets)]]))] objs (fun rr objs'=>rr=.one (.im (.sl ((allSpots c).map encSpot)))∧objs'=objs):=by
 refine DCall.frame ?_ (by simp) (by simp) objs
 refine DCall_intro Tryz.func64 rfl Tryz.ntmps64 (by simp) rfl ?_
 try simp only [iv]
 have c1:=appendSeq_c (G:=G) c D hOk hsm hSF
 simp only [deskC] at c1
 simp only [deskC]
 have hs:True:=trivial
 repeat' first|(with_reducible first|refine q01 ?_|refine q11 ?_|refine q17 ?_)|(with_reducible refine At.fn_ret (by simp -dsimp [hs];exact rfl) ?_)|(refine CallE.pure (c1) ?_;try simp -dsimp [hs])|(with_reducible refine DT_regionR [0,2] ?_;simp -dsimp [hs])
 all_goals try simp -dsimp [hs]
 all_goals try clear hs
def spotsR (c:Chains):List Spot:=if chainsE c=0 then allSpots c else []
theorem pSpots_c (c:Chains) (hG:sheetG G) (hC:chainG G) (hsm:SmallC c) (hSF:SortFOk G) (objs:List DObj):DCall Tryz.prog G 36 [chv c] objs (fun rr objs'=>rr=.tup [spotsv (spotsR c),iv (chainsE c)]∧objs'=objs):=by
 refine DCall.frame ?_ (by simp) (by simp) objs
 refine DCall_intro Tryz.func36 rfl Tryz.ntmps36 (by simp) rfl ?_
 try simp only [chv]
 have c1:=chOpen_c c hG hC hsm
 simp only [spotsv]
 by_cases h00:chainsE c=0
 ·have hOk:=okC h00
  have c2:=spotsF_c (G:=G) (deskC c (cntD c) (tkM c.reg c.lets))
  have c3:=collect_c (G:=G) c (cntD c) hOk hsm hSF
  rw [h00] at c1
  rw [spotsR,if_pos h00,h00]
  simp only [deskR,h00,if_true,deskC] at c1
  simp only [deskC] at c2 c3
  have hs:True:=trivial
  repeat' first|(with_reducible first|refine q01 ?_|refine q11 ?_|refine q14 ?_|refine q17 ?_)|(with_reducible refine At.fn_ret (by simp -dsimp [hs];exact rfl) ?_)|(refine CallE.pure (c1) ?_;try simp -dsimp [hs])|(refine CallE.pure (c2) ?_;try simp -dsimp [hs])|(refine CallE.pure (c3) ?_;try simp -dsimp [hs])|(with_reducible refine DT_regionE [0,1,2,3,4,5,12] ?_;simp -dsimp [hs])|(refine DT_cond rfl (fun h=>?_) (fun h=>?_)<;>(try simp only [nrm] at h)<;>(try exact Bool.noConfusion h))
  all_goals try simp -dsimp [hs]
  all_goals try clear hs
 ·obtain ⟨X,hX⟩:=deskR_one c
  rw [hX] at c1
  rw [spotsR,if_neg h00]
  have hs:True:=trivial
  repeat' first|(with_reducible first|refine q01 ?_|refine q02 ?_|refine q11 ?_|refine q17 ?_)|(with_reducible refine At.fn_ret (by simp -dsimp [h00,hs];exact rfl) ?_)|(refine CallE.pure (c1) ?_;try simp -dsimp [h00,hs])|(with_reducible refine DT_regionE [0,1,2,3,4,5,12] ?_;simp -dsimp [h00,hs])|(refine DT_cond rfl (fun h=>?_) (fun h=>?_)<;>(try simp only [nrm] at h)<;>(try exact Bool.noConfusion h))
  all_goals try simp -dsimp [h00,hs]
  all_goals try clear hs
theorem sameSpots_c (l:List Spot) (hl:l.length < 1000000) (objs:List DObj):DCall Tryz.prog G 22 [spotsv l,spotsv l] objs (fun rr objs'=>rr=bv true∧objs'=objs):=by
 refine DCall.frame ?_ (by simp) (by simp) objs
 refine DCall_intro Tryz.func22 rfl Tryz.ntmps22 (by simp) rfl ?_
 try simp only [iv]
 simp only [spotsv]
 have hs:True:=trivial
 repeat' first|(with_reducible first|refine q01 ?_|refine q11 ?_|refine q12 ?_|refine q14 ?_)|(with_reducible refine DT_regionE [0,1,4,5,10,14,25] ?_;simp -dsimp [hs])|(refine DT_cond rfl (fun h=>?_) (fun h=>?_)<;>(try simp only [nrm] at h)<;>(try exact Bool.noConfusion h))
 all_goals try simp -dsimp [hs]
 all_goals try clear hs
 refine DT_loop (ι:={ i:Nat // i≤l.length }) (fun p=>⟨26,[(0,.one (.im (.sl (l.map encSpot)))),(1,.one (.im (.sl (l.map encSpot)))),(5,iv (p.1:Int))],[]⟩) (fun p=>l.length - p.1) ⟨0,by simp⟩ (Weak.of_keep [0,1,5] (by simp)) ?_
 rintro ⟨i,hi⟩
 simp only [iv]
 by_cases hlt:i < l.length
 ·have hx:l[i]?=some l[i]:=by simp [hlt]
  have hw:IntKind.i64.wrap ((i:Int) + 1)=((i + 1:Nat):Int):=i64w (by omega) (by omega)
  have hs:True:=trivial
  repeat' first|(with_reducible first|refine q01 ?_|refine q04 ?_|refine q11 ?_|refine q12 ?_|refine q14 ?_)|(refine DT_regionM (id:=6) (nt:=26) 9 [0,1,4,5,10,14,25] mixed rfl (by kernel_rfl) ?_;simp -dsimp [hx,hw,hlt,hs])|(with_reducible refine DT_regionE [0,1,4,5,10,14,25] ?_;simp -dsimp [hx,hw,hlt,hs])|(refine DT_cond rfl (fun h=>?_) (fun h=>?_)<;>(try simp only [nrm] at h)<;>(try exact Bool.noConfusion h))
  all_goals try simp -dsimp [hx,hw,hlt,hs]
  all_goals try clear hs
  exact At.round ⟨i + 1,by omega⟩ (by simp;omega) (Weak.of_drop [0,1,5] 0 (by simp) (by simp) (by simp))
 ·have hs:True:=trivial
  repeat' first|(with_reducible first|refine q01 ?_|refine q03 ?_|refine q06 ?_|refine q11 ?_|refine q16 ?_|refine q17 ?_)|(with_reducible refine At.fn_ret (by simp -dsimp [hlt,hs];exact rfl) ?_)|(with_reducible refine DT_regionE [0,1,4,5,10,14,25] ?_;simp -dsimp [hlt,hs])|(refine DT_cond rfl (fun h=>?_) (fun h=>?_)<;>(try simp only [nrm] at h)<;>(try exact Bool.noConfusion h))
  all_goals try simp -dsimp [hlt,hs]
  all_goals try clear hs
end Go.Proofs
namespace Go.Proofs
open Go Go.Ab
set_option linter.unusedSimpArgs false
variable {G:Nat→Option (List IC)}
theorem SoF.congr {c:Chains} {fv:IC} {so so':Spot→Bool} (h:SoF G c fv so) (he:∀ x∈spotsOf c,so x=so' x):SoF G c fv so':=by
 rcases h with ⟨f,caps,h1,h2,h3⟩|⟨f,caps,h1,h2,h3⟩
 ·exact .inl ⟨f,caps,h1,h2,fun x hx objs=>(h3 x hx objs).mono fun d o ⟨a,b⟩=>⟨by rw [a,he x hx],b⟩⟩
 ·exact .inr ⟨f,caps,h1,h2,fun x hx objs=>(h3 x hx objs).mono fun d o ⟨a,b⟩=>⟨by rw [a,he x hx],b⟩⟩
theorem loose_c (c:Chains) (D:List (Int×Int)) (B:List (Int×Issue)) (d k:Int) (objs:List DObj):DCall Tryz.prog G 93 [.one (.im (deskC c D B)),refv d k] objs (fun rr objs'=>rr=bv (looseP B ⟨d,k⟩)∧objs'=objs):=by
 refine DCall.frame ?_ (by simp) (by simp) objs
 refine DCall_intro Tryz.func93 rfl Tryz.ntmps93 (by simp) rfl ?_
 try simp only [refv]
 simp only [deskC]
 have hs:True:=trivial
 repeat' first|(with_reducible first|refine q01 ?_|refine q11 ?_|refine q17 ?_)|(with_reducible refine At.fn_ret (by simp -dsimp [hs];exact rfl) ?_)|(refine DT_regionM (id:=1) (nt:=14) 10 [0,1,3,4] mixed rfl (by kernel_rfl) ?_;simp -dsimp [hs])|(with_reducible refine DT_regionE [0,1,3,4] ?_;simp -dsimp [hs])
 all_goals try simp -dsimp [hs]
 all_goals try clear hs
 all_goals simp [looseP]
def looseF (c:Chains) (D:List (Int×Int)):IC:=.bf (.func 93) [deskC c D (tkM c.reg c.lets)]
theorem loose_so {c:Chains} (h:OkC c) (D:List (Int×Int)):SoF G c (looseF c D) (looseR c):=
 SoF.congr (.inr ⟨93,_,rfl,by simp,fun x _ objs=>loose_c (G:=G) c D (tkM c.reg c.lets) x.drawing x.dim objs⟩) fun x hx=>loose_eq h hx
def SoN (G:Nat→Option (List IC)) (fv:IC) (lo hi:Int) (p:Int→Bool):Prop:=
 ∃ (f:FuncId) (caps:List IC),fv=.fn (.func f) caps∧CallOk Tryz.prog f∧∀ n,lo≤n→n≤hi→∀ objs,DCall Tryz.prog G f (iv n :: caps.map fun c=>.one (.im c)) objs (fun d o=>d=bv (p n)∧o=objs)
set_option maxHeartbeats 1000000 in
theorem greatest_c (fv:IC) (p:Int→Bool) (lo hi:Int) (hlo:0≤lo) (hhi:hi≤2000000000) (hp:SoN G fv lo hi p) (objs:List DObj):DCall Tryz.prog G 137 [iv lo,iv hi,.one (.im fv)] objs (fun rr objs'=>rr=iv (gsI p lo hi)∧objs'=objs):=by
 refine DCall.frame ?_ (by simp) (by simp) objs
 refine DCall_intro Tryz.func137 rfl Tryz.ntmps137 (by simp) rfl ?_
 try simp only [iv,iv]
 obtain ⟨f,caps,rfl,hf,hcall⟩:=hp
 have hs:True:=trivial
 repeat' first|(with_reducible first|refine q01 ?_|refine q11 ?_|refine q12 ?_)|(with_reducible refine DT_regionE [0,1,2,6,7,10,19] ?_;simp -dsimp [hs])
 all_goals try simp -dsimp [hs]
 all_goals try clear hs
 refine DT_loop (ι:={ q:Int×Int // lo≤q.1∧q.2≤hi∧(q.1≤q.2∨q.1=lo)∧gsI p lo hi=gsI p q.1 q.2 }) (fun q=>⟨24,[(0,iv q.1.1),(1,iv q.1.2),(2,.one (.im (.fn (.func f) caps)))],[]⟩) (fun q=>(q.1.2 - q.1.1).toNat) ⟨(lo,hi),by simp⟩ (Weak.of_keep [0,1,2] (by simp)) ?_
 rintro ⟨⟨a,b⟩,ha,hb,hab,hE⟩
 simp only at ha hb hab hE
 simp only [iv]
 by_cases hlt:a < b
 ·have hst:=gsI_step (p:=p) hlt
  have hw1:IntKind.i64.wrap (b - a)=b - a:=i64w (by omega) (by omega)
  have hd:(b - a).tdiv 2=(b - a) / 2:=by rw [Int.tdiv_eq_ediv_of_nonneg (by omega)]
  have hw2:IntKind.i64.wrap ((b - a) / 2)=(b - a) / 2:=i64w (by omega) (by omega)
  have hw3:IntKind.i64.wrap (b - (b - a) / 2)=b - (b - a) / 2:=i64w (by omega) (by omega)
  have hw4:IntKind.i64.wrap (b - (b - a) / 2 - 1)=b - (b - a) / 2 - 1:=i64w (by omega) (by omega)
  have c1:=hcall (b - (b - a) / 2) (by omega) (by omega)
  have hm1:a < b - (b - a) / 2:=by omega
  have hm2:b - (b - a) / 2≤b:=by omega
  generalize hm:b - (b - a) / 2=m at *
  cases hq:p m
  ·rw [hq] at c1 hst
   simp only [Bool.false_eq_true,if_false] at hst
   have hs:True:=trivial
   repeat' first|(with_reducible first|refine q01 ?_|refine q04 ?_|refine q11 ?_|refine q12 ?_|refine q14 ?_)|(refine CallE.pure (c1) ?_;try simp -dsimp [hlt,hw1,hd,hw2,hw3,hw4,hm,hf,hs])|(with_reducible refine DT_regionE [0,1,2,6,7,10,19] ?_;simp -dsimp [hlt,hw1,hd,hw2,hw3,hw4,hm,hf,hs])|(refine DT_cond rfl (fun h=>?_) (fun h=>?_)<;>(try simp only [nrm] at h)<;>(try exact Bool.noConfusion h))
   all_goals try simp -dsimp [hlt,hw1,hd,hw2,hw3,hw4,hm,hf,hs]
   all_goals try clear hs
   exact At.round ⟨(a,m - 1),by omega,by omega,by omega,hE.trans hst⟩ (by simp;omega) (Weak.of_keep [0,1,2] (by simp))
  ·rw [hq,if_pos rfl] at hst
   rw [hq] at c1
   have hs:True:=trivial
   repeat' first|(with_reducible first|refine q01 ?_|refine q04 ?_|refine q11 ?_|refine q12 ?_|refine q14 ?_)|(refine CallE.pure (c1) ?_;try simp -dsimp [hlt,hw1,hd,hw2,hw3,hw4,hm,hf,hs])|(with_reducible refine DT_regionE [0,1,2,6,7,10,19] ?_;simp -dsimp [hlt,hw1,hd,hw2,hw3,hw4,hm,hf,hs])|(refine DT_cond rfl (fun h=>?_) (fun h=>?_)<;>(try simp only [nrm] at h)<;>(try exact Bool.noConfusion h))
   all_goals try simp -dsimp [hlt,hw1,hd,hw2,hw3,hw4,hm,hf,hs]
   all_goals try clear hs
   exact At.round ⟨(m,b),by omega,by omega,by omega,hE.trans hst⟩ (by simp;omega) (Weak.of_keep [0,1,2] (by simp))
 ·have:gsI p a b=a:=gsI_end (by omega)
  rw [this] at hE
  have hs:True:=trivial
  repeat' first|(with_reducible first|refine q01 ?_|refine q03 ?_|refine q06 ?_|refine q11 ?_|refine q16 ?_|refine q17 ?_)|(with_reducible refine At.fn_ret (by simp -dsimp [hlt,hs];exact rfl) ?_)|(with_reducible refine DT_regionE [0,1,2,6,7,10,19] ?_;simp -dsimp [hlt,hs])|(refine DT_cond rfl (fun h=>?_) (fun h=>?_)<;>(try simp only [nrm] at h)<;>(try exact Bool.noConfusion h))
  all_goals try simp -dsimp [hlt,hs]
  all_goals try clear hs
  all_goals rw [hE]
theorem shut_c (c:Chains) (D:List (Int×Int)) (n:Int) (h:OkC c) (hl:c.loops.length≤10) (h0:0≤n) (h1:n≤2000000000) (objs:List DObj):DCall Tryz.prog G 136 [iv n,.one (.im (.ip [deskC c D (tkM c.reg c.lets)]))] objs (fun rr objs'=>rr=bv (allT c (looseR c) n)∧objs'=objs):=by
 refine DCall.frame ?_ (by simp) (by simp) objs
 refine DCall_intro Tryz.func136 rfl Tryz.ntmps136 (by simp) rfl ?_
 try simp only [iv]
 have c1:=pwrong_c (G:=G) c D (looseF c D) (looseR c) n 0 (Nat.zero_le _) hl h (loose_so h D) h0 h1
 have hE:=allT_find c (looseR c) n
 generalize allT c (looseR c) n=r at *
 generalize findW c (looseR c) n 0=m at *
 simp only [deskC,looseF,Int.natCast_zero] at c1
 simp only [deskC]
 by_cases hm:m=c.loops.length
 ·have hr:r=true:=hE.2 hm
  have hm':(m:Int)=(c.loops.length:Int):=by omega
  have hs:True:=trivial
  repeat' first|(with_reducible first|refine q01 ?_|refine q11 ?_|refine q17 ?_)|(with_reducible refine At.fn_ret (by simp -dsimp [hm',hs];exact rfl) ?_)|(refine QCall_pure (c1) ?_;try simp -dsimp [hm',hs])|(refine DT_regionM (id:=1) (nt:=16) 13 [0,1,3] mixed rfl (by kernel_rfl) ?_;simp -dsimp [hm',hs])|(with_reducible refine DT_regionE [0,1,3] ?_;simp -dsimp [hm',hs])
  all_goals try simp -dsimp [hm',hs]
  all_goals try clear hs
  all_goals simp [hr]
 ·have hr:r=false:=by
   cases hq:r with
   | false=>rfl
   | true=>exact absurd (hE.1 hq) hm
  have hm':¬ (m:Int)=(c.loops.length:Int):=by omega
  have hs:True:=trivial
  repeat' first|(with_reducible first|refine q01 ?_|refine q11 ?_|refine q17 ?_)|(with_reducible refine At.fn_ret (by simp -dsimp [hm,hm',hs];exact rfl) ?_)|(refine QCall_pure (c1) ?_;try simp -dsimp [hm,hm',hs])|(refine DT_regionM (id:=1) (nt:=16) 13 [0,1,3] mixed rfl (by kernel_rfl) ?_;simp -dsimp [hm,hm',hs])|(with_reducible refine DT_regionE [0,1,3] ?_;simp -dsimp [hm,hm',hs])
  all_goals try simp -dsimp [hm,hm',hs]
  all_goals try clear hs
  all_goals simp [hr]
theorem shut_so {c:Chains} (D:List (Int×Int)) (h:OkC c) (hl:c.loops.length≤10):SoN G (.fn (.func 136) [.ip [deskC c D (tkM c.reg c.lets)]]) 0 maxG (allT c (looseR c)):=
 ⟨136,_,rfl,by simp,fun n h0 h1 objs=>shut_c (G:=G) c D n h hl h0 (by unfold maxG at h1;omega) objs⟩
def gradeV (c:Chains):Int:=if hasG c then gradeN c else 0
theorem grade_c (c:Chains) (D:List (Int×Int)) (h:OkC c) (hl:c.loops.length≤10) (objs:List DObj):DCall Tryz.prog G 92 [.one (.im (deskC c D (tkM c.reg c.lets)))] objs (fun rr objs'=>rr=.tup [iv (gradeV c),bv (hasG c)]∧objs'=objs):=by
 refine DCall.frame ?_ (by simp) (by simp) objs
 refine DCall_intro Tryz.func92 rfl Tryz.ntmps92 (by simp) rfl ?_
 try simp only [iv]
 have c1:=shut_c (G:=G) c D 0 h hl (by decide) (by decide)
 have c2:=greatest_c (G:=G) _ _ 0 maxG (by decide) (by decide) (shut_so (G:=G) D h hl)
 have hH:hasG c=allT c (looseR c) 0:=rfl
 have hN:gradeN c=gsI (allT c (looseR c)) 0 maxG:=rfl
 rw [← hH] at c1
 rw [← hN] at c2
 simp only [deskC,maxG] at c1 c2
 simp only [deskC,gradeV]
 clear hH hN
 generalize gradeN c=N at *
 cases hq:hasG c
 ·rw [hq] at c1
  have hs:True:=trivial
  repeat' first|(with_reducible first|refine q01 ?_|refine q02 ?_|refine q11 ?_|refine q17 ?_)|(with_reducible refine At.fn_ret (by simp -dsimp [hs];exact rfl) ?_)|(refine CallE.thaw (c1) ?_ ?_ ?_;(focus (simp;done));(focus (simp;done));try simp -dsimp [hs])|(with_reducible refine DT_regionE [0,1,2,3,4,8] ?_;simp -dsimp [hs])|(refine DT_cond rfl (fun h=>?_) (fun h=>?_)<;>(try simp only [nrm] at h)<;>(try exact Bool.noConfusion h))
  all_goals try simp -dsimp [hs]
  all_goals try clear hs
 ·rw [hq] at c1
  have hs:True:=trivial
  repeat' first|(with_reducible first|refine q01 ?_|refine q11 ?_|refine q14 ?_|refine q17 ?_)|(with_reducible refine At.fn_ret (by simp -dsimp [hs];exact rfl) ?_)|(refine CallE.thaw (c1) ?_ ?_ ?_;(focus (simp;done));(focus (simp;done));try simp -dsimp [hs])|(refine CallE.thaw (c2) ?_ ?_ ?_;(focus (simp;done));(focus (simp;done));try simp -dsimp [hs])|(with_reducible refine DT_regionE [0,1,2,3,4,8] ?_;simp -dsimp [hs])|(refine DT_cond rfl (fun h=>?_) (fun h=>?_)<;>(try simp only [nrm] at h)<;>(try exact Bool.noConfusion h))
  all_goals try simp -dsimp [hs]
  all_goals try clear hs
def gradeE (c:Chains):Int:=if chainsE c≠0 then chainsE c else if hasG c then 0 else 6
def gradeR (c:Chains):Int:=if chainsE c=0 then gradeV c else 0
theorem pGrade_c (c:Chains) (hG:sheetG G) (hC:chainG G) (hsm:SmallC c) (objs:List DObj):DCall Tryz.prog G 34 [chv c] objs (fun rr objs'=>rr=.tup [iv (gradeR c),iv (gradeE c)]∧objs'=objs):=by
 refine DCall.frame ?_ (by simp) (by simp) objs
 refine DCall_intro Tryz.func34 rfl Tryz.ntmps34 (by simp) rfl ?_
 try simp only [chv]
 have c1:=chOpen_c c hG hC hsm
 by_cases h00:chainsE c=0
 ·have hOk:=okC h00
  have c2:=grade_c (G:=G) c (cntD c) hOk hsm.2.2.1
  rw [h00] at c1
  rw [gradeR,if_pos h00,gradeE,if_neg (by simp [h00]),gradeV]
  rw [gradeV] at c2
  simp only [deskR,h00,if_true,deskC] at c1
  simp only [deskC] at c2
  generalize gradeN c=N at *
  cases hq:hasG c
  all_goals simp only [hq] at c2
  ·have hs:True:=trivial
   repeat' first|(with_reducible first|refine q01 ?_|refine q02 ?_|refine q11 ?_|refine q14 ?_|refine q17 ?_)|(with_reducible refine At.fn_ret (by simp -dsimp [hs];exact rfl) ?_)|(refine CallE.pure (c1) ?_;try simp -dsimp [hs])|(refine CallE.pure (c2) ?_;try simp -dsimp [hs])|(with_reducible refine DT_regionE [0,1,2,3,4,5,6,7,14,22] ?_;simp -dsimp [hs])|(refine DT_cond rfl (fun h=>?_) (fun h=>?_)<;>(try simp only [nrm] at h)<;>(try exact Bool.noConfusion h))
   all_goals try simp -dsimp [hs]
   all_goals try clear hs
  ·have hs:True:=trivial
   repeat' first|(with_reducible first|refine q01 ?_|refine q11 ?_|refine q14 ?_|refine q17 ?_)|(with_reducible refine At.fn_ret (by simp -dsimp [hs];exact rfl) ?_)|(refine CallE.pure (c1) ?_;try simp -dsimp [hs])|(refine CallE.pure (c2) ?_;try simp -dsimp [hs])|(with_reducible refine DT_regionE [0,1,2,3,4,5,6,7,14,22] ?_;simp -dsimp [hs])|(refine DT_cond rfl (fun h=>?_) (fun h=>?_)<;>(try simp only [nrm] at h)<;>(try exact Bool.noConfusion h))
   all_goals try simp -dsimp [hs]
   all_goals try clear hs
 ·obtain ⟨X,hX⟩:=deskR_one c
  rw [hX] at c1
  rw [gradeR,if_neg h00,gradeE,if_pos h00]
  have hs:True:=trivial
  repeat' first|(with_reducible first|refine q01 ?_|refine q02 ?_|refine q11 ?_|refine q17 ?_)|(with_reducible refine At.fn_ret (by simp -dsimp [h00,hs];exact rfl) ?_)|(refine CallE.pure (c1) ?_;try simp -dsimp [h00,hs])|(with_reducible refine DT_regionE [0,1,2,3,4,5,6,7,14,22] ?_;simp -dsimp [h00,hs])|(refine DT_cond rfl (fun h=>?_) (fun h=>?_)<;>(try simp only [nrm] at h)<;>(try exact Bool.noConfusion h))
  all_goals try simp -dsimp [h00,hs]
  all_goals try clear hs
def proofOk (c:Chains):Bool:=hasG c && decide (gradeN c≠maxG)
def proofE (c:Chains):Int:=if chainsE c≠0 then chainsE c else if proofOk c then 0 else 6
def proofL (c:Chains):Nat:=findW c (looseR c) (gradeN c + 1) 0
def proofX (c:Chains):ChLoop:=lpAt c (proofL c:Int)
def proofS (c:Chains):List Int:=endsL (proofX c).links (szT c (looseR c) (gradeN c + 1) (proofX c)) (!decide (hiT c (looseR c) (gradeN c + 1) (proofX c)≤(proofX c).hi))
def prL (c:Chains):Int:=if proofE c=0 then (proofL c:Int) else 0
def prS (c:Chains):List Int:=if proofE c=0 then proofS c else []
theorem proof_lt {c:Chains} (hOk:OkC c) (h:proofOk c=true):proofL c < c.loops.length∧0≤gradeN c + 1∧gradeN c + 1≤1000000000:=by
 simp only [proofOk,Bool.and_eq_true,decide_eq_true_eq] at h
 obtain ⟨h1,h2,h3,h4⟩:=grade_spec hOk h.1
 have h5:=h4 (gradeN c + 1) (by omega) (by have:=h.2;omega)
 obtain ⟨_,k2,_,_⟩:=findW_spec c (looseR c) (gradeN c + 1) _ 0 rfl (Nat.zero_le _)
 refine ⟨?_,by omega,by have:=h.2;unfold maxG at h3 this;omega⟩
 refine Nat.lt_of_le_of_ne k2 fun e=>?_
 rw [(allT_find c (looseR c) (gradeN c + 1)).2 e] at h5
 cases h5
set_option maxHeartbeats 1000000 in
theorem pProof_c (c:Chains) (hG:sheetG G) (hC:chainG G) (hsm:SmallC c) (objs:List DObj):DCall Tryz.prog G 35 [chv c] objs (fun rr objs'=>rr=.tup [iv (prL c),isv (prS c),iv (proofE c)]∧objs'=objs):=by
 refine DCall.frame ?_ (by simp) (by simp) objs
 refine DCall_intro Tryz.func35 rfl Tryz.ntmps35 (by simp) rfl ?_
 try simp only [chv]
 have c1:=chOpen_c c hG hC hsm
 by_cases h00:chainsE c=0
 ·have hOk:=okC h00
  have c2:=grade_c (G:=G) c (cntD c) hOk hsm.2.2.1
  rw [h00] at c1
  simp only [deskR,h00,if_true,deskC] at c1
  rw [gradeV] at c2
  cases hp:proofOk c
  ·have hE:proofE c=6:=by rw [proofE,if_neg (by simp [h00]),hp];rfl
   rw [prL,prS,hE,if_neg (by decide),if_neg (by decide)]
   simp only [deskC] at c2
   have hp':hasG c=false∨hasG c=true∧gradeN c=maxG:=by
    simp only [proofOk] at hp
    cases hq:hasG c
    ·exact .inl rfl
    ·rw [hq,Bool.true_and] at hp
     exact .inr ⟨rfl,by simpa using hp⟩
   rcases hp' with hq|⟨hq,hM⟩
   ·simp only [hq] at c2
    have hs:True:=trivial
    repeat' first|(with_reducible first|refine q01 ?_|refine q02 ?_|refine q11 ?_|refine q14 ?_|refine q17 ?_)|(with_reducible refine At.fn_ret (by simp -dsimp [hs];exact rfl) ?_)|(refine CallE.pure (c1) ?_;try simp -dsimp [hs])|(refine CallE.pure (c2) ?_;try simp -dsimp [hs])|(with_reducible refine DT_regionE [0,1,2,3,4,5,6,7,8,9,10,17,29,58] ?_;simp -dsimp [hs])|(refine DT_cond rfl (fun h=>?_) (fun h=>?_)<;>(try simp only [nrm] at h)<;>(try exact Bool.noConfusion h))
    all_goals try simp -dsimp [hs]
    all_goals try clear hs
   ·simp only [hq,hM,maxG] at c2
    have hs:True:=trivial
    repeat' first|(with_reducible first|refine q01 ?_|refine q02 ?_|refine q11 ?_|refine q14 ?_|refine q17 ?_)|(with_reducible refine At.fn_ret (by simp -dsimp [hs];exact rfl) ?_)|(refine CallE.pure (c1) ?_;try simp -dsimp [hs])|(refine CallE.pure (c2) ?_;try simp -dsimp [hs])|(with_reducible refine DT_regionE [0,1,2,3,4,5,6,7,8,9,10,17,29,58] ?_;simp -dsimp [hs])|(refine DT_cond rfl (fun h=>?_) (fun h=>?_)<;>(try simp only [nrm] at h)<;>(try exact Bool.noConfusion h))
    all_goals try simp -dsimp [hs]
    all_goals try clear hs
  ·have hE:proofE c=0:=by rw [proofE,if_neg (by simp [h00]),hp];rfl
   rw [prL,prS,hE,if_pos rfl,if_pos rfl]
   obtain ⟨hL,hg0,hg1⟩:=proof_lt hOk hp
   have hq:hasG c=true∧gradeN c≠1000000000:=by
    have:=hp
    simp only [proofOk,Bool.and_eq_true,decide_eq_true_eq,maxG] at this
    exact ⟨this.1,of_decide_eq_true this.2⟩
   have c3:=pwrong_c (G:=G) c (cntD c) (looseF c (cntD c)) (looseR c) (gradeN c + 1) 0 (Nat.zero_le _) hsm.2.2.1 hOk (loose_so hOk _) hg0 (by omega)
   have hLE:findW c (looseR c) (gradeN c + 1) 0=proofL c:=rfl
   rw [hLE] at c3
   have c4:=psizesG_c (G:=G) c (cntD c) (looseF c (cntD c)) (looseR c) (gradeN c + 1) (proofL c) hL hOk (loose_so hOk _) hg0 (by omega)
   obtain ⟨hsl,hsd⟩:=szT_ok hOk (so:=looseR c) hg0 (List.getElem_mem hL)
   have hln:=(hOk.gap c.loops[proofL c] (List.getElem_mem hL)).1
   have c5:=fun high=>pend_c (G:=G) c (cntD c) (tkM c.reg c.lets) (proofL c) hL (szT c (looseR c) (gradeN c + 1) c.loops[proofL c]) high (by omega) hsl hsd
   have hX:proofX c=c.loops[proofL c]:=lpAt_at hL
   have hS:proofS c=endsL c.loops[proofL c].links (szT c (looseR c) (gradeN c + 1) c.loops[proofL c]) (!decide (endS c.loops[proofL c].links (szT c (looseR c) (gradeN c + 1) c.loops[proofL c]) true≤c.loops[proofL c].hi)):=by rw [proofS,hX];rfl
   have hx:c.loops[proofL c]?=some c.loops[proofL c]:=by simp [hL]
   have hw:IntKind.i64.wrap (gradeN c + 1)=gradeN c + 1:=i64w (by omega) (by omega)
   rw [hS]
   clear hS hX hLE
   have c51:=c5 true
   have c50:=c5 false
   clear c5
   generalize szT c (looseR c) (gradeN c + 1) c.loops[proofL c]=sz at *
   generalize endS c.loops[proofL c].links sz true=hi at *
   generalize endS c.loops[proofL c].links sz false=lo at *
   simp only [hq.1,if_true] at c2
   simp only [deskC,looseF,Int.natCast_zero] at c2 c3 c4 c50 c51
   simp only [isv] at c50 c51
   have hq2:=hq.2
   generalize proofL c=L at *
   generalize gradeN c=N at *
   by_cases hh:hi≤c.loops[L].hi
   ·have hs:True:=trivial
    repeat' first|(with_reducible first|refine q01 ?_|refine q11 ?_|refine q14 ?_|refine q17 ?_)|(with_reducible refine At.fn_ret (by simp -dsimp [hw,hq2,hx,hL,hh,hs];exact rfl) ?_)|(refine CallE.pure (c1) ?_;try simp -dsimp [hw,hq2,hx,hL,hh,hs])|(refine CallE.pure (c2) ?_;try simp -dsimp [hw,hq2,hx,hL,hh,hs])|(refine CallE.pure (c3) ?_;try simp -dsimp [hw,hq2,hx,hL,hh,hs])|(refine CallE.pure (c4) ?_;try simp -dsimp [hw,hq2,hx,hL,hh,hs])|(refine CallE.pure (c51) ?_;try simp -dsimp [hw,hq2,hx,hL,hh,hs])|(refine CallE.pure (c50) ?_;try simp -dsimp [hw,hq2,hx,hL,hh,hs])|(with_reducible refine DT_regionE [0,1,2,3,4,5,6,7,8,9,10,17,29,58] ?_;simp -dsimp [hw,hq2,hx,hL,hh,hs])|(refine DT_cond rfl (fun h=>?_) (fun h=>?_)<;>(try simp only [nrm] at h)<;>(try exact Bool.noConfusion h))
    all_goals try simp -dsimp [hw,hq2,hx,hL,hh,hs]
    all_goals try clear hs
    all_goals simp [hh]
   ·have hs:True:=trivial
    repeat' first|(with_reducible first|refine q01 ?_|refine q11 ?_|refine q14 ?_|refine q17 ?_)|(with_reducible refine At.fn_ret (by simp -dsimp [hw,hq2,hx,hL,hh,hs];exact rfl) ?_)|(refine CallE.pure (c1) ?_;try simp -dsimp [hw,hq2,hx,hL,hh,hs])|(refine CallE.pure (c2) ?_;try simp -dsimp [hw,hq2,hx,hL,hh,hs])|(refine CallE.pure (c3) ?_;try simp -dsimp [hw,hq2,hx,hL,hh,hs])|(refine CallE.pure (c4) ?_;try simp -dsimp [hw,hq2,hx,hL,hh,hs])|(refine CallE.pure (c51) ?_;try simp -dsimp [hw,hq2,hx,hL,hh,hs])|(with_reducible refine DT_regionE [0,1,2,3,4,5,6,7,8,9,10,17,29,58] ?_;simp -dsimp [hw,hq2,hx,hL,hh,hs])|(refine DT_cond rfl (fun h=>?_) (fun h=>?_)<;>(try simp only [nrm] at h)<;>(try exact Bool.noConfusion h))
    all_goals try simp -dsimp [hw,hq2,hx,hL,hh,hs]
    all_goals try clear hs
    all_goals simp [hh]
 ·obtain ⟨X,hX⟩:=deskR_one c
  rw [hX] at c1
  have hE:proofE c=chainsE c:=by rw [proofE,if_pos h00]
  rw [prL,prS,hE,if_neg h00,if_neg h00]
  have hs:True:=trivial
  repeat' first|(with_reducible first|refine q01 ?_|refine q02 ?_|refine q11 ?_|refine q17 ?_)|(with_reducible refine At.fn_ret (by simp -dsimp [h00,hs];exact rfl) ?_)|(refine CallE.pure (c1) ?_;try simp -dsimp [h00,hs])|(with_reducible refine DT_regionE [0,1,2,3,4,5,6,7,8,9,10,17,29,58] ?_;simp -dsimp [h00,hs])|(refine DT_cond rfl (fun h=>?_) (fun h=>?_)<;>(try simp only [nrm] at h)<;>(try exact Bool.noConfusion h))
  all_goals try simp -dsimp [h00,hs]
  all_goals try clear hs
end Go.Proofs
namespace Go.Proofs
open Go Go.Ab
set_option linter.unusedSimpArgs false
variable {G:Nat→Option (List IC)}
attribute [simp] permL reO gones noLoop nilV nilX ZK
theorem indexSp_c (l:List Spot) (v:Spot) (hl:l.length < 1000000) (objs:List DObj):DCall Tryz.prog G 116 [spotsv l,refv v.drawing v.dim] objs (fun rr objs'=>rr=iv (fidx (fun x=>decide (v=x)) l)∧objs'=objs):=by
 refine DCall.frame ?_ (by simp) (by simp) objs
 refine DCall_intro Tryz.func116 rfl Tryz.ntmps116 (by simp) rfl ?_
 try simp only [refv]
 simp only [spotsv,refv]
 have hs:True:=trivial
 repeat' first|(with_reducible first|refine q01 ?_|refine q11 ?_|refine q12 ?_)|(with_reducible refine DT_regionE [0,1,3,4,5,7,8,9,16] ?_;simp -dsimp [hs])
 all_goals try simp -dsimp [hs]
 all_goals try clear hs
 refine DT_loop (ι:={ k:Nat // k≤l.length∧∀ j x,j < k→l[j]?=some x→decide (v=x)=false }) (fun i=>⟨19,[(0,spotsv l),(3,.one (.ptr 0 0)),(7,iv (l.length:Int)),(8,iv (i.1:Int))],[.row [.im (rI v.drawing),.im (rI v.dim)]]⟩) (fun i=>l.length - i.1) ⟨0,by simp⟩ (Weak.of_keep [0,3,7,8] (by simp)) ?_
 rintro ⟨i,hi,hno⟩
 simp only [iv,spotsv]
 by_cases hlt:i < l.length
 ·have hx0:l[i]?=some l[i]:=by simp [hlt]
  have hw:IntKind.i64.wrap ((i:Int) + 1)=((i + 1:Nat):Int):=i64w (by omega) (by omega)
  generalize hx:l[i]=x at *
  have hiff:v=x↔v.drawing=x.drawing∧v.dim=x.dim:=⟨fun e=>by rw [e];exact ⟨rfl,rfl⟩,fun ⟨a,b⟩=>by cases v;cases x;simp_all⟩
  have hs:True:=trivial
  repeat' first|(with_reducible first|refine q01 ?_|refine q02 ?_|refine q04 ?_|refine q05 ?_|refine q11 ?_|refine q12 ?_|refine q14 ?_|refine q17 ?_)|(with_reducible refine At.fn_ret (by simp -dsimp [hx,hw,hlt,hs];exact rfl) ?_)|(refine DT_regionM (id:=4) (nt:=19) 6 [0,1,3,4,5,7,8,9,16] mixed rfl (by kernel_rfl) ?_;simp -dsimp [hx,hw,hlt,hs])|(with_reducible refine DT_regionE [0,1,3,4,5,7,8,9,16] ?_;simp -dsimp [hx,hw,hlt,hs])|(refine DT_cond rfl (fun h=>?_) (fun h=>?_)<;>(try simp only [nrm] at h)<;>(try exact Bool.noConfusion h))
  all_goals try simp -dsimp [hx,hw,hlt,hs]
  all_goals try clear hs
  all_goals first
   | exact (fidx_yes hx0 (by rw [decide_eq_true_iff,hiff];omega) hno).symm
   | exact At.round ⟨i + 1,by omega,fun j y hj hjx=>by
    by_cases e:j=i
    ·subst e;rw [hx0] at hjx;cases hjx;rw [decide_eq_false_iff_not,hiff];omega
    ·exact hno j y (by omega) hjx⟩ (by simp;omega) (Weak.of_keep [0,3,7,8] (by simp))
 ·have hs:True:=trivial
  repeat' first|(with_reducible first|refine q01 ?_|refine q03 ?_|refine q06 ?_|refine q11 ?_|refine q16 ?_|refine q17 ?_)|(with_reducible refine At.fn_ret (by simp -dsimp [hlt,hs];exact rfl) ?_)|(with_reducible refine DT_regionE [0,1,3,4,5,7,8,9,16] ?_;simp -dsimp [hlt,hs])|(refine DT_cond rfl (fun h=>?_) (fun h=>?_)<;>(try simp only [nrm] at h)<;>(try exact Bool.noConfusion h))
  all_goals try simp -dsimp [hlt,hs]
  all_goals try clear hs
  exact (fidx_no fun j x hjx=>hno j x (by have:=lt_of_getElem? hjx;omega) hjx).symm
theorem containsSp_c (l:List Spot) (v:Spot) (hl:l.length < 1000000) (objs:List DObj):DCall Tryz.prog G 66 [spotsv l,refv v.drawing v.dim] objs (fun rr objs'=>rr=bv (inS l v)∧objs'=objs):=by
 refine DCall.frame ?_ (by simp) (by simp) objs
 refine DCall_intro Tryz.func66 rfl Tryz.ntmps66 (by simp) rfl ?_
 try simp only [refv]
 have hc:=indexSp_c (G:=G) l v hl
 simp only [spotsv,refv] at hc
 simp only [spotsv,refv]
 have hs:True:=trivial
 repeat' first|(with_reducible first|refine q01 ?_|refine q11 ?_|refine q17 ?_)|(with_reducible refine At.fn_ret (by simp -dsimp [hs];exact rfl) ?_)|(refine CallE.pure (hc) ?_;try simp -dsimp [hs])|(with_reducible refine DT_regionE [0,1,3,4] ?_;simp -dsimp [hs])
 all_goals try simp -dsimp [hs]
 all_goals try clear hs
 have h1:=fidx_nonneg (fun x=>decide (v=x)) l
 rw [h1,Bool.eq_iff_iff]
 simp [inS]
theorem fewF_c (l:List Spot) (v:Spot) (hl:l.length < 1000000) (objs:List DObj):DCall Tryz.prog G 96 [refv v.drawing v.dim,.one (.im (.ip [.sl (l.map encSpot)]))] objs (fun rr objs'=>rr=bv (inS l v)∧objs'=objs):=by
 refine DCall.frame ?_ (by simp) (by simp) objs
 refine DCall_intro Tryz.func96 rfl Tryz.ntmps96 (by simp) rfl ?_
 try simp only [refv]
 have hc:=containsSp_c (G:=G) l v hl
 simp only [spotsv,refv] at hc
 have hs:True:=trivial
 repeat' first|(with_reducible first|refine q01 ?_|refine q11 ?_|refine q17 ?_)|(with_reducible refine At.fn_ret (by simp -dsimp [hs];exact rfl) ?_)|(refine CallE.pure (hc) ?_;try simp -dsimp [hs])|(with_reducible refine DT_regionE [0,1,2,3] ?_;simp -dsimp [hs])
 all_goals try simp -dsimp [hs]
 all_goals try clear hs
def fewF (l:List Spot):IC:=.fn (.func 96) [.ip [.sl (l.map encSpot)]]
theorem few_so (c:Chains) {l:List Spot} (hl:l.length < 1000000):SoF G c (fewF l) (inS l):=.inl ⟨96,_,rfl,by simp,fun x _ objs=>fewF_c (G:=G) l x hl objs⟩
def cmpL:List Spot→List Spot→Int
 | [],[]=>0
 | [],_ :: _=>-1
 | _ :: _,[]=>1
 | a :: l,b :: m=>if ordS a b≠0 then ordS a b else cmpL l m
theorem ordS_zero {a b:Spot}:ordS a b=0↔a=b:=by
 have h1:a=b↔a.drawing=b.drawing∧a.dim=b.dim:=⟨fun e=>by rw [e];exact ⟨rfl,rfl⟩,fun ⟨p,q⟩=>by cases a;cases b;simp_all⟩
 rw [h1]
 unfold ordS cmpI orI' orI' orI'
 repeat' split
 all_goals omega
theorem cmpL_lt:∀ {a b:List Spot},a.length=b.length→(cmpL a b < 0↔lexB a b=true)
 | [],[],_=>by simp [cmpL,lexB]
 | [],_ :: _,h=>by simp at h
 | _ :: _,[],h=>by simp at h
 | x :: a,y :: b,h=>by
   rw [cmpL,lexB]
   by_cases e:x=y
   ·have h0:ordS x y=0:=ordS_zero.2 e
    rw [if_neg (by simp [h0]),if_pos e]
    exact cmpL_lt (by simpa using h)
   ·have h0:ordS x y≠0:=fun h=>e (ordS_zero.1 h)
    rw [if_pos h0,if_neg e,ordS_lt]
set_option maxHeartbeats 1000000 in
theorem cmpL_c (a b:List Spot) (ha:a.length < 1000000) (hb:b.length < 1000000) (objs:List DObj):DCall Tryz.prog G 95 [spotsv a,spotsv b,.one (.im (.fn (.func 67) []))] objs (fun rr objs'=>rr=iv (cmpL a b)∧objs'=objs):=by
 refine DCall.frame ?_ (by simp) (by simp) objs
 refine DCall_intro Tryz.func95 rfl Tryz.ntmps95 (by simp) rfl ?_
 try simp only [iv]
 simp only [spotsv]
 have hs:True:=trivial
 repeat' first|(with_reducible first|refine q01 ?_|refine q11 ?_|refine q12 ?_)|(with_reducible refine DT_regionE [0,1,2,6,7,8,9,10,11,12,13,14,21,31,38] ?_;simp -dsimp [hs])
 all_goals try simp -dsimp [hs]
 all_goals try clear hs
 refine DT_loop (ι:={ k:Nat // k≤a.length∧k≤b.length∧cmpL a b=cmpL (a.drop k) (b.drop k) }) (fun i=>⟨39,[(0,spotsv a),(1,spotsv b),(2,.one (.im (.fn (.func 67) []))),(11,spotsv a),(12,iv (a.length:Int)),(13,iv (i.1:Int))],[]⟩) (fun i=>a.length - i.1) ⟨0,by simp⟩ (Weak.of_keep [0,1,2,11,12,13] (by simp)) ?_
 rintro ⟨k,hk,hkb,hE⟩
 simp only [iv,spotsv]
 by_cases hlt:k < a.length
 ·have hx:a[k]?=some a[k]:=by simp [hlt]
  by_cases hltb:k < b.length
  ·have hy:b[k]?=some b[k]:=by simp [hltb]
   have hw:IntKind.i64.wrap ((k:Int) + 1)=((k + 1:Nat):Int):=i64w (by omega) (by omega)
   rw [List.drop_eq_getElem_cons hlt,List.drop_eq_getElem_cons hltb,cmpL] at hE
   generalize hxe:a[k]=x at *
   generalize hye:b[k]=y at *
   have c1:=order_c (G:=G) x y
   have hnb:¬ (b.length:Int)≤(k:Int):=by omega
   simp only [refv] at c1
   generalize ordS x y=r at *
   by_cases hr:r=0
   ·rw [if_neg (by simp [hr])] at hE
    have hs:True:=trivial
    repeat' first|(with_reducible first|refine q01 ?_|refine q04 ?_|refine q11 ?_|refine q12 ?_|refine q14 ?_)|(refine CallE.pure (c1) ?_;try simp -dsimp [hx,hy,hxe,hye,hlt,hltb,hw,hnb,hr,hs])|(with_reducible refine DT_regionE [0,1,2,6,7,8,9,10,11,12,13,14,21,31,38] ?_;simp -dsimp [hx,hy,hxe,hye,hlt,hltb,hw,hnb,hr,hs])|(refine DT_cond rfl (fun h=>?_) (fun h=>?_)<;>(try simp only [nrm] at h)<;>(try exact Bool.noConfusion h))
    all_goals try simp -dsimp [hx,hy,hxe,hye,hlt,hltb,hw,hnb,hr,hs]
    all_goals try clear hs
    all_goals exact At.round ⟨k + 1,by omega,by omega,hE⟩ (by simp;omega) (Weak.of_drop [0,1,2,11,12,13] 0 (by simp) (by simp) (by simp))
   ·rw [if_pos hr] at hE
    have hs:True:=trivial
    repeat' first|(with_reducible first|refine q01 ?_|refine q02 ?_|refine q05 ?_|refine q11 ?_|refine q12 ?_|refine q14 ?_|refine q17 ?_)|(with_reducible refine At.fn_ret (by simp -dsimp [hx,hy,hxe,hye,hlt,hltb,hw,hnb,hr,hs];exact rfl) ?_)|(refine CallE.pure (c1) ?_;try simp -dsimp [hx,hy,hxe,hye,hlt,hltb,hw,hnb,hr,hs])|(with_reducible refine DT_regionE [0,1,2,6,7,8,9,10,11,12,13,14,21,31,38] ?_;simp -dsimp [hx,hy,hxe,hye,hlt,hltb,hw,hnb,hr,hs])|(refine DT_cond rfl (fun h=>?_) (fun h=>?_)<;>(try simp only [nrm] at h)<;>(try exact Bool.noConfusion h))
    all_goals try simp -dsimp [hx,hy,hxe,hye,hlt,hltb,hw,hnb,hr,hs]
    all_goals try clear hs
    all_goals rw [hE]
  ·have hyb:(b.length:Int)≤(k:Int):=by omega
   have hb0:b.drop k=[]:=List.drop_eq_nil_of_le (by omega)
   rw [List.drop_eq_getElem_cons hlt,hb0,cmpL] at hE
   have hs:True:=trivial
   repeat' first|(with_reducible first|refine q01 ?_|refine q02 ?_|refine q05 ?_|refine q11 ?_|refine q12 ?_|refine q14 ?_|refine q17 ?_)|(with_reducible refine At.fn_ret (by simp -dsimp [hx,hlt,hltb,hyb,hs];exact rfl) ?_)|(with_reducible refine DT_regionE [0,1,2,6,7,8,9,10,11,12,13,14,21,31,38] ?_;simp -dsimp [hx,hlt,hltb,hyb,hs])|(refine DT_cond rfl (fun h=>?_) (fun h=>?_)<;>(try simp only [nrm] at h)<;>(try exact Bool.noConfusion h))
   all_goals try simp -dsimp [hx,hlt,hltb,hyb,hs]
   all_goals try clear hs
   all_goals rw [hE]
 ·have ha0:a.drop k=[]:=List.drop_eq_nil_of_le (by omega)
  by_cases hltb:k < b.length
  ·have hlb:(a.length:Int) < (b.length:Int):=by omega
   rw [ha0,List.drop_eq_getElem_cons hltb,cmpL] at hE
   have hs:True:=trivial
   repeat' first|(with_reducible first|refine q01 ?_|refine q02 ?_|refine q03 ?_|refine q06 ?_|refine q11 ?_|refine q16 ?_|refine q17 ?_)|(with_reducible refine At.fn_ret (by simp -dsimp [hlt,hltb,hlb,hs];exact rfl) ?_)|(with_reducible refine DT_regionE [0,1,2,6,7,8,9,10,11,12,13,14,21,31,38] ?_;simp -dsimp [hlt,hltb,hlb,hs])|(refine DT_cond rfl (fun h=>?_) (fun h=>?_)<;>(try simp only [nrm] at h)<;>(try exact Bool.noConfusion h))
   all_goals try simp -dsimp [hlt,hltb,hlb,hs]
   all_goals try clear hs
   all_goals rw [hE]
  ·have hlb:¬ (a.length:Int) < (b.length:Int):=by omega
   rw [ha0,List.drop_eq_nil_of_le (by omega),cmpL] at hE
   have hs:True:=trivial
   repeat' first|(with_reducible first|refine q01 ?_|refine q03 ?_|refine q06 ?_|refine q11 ?_|refine q14 ?_|refine q16 ?_|refine q17 ?_)|(with_reducible refine At.fn_ret (by simp -dsimp [hlt,hltb,hlb,hs];exact rfl) ?_)|(with_reducible refine DT_regionE [0,1,2,6,7,8,9,10,11,12,13,14,21,31,38] ?_;simp -dsimp [hlt,hltb,hlb,hs])|(refine DT_cond rfl (fun h=>?_) (fun h=>?_)<;>(try simp only [nrm] at h)<;>(try exact Bool.noConfusion h))
   all_goals try simp -dsimp [hlt,hltb,hlb,hs]
   all_goals try clear hs
   all_goals rw [hE]
end Go.Proofs
namespace Go.Proofs
open Go Go.Ab
set_option linter.unusedSimpArgs false
variable {G:Nat→Option (List IC)}
attribute [simp] permL reO cutL cutE gones noLoop nilV nilX ZK
@[simp] theorem ims_getLp (L:List ChLoop) (k:Nat) (h:k < (ims (L.map encLoop)).length):(ims (L.map encLoop))[k]=[DC.im (.sl ((L[k]'(by simpa [ims_length] using h)).links.map encLink)),DC.im (.raw (.int .i64 (L[k]'(by simpa [ims_length] using h)).lo)),DC.im (.raw (.int .i64 (L[k]'(by simpa [ims_length] using h)).hi))]:=by
 simp [ims,encLoop,rI]
@[simp] theorem ims_getSh (L:List Issue) (k:Nat) (h:k < (ims (L.map encIssue)).length):(ims (L.map encIssue))[k]=(encIssue (L[k]'(by simpa [ims_length] using h))).map .im:=by
 simp [ims]
theorem set_self {α:Type} {l:List α} {k:Nat} {x:α} (h:l[k]?=some x):l.set k x=l:=by
 apply List.ext_getElem?
 intro j
 by_cases e:k=j
 ·subst e
  rw [List.getElem?_set_self (List.getElem?_eq_some_iff.1 h).1,h]
 ·rw [List.getElem?_set_ne e]
theorem ims_setLp {L:List ChLoop} {k:Nat} {x:ChLoop} (h:L[k]?=some x):(ims (L.map encLoop)).set k [DC.im (.sl (x.links.map encLink)),DC.im (.raw (.int .i64 x.lo)),DC.im (.raw (.int .i64 x.hi))]=ims (L.map encLoop):=
 set_self (by simp [ims,h,encLoop,rI])
theorem ims_setSh {L:List Issue} {k:Nat} {x:Issue} (h:L[k]?=some x):(ims (L.map encIssue)).set k ((encIssue x).map .im)=ims (L.map encIssue):=
 set_self (by simp [ims,h])
theorem clone_link (l:List Link) (hl:l.length < 1000000) (objs:List DObj):DCall Tryz.prog G 155 [.one (.im (.sl (l.map encLink)))] objs (fun d objs'=>d=.one (.im (.sl (l.map encLink)))∧objs'=objs):=by
 refine DCall.frame ?_ (by simp) (by simp) objs
 refine DCall_intro Tryz.func155 rfl Tryz.ntmps155 (by simp) rfl ?_
 have hs:True:=trivial
 repeat' first|(with_reducible first|refine q01 ?_|refine q02 ?_|refine q11 ?_|refine q14 ?_|refine q17 ?_|refine And.intro (by omega) ?_)|(with_reducible refine At.fn_ret (by simp -dsimp [hs];exact rfl) ?_)|(with_reducible refine DT_regionE [0,2,4] ?_;simp -dsimp [hs])|(refine DT_cond rfl (fun h=>?_) (fun h=>?_)<;>(try simp only [nrm] at h)<;>(try exact Bool.noConfusion h))|(with_reducible refine imp_At (fun h=>?_);(try simp only [List.map_eq_nil_iff] at h);(try subst h);try simp -dsimp [hs])|with_reducible refine And.intro ?_ ?_
 all_goals try simp -dsimp [hs]
 all_goals try clear hs
 all_goals omega
theorem cloneIM_c (l:List Int) (hl:l.length < 1000):DCall Tryz.prog G 153 [isv l] [] (fun d o=>∃ i:Nat×Bool,(i.2=true→l=[])∧d=.one (.vec 1 i.1 0 l.length)∧o=[.vec 1 [] 0 true,.vec 1 (ims (l.map encI)) i.1 i.2]):=by
 refine DCall_intro Tryz.func153 rfl Tryz.ntmps153 (by simp) rfl ?_
 simp only [isv]
 have hs:True:=trivial
 repeat' first|(with_reducible first|refine q01 ?_|refine q02 ?_|refine q11 ?_|refine q14 ?_|refine q17 ?_|refine And.intro (by omega) ?_)|(with_reducible refine At.fn_ret (by simp -dsimp [hs];exact rfl) ?_)|(with_reducible refine DT_regionE [0,2,4] ?_;simp -dsimp [hs])|(refine DT_cond rfl (fun h=>?_) (fun h=>?_)<;>(try simp only [nrm] at h)<;>(try exact Bool.noConfusion h))|(with_reducible refine imp_At (fun h=>?_);(try simp only [List.map_eq_nil_iff] at h);(try subst h);try simp -dsimp [hs])|with_reducible refine And.intro ?_ ?_
 all_goals try simp -dsimp [hs]
 all_goals try clear hs
theorem cloneLM_c (l:List ChLoop) (hl:l.length < 1000):DCall Tryz.prog G 154 [.one (.im (.sl (l.map encLoop)))] [] (fun d o=>∃ i:Nat×Bool,(i.2=true→l=[])∧d=.one (.vec 1 i.1 0 l.length)∧o=[.vec 3 [] 0 true,.vec 3 (ims (l.map encLoop)) i.1 i.2]):=by
 refine DCall_intro Tryz.func154 rfl Tryz.ntmps154 (by simp) rfl ?_
 have hs:True:=trivial
 repeat' first|(with_reducible first|refine q01 ?_|refine q02 ?_|refine q11 ?_|refine q14 ?_|refine q17 ?_|refine And.intro (by omega) ?_)|(with_reducible refine At.fn_ret (by simp -dsimp [hs];exact rfl) ?_)|(with_reducible refine DT_regionE [0,2,4] ?_;simp -dsimp [hs])|(refine DT_cond rfl (fun h=>?_) (fun h=>?_)<;>(try simp only [nrm] at h)<;>(try exact Bool.noConfusion h))|(with_reducible refine imp_At (fun h=>?_);(try simp only [List.map_eq_nil_iff] at h);(try subst h);try simp -dsimp [hs])|with_reducible refine And.intro ?_ ?_
 all_goals try simp -dsimp [hs]
 all_goals try clear hs
theorem cloneSM_c (l:List Issue) (hl:l.length < 1000):DCall Tryz.prog G 156 [.one (.im (.sl (l.map encIssue)))] [] (fun d o=>∃ i:Nat×Bool,(i.2=true→l=[])∧d=.one (.vec 1 i.1 0 l.length)∧o=[.vec 5 [] 0 true,.vec 5 (ims (l.map encIssue)) i.1 i.2]):=by
 refine DCall_intro Tryz.func156 rfl Tryz.ntmps156 (by simp) rfl ?_
 have hs:True:=trivial
 repeat' first|(with_reducible first|refine q01 ?_|refine q02 ?_|refine q11 ?_|refine q14 ?_|refine q17 ?_|refine And.intro (by omega) ?_)|(with_reducible refine At.fn_ret (by simp -dsimp [hs];exact rfl) ?_)|(with_reducible refine DT_regionE [0,2,4] ?_;simp -dsimp [hs])|(refine DT_cond rfl (fun h=>?_) (fun h=>?_)<;>(try simp only [nrm] at h)<;>(try exact Bool.noConfusion h))|(with_reducible refine imp_At (fun h=>?_);(try simp only [List.map_eq_nil_iff] at h);(try subst h);try simp -dsimp [hs])|with_reducible refine And.intro ?_ ?_
 all_goals try simp -dsimp [hs]
 all_goals try clear hs
abbrev Gaps:=(Nat×Bool)×(Nat×Bool)×(Nat×Bool)
def chD (m:Gaps) (c:Chains):DV:=.agg [.vec 10 m.2.2.1 0 c.reg.length,.vec 6 m.1.1 0 c.lets.length,.im (rI c.of),.vec 8 m.2.1.1 0 c.loops.length]
def chO (m:Gaps) (c:Chains):List DObj:=[.row [.vec 10 m.2.2.1 0 c.reg.length,.vec 6 m.1.1 0 c.lets.length,.im (rI c.of),.vec 8 m.2.1.1 0 c.loops.length],.vec 0 [] 0 true,.vec 0 [] 0 true,.vec 0 [] 0 true,.row [.vec 10 m.2.2.1 0 c.reg.length,.vec 6 m.1.1 0 c.lets.length,.im (rI c.of),.vec 8 m.2.1.1 0 c.loops.length],.vec 1 [] 0 true,.vec 1 (ims (c.lets.map encI)) m.1.1 m.1.2,.vec 3 [] 0 true,.vec 3 (ims (c.loops.map encLoop)) m.2.1.1 m.2.1.2,.vec 5 [] 0 true,.vec 5 (ims (c.reg.map encIssue)) m.2.2.1 m.2.2.2]
def GapsOk (m:Gaps) (c:Chains):Prop:=(m.1.2=true→c.lets=[])∧(m.2.1.2=true→c.loops=[])∧(m.2.2.2=true→c.reg=[])
def CopiedQ (c:Chains) (d:DV) (o:List DObj):Prop:=∃ m:Gaps,GapsOk m c∧d=chD m c∧o=chO m c
set_option maxHeartbeats 4000000 in
theorem chCopied_q (c:Chains) (hsm:SmallC c):DCall Tryz.prog G 121 [chv c] [] (CopiedQ c):=by
 refine DCall_intro Tryz.func121 rfl Tryz.ntmps121 (by simp) rfl ?_
 have c1:=cloneIM_c (G:=G) c.lets (by have:=hsm.2.1;omega)
 have c2:=cloneLM_c (G:=G) c.loops (by have:=hsm.2.2.1;omega)
 have c3:=cloneSM_c (G:=G) c.reg (by have:=hsm.1.1;omega)
 simp only [isv] at c1
 have hs:True:=trivial
 repeat' first|(with_reducible first|refine q01 ?_|refine q11 ?_|refine q12 ?_)|(refine CallE.embed_ex [] (c1) ?_ ?_ ?_ ?_ ?_ ?_;(focus (simp [emb];done));(focus (simp;done));(focus (simp;done));(focus (simp;done));(focus (refine emb_all ?_;simp [emb,embAll];done));intro mmA hmmA;try simp -dsimp [mergeO,emb,hs])|(refine CallE.embed_ex [] (c2) ?_ ?_ ?_ ?_ ?_ ?_;(focus (simp [emb];done));(focus (simp;done));(focus (simp;done));(focus (simp;done));(focus (refine emb_all ?_;simp [emb,embAll];done));intro mmB hmmB;try simp -dsimp [mergeO,emb,hs])|(refine DT_regionZc (id:=1) (nt:=69) [none,none,none,none,none,none,some [],none,some [],none] [0,1,3,4,6,8,2,5,7,9] 6 [([2,3,4,5],[0,1,2,3,4,5,7,16,17,18,42,43,44]),([4,5],[0,1,2,3,4,5,8,10,16,17,18,42,43,44]),([5],[0,1,2,3,4,5,8,11,12,16,17,18,42,43,44])] [0,1,2,3,4,5,16,17,18,42,43,44] mixed rfl (by kernel_rfl) (by kernel_rfl) (by kernel_rfl) ?_;simp -dsimp [hs])|(with_reducible refine DT_regionE [0,1,2,3,4,5,16,17,18,42,43,44] ?_;simp -dsimp [hs])
 all_goals try simp -dsimp [hs]
 all_goals try clear hs
 refine DT_loop (ι:={ i:Nat // i≤c.loops.length }) (fun i=>⟨69,[(0,chv c),(1,.one (.ptr 0 0)),(2,.one (.ptr 4 0)),(16,iv (c.loops.length:Int)),(17,iv (i.1:Int))],[.row [.im (.sl (c.reg.map encIssue)),.vec 6 mmA.1 0 c.lets.length,.im (rI c.of),.vec 8 mmB.1 0 c.loops.length],.vec 0 [] 0 true,.vec 0 [] 0 true,.vec 0 [] 0 true,.row [.vec 1 0 0 0,.vec 2 0 0 0,.im (rI 0),.vec 3 0 0 0],.vec 1 [] 0 true,.vec 1 (ims (c.lets.map encI)) mmA.1 mmA.2,.vec 3 [] 0 true,.vec 3 (ims (c.loops.map encLoop)) mmB.1 mmB.2]⟩) (fun i=>c.loops.length - i.1) ⟨0,by omega⟩ (Weak.of_keep [0,1,2,16,17] (by simp [chv])) ?_
 rintro ⟨i,hi⟩
 simp only [iv,rI,chv]
 by_cases hlt:i < c.loops.length
 ·obtain ⟨x,hx⟩:∃ x,c.loops[i]?=some x:=⟨c.loops[i],by simp [hlt]⟩
  have hxm:x∈c.loops:=List.mem_of_getElem? hx
  have hxe:∀ h,c.loops[i]'h=x:=fun h=>by rw [List.getElem?_eq_getElem h] at hx;exact Option.some.inj hx
  have c4:=clone_link (G:=G) x.links (by have:=hsm.2.2.2 x hxm;omega)
  have hw:IntKind.i64.wrap ((i:Int) + 1)=((i + 1:Nat):Int):=i64w (by omega) (by have:=hsm.2.2.1;omega)
  have hset:=ims_setLp hx
  have hs:True:=trivial
  repeat' first|(with_reducible first|refine q01 ?_|refine q04 ?_|refine q11 ?_|refine q12 ?_|refine q14 ?_)|(refine CallE.pure (c4) ?_;try simp -dsimp [hlt,hx,hxe,hw,hset,hs])|(refine DT_regionZc (id:=5) (nt:=69) [none,none,none,none,none,none,none,none,none,none,some [1,2],some [10],none] [0,1,2,3,4,5,6,7,8,10,11,9,12] 11 [([0,1,2,9,10],[0,1,2,3,4,5,16,17,18,28,42,43,44])] [0,1,2,3,4,5,16,17,18,42,43,44] mixed rfl (by kernel_rfl) (by kernel_rfl) (by kernel_rfl) ?_;simp -dsimp [hlt,hx,hxe,hw,hset,hs])|(with_reducible refine DT_regionE [0,1,2,3,4,5,16,17,18,42,43,44] ?_;simp -dsimp [hlt,hx,hxe,hw,hset,hs])|(refine DT_cond rfl (fun h=>?_) (fun h=>?_)<;>(try simp only [nrm] at h)<;>(try exact Bool.noConfusion h))
  all_goals try simp -dsimp [hlt,hx,hxe,hw,hset,hs]
  all_goals try clear hs
  all_goals exact At.round ⟨i + 1,by omega⟩ (by simp;omega) (Weak.of_keep [0,1,2,16,17] (by simp))
 ·have hs:True:=trivial
  repeat' first|(with_reducible first|refine q01 ?_|refine q03 ?_|refine q06 ?_|refine q11 ?_|refine q12 ?_|refine q16 ?_)|(refine CallE.embed_ex [] (c3) ?_ ?_ ?_ ?_ ?_ ?_;(focus (simp [emb];done));(focus (simp;done));(focus (simp;done));(focus (simp;done));(focus (refine emb_all ?_;simp [emb,embAll];done));intro mmC hmmC;try simp -dsimp [mergeO,emb,hlt,hs])|(with_reducible refine DT_regionE [0,1,2,3,4,5,16,17,18,42,43,44] ?_;simp -dsimp [hlt,hs])|(refine DT_cond rfl (fun h=>?_) (fun h=>?_)<;>(try simp only [nrm] at h)<;>(try exact Bool.noConfusion h))
  all_goals try simp -dsimp [hlt,hs]
  all_goals try clear hs
  refine DT_loop (ι:={ i:Nat // i≤c.reg.length }) (fun i=>⟨69,[(0,chv c),(1,.one (.ptr 0 0)),(2,.one (.ptr 4 0)),(42,iv (c.reg.length:Int)),(43,iv (i.1:Int))],[.row [.vec 10 mmC.1 0 c.reg.length,.vec 6 mmA.1 0 c.lets.length,.im (rI c.of),.vec 8 mmB.1 0 c.loops.length],.vec 0 [] 0 true,.vec 0 [] 0 true,.vec 0 [] 0 true,.row [.vec 1 0 0 0,.vec 2 0 0 0,.im (rI 0),.vec 3 0 0 0],.vec 1 [] 0 true,.vec 1 (ims (c.lets.map encI)) mmA.1 mmA.2,.vec 3 [] 0 true,.vec 3 (ims (c.loops.map encLoop)) mmB.1 mmB.2,.vec 5 [] 0 true,.vec 5 (ims (c.reg.map encIssue)) mmC.1 mmC.2]⟩) (fun i=>c.reg.length - i.1) ⟨0,by omega⟩ (Weak.of_keep [0,1,2,42,43] (by simp [chv])) ?_
  rintro ⟨i,hi⟩
  simp only [iv,rI,chv]
  by_cases hlt:i < c.reg.length
  ·obtain ⟨x,hx⟩:∃ x,c.reg[i]?=some x:=⟨c.reg[i],by simp [hlt]⟩
   have hxm:x∈c.reg:=List.mem_of_getElem? hx
   have hxe:∀ h,c.reg[i]'h=x:=fun h=>by rw [List.getElem?_eq_getElem h] at hx;exact Option.some.inj hx
   have c4:=clone_itm (G:=G) x.items (by have:=hsm.1.2 x hxm;omega)
   have c5:=clone_dim (G:=G) x.dims (by have:=hsm.1.2 x hxm;omega)
   have hw:IntKind.i64.wrap ((i:Int) + 1)=((i + 1:Nat):Int):=i64w (by omega) (by have:=hsm.1.1;omega)
   have hset:=ims_setSh hx
   simp only [encIssue,List.map_cons,List.map_nil,rI] at hset
   have hs:True:=trivial
   repeat' first|(with_reducible first|refine q01 ?_|refine q04 ?_|refine q11 ?_|refine q12 ?_|refine q14 ?_)|(refine CallE.pure (c4) ?_;try simp -dsimp [hlt,hx,hxe,hw,encIssue,rI,hset,hs])|(refine CallE.pure (c5) ?_;try simp -dsimp [hlt,hx,hxe,hw,encIssue,rI,hset,hs])|(refine DT_regionZc (id:=12) (nt:=69) [none,none,none,none,none,none,none,none,none,none,none,none,some [0],some [12],none,some [1],some [15],none] [0,1,2,3,4,5,7,8,9,10,12,13,15,16,6,11,14,17] 14 [([0,1,6,7,8,9,10,11,12,13],[0,1,2,3,4,5,16,17,18,42,43,44,56]),([0,1,10,11,12,13],[0,1,2,3,4,5,16,17,18,42,43,44,57,61]),([1,12,13],[0,1,2,3,4,5,16,17,18,42,43,44,57,62,64])] [0,1,2,3,4,5,16,17,18,42,43,44] mixed rfl (by kernel_rfl) (by kernel_rfl) (by kernel_rfl) ?_;simp -dsimp [hlt,hx,hxe,hw,encIssue,rI,hset,hs])|(with_reducible refine DT_regionE [0,1,2,3,4,5,16,17,18,42,43,44] ?_;simp -dsimp [hlt,hx,hxe,hw,encIssue,rI,hset,hs])|(refine DT_cond rfl (fun h=>?_) (fun h=>?_)<;>(try simp only [nrm] at h)<;>(try exact Bool.noConfusion h))
   all_goals try simp -dsimp [hlt,hx,hxe,hw,encIssue,rI,hset,hs]
   all_goals try clear hs
   all_goals exact At.round ⟨i + 1,by omega⟩ (by simp;omega) (Weak.of_keep [0,1,2,42,43] (by simp))
  ·have hs:True:=trivial
   repeat' first|(with_reducible first|refine q01 ?_|refine q03 ?_|refine q06 ?_|refine q11 ?_|refine q16 ?_|refine q17 ?_)|(with_reducible refine At.fn_ret (by simp -dsimp [hlt,hs];exact rfl) ?_)|(with_reducible refine DT_regionE [0,1,2,3,4,5,16,17,18,42,43,44] ?_;simp -dsimp [hlt,hs])|(refine DT_cond rfl (fun h=>?_) (fun h=>?_)<;>(try simp only [nrm] at h)<;>(try exact Bool.noConfusion h))
   all_goals try simp -dsimp [hlt,hs]
   all_goals try clear hs
   all_goals exact ⟨(mmA,mmB,mmC),⟨hmmA,hmmB,hmmC⟩,rfl,rfl⟩
theorem chCopied_c (c:Chains) (hsm:SmallC c):DCall Tryz.prog G 121 [chv c] [] (fun d o=>∃ m:Gaps,GapsOk m c∧d=chD m c∧o=chO m c):=chCopied_q c hsm
end Go.Proofs
