/- Part 22 of the proofs: laws and walks that hold without conditions beyond those that each theorem names. -/
import Derived.Test.YtmkbmkonpglgdaaGreatDoorP21
set_option linter.all false
set_option linter.deprecated false
namespace Go.Proofs
open Go Go.Ab
set_option linter.unusedSimpArgs false
variable {G:Nat→Option (List IC)}
noncomputable def printsE (p:Prints):Int:=if notesE p.n≠0 then notesE p.n else if printsB p=true then 0 else 70
noncomputable def officeR (p:Prints):DV:=if printsE p=0 then .one (.im (officeI p)) else .one (.im (.raw (.pointer none)))
theorem officeR_im (p:Prints):ImV (officeR p):=by unfold officeR;split<;>simp [officeI]
attribute [simp] officeR_im
structure KP (p:Prints):Prop where
 n:NSm p.n
 p:SmallP p
set_option maxHeartbeats 1000000 in
theorem rOpen_c (p:Prints) (hG:sheetG G) (hN:noteG G) (hS:SortOk G) (hR:recallG G) (hk:KP p) (objs:List DObj):DCall Tryz.prog G 46 [printsv p] objs (fun rr objs'=>rr=.tup [officeR p,iv (printsE p)]∧objs'=objs):=by
 refine DCall.frame ?_ (by simp) (by simp) objs
 refine DCall_intro Tryz.func46 rfl Tryz.ntmps46 (by simp) rfl ?_
 try simp only [iv]
 have c1:=nCheck_c p.n hG hN hS hk.n
 have c2:=drawings_c p.n.reg hG hk.n.1
 have c3:=right_c p hR hk.p
 by_cases h0:notesE p.n=0
 ·have hr0:checkR p.n.reg=0:=by
   refine Classical.byContradiction fun h=>?_
   unfold notesE at h0;rw [if_pos h] at h0;exact h h0
  rw [hr0,show drawR p.n.reg=nums p.n.reg by simp [drawR,hr0]] at c2
  simp only [h0] at c1
  by_cases hp:printsB p=true
  ·have hE:printsE p=0:=by unfold printsE;rw [if_neg (by simp [h0]),if_pos hp]
   have hO:officeR p=.one (.im (officeI p)):=by unfold officeR;rw [if_pos hE]
   rw [hp] at c3
   rw [hE,hO]
   simp only [officeI] at c3 ⊢
   have hs:True:=trivial
   repeat' first|(with_reducible first|refine q01 ?_|refine q11 ?_|refine q14 ?_|refine q17 ?_)|(with_reducible refine At.fn_ret (by simp -dsimp [hs];exact rfl) ?_)|(refine CallE.pure (c1) ?_;try simp -dsimp [hs])|(refine CallE.pure (c2) ?_;try simp -dsimp [hs])|(refine CallE.thaw (c3) ?_ ?_ ?_;(focus (simp;done));(focus (simp;done));try simp -dsimp [hs])|(with_reducible refine DT_regionN (id:=4) (nt:=29) [0,1,2,3,4,5,10,27] rfl ?_;simp -dsimp [hs])|(with_reducible refine DT_regionE [0,1,2,3,4,5,10,27] ?_;simp -dsimp [hs])|(refine DT_cond rfl (fun h=>?_) (fun h=>?_)<;>(try simp only [nrm] at h)<;>(try exact Bool.noConfusion h))
   all_goals try simp -dsimp [hs]
   all_goals try clear hs
  ·have hE:printsE p=70:=by unfold printsE;rw [if_neg (by simp [h0]),if_neg hp]
   have hO:officeR p=.one (.im (.raw (.pointer none))):=by unfold officeR;rw [if_neg (by simp [hE])]
   rw [Bool.not_eq_true] at hp
   rw [hp] at c3
   rw [hE,hO]
   simp only [officeI] at c3 ⊢
   have hs:True:=trivial
   repeat' first|(with_reducible first|refine q01 ?_|refine q02 ?_|refine q11 ?_|refine q14 ?_|refine q17 ?_)|(with_reducible refine At.fn_ret (by simp -dsimp [hs];exact rfl) ?_)|(refine CallE.pure (c1) ?_;try simp -dsimp [hs])|(refine CallE.pure (c2) ?_;try simp -dsimp [hs])|(refine CallE.thaw (c3) ?_ ?_ ?_;(focus (simp;done));(focus (simp;done));try simp -dsimp [hs])|(with_reducible refine DT_regionN (id:=4) (nt:=29) [0,1,2,3,4,5,10,27] rfl ?_;simp -dsimp [hs])|(with_reducible refine DT_regionE [0,1,2,3,4,5,10,27] ?_;simp -dsimp [hs])|(refine DT_cond rfl (fun h=>?_) (fun h=>?_)<;>(try simp only [nrm] at h)<;>(try exact Bool.noConfusion h))
   all_goals try simp -dsimp [hs]
   all_goals try clear hs
 ·have hE:printsE p=notesE p.n:=by unfold printsE;rw [if_pos h0]
  have hO:officeR p=.one (.im (.raw (.pointer none))):=by unfold officeR;rw [if_neg (by rw [hE];exact h0)]
  rw [hE,hO]
  have hs:True:=trivial
  repeat' first|(with_reducible first|refine q01 ?_|refine q02 ?_|refine q11 ?_|refine q17 ?_)|(with_reducible refine At.fn_ret (by simp -dsimp [h0,hs];exact rfl) ?_)|(refine CallE.pure (c1) ?_;try simp -dsimp [h0,hs])|(with_reducible refine DT_regionE [0,1,2,3,4,5,10,27] ?_;simp -dsimp [h0,hs])|(refine DT_cond rfl (fun h=>?_) (fun h=>?_)<;>(try simp only [nrm] at h)<;>(try exact Bool.noConfusion h))
  all_goals try simp -dsimp [h0,hs]
  all_goals try clear hs
theorem rCheck_c (p:Prints) (hG:sheetG G) (hN:noteG G) (hS:SortOk G) (hR:recallG G) (hk:KP p) (objs:List DObj):DCall Tryz.prog G 29 [printsv p] objs (fun rr objs'=>rr=iv (printsE p)∧objs'=objs):=by
 refine DCall.frame ?_ (by simp) (by simp) objs
 refine DCall_intro Tryz.func29 rfl Tryz.ntmps29 (by simp) rfl ?_
 try simp only [iv]
 have c1:=rOpen_c p hG hN hS hR hk
 have hs:True:=trivial
 repeat' first|(with_reducible first|refine q01 ?_|refine q11 ?_|refine q17 ?_)|(with_reducible refine At.fn_ret (by simp -dsimp [hs];exact rfl) ?_)|(refine CallE.pure (c1) ?_;try simp -dsimp [hs])|(with_reducible refine DT_regionE [0,1,2,4] ?_;simp -dsimp [hs])
 all_goals try simp -dsimp [hs]
 all_goals try clear hs
def dayB (d m:Int):Bool:=(decide (0≤d) && decide (d≤14610)) && (decide (1≤m) && decide (m≤999))
noncomputable def askedPE (p:Prints) (d m:Int):Int:=if printsE p≠0 then printsE p else if dayB d m=true then 0 else 2
noncomputable def askedPR (p:Prints) (d m:Int):DV:=if askedPE p d m=0 then .one (.im (officeI p)) else .one (.im (.raw (.pointer none)))
theorem askedPR_im (p:Prints) (d m:Int):ImV (askedPR p d m):=by unfold askedPR;split<;>simp [officeI]
attribute [simp] askedPR_im
theorem rAsked_c (p:Prints) (d m:Int) (hG:sheetG G) (hN:noteG G) (hS:SortOk G) (hR:recallG G) (hk:KP p) (objs:List DObj):DCall Tryz.prog G 91 [printsv p,iv d,iv m] objs (fun rr objs'=>rr=.tup [askedPR p d m,iv (askedPE p d m)]∧objs'=objs):=by
 refine DCall.frame ?_ (by simp) (by simp) objs
 refine DCall_intro Tryz.func91 rfl Tryz.ntmps91 (by simp) rfl ?_
 try simp only [iv,iv]
 have c1:=rOpen_c p hG hN hS hR hk
 have c2:=in_recall (G:=G) 0 14610 [d] (by simp)
 have c3:=in_recall (G:=G) 1 999 [m] (by simp)
 by_cases h0:printsE p=0
 ·simp only [officeR,h0,if_true] at c1
  by_cases hd:dayB d m=true
  ·have hE:askedPE p d m=0:=by unfold askedPE;rw [if_neg (by simp [h0]),if_pos hd]
   have hO:askedPR p d m=.one (.im (officeI p)):=by unfold askedPR;rw [if_pos hE]
   simp only [dayB,Bool.and_eq_true,decide_eq_true_eq] at hd
   rw [show ([d].all fun y=>decide (0≤y) && decide (y≤14610))=true by simp;omega] at c2
   rw [show ([m].all fun y=>decide (1≤y) && decide (y≤999))=true by simp;omega] at c3
   rw [hE,hO]
   simp only [officeI] at c1 ⊢
   have hs:True:=trivial
   repeat' first|(with_reducible first|refine q01 ?_|refine q11 ?_|refine q14 ?_|refine q17 ?_)|(with_reducible refine At.fn_ret (by simp -dsimp [hs];exact rfl) ?_)|(refine CallE.pure (c1) ?_;try simp -dsimp [hs])|(refine CallE.thaw (c2) ?_ ?_ ?_;(focus (simp;done));(focus (simp;done));try simp -dsimp [hs])|(refine CallE.thaw (c3) ?_ ?_ ?_;(focus (simp;done));(focus (simp;done));try simp -dsimp [hs])|(with_reducible refine DT_regionE [0,1,2,3,6,7,8,9,16,27] ?_;simp -dsimp [hs])|(refine DT_cond rfl (fun h=>?_) (fun h=>?_)<;>(try simp only [nrm] at h)<;>(try exact Bool.noConfusion h))
   all_goals try simp -dsimp [hs]
   all_goals try clear hs
  ·have hE:askedPE p d m=2:=by unfold askedPE;rw [if_neg (by simp [h0]),if_neg hd]
   have hO:askedPR p d m=.one (.im (.raw (.pointer none))):=by unfold askedPR;rw [if_neg (by simp [hE])]
   simp only [dayB,Bool.and_eq_true,decide_eq_true_eq] at hd
   rw [hE,hO]
   simp only [officeI] at c1 ⊢
   by_cases hd1:0≤d∧d≤14610
   ·rw [show ([d].all fun y=>decide (0≤y) && decide (y≤14610))=true by simp;omega] at c2
    rw [show ([m].all fun y=>decide (1≤y) && decide (y≤999))=false by simp;omega] at c3
    have hs:True:=trivial
    repeat' first|(with_reducible first|refine q01 ?_|refine q02 ?_|refine q11 ?_|refine q14 ?_|refine q17 ?_)|(with_reducible refine At.fn_ret (by simp -dsimp [hs];exact rfl) ?_)|(refine CallE.pure (c1) ?_;try simp -dsimp [hs])|(refine CallE.thaw (c2) ?_ ?_ ?_;(focus (simp;done));(focus (simp;done));try simp -dsimp [hs])|(refine CallE.thaw (c3) ?_ ?_ ?_;(focus (simp;done));(focus (simp;done));try simp -dsimp [hs])|(with_reducible refine DT_regionE [0,1,2,3,6,7,8,9,16,27] ?_;simp -dsimp [hs])|(refine DT_cond rfl (fun h=>?_) (fun h=>?_)<;>(try simp only [nrm] at h)<;>(try exact Bool.noConfusion h))
    all_goals try simp -dsimp [hs]
    all_goals try clear hs
   ·rw [show ([d].all fun y=>decide (0≤y) && decide (y≤14610))=false by simp;omega] at c2
    have hs:True:=trivial
    repeat' first|(with_reducible first|refine q01 ?_|refine q02 ?_|refine q11 ?_|refine q14 ?_|refine q17 ?_)|(with_reducible refine At.fn_ret (by simp -dsimp [hs];exact rfl) ?_)|(refine CallE.pure (c1) ?_;try simp -dsimp [hs])|(refine CallE.thaw (c2) ?_ ?_ ?_;(focus (simp;done));(focus (simp;done));try simp -dsimp [hs])|(with_reducible refine DT_regionE [0,1,2,3,6,7,8,9,16,27] ?_;simp -dsimp [hs])|(refine DT_cond rfl (fun h=>?_) (fun h=>?_)<;>(try simp only [nrm] at h)<;>(try exact Bool.noConfusion h))
    all_goals try simp -dsimp [hs]
    all_goals try clear hs
 ·have hE:askedPE p d m=printsE p:=by unfold askedPE;rw [if_pos h0]
  have hO:askedPR p d m=.one (.im (.raw (.pointer none))):=by unfold askedPR;rw [if_neg (by rw [hE];exact h0)]
  simp only [officeR,h0,if_false] at c1
  rw [hE,hO]
  have hs:True:=trivial
  repeat' first|(with_reducible first|refine q01 ?_|refine q02 ?_|refine q11 ?_|refine q17 ?_)|(with_reducible refine At.fn_ret (by simp -dsimp [h0,hs];exact rfl) ?_)|(refine CallE.pure (c1) ?_;try simp -dsimp [h0,hs])|(with_reducible refine DT_regionE [0,1,2,3,6,7,8,9,16,27] ?_;simp -dsimp [h0,hs])|(refine DT_cond rfl (fun h=>?_) (fun h=>?_)<;>(try simp only [nrm] at h)<;>(try exact Bool.noConfusion h))
  all_goals try simp -dsimp [h0,hs]
  all_goals try clear hs
noncomputable def aboutE (p:Prints) (d m i w:Int):Int:=if askedPE p d m≠0 then askedPE p d m else if (p.holders.any fun y=>decide (y.id=i))=true∧w∈nums p.n.reg then 0 else 6
noncomputable def aboutR (p:Prints) (d m i w:Int):DV:=if aboutE p d m i w=0 then .one (.im (officeI p)) else .one (.im (.raw (.pointer none)))
theorem aboutR_im (p:Prints) (d m i w:Int):ImV (aboutR p d m i w):=by unfold aboutR;split<;>simp [officeI]
attribute [simp] aboutR_im
theorem about1_c (p:Prints) (v:Int) (hl:(nums p.n.reg).length < 1000):DCall Tryz.prog G 93 (iv v :: [DC.ptr 1 0].map .one) [.row ((encPrints p).map .im),.row [.im (officeI p)]] (fun d o=>d=bv (!decide (v∈nums p.n.reg))∧o=[.row ((encPrints p).map .im),.row [.im (officeI p)]]):=by
 refine DCall.drop ?_
 have c1:=contains_c (G:=G) (nums p.n.reg) v (by omega)
 simp only [officeI,encPrints]
 refine DCall_intro Tryz.func93 rfl Tryz.ntmps93 (by simp) rfl ?_
 have hs:True:=trivial
 repeat' first|(with_reducible first|refine q01 ?_|refine q11 ?_|refine q17 ?_)|(with_reducible refine At.fn_ret (by simp -dsimp [hs];exact rfl) ?_)|(refine CallE.pure (c1) ?_;try simp -dsimp [hs])|(with_reducible refine DT_regionE [0,1,3] ?_;simp -dsimp [hs])|with_reducible refine And.intro ?_ ?_
 all_goals try simp -dsimp [hs]
 all_goals try clear hs
theorem fidx_lt {α:Type} (q:α→Bool) (l:List α):decide (fidx q l < 0)=!l.any q:=by
 rw [← fidx_nonneg]
 by_cases h:0≤fidx q l
 ·have h1:¬ fidx q l < 0:=by omega
  simp [h,h1]
 ·have h1:fidx q l < 0:=by omega
  simp [h,h1]
theorem rAbout_c (p:Prints) (d m i w:Int) (hG:sheetG G) (hN:noteG G) (hS:SortOk G) (hR:recallG G) (hk:KP p) (objs:List DObj):DCall Tryz.prog G 71 [printsv p,iv d,iv m,iv i,isv [w]] objs (fun rr objs'=>rr=.tup [aboutR p d m i w,iv (aboutE p d m i w)]∧objs'=objs):=by
 refine DCall.frame ?_ (by simp) (by simp) objs
 refine DCall_intro Tryz.func71 rfl Tryz.ntmps71 (by simp) rfl ?_
 try simp only [iv,iv,iv,isv]
 have c1:=rAsked_c p d m hG hN hS hR hk
 have hr:=hk.p.r
 have hh:=hk.p.h
 by_cases h0:askedPE p d m=0
 ·have c2:=holder_c (G:=G) p i (by omega)
  have c3:=containsFunc_int (G:=G) [w] (fun v=>!decide (v∈nums p.n.reg)) 93 [.ptr 1 0] [.row ((encPrints p).map .im),.row [.im (officeI p)]] (by simp) (fun v _=>about1_c p v hr) (by simp)
  have hf:=fidx_lt (fun y:Holder=>decide (y.id=i)) p.holders
  have hE:aboutE p d m i w=if (p.holders.any fun y=>decide (y.id=i))=true∧w∈nums p.n.reg then 0 else 6:=by unfold aboutE;rw [if_neg (by simp [h0])]
  simp only [askedPR,h0,if_true] at c1
  unfold aboutR
  rw [hE]
  generalize fidx (fun y:Holder=>decide (y.id=i)) p.holders=f at *
  generalize hb:(p.holders.any fun y=>decide (y.id=i))=b at *
  by_cases hw:w∈nums p.n.reg
  ·simp only [hw,List.any_cons,List.any_nil,decide_true,Bool.not_true,Bool.or_false] at c3
   cases b
   ·have hf':f < 0:=by simpa using hf
    simp only [officeI,encPrints,List.map_cons,List.map_nil] at c1 c2 c3 ⊢
    have hs:True:=trivial
    repeat' first|(with_reducible first|refine q01 ?_|refine q02 ?_|refine q11 ?_|refine q14 ?_|refine q17 ?_)|(with_reducible refine At.fn_ret (by simp -dsimp [hf',hs];exact rfl) ?_)|(refine CallE.pure (c1) ?_;try simp -dsimp [hf',hs])|(refine CallE.pure (c2) ?_;try simp -dsimp [hf',hs])|(with_reducible refine DT_regionE [0,1,2,3,4,5,10,11,12,13,22,32] ?_;simp -dsimp [hf',hs])|(refine DT_cond rfl (fun h=>?_) (fun h=>?_)<;>(try simp only [nrm] at h)<;>(try exact Bool.noConfusion h))
    all_goals try simp -dsimp [hf',hs]
    all_goals try clear hs
   ·have hf':¬ f < 0:=by simpa using hf
    simp only [officeI,encPrints,List.map_cons,List.map_nil] at c1 c2 c3 ⊢
    have hs:True:=trivial
    repeat' first|(with_reducible first|refine q01 ?_|refine q11 ?_|refine q14 ?_|refine q17 ?_)|(with_reducible refine At.fn_ret (by simp -dsimp [hf',hw,hs];exact rfl) ?_)|(refine CallE.pure (c1) ?_;try simp -dsimp [hf',hw,hs])|(refine CallE.pure (c2) ?_;try simp -dsimp [hf',hw,hs])|(refine CallE.here (c3) ?_;try simp -dsimp [hf',hw,hs])|(with_reducible refine DT_regionE [0,1,2,3,4,5,10,11,12,13,22,32] ?_;simp -dsimp [hf',hw,hs])|(refine DT_cond rfl (fun h=>?_) (fun h=>?_)<;>(try simp only [nrm] at h)<;>(try exact Bool.noConfusion h))
    all_goals try simp -dsimp [hf',hw,hs]
    all_goals try clear hs
  ·simp only [hw,List.any_cons,List.any_nil,decide_false,Bool.not_false,Bool.or_false] at c3
   cases b
   ·have hf':f < 0:=by simpa using hf
    simp only [officeI,encPrints,List.map_cons,List.map_nil] at c1 c2 c3 ⊢
    have hs:True:=trivial
    repeat' first|(with_reducible first|refine q01 ?_|refine q02 ?_|refine q11 ?_|refine q14 ?_|refine q17 ?_)|(with_reducible refine At.fn_ret (by simp -dsimp [hf',hs];exact rfl) ?_)|(refine CallE.pure (c1) ?_;try simp -dsimp [hf',hs])|(refine CallE.pure (c2) ?_;try simp -dsimp [hf',hs])|(with_reducible refine DT_regionE [0,1,2,3,4,5,10,11,12,13,22,32] ?_;simp -dsimp [hf',hs])|(refine DT_cond rfl (fun h=>?_) (fun h=>?_)<;>(try simp only [nrm] at h)<;>(try exact Bool.noConfusion h))
    all_goals try simp -dsimp [hf',hs]
    all_goals try clear hs
   ·have hf':¬ f < 0:=by simpa using hf
    simp only [officeI,encPrints,List.map_cons,List.map_nil] at c1 c2 c3 ⊢
    have hs:True:=trivial
    repeat' first|(with_reducible first|refine q01 ?_|refine q02 ?_|refine q11 ?_|refine q14 ?_|refine q17 ?_)|(with_reducible refine At.fn_ret (by simp -dsimp [hf',hw,hs];exact rfl) ?_)|(refine CallE.pure (c1) ?_;try simp -dsimp [hf',hw,hs])|(refine CallE.pure (c2) ?_;try simp -dsimp [hf',hw,hs])|(refine CallE.here (c3) ?_;try simp -dsimp [hf',hw,hs])|(with_reducible refine DT_regionE [0,1,2,3,4,5,10,11,12,13,22,32] ?_;simp -dsimp [hf',hw,hs])|(refine DT_cond rfl (fun h=>?_) (fun h=>?_)<;>(try simp only [nrm] at h)<;>(try exact Bool.noConfusion h))
    all_goals try simp -dsimp [hf',hw,hs]
    all_goals try clear hs
 ·have hE:aboutE p d m i w=askedPE p d m:=by unfold aboutE;rw [if_pos h0]
  have hO:aboutR p d m i w=.one (.im (.raw (.pointer none))):=by unfold aboutR;rw [if_neg (by rw [hE];exact h0)]
  simp only [askedPR,h0,if_false] at c1
  rw [hE,hO]
  have hs:True:=trivial
  repeat' first|(with_reducible first|refine q01 ?_|refine q02 ?_|refine q11 ?_|refine q17 ?_)|(with_reducible refine At.fn_ret (by simp -dsimp [h0,hs];exact rfl) ?_)|(refine CallE.pure (c1) ?_;try simp -dsimp [h0,hs])|(with_reducible refine DT_regionE [0,1,2,3,4,5,10,11,12,13,22,32] ?_;simp -dsimp [h0,hs])|(refine DT_cond rfl (fun h=>?_) (fun h=>?_)<;>(try simp only [nrm] at h)<;>(try exact Bool.noConfusion h))
  all_goals try simp -dsimp [h0,hs]
  all_goals try clear hs
end Go.Proofs
namespace Go.Proofs
open Go Go.Ab
set_option linter.unusedSimpArgs false
variable {G:Nat→Option (List IC)}
theorem within7_c (n lo hi:Int) (objs:List DObj):DCall Tryz.prog G 115 [iv n,iv lo,iv hi] objs (fun rr objs'=>rr=bv (decide (lo≤n) && decide (n≤hi))∧objs'=objs):=by
 refine DCall.frame ?_ (by simp) (by simp) objs
 refine DCall_intro Tryz.func115 rfl Tryz.ntmps115 (by simp) rfl ?_
 try simp only [iv,iv,iv]
 have hs:True:=trivial
 repeat' first|(with_reducible first|refine q01 ?_|refine q11 ?_|refine q17 ?_)|(with_reducible refine At.fn_ret (by simp -dsimp [hs];exact rfl) ?_)|(with_reducible refine DT_regionE [0,1,2,6] ?_;simp -dsimp [hs])|(with_reducible refine GStop_split ?_ ?_<;>intro h<;>have h0:=h<;>(try simp only [nrm] at h)<;>(try exact Bool.noConfusion h)<;>have h2:=h<;>(try simp at h2)<;>(replace hs:=And.intro h0 (And.intro h (And.intro h2 hs)))<;>simp -dsimp [h0,h,h2,hs])
 all_goals try simp -dsimp [hs]
 all_goals try clear hs
 all_goals simp [*]
theorem has7_c (l:List Int) (n:Int) (hl:l.length < 1000000) (objs:List DObj):DCall Tryz.prog G 100 [isv l,iv n] objs (fun rr objs'=>rr=bv (decide (n∈l))∧objs'=objs):=by
 refine DCall.frame ?_ (by simp) (by simp) objs
 refine DCall_intro Tryz.func100 rfl Tryz.ntmps100 (by simp) rfl ?_
 try simp only [isv,iv]
 have hs:True:=trivial
 repeat' first|(with_reducible first|refine q01 ?_|refine q11 ?_|refine q12 ?_)|(with_reducible refine DT_regionE [0,1,4,5,9,17] ?_;simp -dsimp [hs])
 all_goals try simp -dsimp [hs]
 all_goals try clear hs
 refine DT_loop (ι:={ k:Nat // k≤l.length∧decide (n∈l)=decide (n∈l.drop k) }) (fun i=>⟨18,[(0,isv l),(1,iv n),(5,iv (i.1:Int))],[]⟩) (fun i=>l.length - i.1) ⟨0,by simp⟩ (Weak.of_keep [0,1,5] (by simp)) ?_
 rintro ⟨i,hi,hno⟩
 simp only [iv,isv]
 by_cases hlt:i < l.length
 ·have hw:IntKind.i64.wrap ((i:Int) + 1)=((i + 1:Nat):Int):=i64w (by omega) (by omega)
  rw [List.drop_eq_getElem_cons hlt] at hno
  generalize hx:l[i]=x at *
  have hs:True:=trivial
  repeat' first|(with_reducible first|refine q01 ?_|refine q02 ?_|refine q04 ?_|refine q05 ?_|refine q11 ?_|refine q12 ?_|refine q14 ?_|refine q17 ?_)|(with_reducible refine At.fn_ret (by simp -dsimp [hx,hw,hlt,hs];exact rfl) ?_)|(with_reducible refine DT_regionE [0,1,4,5,9,17] ?_;simp -dsimp [hx,hw,hlt,hs])|(refine DT_cond rfl (fun h=>?_) (fun h=>?_)<;>(try simp only [nrm] at h)<;>(try exact Bool.noConfusion h))
  all_goals try simp -dsimp [hx,hw,hlt,hs]
  all_goals try clear hs
  ·exact of_decide_eq_true (by rw [hno];simp [*])
  ·exact At.round ⟨i + 1,by omega,by rw [hno,decide_eq_decide,List.mem_cons];exact or_iff_right (fun e=>absurd e.symm (by assumption))⟩ (by simp;omega) (Weak.of_keep [0,1,5] (by simp))
 ·rw [List.drop_eq_nil_of_le (by omega)] at hno
  have hs:True:=trivial
  repeat' first|(with_reducible first|refine q01 ?_|refine q03 ?_|refine q06 ?_|refine q11 ?_|refine q16 ?_|refine q17 ?_)|(with_reducible refine At.fn_ret (by simp -dsimp [hlt,hs];exact rfl) ?_)|(with_reducible refine DT_regionE [0,1,4,5,9,17] ?_;simp -dsimp [hlt,hs])|(refine DT_cond rfl (fun h=>?_) (fun h=>?_)<;>(try simp only [nrm] at h)<;>(try exact Bool.noConfusion h))
  all_goals try simp -dsimp [hlt,hs]
  all_goals try clear hs
  exact fun hm=>by simp [hm] at hno
theorem index7_c (p:Prints) (n:Int) (hl:p.holders.length < 1000) (objs:List DObj):DCall Tryz.prog G 57 [printsv p,iv n] objs (fun rr objs'=>rr=iv (fidx (fun y=>decide (y.id=n)) p.holders)∧objs'=objs):=by
 refine DCall.frame ?_ (by simp) (by simp) objs
 refine DCall_intro Tryz.func57 rfl Tryz.ntmps57 (by simp) rfl ?_
 try simp only [iv]
 have hs:True:=trivial
 repeat' first|(with_reducible first|refine q01 ?_|refine q11 ?_|refine q12 ?_)|(with_reducible refine DT_regionE [0,1,2,4,5,10,20] ?_;simp -dsimp [hs])
 all_goals try simp -dsimp [hs]
 all_goals try clear hs
 refine DT_loop (ι:={ k:Nat // k≤p.holders.length∧∀ (j:Nat) (x:Holder),j < k→p.holders[j]?=some x→decide (x.id=n)=false }) (fun i=>⟨22,[(1,iv n),(2,.one (.ptr 0 0)),(5,iv (i.1:Int))],[.row ((encPrints p).map .im)]⟩) (fun i=>p.holders.length - i.1) ⟨0,by simp⟩ (Weak.of_keep [1,2,5] (by simp)) ?_
 rintro ⟨i,hi,hno⟩
 simp only [iv]
 by_cases hlt:i < p.holders.length
 ·have hw:IntKind.i64.wrap ((i:Int) + 1)=((i + 1:Nat):Int):=i64w (by omega) (by omega)
  have hx0:p.holders[i]?=some p.holders[i]:=by simp [hlt]
  generalize hx:p.holders[i]=x at *
  have hs:True:=trivial
  repeat' first|(with_reducible first|refine q01 ?_|refine q02 ?_|refine q04 ?_|refine q05 ?_|refine q11 ?_|refine q12 ?_|refine q14 ?_|refine q17 ?_)|(with_reducible refine At.fn_ret (by simp -dsimp [hx,hw,hlt,hs];exact rfl) ?_)|(with_reducible refine DT_regionE [0,1,2,4,5,10,20] ?_;simp -dsimp [hx,hw,hlt,hs])|(refine DT_cond rfl (fun h=>?_) (fun h=>?_)<;>(try simp only [nrm] at h)<;>(try exact Bool.noConfusion h))
  all_goals try simp -dsimp [hx,hw,hlt,hs]
  all_goals try clear hs
  ·exact (fidx_yes hx0 (by simp [*]) hno).symm
  ·exact At.round ⟨i + 1,by omega,fun j z hj hjx=>by
    by_cases e:j=i
    ·subst e;rw [hx0] at hjx;cases hjx;simp [*]
    ·exact hno j z (by omega) hjx⟩ (by simp;omega) (Weak.of_keep [1,2,5] (by simp))
 ·have hs:True:=trivial
  repeat' first|(with_reducible first|refine q01 ?_|refine q03 ?_|refine q06 ?_|refine q11 ?_|refine q16 ?_|refine q17 ?_)|(with_reducible refine At.fn_ret (by simp -dsimp [hlt,hs];exact rfl) ?_)|(with_reducible refine DT_regionE [0,1,2,4,5,10,20] ?_;simp -dsimp [hlt,hs])|(refine DT_cond rfl (fun h=>?_) (fun h=>?_)<;>(try simp only [nrm] at h)<;>(try exact Bool.noConfusion h))
  all_goals try simp -dsimp [hlt,hs]
  all_goals try clear hs
  exact (fidx_no fun j z hjx=>hno j z (by have:=lt_of_getElem? hjx;omega) hjx).symm
set_option maxHeartbeats 2000000 in
open Classical in
theorem rholder_c (p:Prints) (k:Nat) (x:Holder) (hx0:p.holders[k]?=some x) (hsm:SmallP p) (objs:List DObj):DCall Tryz.prog G 87 [printsv p,iv (k:Int)] objs (fun rr objs'=>rr=bv (decide (hkB (nums p.n.reg) p.holders k x))∧objs'=objs):=by
 refine DCall.frame ?_ (by simp) (by simp) objs
 refine DCall_intro Tryz.func87 rfl Tryz.ntmps87 (by simp) rfl ?_
 try simp only [iv]
 have hlt:k < p.holders.length:=lt_of_getElem? hx0
 have hx:p.holders[k]=x:=(List.getElem?_eq_some_iff.1 hx0).2
 have hdl:x.draws.length≤20:=hsm.d x (by rw [← hx];exact List.getElem_mem hlt)
 have hh:=hsm.h
 have hr:=hsm.r
 have hrl:=hsm.l
 have c1:=within7_c (G:=G) x.id 1 9999
 have c2:=within7_c (G:=G) x.frm 1 x.to
 have c3:=numbers_c (G:=G) p.n.reg (by omega)
 have c4:=fun d=>has7_c (G:=G) (nums p.n.reg) d (by omega)
 have hs:True:=trivial
 by_cases hA:hkA p.holders k x
 ·obtain ⟨a1,a3,a4,a6,a8,a9⟩:=id hA
  rw [show (decide (1≤x.id) && decide (x.id≤9999))=true by simp;omega] at c1
  rw [show (decide (1≤x.frm) && decide (x.frm≤x.to))=true by simp;omega] at c2
  have a8':¬ (999:Int) < x.to:=by omega
  have a9':¬ (8:Int) < x.draws.length:=by omega
  have hcs:(¬ 0 < k∧True∧∃ _:True,True)∨(0 < k∧IntKind.i64.wrap ((k:Int) - 1)=((k - 1:Nat):Int)∧∃ h:k - 1 < p.holders.length,¬ x.id≤(p.holders[k - 1]'h).id):=by
   rcases Nat.eq_zero_or_pos k with h0|h0
   ·exact .inl ⟨by omega,trivial,trivial,trivial⟩
   ·have h1:k - 1 < p.holders.length:=by omega
    exact .inr ⟨by omega,by rw [i64w (by omega) (by omega)];omega,h1,by have:=a3 h0 _ (List.getElem?_eq_getElem h1);omega⟩
  rcases hcs with ⟨hk0,hwm,hi1,hlt1⟩|⟨hk0,hwm,hi1,hlt1⟩
  all_goals
   have hs:True:=trivial
   repeat' first|(with_reducible first|refine q01 ?_|refine q11 ?_|refine q12 ?_|refine q14 ?_)|(refine QCall_pure (c1) ?_;try simp -dsimp [hx,hlt,a8',a9',hk0,hwm,hi1,hlt1,hs])|(refine QCall_pure (c2) ?_;try simp -dsimp [hx,hlt,a8',a9',hk0,hwm,hi1,hlt1,hs])|(refine CallE.pure (c3) ?_;try simp -dsimp [hx,hlt,a8',a9',hk0,hwm,hi1,hlt1,hs])|(refine DT_regionM (id:=2) (nt:=89) 39 [0,1,2,4,5,6,7,51,60,88] mixed rfl (by kernel_rfl) ?_;simp -dsimp [hx,hlt,a8',a9',hk0,hwm,hi1,hlt1,hs])|(with_reducible refine DT_regionE [0,1,2,4,5,6,7,51,60,88] ?_;simp -dsimp [hx,hlt,a8',a9',hk0,hwm,hi1,hlt1,hs])|(refine DT_cond rfl (fun h=>?_) (fun h=>?_)<;>(try simp only [nrm] at h)<;>(try exact Bool.noConfusion h))
   all_goals try simp -dsimp [hx,hlt,a8',a9',hk0,hwm,hi1,hlt1,hs]
   all_goals try clear hs
  all_goals
   refine DT_loop (ι:={ j:Nat // j≤x.draws.length∧∀ (i:Nat) (d:Int),i < j→x.draws[i]?=some d→hkD (nums p.n.reg) x.draws i d }) (fun q=>⟨89,[(5,.one (.ptr 2 0)),(6,isv (nums p.n.reg)),(7,iv (q.1:Int))],[.row ((encPrints p).map .im),.vec 0 [] 0 true,.row ((encHolder x).map .im)]⟩) (fun q=>x.draws.length - q.1) ⟨0,by simp⟩ (Weak.of_keep [5,6,7] (by simp)) ?_
   rintro ⟨j,hj,hjok⟩
   simp only [iv,isv]
   by_cases hlj:j < x.draws.length
   ·have hx1:x.draws[j]?=some x.draws[j]:=by simp [hlj]
    have hwj:IntKind.i64.wrap ((j:Int) + 1)=((j + 1:Nat):Int):=i64w (by omega) (by omega)
    have c5:=c4 x.draws[j]
    have hcj:(¬ 0 < j∧True∧∃ _:True,True)∨(0 < j∧IntKind.i64.wrap ((j:Int) - 1)=((j - 1:Nat):Int)∧∃ h:j - 1 < x.draws.length,True):=by
     rcases Nat.eq_zero_or_pos j with h0|h0
     ·exact .inl ⟨by omega,trivial,trivial,trivial⟩
     ·exact .inr ⟨by omega,by rw [i64w (by omega) (by omega)];omega,by omega,trivial⟩
    have hbadj:¬ hkD (nums p.n.reg) x.draws j x.draws[j]→decide (hkB (nums p.n.reg) p.holders k x)=false:=fun h=>decide_eq_false fun h'=>h (h'.2 j _ hx1)
    have hstj:hkD (nums p.n.reg) x.draws j x.draws[j]→∀ (i:Nat) (d:Int),i < j + 1→x.draws[i]?=some d→hkD (nums p.n.reg) x.draws i d:=fun h i d hi hd=>by
     by_cases e:i=j
     ·subst e;rw [hx1] at hd;cases hd;exact h
     ·exact hjok i d (by omega) hd
    generalize decide (hkB (nums p.n.reg) p.holders k x)=B at *
    rcases hcj with ⟨hj0,hwmj,hij,-⟩|⟨hj0,hwmj,hij,-⟩
    all_goals
     have hs:True:=trivial
     repeat' first|(with_reducible first|refine q01 ?_|refine q02 ?_|refine q04 ?_|refine q05 ?_|refine q11 ?_|refine q12 ?_|refine q14 ?_|refine q17 ?_)|(with_reducible refine At.fn_ret (by simp -dsimp [hx1,hlj,hj0,hwmj,hij,hwj,hs];exact rfl) ?_)|(refine QCall_pure (c5) ?_;try simp -dsimp [hx1,hlj,hj0,hwmj,hij,hwj,hs])|(refine DT_regionM (id:=8) (nt:=89) 26 [0,1,2,4,5,6,7,51,60,88] mixed rfl (by kernel_rfl) ?_;simp -dsimp [hx1,hlj,hj0,hwmj,hij,hwj,hs])|(with_reducible refine DT_regionE [0,1,2,4,5,6,7,51,60,88] ?_;simp -dsimp [hx1,hlj,hj0,hwmj,hij,hwj,hs])|(refine DT_cond rfl (fun h=>?_) (fun h=>?_)<;>(try simp only [nrm] at h)<;>(try exact Bool.noConfusion h))|(with_reducible refine GStop_split ?_ ?_<;>intro h<;>have h0:=h<;>(try simp only [nrm] at h)<;>(try exact Bool.noConfusion h)<;>have h2:=h<;>(try simp at h2)<;>(replace hs:=And.intro h0 (And.intro h (And.intro h2 hs)))<;>simp -dsimp [h0,h,h2,hx1,hlj,hj0,hwmj,hij,hwj,hs])
     all_goals try simp -dsimp [hx1,hlj,hj0,hwmj,hij,hwj,hs]
     all_goals try clear hs
    all_goals first
     | exact At.round ⟨j + 1,by omega,hstj ⟨of_decide_eq_true (by assumption),fun h1 e he=>by first|omega|(obtain ⟨_,rfl⟩:=List.getElem?_eq_some_iff.1 he;omega)⟩⟩ (by simp;omega) (Weak.of_keep [5,6,7] (by simp))
     | (refine hbadj fun hh=>?_;have:=hh.1;simp_all;done)
     | (refine hbadj fun hh=>?_;have:=hh.2 (by omega) _ (List.getElem?_eq_getElem hij);omega)
   ·have hyes:decide (hkB (nums p.n.reg) p.holders k x)=true:=decide_eq_true ⟨hA,fun i d hd=>hjok i d (by have:=lt_of_getElem? hd;omega) hd⟩
    rw [hyes]
    have hs:True:=trivial
    repeat' first|(with_reducible first|refine q01 ?_|refine q03 ?_|refine q06 ?_|refine q11 ?_|refine q16 ?_|refine q17 ?_)|(with_reducible refine At.fn_ret (by simp -dsimp [hlj,hs];exact rfl) ?_)|(with_reducible refine DT_regionE [0,1,2,4,5,6,7,51,60,88] ?_;simp -dsimp [hlj,hs])|(refine DT_cond rfl (fun h=>?_) (fun h=>?_)<;>(try simp only [nrm] at h)<;>(try exact Bool.noConfusion h))
    all_goals try simp -dsimp [hlj,hs]
    all_goals try clear hs
 ·have hno:decide (hkB (nums p.n.reg) p.holders k x)=false:=decide_eq_false fun h=>hA h.1
  rw [hno]
  generalize hb1:(decide (1≤x.id) && decide (x.id≤9999))=b1 at c1
  generalize hb2:(decide (1≤x.frm) && decide (x.frm≤x.to))=b2 at c2
  have hcs:(¬ 0 < k∧True∧∃ _:True,True)∨(0 < k∧IntKind.i64.wrap ((k:Int) - 1)=((k - 1:Nat):Int)∧∃ h:k - 1 < p.holders.length,True):=by
   rcases Nat.eq_zero_or_pos k with h0|h0
   ·exact .inl ⟨by omega,trivial,trivial,trivial⟩
   ·exact .inr ⟨by omega,by rw [i64w (by omega) (by omega)];omega,by omega,trivial⟩
  rcases hcs with ⟨hk0,hwm,hi1,-⟩|⟨hk0,hwm,hi1,-⟩<;>cases b1<;>cases b2
  all_goals
   have hs:True:=trivial
   repeat' first|(with_reducible first|refine q01 ?_|refine q02 ?_|refine q11 ?_|refine q14 ?_|refine q17 ?_)|(with_reducible refine At.fn_ret (by simp -dsimp [hx,hlt,hk0,hwm,hi1,hs];exact rfl) ?_)|(refine QCall_pure (c1) ?_;try simp -dsimp [hx,hlt,hk0,hwm,hi1,hs])|(refine QCall_pure (c2) ?_;try simp -dsimp [hx,hlt,hk0,hwm,hi1,hs])|(refine DT_regionM (id:=2) (nt:=89) 39 [0,1,2,4,5,6,7,51,60,88] mixed rfl (by kernel_rfl) ?_;simp -dsimp [hx,hlt,hk0,hwm,hi1,hs])|(with_reducible refine DT_regionE [0,1,2,4,5,6,7,51,60,88] ?_;simp -dsimp [hx,hlt,hk0,hwm,hi1,hs])|(refine DT_cond rfl (fun h=>?_) (fun h=>?_)<;>(try simp only [nrm] at h)<;>(try exact Bool.noConfusion h))|(with_reducible refine GStop_split ?_ ?_<;>intro h<;>have h0:=h<;>(try simp only [nrm] at h)<;>(try exact Bool.noConfusion h)<;>have h2:=h<;>(try simp at h2)<;>(replace hs:=And.intro h0 (And.intro h (And.intro h2 hs)))<;>simp -dsimp [h0,h,h2,hx,hlt,hk0,hwm,hi1,hs])
   all_goals try simp -dsimp [hx,hlt,hk0,hwm,hi1,hs]
   all_goals try clear hs
  ·refine absurd ?_ hA
   simp at hb1 hb2
   exact ⟨by omega,fun h1=>by omega,by omega,by omega,by omega,by omega⟩
  ·refine absurd ?_ hA
   simp at hb1 hb2
   exact ⟨by omega,fun h1 y hy=>by
    obtain ⟨_,rfl⟩:=List.getElem?_eq_some_iff.1 hy
    simp_all<;>omega,by omega,by omega,by omega,by omega⟩
end Go.Proofs
namespace Go.Proofs
open Go Go.Ab
set_option linter.unusedSimpArgs false
variable {G:Nat→Option (List IC)}
theorem pk3_find (l:List Issue) (x:Print):(findI l x.drawing x.letter).isSome=pk3 l x:=by
 unfold findI pk3
 rw [Bool.eq_iff_iff,List.find?_isSome,List.any_eq_true]
 refine exists_congr fun y=>and_congr_right fun _=>?_
 simp only [Bool.and_eq_true,beq_iff_eq,decide_eq_true_eq]
 constructor<;>exact fun ⟨h1,h2⟩=>⟨h1.symm,h2.symm⟩
theorem pkB_iff (p:Prints) (i:Nat) (x:Print):pkB p i x↔(0 < i→∀ y,p.prints[i - 1]?=some y→y.number < x.number)∧pk1 x=true∧pk2 p.holders x=true∧pk3 p.n.reg x=true∧pk4 x=true∧pk5 x=true:=by
 refine and_congr_right fun _=>⟨fun h=>⟨h 0 (by omega),h 1 (by omega),h 2 (by omega),h 3 (by omega),h 4 (by omega)⟩,fun ⟨h1,h2,h3,h4,h5⟩ c hc=>?_⟩
 match c,hc with
 | 0,_=>exact h1
 | 1,_=>exact h2
 | 2,_=>exact h3
 | 3,_=>exact h4
 | 4,_=>exact h5
theorem sheet_cs {B b1 b2 b3 b4 b5:Bool} {O:Prop} {f l r:Int} (hf3:b3=true↔¬ f < 0) (hP:B=true↔O∧(b1 && b2)=true∧b3=true∧b4=true∧decide (l≤2)=true∧(decide (r=-1) || b5 && decide (l=0))=true):(b1=false∧True∧True∧True∧True∧True∧True∧B=false)∨(¬ O∧B=false)∨(O∧((b1=true∧b2=false∧True∧True∧True∧True∧True∧B=false)∨(b1=true∧b2=true∧f < 0∧True∧True∧True∧True∧B=false)∨(b1=true∧b2=true∧¬ f < 0∧2 < l∧True∧True∧True∧B=false)∨(b1=true∧b2=true∧¬ f < 0∧¬ 2 < l∧b4=false∧True∧True∧B=false)∨(b1=true∧b2=true∧¬ f < 0∧¬ 2 < l∧b4=true∧r=-1∧True∧B=true)∨(b1=true∧b2=true∧¬ f < 0∧¬ 2 < l∧b4=true∧¬ r=-1∧b5=false∧B=false)∨(b1=true∧b2=true∧¬ f < 0∧¬ 2 < l∧b4=true∧¬ r=-1∧b5=true∧B=decide (l=0)))):=by
 have hn:¬ (O∧(b1 && b2)=true∧b3=true∧b4=true∧decide (l≤2)=true∧(decide (r=-1) || b5 && decide (l=0))=true)→B=false:=fun h=>Bool.eq_false_iff.2 fun e=>h (hP.1 e)
 have t:=trivial
 by_cases hO:O
 ·cases b1 with
  | false=>exact .inl ⟨rfl,t,t,t,t,t,t,hn fun h=>by simpa using h.2.1⟩
  | true =>
    refine .inr (.inr ⟨hO,?_⟩)
    cases b2 with
    | false=>exact .inl ⟨rfl,rfl,t,t,t,t,t,hn fun h=>by simpa using h.2.1⟩
    | true =>
      by_cases q2:f < 0
      ·exact .inr (.inl ⟨rfl,rfl,q2,t,t,t,t,hn fun h=>hf3.1 h.2.2.1 q2⟩)
      ·by_cases q3:2 < l
       ·exact .inr (.inr (.inl ⟨rfl,rfl,q2,q3,t,t,t,hn fun h=>by have:=of_decide_eq_true h.2.2.2.2.1;omega⟩))
       ·have h2:decide (l≤2)=true:=decide_eq_true (by omega)
        have hb3:b3=true:=hf3.2 q2
        cases b4 with
        | false=>exact .inr (.inr (.inr (.inl ⟨rfl,rfl,q2,q3,rfl,t,t,hn fun h=>Bool.noConfusion h.2.2.2.1⟩)))
        | true =>
          by_cases q4:r=-1
          ·exact .inr (.inr (.inr (.inr (.inl ⟨rfl,rfl,q2,q3,rfl,q4,t,hP.2 ⟨hO,rfl,hb3,rfl,h2,by rw [decide_eq_true q4];rfl⟩⟩))))
          ·cases b5 with
           | false=>exact .inr (.inr (.inr (.inr (.inr (.inl ⟨rfl,rfl,q2,q3,rfl,q4,rfl,hn fun h=>by have:=h.2.2.2.2.2;rw [decide_eq_false q4] at this;simp at this⟩)))))
           | true =>
             refine .inr (.inr (.inr (.inr (.inr (.inr ⟨rfl,rfl,q2,q3,rfl,q4,rfl,?_⟩)))))
             by_cases q5:l=0
             ·rw [decide_eq_true q5];exact hP.2 ⟨hO,rfl,hb3,rfl,h2,by rw [decide_eq_true q5];simp⟩
             ·rw [decide_eq_false q5];exact hn fun h=>by have:=h.2.2.2.2.2;rw [decide_eq_false q4,decide_eq_false q5] at this;simp at this
 ·exact .inr (.inl ⟨hO,hn fun h=>hO h.1⟩)
set_option maxHeartbeats 2000000 in
open Classical in
theorem rsheet_c (p:Prints) (k:Nat) (x:Print) (hx0:p.prints[k]?=some x) (hsm:SmallP p) (objs:List DObj):DCall Tryz.prog G 88 [printsv p,iv (k:Int)] objs (fun rr objs'=>rr=bv (decide (pkB p k x))∧objs'=objs):=by
 refine DCall.frame ?_ (by simp) (by simp) objs
 refine DCall_intro Tryz.func88 rfl Tryz.ntmps88 (by simp) rfl ?_
 try simp only [iv]
 have hlt:k < p.prints.length:=lt_of_getElem? hx0
 have hx:p.prints[k]=x:=(List.getElem?_eq_some_iff.1 hx0).2
 have hlo:=hsm.lo x (by rw [← hx];exact List.getElem_mem hlt)
 have hh:=hsm.h
 have hrl:=hsm.l
 have hql:=hsm.q
 have c1:=within7_c (G:=G) x.number 1 9999
 have c2:=within7_c (G:=G) x.day 0 14610
 have c3:=index7_c (G:=G) p x.holder (by omega)
 have c4:=find_c (G:=G) p.n.reg x.drawing x.letter (by omega)
 have c5:=within7_c (G:=G) x.back x.day 14610
 have hf:=fidx_lt (fun y:Holder=>decide (y.id=x.holder)) p.holders
 have hP:=pkB_iff p k x
 rw [← pk3_find,show pk2 p.holders x=p.holders.any (fun y=>decide (y.id=x.holder)) from rfl] at hP
 simp only [refv] at c4
 generalize fidx (fun y:Holder=>decide (y.id=x.holder)) p.holders=f at *
 generalize (p.holders.any fun y=>decide (y.id=x.holder))=b3 at *
 generalize (findI p.n.reg x.drawing x.letter).isSome=b4 at *
 generalize (findI p.n.reg x.drawing x.letter).getD zIssue=z at *
 generalize hB:decide (pkB p k x)=B
 have hP':B=true↔pkB p k x:=by rw [← hB,decide_eq_true_eq]
 rw [hP] at hP'
 clear hP hB
 generalize hb1:(decide (1≤x.number) && decide (x.number≤9999))=b1 at c1
 generalize hb2:(decide (0≤x.day) && decide (x.day≤14610))=b2 at c2
 generalize hb5:(decide (x.day≤x.back) && decide (x.back≤14610))=b5 at c5
 have e1:pk1 x=(b1 && b2):=by rw [← hb1,← hb2];rfl
 have e5:pk5 x=(decide (x.back=-1) || b5 && decide (x.lost=0)):=by rw [← hb5];rfl
 rw [e1,e5,show pk4 x=decide (x.lost≤2) from rfl] at hP'
 clear e1 e5 hb1 hb2 hb5
 have hf3:b3=true↔¬ f < 0:=by cases b3<;>simpa using hf
 clear hf
 have hs:True:=trivial
 have hcs:(¬ 0 < k∧True∧(∃ _:True,True)∧(0 < k→∀ y,p.prints[k - 1]?=some y→y.number < x.number))∨(0 < k∧IntKind.i64.wrap ((k:Int) - 1)=((k - 1:Nat):Int)∧(∃ h:k - 1 < p.prints.length,¬ x.number≤(p.prints[k - 1]'h).number)∧(0 < k→∀ y,p.prints[k - 1]?=some y→y.number < x.number))∨(0 < k∧IntKind.i64.wrap ((k:Int) - 1)=((k - 1:Nat):Int)∧(∃ h:k - 1 < p.prints.length,x.number≤(p.prints[k - 1]'h).number)∧¬ (0 < k→∀ y,p.prints[k - 1]?=some y→y.number < x.number)):=by
  rcases Nat.eq_zero_or_pos k with h0|h0
  ·exact .inl ⟨by omega,trivial,⟨trivial,trivial⟩,fun h=>by omega⟩
  ·have h1:k - 1 < p.prints.length:=by omega
   have h2:=List.getElem?_eq_getElem h1
   have hw:IntKind.i64.wrap ((k:Int) - 1)=((k - 1:Nat):Int):=by rw [i64w (by omega) (by omega)];omega
   by_cases h3:x.number≤(p.prints[k - 1]'h1).number
   ·exact .inr (.inr ⟨h0,hw,⟨h1,h3⟩,fun h=>by have:=h h0 _ h2;omega⟩)
   ·exact .inr (.inl ⟨h0,hw,⟨h1,h3⟩,fun _ y hy=>by rw [h2] at hy;cases hy;omega⟩)
 generalize (0 < k→∀ y,p.prints[k - 1]?=some y→y.number < x.number)=O at *
 have hc2:=sheet_cs hf3 hP'
 rcases hc2 with ⟨g1,g2,g3,g4,g5,g6,g7,gB⟩|⟨hO,gB⟩|⟨hO,hc2⟩
 ·clear hcs
  have hs:True:=trivial
  repeat' first|(with_reducible first|refine q01 ?_|refine q02 ?_|refine q11 ?_|refine q17 ?_)|(with_reducible refine At.fn_ret (by simp -dsimp [hx,hlt,g1,hs];exact rfl) ?_)|(refine QCall_pure (c1) ?_;try simp -dsimp [hx,hlt,g1,hs])|(refine DT_regionM (id:=2) (nt:=77) 38 [0,1,2,4,5,7,50,61] mixed rfl (by kernel_rfl) ?_;simp -dsimp [hx,hlt,g1,hs])|(with_reducible refine DT_regionE [0,1,2,4,5,7,50,61] ?_;simp -dsimp [hx,hlt,g1,hs])|(refine DT_cond rfl (fun h=>?_) (fun h=>?_)<;>(try simp only [nrm] at h)<;>(try exact Bool.noConfusion h))
  all_goals try simp -dsimp [hx,hlt,g1,hs]
  all_goals try clear hs
  all_goals exact gB
 ·rcases hcs with ⟨hk0,hwm,⟨hi1,hlt1⟩,hO1⟩|⟨hk0,hwm,⟨hi1,hlt1⟩,hO1⟩|⟨hk0,hwm,⟨hi1,hlt1⟩,hO1⟩
  ·exact absurd hO1 hO
  ·exact absurd hO1 hO
  ·cases b1
   all_goals
    have hs:True:=trivial
    repeat' first|(with_reducible first|refine q01 ?_|refine q02 ?_|refine q11 ?_|refine q17 ?_)|(with_reducible refine At.fn_ret (by simp -dsimp [hx,hlt,hk0,hwm,hi1,hlt1,hs];exact rfl) ?_)|(refine QCall_pure (c1) ?_;try simp -dsimp [hx,hlt,hk0,hwm,hi1,hlt1,hs])|(refine DT_regionM (id:=2) (nt:=77) 38 [0,1,2,4,5,7,50,61] mixed rfl (by kernel_rfl) ?_;simp -dsimp [hx,hlt,hk0,hwm,hi1,hlt1,hs])|(with_reducible refine DT_regionE [0,1,2,4,5,7,50,61] ?_;simp -dsimp [hx,hlt,hk0,hwm,hi1,hlt1,hs])|(refine DT_cond rfl (fun h=>?_) (fun h=>?_)<;>(try simp only [nrm] at h)<;>(try exact Bool.noConfusion h))
    all_goals try simp -dsimp [hx,hlt,hk0,hwm,hi1,hlt1,hs]
    all_goals try clear hs
   all_goals exact gB
 ·rcases hc2 with ⟨g1,g2,g3,g4,g5,g6,g7,gB⟩|⟨g1,g2,g3,g4,g5,g6,g7,gB⟩|⟨g1,g2,g3,g4,g5,g6,g7,gB⟩|⟨g1,g2,g3,g4,g5,g6,g7,gB⟩|⟨g1,g2,g3,g4,g5,g6,g7,gB⟩|⟨g1,g2,g3,g4,g5,g6,g7,gB⟩|⟨g1,g2,g3,g4,g5,g6,g7,gB⟩<;>rcases hcs with ⟨hk0,hwm,⟨hi1,hlt1⟩,hO1⟩|⟨hk0,hwm,⟨hi1,hlt1⟩,hO1⟩|⟨hk0,hwm,⟨hi1,hlt1⟩,hO1⟩
  all_goals first
   | exact absurd hO hO1
   | skip
  all_goals
   have hs:True:=trivial
   repeat' first|(with_reducible first|refine q01 ?_|refine q02 ?_|refine q11 ?_|refine q14 ?_|refine q17 ?_)|(with_reducible refine At.fn_ret (by simp -dsimp [hx,hlt,hk0,hwm,hi1,hlt1,g1,g2,g3,g4,g5,g6,g7,hs];exact rfl) ?_)|(refine QCall_pure (c1) ?_;try simp -dsimp [hx,hlt,hk0,hwm,hi1,hlt1,g1,g2,g3,g4,g5,g6,g7,hs])|(refine QCall_pure (c2) ?_;try simp -dsimp [hx,hlt,hk0,hwm,hi1,hlt1,g1,g2,g3,g4,g5,g6,g7,hs])|(refine QCall_pure (c3) ?_;try simp -dsimp [hx,hlt,hk0,hwm,hi1,hlt1,g1,g2,g3,g4,g5,g6,g7,hs])|(refine CallE.pure (c4) ?_;try simp -dsimp [hx,hlt,hk0,hwm,hi1,hlt1,g1,g2,g3,g4,g5,g6,g7,hs])|(refine CallE.pure (c5) ?_;try simp -dsimp [hx,hlt,hk0,hwm,hi1,hlt1,g1,g2,g3,g4,g5,g6,g7,hs])|(refine DT_regionM (id:=2) (nt:=77) 38 [0,1,2,4,5,7,50,61] mixed rfl (by kernel_rfl) ?_;simp -dsimp [hx,hlt,hk0,hwm,hi1,hlt1,g1,g2,g3,g4,g5,g6,g7,hs])|(with_reducible refine DT_regionE [0,1,2,4,5,7,50,61] ?_;simp -dsimp [hx,hlt,hk0,hwm,hi1,hlt1,g1,g2,g3,g4,g5,g6,g7,hs])|(refine DT_cond rfl (fun h=>?_) (fun h=>?_)<;>(try simp only [nrm] at h)<;>(try exact Bool.noConfusion h))
   all_goals try simp -dsimp [hx,hlt,hk0,hwm,hi1,hlt1,g1,g2,g3,g4,g5,g6,g7,hs]
   all_goals try clear hs
  all_goals first
   | exact gB
   | exact gB.symm
   | trace_state
end Go.Proofs
namespace Go.Ab
open Go
def dedupI:List Int→List Int
 | []=>[]
 | [a]=>[a]
 | a :: b :: r=>if a=b then dedupI (b :: r) else a :: dedupI (b :: r)
theorem dedupI_snoc:∀ (l:List Int) (u v:Int),dedupI (l ++ [u,v])=if u=v then dedupI (l ++ [u]) else dedupI (l ++ [u]) ++ [v]
 | [],u,v=>by simp only [List.nil_append,dedupI];split<;>simp [*]
 | [a],u,v=>by
   simp only [List.cons_append,List.nil_append,dedupI]
   split<;>split<;>simp [*]
 | a :: b :: r,u,v=>by
   have ih:=dedupI_snoc (b :: r) u v
   simp only [List.cons_append,dedupI] at ih ⊢
   rw [ih]
   split<;>split<;>simp
theorem dedupI_len:∀ l:List Int,(dedupI l).length≤l.length
 | []=>by simp [dedupI]
 | [a]=>by simp [dedupI]
 | a :: b :: r=>by
   have:=dedupI_len (b :: r)
   simp only [dedupI];split<;>simp at *<;>omega
theorem dedupI_mem:∀ (l:List Int) (x:Int),x∈dedupI l↔x∈l
 | [],x=>by simp [dedupI]
 | [a],x=>by simp [dedupI]
 | a :: b :: r,x=>by
   have ih:=dedupI_mem (b :: r) x
   simp only [dedupI]
   split
   ·rename_i h;subst h;rw [ih];simp
   ·rw [List.mem_cons,ih,List.mem_cons (a:=x) (b:=a)]
theorem dedupI_lt:∀ (l:List Int),l.Pairwise (·≤·)→(dedupI l).Pairwise (· < ·)
 | [],_=>by simp [dedupI]
 | [a],_=>by simp [dedupI]
 | a :: b :: r,h=>by
   obtain ⟨h1,h2⟩:=List.pairwise_cons.1 h
   have ih:=dedupI_lt (b :: r) h2
   simp only [dedupI]
   split
   ·exact ih
   ·rename_i hne
    refine List.pairwise_cons.2 ⟨fun x hx=>?_,ih⟩
    have hb:=h1 b (by simp)
    rcases List.mem_cons.1 ((dedupI_mem _ _).1 hx) with rfl|hx
    ·omega
    ·have:=(List.pairwise_cons.1 h2).1 x hx;omega
theorem take_two {l:List Int} {k:Nat} (h:k + 1 < l.length):l.take (k + 2)=l.take k ++ [l[k],l[k + 1]]:=by
 rw [show k + 2=k + 1 + 1 from rfl,List.take_succ_eq_append_getElem h,List.take_succ_eq_append_getElem (by omega),List.append_assoc];rfl
theorem dedup_step {l:List Int} {k:Nat} (h:k + 1 < l.length):dedupI (l.take (k + 2))=if l[k]=l[k + 1] then dedupI (l.take (k + 1)) else dedupI (l.take (k + 1)) ++ [l[k + 1]]:=by
 rw [take_two h,dedupI_snoc,List.take_succ_eq_append_getElem (by omega)]
theorem set_take {l:List Int} {k:Nat} {v:Int} (h:k < l.length):(l.set k v).take (k + 1)=l.take k ++ [v]:=by
 rw [List.take_succ_eq_append_getElem (by simpa using h)]
 simp [List.take_set_of_le]
end Go.Ab
namespace Go.Proofs
open Go Go.Ab
set_option linter.unusedSimpArgs false
variable {G:Nat→Option (List IC)}
set_option maxHeartbeats 2000000 in
theorem compact_c (l:List Int) (g:Nat) (hl:l.length < 1000):DCall Tryz.prog G 97 [.one (.vec 0 g 0 l.length)] [.vec 1 (ims (l.map encI)) g false] (fun d o=>∃ S:List Int,(S.length=l.length∧S.take (dedupI l).length=dedupI l)∧d=.one (.vec 0 g 0 (dedupI l).length)∧o=[.vec 1 (ims (S.map encI)) g false]):=by
 refine DCall.drop ?_
 refine DCall_intro Tryz.func97 rfl Tryz.ntmps97 (by simp) rfl ?_
 by_cases h2:l.length < 2
 ·have hli:(l.length:Int) < 2:=by omega
  have hs:True:=trivial
  repeat' first|(with_reducible first|refine q01 ?_|refine q02 ?_|refine q11 ?_|refine q17 ?_)|(with_reducible refine At.fn_ret (by simp -dsimp [hli,hs];exact rfl) ?_)|(with_reducible refine DT_regionE [0,2,3,4,5,8,13,25,32,44] ?_;simp -dsimp [hli,hs])|(refine DT_cond rfl (fun h=>?_) (fun h=>?_)<;>(try simp only [nrm] at h)<;>(try exact Bool.noConfusion h))
  all_goals try simp -dsimp [hli,hs]
  all_goals try clear hs
  have hd:dedupI l=l:=by
   match l,h2 with
   | [],_=>rfl
   | [a],_=>rfl
  exact ⟨l,⟨rfl,by rw [hd,List.take_length]⟩,by rw [hd],rfl⟩
 ·have hli:¬ (l.length:Int) < 2:=by omega
  have hs:True:=trivial
  repeat' first|(with_reducible first|refine q01 ?_|refine q11 ?_|refine q12 ?_|refine q14 ?_)|(with_reducible refine DT_regionE [0,2,3,4,5,8,13,25,32,44] ?_;simp -dsimp [hli,hs])|(refine DT_cond rfl (fun h=>?_) (fun h=>?_)<;>(try simp only [nrm] at h)<;>(try exact Bool.noConfusion h))
  all_goals try simp -dsimp [hli,hs]
  all_goals try clear hs
  refine DT_loop (ι:={ k:Nat // 1≤k∧k≤l.length∧dedupI (l.take k)=l.take k }) (fun p=>⟨61,[(0,.one (.vec 0 g 0 l.length)),(3,iv (p.1:Int))],[.vec 1 (ims (l.map encI)) g false]⟩) (fun p=>l.length - p.1) ⟨1,by omega,by omega,by cases l with|nil=>rfl|cons a r=>simp [dedupI]⟩ (Weak.of_drop [0,3] 1 (by simp) (by simp) (by simp)) ?_
  rintro ⟨k,hk1,hk,hdk⟩
  simp only [iv]
  by_cases hlt:k < l.length
  ·have hw:IntKind.i64.wrap ((k:Int) + 1)=((k + 1:Nat):Int):=i64w (by omega) (by omega)
   obtain ⟨j,rfl⟩:∃ j,k=j + 1:=⟨k - 1,by omega⟩
   have hj:j < l.length:=by omega
   have hst:=dedup_step hlt
   rw [hdk] at hst
   have hwj:IntKind.i64.wrap (((j + 1:Nat):Int) - 1)=(j:Int):=by rw [i64w (by omega) (by omega)];omega
   have hwj2:IntKind.i64.wrap (j:Int)=(j:Int):=i64w (by omega) (by omega)
   have hp0:(0:Int)≤(j:Int) + 1:=by omega
   have hp1:(j:Int) + 1≤l.length:=by omega
   have hp2:(j:Int) + 1 < l.length:=by omega
   by_cases he:l[j]=l[j + 1]
   ·have he':l[j + 1]=l[j]:=he.symm
    rw [if_pos he] at hst
    have hs:True:=trivial
    repeat' first|(with_reducible first|refine q01 ?_|refine q11 ?_|refine q12 ?_|refine q14 ?_)|(refine DT_regionM (id:=6) (nt:=61) 10 [0,2,3,4,5,8,13,25,32,44] mixed rfl (by kernel_rfl) ?_;simp -dsimp [hlt,hj,hw,hwj,hwj2,hp0,hp1,hp2,he',hs])|(with_reducible refine DT_regionE [0,2,3,4,5,8,13,25,32,44] ?_;simp -dsimp [hlt,hj,hw,hwj,hwj2,hp0,hp1,hp2,he',hs])|(refine DT_cond rfl (fun h=>?_) (fun h=>?_)<;>(try simp only [nrm] at h)<;>(try exact Bool.noConfusion h))
    all_goals try simp -dsimp [hlt,hj,hw,hwj,hwj2,hp0,hp1,hp2,he',hs]
    all_goals try clear hs
    refine DT_loop (ι:={ p:Nat×Nat×List Int // 1≤p.1∧j + 1 + p.1≤l.length∧p.2.1≤j + p.1∧p.2.2.length=l.length∧p.2.2.take p.2.1=dedupI (l.take (j + 1 + p.1))∧p.2.2.drop (j + p.1)=l.drop (j + p.1) }) (fun p=>⟨61,[(0,.one (.vec 0 g 0 l.length)),(3,iv (p.1.2.1:Int)),(4,.one (.vec 0 g (j + 1) (l.length - (j + 1)))),(5,iv (p.1.1:Int))],[.vec 1 (ims (p.1.2.2.map encI)) g false]⟩) (fun p=>l.length - p.1.1) ⟨(1,j + 1,l),by simp only;omega,by simp only;omega,by simp only;omega,rfl,hst.symm,rfl⟩ (Weak.of_keep [0,3,4,5] (by simp)) ?_
    rintro ⟨⟨q,w,S⟩,hq1,hqN,hwq,hSl,hSt,hSd⟩
    simp only at hq1 hqN hwq hSl hSt hSd
    simp only [iv]
    by_cases hlq:j + 1 + q < l.length
    ·have hq':q < l.length - (j + 1):=by omega
     have hq1':q - 1 < l.length - (j + 1):=by omega
     have hqw:IntKind.i64.wrap ((q:Int) + 1)=((q + 1:Nat):Int):=i64w (by omega) (by omega)
     have hww:IntKind.i64.wrap ((w:Int) + 1)=((w + 1:Nat):Int):=i64w (by omega) (by omega)
     have hqm:IntKind.i64.wrap ((q:Int) - 1)=((q - 1:Nat):Int):=by rw [i64w (by omega) (by omega)];omega
     have hs1:j + 1 + q < S.length:=by omega
     have hs0:j + 1 + (q - 1) < S.length:=by omega
     have hwl:w < l.length:=by omega
     have hds:dedupI (l.take (j + 1 + (q + 1)))=if l[j + q]=l[j + 1 + q] then dedupI (l.take (j + 1 + q)) else dedupI (l.take (j + 1 + q)) ++ [l[j + 1 + q]]:=by
      have:=dedup_step (l:=l) (k:=j + q) (by omega)
      simp only [show j + q + 1=j + 1 + q by omega,show j + q + 2=j + 1 + (q + 1) by omega] at this
      exact this
     rw [← hSt] at hds
     have e1:S[j + 1 + q]=l[j + 1 + q]:=by
      have:=congrArg (fun L:List Int=>L[1]?) hSd
      simp only [List.getElem?_drop] at this
      rw [show j + q + 1=j + 1 + q by omega,List.getElem?_eq_getElem hs1,List.getElem?_eq_getElem hlq] at this
      exact Option.some.inj this
     have e0:S[j + 1 + (q - 1)]=l[j + q]:=by
      have:=congrArg (fun L:List Int=>L[0]?) hSd
      simp only [List.getElem?_drop,Nat.add_zero] at this
      rw [List.getElem?_eq_getElem (show j + q < S.length by omega),List.getElem?_eq_getElem (show j + q < l.length by omega)] at this
      have e:=Option.some.inj this
      rw [← e];congr 1;omega
     have hdr:S.drop (j + (q + 1))=l.drop (j + (q + 1)):=by
      have:=congrArg (List.drop 1) hSd
      rw [List.drop_drop,List.drop_drop] at this
      exact this
     have hset:=fun v:Int=>set_take (v:=v) (show w < S.length by omega)
     have hdset:∀ v:Int,(S.set w v).drop (j + (q + 1))=l.drop (j + (q + 1)):=fun v=>by
      rw [List.drop_set_of_lt (by omega)];exact hdr
     generalize l[j + q]=u at *
     generalize l[j + 1 + q]=v at *
     have e0':S[j + 1 + (q - 1)]?=some u:=by rw [List.getElem?_eq_getElem hs0,e0]
     have e1':S[j + 1 + q]?=some v:=by rw [List.getElem?_eq_getElem hs1,e1]
     by_cases huv:u=v
     ·have hvu:v=u:=huv.symm
      rw [if_pos huv] at hds
      have hs:True:=trivial
      repeat' first|(with_reducible first|refine q01 ?_|refine q04 ?_|refine q11 ?_|refine q12 ?_|refine q14 ?_)|(refine DT_regionM (id:=11) (nt:=61) 10 [0,2,3,4,5,8,13,25,32,44] mixed rfl (by kernel_rfl) ?_;simp -dsimp [hq',hq1',hSl,hlq,hqw,hww,hqm,hs1,hs0,hwl,e1,e0,e0',e1',hvu,hs])|(with_reducible refine DT_regionE [0,2,3,4,5,8,13,25,32,44] ?_;simp -dsimp [hq',hq1',hSl,hlq,hqw,hww,hqm,hs1,hs0,hwl,e1,e0,e0',e1',hvu,hs])|(refine DT_cond rfl (fun h=>?_) (fun h=>?_)<;>(try simp only [nrm] at h)<;>(try exact Bool.noConfusion h))
      all_goals try simp -dsimp [hq',hq1',hSl,hlq,hqw,hww,hqm,hs1,hs0,hwl,e1,e0,e0',e1',hvu,hs]
      all_goals try clear hs
      all_goals exact At.round ⟨(q + 1,w,S),by simp only;omega,by simp only;omega,by simp only;omega,hSl,hds.symm,hdr⟩ (by simp only;omega) (Weak.of_keep [0,3,4,5] (by simp))
     ·have hvu:¬ v=u:=fun h=>huv h.symm
      rw [if_neg huv,← hset v] at hds
      have hs:True:=trivial
      repeat' first|(with_reducible first|refine q01 ?_|refine q04 ?_|refine q11 ?_|refine q12 ?_|refine q14 ?_)|(refine DT_regionM (id:=11) (nt:=61) 10 [0,2,3,4,5,8,13,25,32,44] mixed rfl (by kernel_rfl) ?_;simp -dsimp [hq',hq1',hSl,hlq,hqw,hww,hqm,hs1,hs0,hwl,e1,e0,e0',e1',hvu,hs])|(with_reducible refine DT_regionE [0,2,3,4,5,8,13,25,32,44] ?_;simp -dsimp [hq',hq1',hSl,hlq,hqw,hww,hqm,hs1,hs0,hwl,e1,e0,e0',e1',hvu,hs])|(refine DT_cond rfl (fun h=>?_) (fun h=>?_)<;>(try simp only [nrm] at h)<;>(try exact Bool.noConfusion h))
      all_goals try simp -dsimp [hq',hq1',hSl,hlq,hqw,hww,hqm,hs1,hs0,hwl,e1,e0,e0',e1',hvu,hs]
      all_goals try clear hs
      all_goals exact At.round ⟨(q + 1,w + 1,S.set w v),by simp only;omega,by simp only;omega,by simp only;omega,by simpa using hSl,hds.symm,hdset v⟩ (by simp only;omega) (Weak.of_keep [0,3,4,5] (by simp))
    ·have hq':¬ q < l.length - (j + 1):=by omega
     have hw0:w≤l.length:=by omega
     have hs:True:=trivial
     repeat' first|(with_reducible first|refine q01 ?_|refine q02 ?_|refine q03 ?_|refine q05 ?_|refine q06 ?_|refine q11 ?_|refine q16 ?_|refine q17 ?_)|(with_reducible refine At.fn_ret (by simp -dsimp [hq',hw0,hSl,hs];exact rfl) ?_)|(with_reducible refine DT_regionE [0,2,3,4,5,8,13,25,32,44] ?_;simp -dsimp [hq',hw0,hSl,hs])|(refine DT_cond rfl (fun h=>?_) (fun h=>?_)<;>(try simp only [nrm] at h)<;>(try exact Bool.noConfusion h))
     all_goals try simp -dsimp [hq',hw0,hSl,hs]
     all_goals try clear hs
     have hN:j + 1 + q=l.length:=by omega
     rw [hN,List.take_length] at hSt
     have hwd:w=(dedupI l).length:=by rw [← hSt];simp;omega
     exact ⟨clrI S w (l.length - w),⟨by rw [clrI_len (by omega)];exact hSl,by rw [← hwd,← hSt];exact List.take_left' (by simp;omega)⟩,by rw [hwd],rfl⟩
   ·have he':¬ l[j + 1]=l[j]:=fun h=>he h.symm
    rw [if_neg he] at hst
    have hs:True:=trivial
    repeat' first|(with_reducible first|refine q01 ?_|refine q04 ?_|refine q11 ?_|refine q12 ?_|refine q14 ?_)|(refine DT_regionM (id:=6) (nt:=61) 10 [0,2,3,4,5,8,13,25,32,44] mixed rfl (by kernel_rfl) ?_;simp -dsimp [hlt,hj,hw,hwj,hwj2,hp0,hp1,hp2,he',hs])|(with_reducible refine DT_regionE [0,2,3,4,5,8,13,25,32,44] ?_;simp -dsimp [hlt,hj,hw,hwj,hwj2,hp0,hp1,hp2,he',hs])|(refine DT_cond rfl (fun h=>?_) (fun h=>?_)<;>(try simp only [nrm] at h)<;>(try exact Bool.noConfusion h))
    all_goals try simp -dsimp [hlt,hj,hw,hwj,hwj2,hp0,hp1,hp2,he',hs]
    all_goals try clear hs
    exact At.round ⟨j + 2,by omega,by omega,by rw [hst,show j + 2=j + 1 + 1 from rfl,List.take_succ_eq_append_getElem hlt]⟩ (by simp only;omega) (Weak.of_keep [0,3] (by simp;exact hw))
  ·obtain rfl:k=l.length:=by omega
   rw [List.take_length] at hdk
   have hs:True:=trivial
   repeat' first|(with_reducible first|refine q01 ?_|refine q03 ?_|refine q06 ?_|refine q11 ?_|refine q16 ?_|refine q17 ?_)|(with_reducible refine At.fn_ret (by simp -dsimp [hlt,hs];exact rfl) ?_)|(with_reducible refine DT_regionE [0,2,3,4,5,8,13,25,32,44] ?_;simp -dsimp [hlt,hs])|(refine DT_cond rfl (fun h=>?_) (fun h=>?_)<;>(try simp only [nrm] at h)<;>(try exact Bool.noConfusion h))
   all_goals try simp -dsimp [hlt,hs]
   all_goals try clear hs
   exact ⟨l,⟨rfl,by rw [hdk,List.take_length]⟩,by rw [hdk],rfl⟩
end Go.Proofs
