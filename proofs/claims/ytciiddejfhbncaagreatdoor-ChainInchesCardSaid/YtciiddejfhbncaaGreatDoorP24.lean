/- Part 24 of the proofs: laws and walks that hold without conditions beyond those that each theorem names. -/
import Derived.Test.YtciiddejfhbncaaGreatDoorP23
set_option linter.all false
set_option linter.deprecated false
namespace Go.Proofs
open Go Go.Ab
set_option linter.unusedSimpArgs false
variable {G:Nat→Option (List IC)}
def knownR (l:List Issue) (d:Int):DV:=if checkR l=0∧d∈nums l then .one (.im (bookI l (nums l))) else .one (.im (.raw (.pointer none)))
theorem knownR_im (l:List Issue) (d:Int):ImV (knownR l d):=by unfold knownR;split<;>simp [bookI]
attribute [simp] knownR_im
def knownE (l:List Issue) (d:Int):Int:=if checkR l≠0 then checkR l else if d∈nums l then 0 else 6
theorem known_c (l:List Issue) (d:Int) (hG:sheetG G) (hs:SmallR l) (objs:List DObj):DCall Tryz.prog G 157 [regv l,iv d] objs (fun rr objs'=>rr=.tup [knownR l d,iv (knownE l d)]∧objs'=objs):=by
 refine DCall.frame ?_ (by simp) (by simp) objs
 refine DCall_intro Tryz.func157 rfl Tryz.ntmps157 (by simp) rfl ?_
 try simp only [regv,iv]
 have c1:=open2_c l hG hs
 by_cases h0:checkR l=0
 ·simp only [bookR,h0,if_true] at c1
  have c2:=has_c (G:=G) l (nums l) d ((check_nums h0).1.imp fun h=>Int.le_of_lt h) (by have:=hs.1;have:=numsTo_length l l.length;unfold nums;omega)
  by_cases hm:d∈nums l
  ·simp only [hm,decide_true,bookI] at c1 c2
   have hs:True:=trivial
   repeat' first|(with_reducible first|refine q01 ?_|refine q11 ?_|refine q14 ?_|refine q17 ?_)|(with_reducible refine At.fn_ret (by simp -dsimp [hs];exact rfl) ?_)|(refine CallE.pure (c1) ?_;try simp -dsimp [hs])|(refine CallE.pure (c2) ?_;try simp -dsimp [hs])|(with_reducible refine DT_regionE [0,1,2,4,5,6,7,14,19] ?_;simp -dsimp [hs])|(refine DT_cond rfl (fun h=>?_) (fun h=>?_)<;>(try simp only [nrm] at h)<;>(try exact Bool.noConfusion h))
   all_goals try simp -dsimp [hs]
   all_goals try clear hs
   all_goals simp [knownR,knownE,h0,hm,bookI]
  ·simp only [hm,decide_false,bookI] at c1 c2
   have hs:True:=trivial
   repeat' first|(with_reducible first|refine q01 ?_|refine q02 ?_|refine q11 ?_|refine q14 ?_|refine q17 ?_)|(with_reducible refine At.fn_ret (by simp -dsimp [hs];exact rfl) ?_)|(refine CallE.pure (c1) ?_;try simp -dsimp [hs])|(refine CallE.pure (c2) ?_;try simp -dsimp [hs])|(with_reducible refine DT_regionE [0,1,2,4,5,6,7,14,19] ?_;simp -dsimp [hs])|(refine DT_cond rfl (fun h=>?_) (fun h=>?_)<;>(try simp only [nrm] at h)<;>(try exact Bool.noConfusion h))
   all_goals try simp -dsimp [hs]
   all_goals try clear hs
   all_goals simp [knownR,knownE,h0,hm,bookI]
 ·simp only [bookR,h0,if_false] at c1
  have hs:True:=trivial
  repeat' first|(with_reducible first|refine q01 ?_|refine q02 ?_|refine q11 ?_|refine q17 ?_)|(with_reducible refine At.fn_ret (by simp -dsimp [h0,hs];exact rfl) ?_)|(refine CallE.pure (c1) ?_;try simp -dsimp [h0,hs])|(with_reducible refine DT_regionE [0,1,2,4,5,6,7,14,19] ?_;simp -dsimp [h0,hs])|(refine DT_cond rfl (fun h=>?_) (fun h=>?_)<;>(try simp only [nrm] at h)<;>(try exact Bool.noConfusion h))
  all_goals try simp -dsimp [h0,hs]
  all_goals try clear hs
  all_goals simp [knownR,knownE,h0]
def cntN (l:List Issue) (d:Int):Nat:=(l.filter fun x=>decide (x.drawing=d)).length
theorem seg_cnt {l:List Issue} {d:Int} (hs:(l.map (·.drawing)).Pairwise (·≤·)):cntN l d=cntN (l.drop (lb (l.map (·.drawing)) d)) d:=by
 conv=>lhs;rw [← List.take_append_drop (lb (l.map (·.drawing)) d) l]
 simp only [cntN,List.filter_append]
 rw [List.filter_eq_nil_iff.2 fun x hx=>?_]
 ·rfl
 ·have:=seg_lt hs x hx
  simp;omega
theorem lastB_c (l:List Issue) (ds:List Int) (d:Int) (hs:(l.map (·.drawing)).Pairwise (·≤·)) (hl:l.length < 1000000) (objs:List DObj):DCall Tryz.prog G 158 [.one (.im (bookI l ds)),iv d] objs (fun rr objs'=>rr=iv (cntN l d:Int)∧objs'=objs):=by
 refine DCall.frame ?_ (by simp) (by simp) objs
 refine DCall_intro Tryz.func158 rfl Tryz.ntmps158 (by simp) rfl ?_
 try simp only [iv]
 simp only [bookI]
 have c1:=issues_c (G:=G) (bookI l ds) d
 simp only [bookI] at c1
 have hs:True:=trivial
 repeat' first|(with_reducible first|refine q01 ?_|refine q11 ?_|refine q12 ?_)|(refine CallE.pure (c1) ?_;try simp -dsimp [hs])|(with_reducible refine DT_regionE [0,1,4,5,8] ?_;simp -dsimp [hs])
 all_goals try simp -dsimp [hs]
 all_goals try clear hs
 refine DT_rangeFunc (f:=170) (by simp;exact rfl) (by rfl) Tryz.call170 ?_
 generalize hR:LoopD.mk _ _ _ _ _ _ _=R
 have hR1:R.st=.ready:=by rw [← hR]
 have hR2:R.pend=none:=by rw [← hR]
 have hR3:R.at .ready none=R:=by rw [← hR];rfl
 have hR4:=(congrArg LoopD.nt hR).symm
 have hR5:=(congrArg LoopD.tm hR).symm
 have hR6:=(congrArg LoopD.ps hR).symm
 have hR7:=(congrArg LoopD.asg hR).symm
 have hR8:=(congrArg LoopD.body hR).symm
 dsimp only at hR4 hR5 hR6 hR7 hR8
 clear hR
 refine DCall_intro Tryz.func170 rfl Tryz.ntmps170 (by simp) rfl ?_
 have hR9:∀ objs:List DObj,(R.tm.map fun x=>(x.1,fzV 2 objs x.2))=R.tm:=by intro objs;rw [hR5];simp
 have hlb:=lb_le (l.map (·.drawing)) d
 rw [List.length_map] at hlb
 have c2:=bsearchI_c (G:=G) l d hs hl
 have hs:True:=trivial
 repeat' first|(with_reducible first|refine q01 ?_|refine q11 ?_|refine q12 ?_)|(refine QCall_pure (c2) ?_;try simp -dsimp [hR1,hR2,hR3,hlb,hs])|(refine DT_regionM (id:=0) (nt:=41) 12 [0,1,2,4,7,24,25,26,27,39] mixed rfl (by kernel_rfl) ?_;simp -dsimp [hR1,hR2,hR3,hlb,hs])|(with_reducible refine DT_regionE [0,1,2,4,5,7,8,24,25,26,27,39] ?_;simp -dsimp [hR1,hR2,hR3,hlb,hs])
 all_goals try simp -dsimp [hR1,hR2,hR3,hlb,hs]
 all_goals try clear hs
 rw [← List.map_drop]
 have hge:=seg_ge (d:=d) hs
 have hss:((l.drop (lb (l.map (·.drawing)) d)).map (·.drawing)).Pairwise (·≤·):=by rw [List.map_drop];exact hs.drop
 have hsl:l.length - lb (l.map (·.drawing)) d=(l.drop (lb (l.map (·.drawing)) d)).length:=by simp
 rw [hsl]
 have hsl2:(l.drop (lb (l.map (·.drawing)) d)).length < 1000000:=by simp;omega
 rw [seg_cnt hs]
 generalize l.drop (lb (l.map (·.drawing)) d)=s at hge hss hsl2 ⊢
 refine DT_loop (ι:={ k:Nat // k≤s.length∧k + cntN (s.drop k) d=cntN s d }) (fun p=>⟨41,[(0,.one (.yld 1)),(2,.one (.im (.ip [rI d]))),(24,.one (.im (.sl (s.map encIssue)))),(25,iv (s.length:Int)),(26,iv (p.1:Int))],[.row [.im (rI (p.1:Int))],.loop R]⟩) (fun p=>s.length - p.1) ⟨0,by simp⟩ (Weak.of_keep [0,2,24,25,26] (by simp)) ?_
 rintro ⟨k,hk,hno⟩
 simp only [iv]
 by_cases hlt:k < s.length
 ·have hx:s[k]?=some s[k]:=by simp [hlt]
  have hw:IntKind.i64.wrap ((k:Int) + 1)=((k + 1:Nat):Int):=i64w (by omega) (by omega)
  have hcons:s.drop k=s[k] :: s.drop (k + 1):=List.drop_eq_getElem_cons hlt
  by_cases hd:s[k].drawing=d
  ·have hno':k + 1 + cntN (s.drop (k + 1)) d=cntN s d:=by
    rw [← hno,cntN,cntN,hcons,List.filter_cons_of_pos (by simp [hd]),List.length_cons];omega
   have hs:True:=trivial
   repeat' first|(with_reducible first|refine q01 ?_|refine q04 ?_|refine q11 ?_|refine q12 ?_|refine q14 ?_)|(with_reducible refine At.yield_end ?_;simp -dsimp [hR1,hR2,hR3,hx,hw,hd,hlt,hs])|(refine At_busy ?_ ?_<;>simp -dsimp [hR1,hR2,hR3,hx,hw,hd,hlt,hs])|(refine YieldE_go ?_;simp -dsimp [YieldR,hR4,hR5,hR6,hR7,hR8,hR1,hR2,hR3,hx,hw,hd,hlt,hs])|(with_reducible refine DT_regionE [0,1,2,4,5,7,8,24,25,26,27,39] ?_;simp -dsimp [hR1,hR2,hR3,hx,hw,hd,hlt,hs])|(refine DT_cond rfl (fun h=>?_) (fun h=>?_)<;>(try simp only [nrm] at h)<;>(try exact Bool.noConfusion h))
   all_goals try simp -dsimp [hR1,hR2,hR3,hx,hw,hd,hlt,hs]
   all_goals try clear hs
   all_goals exact At.round ⟨k + 1,by omega,hno'⟩ (by simp;omega) (Weak.of_drop [0,2,24,25,26] 2 (by simp) (by simp) (by simp [hR9]))
  ·have hnone:cntN (s.drop k) d=0:=by
    simp only [cntN,List.length_eq_zero_iff,List.filter_eq_nil_iff]
    intro x hxm
    obtain ⟨i,hi⟩:=List.mem_iff_getElem?.1 hxm
    rw [List.getElem?_drop] at hi
    have h1:s[k].drawing≤x.drawing:=by
     rcases Nat.eq_zero_or_pos i with rfl|hp
     ·rw [Nat.add_zero,hx] at hi;cases hi;exact Int.le_refl _
     ·have hlt2:=(List.getElem?_eq_some_iff.1 hi).1
      have:=(List.pairwise_iff_getElem.1 hss) k (k + i) (by simpa using hlt) (by simpa using hlt2) (by omega)
      have h6:=(List.getElem?_eq_some_iff.1 hi).2
      simp at this;rw [h6] at this;exact this
    have h2:=hge s[k] (List.getElem_mem hlt)
    simp;omega
   have hN:cntN s d=k:=by omega
   have hs:True:=trivial
   repeat' first|(with_reducible first|refine q01 ?_|refine q02 ?_|refine q04 ?_|refine q05 ?_|refine q11 ?_|refine q12 ?_|refine q14 ?_|refine q17 ?_)|(with_reducible refine At.fn_ret (by simp -dsimp [hR1,hR2,hR3,hx,hw,hd,hlt,hs];exact rfl) ?_)|(with_reducible show LoopR _ _ _ _ _ _ _ _;simp -dsimp [LoopR,hR1,hR2,hR3,hx,hw,hd,hlt,hs])|(with_reducible refine DT_regionE [0,1,2,4,5,7,8,24,25,26,27,39] ?_;simp -dsimp [hR1,hR2,hR3,hx,hw,hd,hlt,hs])|(refine DT_cond rfl (fun h=>?_) (fun h=>?_)<;>(try simp only [nrm] at h)<;>(try exact Bool.noConfusion h))
   all_goals try simp -dsimp [hR1,hR2,hR3,hx,hw,hd,hlt,hs]
   all_goals try clear hs
   all_goals simp [hN]
 ·have hN:cntN s d=k:=by rw [← hno,List.drop_eq_nil_of_le (by omega)];simp [cntN]
  have hs:True:=trivial
  repeat' first|(with_reducible first|refine q01 ?_|refine q03 ?_|refine q04 ?_|refine q06 ?_|refine q11 ?_|refine q16 ?_|refine q17 ?_)|(with_reducible refine At.fn_ret (by simp -dsimp [hR1,hR2,hR3,hlt,hs];exact rfl) ?_)|(with_reducible refine At.fn_end (by simp -dsimp [hR1,hR2,hR3,hlt,hs];exact rfl) ?_)|(with_reducible show LoopR _ _ _ _ _ _ _ _;simp -dsimp [LoopR,hR1,hR2,hR3,hlt,hs])|(with_reducible refine DT_regionE [0,1,2,4,5,7,8,24,25,26,27,39] ?_;simp -dsimp [hR1,hR2,hR3,hlt,hs])|(refine DT_cond rfl (fun h=>?_) (fun h=>?_)<;>(try simp only [nrm] at h)<;>(try exact Bool.noConfusion h))
  all_goals try simp -dsimp [hR1,hR2,hR3,hlt,hs]
  all_goals try clear hs
  all_goals simp [hN]
def lastR (l:List Issue) (d:Int):Int:=if knownE l d=0 then (cntN l d:Int) else 0
theorem pLast_c (l:List Issue) (d:Int) (hG:sheetG G) (hs:SmallR l) (objs:List DObj):DCall Tryz.prog G 123 [regv l,iv d] objs (fun rr objs'=>rr=.tup [iv (lastR l d),iv (knownE l d)]∧objs'=objs):=by
 refine DCall.frame ?_ (by simp) (by simp) objs
 refine DCall_intro Tryz.func123 rfl Tryz.ntmps123 (by simp) rfl ?_
 try simp only [regv,iv]
 have c1:=known_c (G:=G) l d hG hs
 by_cases h0:knownE l d=0
 ·have hk:checkR l=0∧d∈nums l:=by
   unfold knownE at h0
   by_cases h1:checkR l=0
   ·refine ⟨h1,?_⟩
    rw [if_neg (by simp [h1])] at h0
    by_cases h2:d∈nums l
    ·exact h2
    ·rw [if_neg h2] at h0;cases h0
   ·rw [if_pos h1] at h0;exact absurd h0 h1
  have c2:=lastB_c (G:=G) l (nums l) d (check_sorted hk.1) (by have:=hs.1;omega)
  rw [knownR,if_pos hk,h0] at c1
  rw [lastR,if_pos h0,h0]
  simp only [bookI] at c1 c2
  have hs:True:=trivial
  repeat' first|(with_reducible first|refine q01 ?_|refine q11 ?_|refine q14 ?_|refine q17 ?_)|(with_reducible refine At.fn_ret (by simp -dsimp [hs];exact rfl) ?_)|(refine CallE.pure (c1) ?_;try simp -dsimp [hs])|(refine CallE.pure (c2) ?_;try simp -dsimp [hs])|(with_reducible refine DT_regionE [0,1,2,4,5,6,7,15] ?_;simp -dsimp [hs])|(refine DT_cond rfl (fun h=>?_) (fun h=>?_)<;>(try simp only [nrm] at h)<;>(try exact Bool.noConfusion h))
  all_goals try simp -dsimp [hs]
  all_goals try clear hs
 ·rw [lastR,if_neg h0]
  generalize hX:knownR l d=X at c1
  have hXo:∃ x,X=.one (.im x):=by subst hX;unfold knownR;split<;>exact ⟨_,rfl⟩
  obtain ⟨x,rfl⟩:=hXo
  generalize knownE l d=e at *
  have hs:True:=trivial
  repeat' first|(with_reducible first|refine q01 ?_|refine q02 ?_|refine q11 ?_|refine q17 ?_)|(with_reducible refine At.fn_ret (by simp -dsimp [h0,hs];exact rfl) ?_)|(refine CallE.pure (c1) ?_;try simp -dsimp [h0,hs])|(with_reducible refine DT_regionE [0,1,2,4,5,6,7,15] ?_;simp -dsimp [h0,hs])|(refine DT_cond rfl (fun h=>?_) (fun h=>?_)<;>(try simp only [nrm] at h)<;>(try exact Bool.noConfusion h))
  all_goals try simp -dsimp [h0,hs]
  all_goals try clear hs
end Go.Proofs
