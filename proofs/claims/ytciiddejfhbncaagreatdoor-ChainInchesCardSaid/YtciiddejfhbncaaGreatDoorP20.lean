/- Part 20 of the proofs: laws and walks that hold without conditions beyond those that each theorem names. -/
import Derived.Test.YtciiddejfhbncaaGreatDoorP17
import Derived.Test.YtciiddejfhbncaaGreatDoorP19
set_option linter.all false
set_option linter.deprecated false
namespace Go.Proofs
open Go Go.Ab
set_option linter.unusedSimpArgs false
variable {G:Nat→Option (List IC)}
def chainG (G:Nat→Option (List IC)):Prop:=G 1=some [.fn (.func 226) [],.fn (.func 227) [],.fn (.func 228) []]
def SmallC (c:Chains):Prop:=SmallR c.reg∧c.lets.length≤80∧c.loops.length≤10∧∀ x∈c.loops,x.links.length≤12
def cntD (c:Chains):List (Int×Int):=(explR c.reg c.lets c.of).foldl (fun m x=>mput x.drawing x.count m) []
def chkP (D:List (Int×Int)) (B:List (Int×Issue)) (x:ChLoop):Nat→Bool
 | 0=>ckL1 x
 | 1=>ckL2 x
 | _=>usedOk D B [] x.links
def loopOkP (D:List (Int×Int)) (B:List (Int×Issue)) (x:ChLoop):Bool:=ckL1 x && ckL2 x && usedOk D B [] x.links
theorem chkP_bad {D:List (Int×Int)} {B:List (Int×Issue)} {x:ChLoop} {i:Nat} (h:chkP D B x i=false):loopOkP D B x=false:=by
 unfold loopOkP
 match i with
 | 0=>simp only [chkP] at h;simp [h]
 | 1=>simp only [chkP] at h;simp [h]
 | i + 2=>simp only [chkP] at h;simp [h]
theorem chkP_all {D:List (Int×Int)} {B:List (Int×Issue)} {x:ChLoop} (h:∀ i < 3,chkP D B x i=true):loopOkP D B x=true:=by
 have h0:=h 0 (by omega);have h1:=h 1 (by omega);have h2:=h 2 (by omega)
 simp only [chkP] at h0 h1 h2
 simp [loopOkP,h0,h1,h2]
def chainsE (c:Chains):Int:=if checkR c.reg≠0 then checkR c.reg else if takenE c.reg c.lets c.of≠0∨¬ (1≤c.loops.length∧c.loops.length≤6) then 60 else if c.loops.all (loopOkP (cntD c) (tkM c.reg c.lets)) then 0 else 60
def deskR (c:Chains):DV:=if chainsE c=0 then .one (.im (deskC c (cntD c) (tkM c.reg c.lets))) else .one (.im (.raw (.pointer none)))
theorem deskR_im (c:Chains):ImV (deskR c):=by unfold deskR;split<;>simp [deskC]
attribute [simp] deskR_im
theorem explR_len (l:List Issue) (lets:List Int) (d:Int):(explR l lets d).length≤l.length:=by
 unfold explR
 split
 ·simp only [partsP,List.length_map]
  have:=List.length_filter_le (fun n=>decide (0 < mlook (cntM l lets d) n)) (nums l)
  have:=numsTo_length l l.length
  simp only [nums] at *;omega
 ·simp
set_option maxHeartbeats 4000000 in
theorem chOpen_c (c:Chains) (hG:sheetG G) (hC:chainG G) (hs:SmallC c) (objs:List DObj):DCall Tryz.prog G 63 [chv c] objs (fun rr objs'=>rr=.tup [deskR c,iv (chainsE c)]∧objs'=objs):=by
 refine DCall.frame ?_ (by simp) (by simp) objs
 refine DCall_intro Tryz.func63 rfl Tryz.ntmps63 (by simp) rfl ?_
 try simp only [chv]
 obtain ⟨hsr,hsl,hso,hsk⟩:=hs
 have hC':G 1=some [.fn (.func 226) [],.fn (.func 227) [],.fn (.func 228) []]:=hC
 have c1:=sheetCheck_c c.reg hG hsr
 by_cases h0:checkR c.reg=0
 ·rw [h0] at c1
  have c2:=explode_c c.reg c.lets c.of hG hsr (by omega)
  have c3:=in_chain (G:=G) 1 6 [(c.loops.length:Int)] (by simp)
  by_cases hT:takenE c.reg c.lets c.of≠0∨¬ (1≤c.loops.length∧c.loops.length≤6)
  ·have hE:chainsE c=60:=by unfold chainsE;rw [if_neg (by simp [h0]),if_pos hT]
   by_cases hT0:takenE c.reg c.lets c.of=0
   ·rw [hT0] at c2
    have hr:([(c.loops.length:Int)].all fun x=>decide (1≤x) && decide (x≤6))=false:=by
     simp;omega
    rw [hr] at c3
    have hs:True:=trivial
    repeat' first|(with_reducible first|refine q01 ?_|refine q02 ?_|refine q11 ?_|refine q14 ?_|refine q17 ?_)|(with_reducible refine At.fn_ret (by simp -dsimp [hs];exact rfl) ?_)|(refine CallE.pure (c1) ?_;try simp -dsimp [hs])|(refine CallE.pure (c2) ?_;try simp -dsimp [hs])|(refine CallE.thaw (c3) ?_ ?_ ?_;(focus (simp;done));(focus (simp;done));try simp -dsimp [hs])|(with_reducible refine DT_regionE [0,1,2,3,4,5,6,7,8,10,11,13,15,17,22,43,55,56,57,58,81,82,83,84,97,98,99,100,103,104,105,112] ?_;simp -dsimp [hs])|(refine DT_cond rfl (fun h=>?_) (fun h=>?_)<;>(try simp only [nrm] at h)<;>(try exact Bool.noConfusion h))
    all_goals try simp -dsimp [hs]
    all_goals try clear hs
    all_goals simp [deskR,hE]
   ·have hs:True:=trivial
    repeat' first|(with_reducible first|refine q01 ?_|refine q02 ?_|refine q11 ?_|refine q14 ?_|refine q17 ?_)|(with_reducible refine At.fn_ret (by simp -dsimp [hT0,hs];exact rfl) ?_)|(refine CallE.pure (c1) ?_;try simp -dsimp [hT0,hs])|(refine CallE.pure (c2) ?_;try simp -dsimp [hT0,hs])|(with_reducible refine DT_regionE [0,1,2,3,4,5,6,7,8,10,11,13,15,17,22,43,55,56,57,58,81,82,83,84,97,98,99,100,103,104,105,112] ?_;simp -dsimp [hT0,hs])|(refine DT_cond rfl (fun h=>?_) (fun h=>?_)<;>(try simp only [nrm] at h)<;>(try exact Bool.noConfusion h))
    all_goals try simp -dsimp [hT0,hs]
    all_goals try clear hs
    all_goals simp [deskR,hE]
  ·have hT0:takenE c.reg c.lets c.of=0:=Classical.byContradiction fun h=>hT (.inl h)
   have hr6:1≤c.loops.length∧c.loops.length≤6:=Classical.byContradiction fun h=>hT (.inr h)
   have hr:([(c.loops.length:Int)].all fun x=>decide (1≤x) && decide (x≤6))=true:=by
    simp;omega
   rw [hT0] at c2
   rw [hr] at c3
   have hlet:lettersI c.reg c.lets=true:=by
    cases h:lettersI c.reg c.lets
    ·simp [takenE,h0,h] at hT0
    ·rfl
   have c4:=drawings_c c.reg hG hsr
   rw [h0,show drawR c.reg=nums c.reg by simp [drawR,h0]] at c4
   have hE:chainsE c=if c.loops.all (loopOkP (cntD c) (tkM c.reg c.lets)) then 0 else 60:=by simp [chainsE,h0,hT0];omega
   have hs:True:=trivial
   repeat' first|(with_reducible first|refine q01 ?_|refine q11 ?_|refine q12 ?_|refine q14 ?_)|(refine CallE.pure (c1) ?_;try simp -dsimp [hs])|(refine CallE.pure (c2) ?_;try simp -dsimp [hs])|(refine CallE.thaw (c3) ?_ ?_ ?_;(focus (simp;done));(focus (simp;done));try simp -dsimp [hs])|(refine CallE.pure (c4) ?_;try simp -dsimp [hs])|(with_reducible refine DT_regionN (id:=7) (nt:=116) [0,1,2,3,4,5,6,7,8,10,11,13,15,17,22,43,55,56,57,58,81,82,83,84,97,98,99,100,103,104,105,112] rfl ?_;simp -dsimp [hs])|(with_reducible refine DT_regionE [0,1,2,3,4,5,6,7,8,10,11,13,15,17,22,43,55,56,57,58,81,82,83,84,97,98,99,100,103,104,105,112] ?_;simp -dsimp [hs])|(refine DT_cond rfl (fun h=>?_) (fun h=>?_)<;>(try simp only [nrm] at h)<;>(try exact Bool.noConfusion h))
   all_goals try simp -dsimp [hs]
   all_goals try clear hs
   have hnd:(nums c.reg).Nodup:=(check_nums h0).1.imp fun h=>Int.ne_of_lt h
   have hnl:(nums c.reg).length≤c.reg.length:=numsTo_length c.reg c.reg.length
   have hll:c.lets.length=(nums c.reg).length:=by
    simp only [lettersI,Bool.and_eq_true,decide_eq_true_eq] at hlet;exact hlet.1
   have hreg:=hsr.1
   refine DT_loop (ι:={ k:Nat // k≤(nums c.reg).length }) (fun p=>⟨116,[(1,.one (.ptr 0 0)),(2,.one (.im (.raw (.pointer none)))),(3,iv 0),(5,.one (.im (.sl ((explR c.reg c.lets c.of).map encItem)))),(7,.one (.ptr 7 0)),(55,isv (nums c.reg)),(56,iv ((nums c.reg).length:Int)),(57,iv (p.1:Int))],[.row ((encChains c).map .im),.vec 1 [[.im (rI (c.loops.length:Int))]] 0 false,.map [.int .i64] [],.map [.int .i64] (encMS (((nums c.reg).take p.1).map fun d=>(d,takeI c.reg c.lets d))),.vec 0 [] 0 true,.vec 0 [] 0 true,.vec 0 [] 0 true,.row ((encChains c).map .im ++ [.map 2,.map 3])]⟩) (fun p=>(nums c.reg).length - p.1) ⟨0,by omega⟩ (Weak.of_keep [1,2,3,5,7,55,56,57] (by simp [encMS])) ?_
   rintro ⟨k,hk⟩
   simp only [iv,isv]
   by_cases hlt:k < (nums c.reg).length
   ·have hx:(nums c.reg)[k]?=some (nums c.reg)[k]:=by simp [hlt]
    have hkl:k < c.lets.length:=by omega
    have hy:c.lets[k]?=some c.lets[k]:=by simp [hkl]
    have hw:IntKind.i64.wrap ((k:Int) + 1)=((k + 1:Nat):Int):=i64w (by omega) (by omega)
    have c5:=at_c c.reg (nums c.reg)[k] c.lets[k] hG hsr
    have hta:=take_at hnd hlt hkl
    rw [show atR c.reg (nums c.reg)[k] c.lets[k]=takeI c.reg c.lets (nums c.reg)[k] by rw [hta];simp [atR,h0]] at c5
    have hmp:mputS (nums c.reg)[k] (takeI c.reg c.lets (nums c.reg)[k]) (((nums c.reg).take k).map fun d=>(d,takeI c.reg c.lets d))=(((nums c.reg).take (k + 1)).map fun d=>(d,takeI c.reg c.lets d)):=by
     rw [mputS_new,List.take_succ_eq_append_getElem hlt,List.map_append,List.map_singleton]
     rw [List.map_map]
     intro hm
     obtain ⟨z,hz,e⟩:=List.mem_map.1 hm
     simp only [Function.comp] at e
     subst e
     obtain ⟨i,hi,e⟩:=List.mem_take_iff_getElem.1 hz
     have:=(List.getElem_inj hnd).1 e;omega
    generalize takeI c.reg c.lets (nums c.reg)[k]=y at *
    have hmp':mputS (nums c.reg)[k] ⟨y.drawing,y.letter,y.kind,y.items,y.dims⟩ (((nums c.reg).take k).map fun d=>(d,takeI c.reg c.lets d))=(((nums c.reg).take (k + 1)).map fun d=>(d,takeI c.reg c.lets d)):=hmp
    simp only [refv] at c5
    simp only [List.map_take] at hmp'
    have hs:True:=trivial
    repeat' first|(with_reducible first|refine q01 ?_|refine q04 ?_|refine q11 ?_|refine q12 ?_|refine q14 ?_)|(refine QCall_pure (c5) ?_;try simp -dsimp [hx,hy,hlt,hkl,hw,hs])|(refine DT_regionX (id:=12) (nt:=116) 18 [17] [0,1,2,3,4,5,6,7,8,10,11,13,15,17,22,43,55,56,57,58,62,63,64,65,66,67,68,69,70,71,72,73,74,75,76,77,78,81,82,83,84,97,98,99,100,103,104,105,112] [0,1,2,3,4,5,6,7,8,10,11,13,15,17,22,43,55,56,57,58,81,82,83,84,97,98,99,100,103,104,105,112] mixed rfl (by kernel_rfl) ?_;simp -dsimp [hx,hy,hlt,hkl,hw,hs])|(with_reducible refine DT_regionE [0,1,2,3,4,5,6,7,8,10,11,13,15,17,22,43,55,56,57,58,81,82,83,84,97,98,99,100,103,104,105,112] ?_;simp -dsimp [hx,hy,hlt,hkl,hw,hs])|(refine DT_cond rfl (fun h=>?_) (fun h=>?_)<;>(try simp only [nrm] at h)<;>(try exact Bool.noConfusion h))
    all_goals try simp -dsimp [hx,hy,hlt,hkl,hw,hs]
    all_goals try clear hs
    exact At.round ⟨k + 1,by omega⟩ (by simp;omega) (Weak.of_drop [1,2,3,5,7,55,56,57] 8 (by simp) (by simp) (by simp [hmp']))
   have htk:(nums c.reg).take k=nums c.reg:=List.take_of_length_le (by omega)
   rw [htk]
   change DT _ _ _ _ ⟨_,_,[_,_,_,.map _ (encMS (tkM c.reg c.lets)),_,_,_,_]⟩ _
   have hs:True:=trivial
   repeat' first|(with_reducible first|refine q01 ?_|refine q03 ?_|refine q06 ?_|refine q11 ?_|refine q12 ?_|refine q16 ?_)|(with_reducible refine DT_regionE [0,1,2,3,4,5,6,7,8,10,11,13,15,17,22,43,55,56,57,58,81,82,83,84,97,98,99,100,103,104,105,112] ?_;simp -dsimp [hlt,hs])|(refine DT_cond rfl (fun h=>?_) (fun h=>?_)<;>(try simp only [nrm] at h)<;>(try exact Bool.noConfusion h))
   all_goals try simp -dsimp [hlt,hs]
   all_goals try clear hs
   have hpl:=explR_len c.reg c.lets c.of
   have hcD:cntD c=(explR c.reg c.lets c.of).foldl (fun m x=>mput x.drawing x.count m) []:=rfl
   generalize explR c.reg c.lets c.of=ps at *
   refine DT_loop (ι:={ p:Nat×List (Int×Int) // p.1≤ps.length∧cntD c=(ps.drop p.1).foldl (fun m x=>mput x.drawing x.count m) p.2 }) (fun p=>⟨116,[(1,.one (.ptr 0 0)),(2,.one (.im (.raw (.pointer none)))),(3,iv 0),(7,.one (.ptr 7 0)),(81,.one (.im (.sl (ps.map encItem)))),(82,iv (ps.length:Int)),(83,iv (p.1.1:Int))],[.row ((encChains c).map .im),.vec 1 [[.im (rI (c.loops.length:Int))]] 0 false,.map [.int .i64] (encM p.1.2),.map [.int .i64] (encMS (tkM c.reg c.lets)),.vec 0 [] 0 true,.vec 0 [] 0 true,.vec 0 [] 0 true,.row ((encChains c).map .im ++ [.map 2,.map 3])]⟩) (fun p=>ps.length - p.1.1) ⟨(0,[]),by simp [hcD]⟩ (Weak.of_keep [1,2,3,7,81,82,83] (by simp [encM])) ?_
   rintro ⟨⟨u,D⟩,hu,hD⟩
   simp only at hu hD
   simp only [iv]
   by_cases hlu:u < ps.length
   ·have hx:ps[u]?=some ps[u]:=by simp [hlu]
    have hw:IntKind.i64.wrap ((u:Int) + 1)=((u + 1:Nat):Int):=i64w (by omega) (by omega)
    rw [List.drop_eq_getElem_cons hlu,List.foldl_cons] at hD
    have hs:True:=trivial
    repeat' first|(with_reducible first|refine q01 ?_|refine q04 ?_|refine q11 ?_|refine q12 ?_|refine q14 ?_)|(refine DT_regionM (id:=17) (nt:=116) 8 [0,1,2,3,4,5,6,7,8,10,11,13,15,17,22,43,55,56,57,58,81,82,83,84,97,98,99,100,103,104,105,112] mixed rfl (by kernel_rfl) ?_;simp -dsimp [hx,hlu,hw,hs])|(with_reducible refine DT_regionE [0,1,2,3,4,5,6,7,8,10,11,13,15,17,22,43,55,56,57,58,81,82,83,84,97,98,99,100,103,104,105,112] ?_;simp -dsimp [hx,hlu,hw,hs])|(refine DT_cond rfl (fun h=>?_) (fun h=>?_)<;>(try simp only [nrm] at h)<;>(try exact Bool.noConfusion h))
    all_goals try simp -dsimp [hx,hlu,hw,hs]
    all_goals try clear hs
    exact At.round ⟨(u + 1,mput ps[u].drawing ps[u].count D),by omega,hD⟩ (by simp;omega) (Weak.of_drop [1,2,3,7,81,82,83] 8 (by simp) (by simp) (by simp))
   have hDe:D=cntD c:=by rw [hD,List.drop_eq_nil_of_le (by omega)];rfl
   subst hDe
   have hB:∀ n,(mlookS (tkM c.reg c.lets) n).dims.length < 1000000:=fun n=>by
    rw [tkM,mlookS_map]
    split
    ·rename_i hn
     obtain ⟨hm,_⟩:=take_spec h0 hlet hn
     have:=(hsr.2 _ hm).2.2.2;omega
    ·decide
   have hs:True:=trivial
   repeat' first|(with_reducible first|refine q01 ?_|refine q03 ?_|refine q06 ?_|refine q11 ?_|refine q12 ?_|refine q16 ?_)|(with_reducible refine DT_regionE [0,1,2,3,4,5,6,7,8,10,11,13,15,17,22,43,55,56,57,58,81,82,83,84,97,98,99,100,103,104,105,112] ?_;simp -dsimp [hlu,hs])|(refine DT_cond rfl (fun h=>?_) (fun h=>?_)<;>(try simp only [nrm] at h)<;>(try exact Bool.noConfusion h))
   all_goals try simp -dsimp [hlu,hs]
   all_goals try clear hs
   refine DT_loop (ι:={ j:Nat // j≤c.loops.length∧c.loops.all (loopOkP (cntD c) (tkM c.reg c.lets))=(c.loops.drop j).all (loopOkP (cntD c) (tkM c.reg c.lets)) }) (fun p=>⟨116,[(2,.one (.im (.raw (.pointer none)))),(3,iv 0),(7,.one (.im (deskC c (cntD c) (tkM c.reg c.lets)))),(97,.one (.im (.sl (c.loops.map encLoop)))),(98,iv (c.loops.length:Int)),(99,iv (p.1:Int))],[]⟩) (fun p=>c.loops.length - p.1) ⟨0,by simp⟩ (Weak.of_drop [2,3,7,97,98,99] 0 (by simp) (by simp) (by simp [deskC])) ?_
   rintro ⟨j,hj,hall⟩
   simp only [iv]
   by_cases hlj:j < c.loops.length
   ·have hx:c.loops[j]?=some c.loops[j]:=by simp [hlj]
    have hw:IntKind.i64.wrap ((j:Int) + 1)=((j + 1:Nat):Int):=i64w (by omega) (by omega)
    have hst:=all_step hlj hall
    have hln:=hsk c.loops[j] (List.getElem_mem hlj)
    have k1:=ckL1_c (G:=G) (deskC c (cntD c) (tkM c.reg c.lets)) c.loops[j]
    have k2:=ckL2_c (G:=G) (deskC c (cntD c) (tkM c.reg c.lets)) c.loops[j]
    have k3:=ckL3_c (G:=G) c (cntD c) (tkM c.reg c.lets) c.loops[j] (by omega) hB
    have hbad:∀ i,chkP (cntD c) (tkM c.reg c.lets) c.loops[j] i=false→chainsE c=60:=fun i h=>by
     rw [hE,false_step hst (by rw [chkP_bad h];exact Bool.false_ne_true)];rfl
    have hq1:chkP (cntD c) (tkM c.reg c.lets) c.loops[j] 0=ckL1 c.loops[j]:=rfl
    have hq2:chkP (cntD c) (tkM c.reg c.lets) c.loops[j] 1=ckL2 c.loops[j]:=rfl
    have hq3:chkP (cntD c) (tkM c.reg c.lets) c.loops[j] 2=usedOk (cntD c) (tkM c.reg c.lets) [] c.loops[j].links:=rfl
    rw [← hq1] at k1;rw [← hq2] at k2;rw [← hq3] at k3
    clear hq1 hq2 hq3
    have hs:True:=trivial
    repeat' first|(with_reducible first|refine q01 ?_|refine q11 ?_|refine q12 ?_|refine q14 ?_)|(with_reducible refine DT_regionE [0,1,2,3,4,5,6,7,8,10,11,13,15,17,22,43,55,56,57,58,81,82,83,84,97,98,99,100,103,104,105,112] ?_;simp -dsimp [hx,hlj,hC',hs])|(refine DT_cond rfl (fun h=>?_) (fun h=>?_)<;>(try simp only [nrm] at h)<;>(try exact Bool.noConfusion h))
    all_goals try simp -dsimp [hx,hlj,hC',hs]
    all_goals try clear hs
    refine DT_loop (ι:={ i:Nat // i≤3∧∀ e < i,chkP (cntD c) (tkM c.reg c.lets) c.loops[j] e=true }) (fun p=>⟨116,[(2,.one (.im (.raw (.pointer none)))),(3,iv 0),(7,.one (.im (deskC c (cntD c) (tkM c.reg c.lets)))),(15,.one (.ptr 1 0)),(97,.one (.im (.sl (c.loops.map encLoop)))),(98,iv (c.loops.length:Int)),(99,iv (j:Int)),(103,.agg [.im (.fn (.func 226) []),.im (.fn (.func 227) []),.im (.fn (.func 228) [])]),(104,iv (p.1:Int))],[.vec 0 [] 0 true,.row ((encLoop c.loops[j]).map .im)]⟩) (fun p=>3 - p.1) ⟨0,by simp⟩ (Weak.of_keep [2,3,7,15,97,98,99,103,104] (by simp)) ?_
    rintro ⟨i,hi,hcc⟩
    simp only [iv]
    by_cases hi3:i < 3
    ·have hwc:IntKind.i64.wrap ((i:Int) + 1)=((i + 1:Nat):Int):=i64w (by omega) (by omega)
     match i,hi3,hi,hcc,hwc with
     | 0,hi3,hi,hcc,hwc =>
       cases hq:chkP (cntD c) (tkM c.reg c.lets) c.loops[j] 0<;>simp only [hq] at k1
       ·have h60:=hbad 0 hq
        have hs:True:=trivial
        repeat' first|(with_reducible first|refine q01 ?_|refine q02 ?_|refine q05 ?_|refine q11 ?_|refine q12 ?_|refine q14 ?_|refine q17 ?_)|(with_reducible refine At.fn_ret (by simp -dsimp [hs];exact rfl) ?_)|(refine CallE.pure (k1) ?_;try simp -dsimp [hs])|(with_reducible refine DT_regionE [0,1,2,3,4,5,6,7,8,10,11,13,15,17,22,43,55,56,57,58,81,82,83,84,97,98,99,100,103,104,105,112] ?_;simp -dsimp [hs])|(refine DT_cond rfl (fun h=>?_) (fun h=>?_)<;>(try simp only [nrm] at h)<;>(try exact Bool.noConfusion h))
        all_goals try simp -dsimp [hs]
        all_goals try clear hs
        all_goals simp [deskR,h60]
       ·have hs:True:=trivial
        repeat' first|(with_reducible first|refine q01 ?_|refine q04 ?_|refine q11 ?_|refine q12 ?_|refine q14 ?_)|(refine CallE.pure (k1) ?_;try simp -dsimp [hwc,hs])|(with_reducible refine DT_regionE [0,1,2,3,4,5,6,7,8,10,11,13,15,17,22,43,55,56,57,58,81,82,83,84,97,98,99,100,103,104,105,112] ?_;simp -dsimp [hwc,hs])|(refine DT_cond rfl (fun h=>?_) (fun h=>?_)<;>(try simp only [nrm] at h)<;>(try exact Bool.noConfusion h))
        all_goals try simp -dsimp [hwc,hs]
        all_goals try clear hs
        exact At.round ⟨1,by omega,fun i hi=>by
         rcases Nat.lt_succ_iff_lt_or_eq.1 hi with h|rfl
         ·exact hcc i h
         ·exact hq⟩ (by simp) (Weak.of_drop [2,3,7,15,97,98,99,103,104] 2 (by simp) (by simp) (by simp;exact i64w (by omega) (by omega)))
     | 1,hi3,hi,hcc,hwc =>
       cases hq:chkP (cntD c) (tkM c.reg c.lets) c.loops[j] 1<;>simp only [hq] at k2
       ·have h60:=hbad 1 hq
        have hs:True:=trivial
        repeat' first|(with_reducible first|refine q01 ?_|refine q02 ?_|refine q05 ?_|refine q11 ?_|refine q12 ?_|refine q14 ?_|refine q17 ?_)|(with_reducible refine At.fn_ret (by simp -dsimp [hs];exact rfl) ?_)|(refine CallE.pure (k2) ?_;try simp -dsimp [hs])|(with_reducible refine DT_regionE [0,1,2,3,4,5,6,7,8,10,11,13,15,17,22,43,55,56,57,58,81,82,83,84,97,98,99,100,103,104,105,112] ?_;simp -dsimp [hs])|(refine DT_cond rfl (fun h=>?_) (fun h=>?_)<;>(try simp only [nrm] at h)<;>(try exact Bool.noConfusion h))
        all_goals try simp -dsimp [hs]
        all_goals try clear hs
        all_goals simp [deskR,h60]
       ·have hs:True:=trivial
        repeat' first|(with_reducible first|refine q01 ?_|refine q04 ?_|refine q11 ?_|refine q12 ?_|refine q14 ?_)|(refine CallE.pure (k2) ?_;try simp -dsimp [hwc,hs])|(with_reducible refine DT_regionE [0,1,2,3,4,5,6,7,8,10,11,13,15,17,22,43,55,56,57,58,81,82,83,84,97,98,99,100,103,104,105,112] ?_;simp -dsimp [hwc,hs])|(refine DT_cond rfl (fun h=>?_) (fun h=>?_)<;>(try simp only [nrm] at h)<;>(try exact Bool.noConfusion h))
        all_goals try simp -dsimp [hwc,hs]
        all_goals try clear hs
        exact At.round ⟨2,by omega,fun i hi=>by
         rcases Nat.lt_succ_iff_lt_or_eq.1 hi with h|rfl
         ·exact hcc i h
         ·exact hq⟩ (by simp) (Weak.of_drop [2,3,7,15,97,98,99,103,104] 2 (by simp) (by simp) (by simp;exact i64w (by omega) (by omega)))
     | 2,hi3,hi,hcc,hwc =>
       cases hq:chkP (cntD c) (tkM c.reg c.lets) c.loops[j] 2<;>simp only [hq] at k3
       ·have h60:=hbad 2 hq
        have hs:True:=trivial
        repeat' first|(with_reducible first|refine q01 ?_|refine q02 ?_|refine q05 ?_|refine q11 ?_|refine q12 ?_|refine q14 ?_|refine q17 ?_)|(with_reducible refine At.fn_ret (by simp -dsimp [hs];exact rfl) ?_)|(refine CallE.pure (k3) ?_;try simp -dsimp [hs])|(with_reducible refine DT_regionE [0,1,2,3,4,5,6,7,8,10,11,13,15,17,22,43,55,56,57,58,81,82,83,84,97,98,99,100,103,104,105,112] ?_;simp -dsimp [hs])|(refine DT_cond rfl (fun h=>?_) (fun h=>?_)<;>(try simp only [nrm] at h)<;>(try exact Bool.noConfusion h))
        all_goals try simp -dsimp [hs]
        all_goals try clear hs
        all_goals simp [deskR,h60]
       ·have hs:True:=trivial
        repeat' first|(with_reducible first|refine q01 ?_|refine q04 ?_|refine q11 ?_|refine q12 ?_|refine q14 ?_)|(refine CallE.pure (k3) ?_;try simp -dsimp [hwc,hs])|(with_reducible refine DT_regionE [0,1,2,3,4,5,6,7,8,10,11,13,15,17,22,43,55,56,57,58,81,82,83,84,97,98,99,100,103,104,105,112] ?_;simp -dsimp [hwc,hs])|(refine DT_cond rfl (fun h=>?_) (fun h=>?_)<;>(try simp only [nrm] at h)<;>(try exact Bool.noConfusion h))
        all_goals try simp -dsimp [hwc,hs]
        all_goals try clear hs
        exact At.round ⟨3,by omega,fun i hi=>by
         rcases Nat.lt_succ_iff_lt_or_eq.1 hi with h|rfl
         ·exact hcc i h
         ·exact hq⟩ (by simp) (Weak.of_drop [2,3,7,15,97,98,99,103,104] 2 (by simp) (by simp) (by simp;exact i64w (by omega) (by omega)))
    ·obtain rfl:i=3:=by omega
     have hok:=chkP_all hcc
     have hs:True:=trivial
     repeat' first|(with_reducible first|refine q01 ?_|refine q03 ?_|refine q04 ?_|refine q06 ?_|refine q11 ?_|refine q16 ?_)|(with_reducible refine DT_regionE [0,1,2,3,4,5,6,7,8,10,11,13,15,17,22,43,55,56,57,58,81,82,83,84,97,98,99,100,103,104,105,112] ?_;simp -dsimp [hw,hs])|(refine DT_cond rfl (fun h=>?_) (fun h=>?_)<;>(try simp only [nrm] at h)<;>(try exact Bool.noConfusion h))
     all_goals try simp -dsimp [hw,hs]
     all_goals try clear hs
     exact At.round ⟨j + 1,by omega,eq_of_step hst hok⟩ (by simp;omega) (Weak.of_drop [2,3,7,97,98,99] 0 (by simp) (by simp) (by simp))
   ·have hok:c.loops.all (loopOkP (cntD c) (tkM c.reg c.lets))=true:=by rw [hall,List.drop_eq_nil_of_le (by omega)];rfl
    rw [hok] at hE
    have hs:True:=trivial
    repeat' first|(with_reducible first|refine q01 ?_|refine q03 ?_|refine q06 ?_|refine q11 ?_|refine q16 ?_|refine q17 ?_)|(with_reducible refine At.fn_ret (by simp -dsimp [hlj,hs];exact rfl) ?_)|(with_reducible refine DT_regionE [0,1,2,3,4,5,6,7,8,10,11,13,15,17,22,43,55,56,57,58,81,82,83,84,97,98,99,100,103,104,105,112] ?_;simp -dsimp [hlj,hs])|(refine DT_cond rfl (fun h=>?_) (fun h=>?_)<;>(try simp only [nrm] at h)<;>(try exact Bool.noConfusion h))
    all_goals try simp -dsimp [hlj,hs]
    all_goals try clear hs
    simp [deskR,hE]
 ·have hE:chainsE c=checkR c.reg:=by simp [chainsE,h0]
  have hs:True:=trivial
  repeat' first|(with_reducible first|refine q01 ?_|refine q02 ?_|refine q11 ?_|refine q17 ?_)|(with_reducible refine At.fn_ret (by simp -dsimp [h0,hs];exact rfl) ?_)|(refine CallE.pure (c1) ?_;try simp -dsimp [h0,hs])|(with_reducible refine DT_regionE [0,1,2,3,4,5,6,7,8,10,11,13,15,17,22,43,55,56,57,58,81,82,83,84,97,98,99,100,103,104,105,112] ?_;simp -dsimp [h0,hs])|(refine DT_cond rfl (fun h=>?_) (fun h=>?_)<;>(try simp only [nrm] at h)<;>(try exact Bool.noConfusion h))
  all_goals try simp -dsimp [h0,hs]
  all_goals try clear hs
  simp [deskR,hE,h0]
end Go.Proofs
namespace Go.Proofs
open Go Go.Ab
theorem rdLink:Rd 47 encLink (fun _=>True):=(Opens.struct Tryz.underlying47 (by kernel_rfl) (pick3 (fun _=>True) (fun l=>∃ n:Int,l=[rI n]) (fun l=>∃ n:Int,l=[rI n]) (fun l=>∃ b:Bool,l=[rB b])) (fun i f hf=>by
 rcases i with _|_|_|i<;>simp at hf<;>subst hf
 ·exact oInt
 ·exact oInt
 ·exact oBool)).mono (by
 rintro l ⟨ls,h1,h2,rfl⟩
 obtain ⟨a,b,c,rfl⟩:=len3 h1
 obtain ⟨x,rfl⟩:=h2 0 a rfl
 obtain ⟨y,rfl⟩:=h2 1 b rfl
 obtain ⟨z,rfl⟩:=h2 2 c rfl
 exact ⟨⟨x,y,z⟩,trivial,rfl⟩)
theorem oLinks:Opens Tryz.prog 41 (fun l=>∃ xs:List Link,l=[.sl (xs.map encLink)]):=
 (Opens.sliceOf Tryz.underlying41 (sz:=3) (by kernel_rfl) (by decide) (fun _=>rfl) rdLink).mono (by rintro l ⟨xs,_,h⟩;exact ⟨xs,h⟩)
theorem oGap:Opens Tryz.prog 43 (fun l=>∃ n m:Int,l=[rI n,rI m]):=(Opens.struct Tryz.underlying43 (by kernel_rfl) (fun _ l=>∃ n:Int,l=[rI n]) (fun i f hf=>by
 rcases i with _|_|i<;>simp at hf<;>subst hf<;>exact oInt)).mono (by
 rintro l ⟨ls,h1,h2,rfl⟩
 obtain ⟨a,b,rfl⟩:=len2 h1
 obtain ⟨x,rfl⟩:=h2 0 a rfl
 obtain ⟨y,rfl⟩:=h2 1 b rfl
 exact ⟨x,y,rfl⟩)
theorem rdLoop:Rd 45 encLoop (fun _=>True):=(Opens.struct Tryz.underlying45 (by kernel_rfl) (pick3 (fun _=>True) (fun l=>∃ xs:List Link,l=[.sl (xs.map encLink)]) (fun l=>∃ n m:Int,l=[rI n,rI m]) (fun _=>True)) (fun i f hf=>by
 rcases i with _|_|i<;>simp at hf<;>subst hf
 ·exact oLinks
 ·exact oGap)).mono (by
 rintro l ⟨ls,h1,h2,rfl⟩
 obtain ⟨a,b,rfl⟩:=len2 h1
 obtain ⟨x,rfl⟩:=h2 0 a rfl
 obtain ⟨y,z,rfl⟩:=h2 1 b rfl
 exact ⟨⟨x,y,z⟩,trivial,rfl⟩)
theorem oLoops:Opens Tryz.prog 26 (fun l=>∃ xs:List ChLoop,l=[.sl (xs.map encLoop)]):=
 (Opens.sliceOf Tryz.underlying26 (sz:=3) (by kernel_rfl) (by decide) (fun _=>rfl) rdLoop).mono (by rintro l ⟨xs,_,h⟩;exact ⟨xs,h⟩)
theorem rdChains:Rd 28 encChains (fun c=>∀ x∈c.reg,kindIn x):=(Opens.struct Tryz.underlying28 (by kernel_rfl) (pick5 (fun _=>True) (fun l=>∃ xs:List Issue,(∀ x∈xs,kindIn x)∧l=[.sl (xs.map encIssue)]) (fun l=>∃ xs:List Int,l=[.sl (xs.map encI)]) (fun l=>∃ n:Int,l=[rI n]) (fun l=>∃ xs:List ChLoop,l=[.sl (xs.map encLoop)]) (fun _=>True)) (fun i f hf=>by
 rcases i with _|_|_|_|i<;>simp at hf<;>subst hf
 ·exact oReg
 ·exact oInts
 ·exact oInt
 ·exact oLoops)).mono (by
 rintro l ⟨ls,h1,h2,rfl⟩
 obtain ⟨a,b,c,d,rfl⟩:=len4 h1
 obtain ⟨x,hx,rfl⟩:=h2 0 a rfl
 obtain ⟨y,rfl⟩:=h2 1 b rfl
 obtain ⟨z,rfl⟩:=h2 2 c rfl
 obtain ⟨u,rfl⟩:=h2 3 d rfl
 exact ⟨⟨x,y,z,u⟩,hx,rfl⟩)
end Go.Proofs
namespace Go.Proofs
open Go Go.Ab
set_option linter.unusedSimpArgs false
variable {G:Nat→Option (List IC)}
def zDim:Dim:=⟨0,0,0⟩
def dimAt (c:Chains) (x:Link):Dim:=((takeI c.reg c.lets x.drawing).dims[x.dim.toNat]?).getD zDim
structure OkC (c:Chains):Prop where
 reg:checkR c.reg=0
 lets:lettersI c.reg c.lets=true
 of:c.of∈nums c.reg
 num:1≤c.loops.length∧c.loops.length≤6
 gap:∀ x∈c.loops,x.links.length≤8∧ckL2 x=true
 link:∀ x∈c.loops,∀ y∈x.links,y.drawing∈nums c.reg∧0≤y.dim∧y.dim < (takeI c.reg c.lets y.drawing).dims.length
def sizesI (c:Chains) (x:ChLoop):List Dim:=x.links.map (dimAt c)
def endN (high:Bool) (x:Link) (d:Dim):Int:=if high != x.back then d.upper else d.lower
def sgn (x:Link) (n:Int):Int:=if x.back then -n else n
def endsL (links:List Link) (l:List Dim) (high:Bool):List Int:=(links.zip l).map fun p=>endN high p.1 p.2
def endS (links:List Link) (l:List Dim) (high:Bool):Int:=(links.zip l).foldl (fun s p=>s + sgn p.1 (endN high p.1 p.2)) 0
theorem dimAt_ok {c:Chains} (h:OkC c) {x:ChLoop} (hx:x∈c.loops) {y:Link} (hy:y∈x.links):dimOk (dimAt c y)=true∧(takeI c.reg c.lets y.drawing).dims[y.dim.toNat]?=some (dimAt c y):=by
 obtain ⟨h1,h2,h3⟩:=h.link x hx y hy
 obtain ⟨hm,_⟩:=take_spec h.reg h.lets h1
 have hok:=(scan_all (listed_scan (check_listed h.reg))).2.2.2.1 _ hm
 have hlt:y.dim.toNat < (takeI c.reg c.lets y.drawing).dims.length:=by omega
 have he:(takeI c.reg c.lets y.drawing).dims[y.dim.toNat]?=some (takeI c.reg c.lets y.drawing).dims[y.dim.toNat]:=by simp [hlt]
 have hd:dimAt c y=(takeI c.reg c.lets y.drawing).dims[y.dim.toNat]:=by rw [dimAt,he,Option.getD_some]
 simp only [issueOk,Bool.and_eq_true] at hok
 rw [hd]
 exact ⟨List.all_eq_true.1 hok.2 _ (List.getElem_mem hlt),he⟩
theorem within6_c (n lo hi:Int) (objs:List DObj):DCall Tryz.prog G 77 [iv n,iv lo,iv hi] objs (fun rr objs'=>rr=bv (decide (lo≤n) && decide (n≤hi))∧objs'=objs):=by
 refine DCall.frame ?_ (by simp) (by simp) objs
 refine DCall_intro Tryz.func77 rfl Tryz.ntmps77 (by simp) rfl ?_
 try simp only [iv,iv,iv]
 have hs:True:=trivial
 repeat' first|(with_reducible first|refine q01 ?_|refine q11 ?_|refine q17 ?_)|(with_reducible refine At.fn_ret (by simp -dsimp [hs];exact rfl) ?_)|(with_reducible refine DT_regionE [0,1,2,6] ?_;simp -dsimp [hs])|(with_reducible refine GStop_split ?_ ?_<;>intro h<;>have h0:=h<;>(try simp only [nrm] at h)<;>(try exact Bool.noConfusion h)<;>have h2:=h<;>(try simp at h2)<;>(replace hs:=And.intro h0 (And.intro h (And.intro h2 hs)))<;>simp -dsimp [h0,h,h2,hs])
 all_goals try simp -dsimp [hs]
 all_goals try clear hs
 all_goals simp [*]
def countI (l:List Itm) (d:Int):Int:=match l with
 | []=>0
 | y :: r=>if y.drawing=d then y.count else countI r d
theorem count_c (l:List Itm) (d:Int) (hl:l.length < 1000000) (objs:List DObj):DCall Tryz.prog G 163 [.one (.im (.sl (l.map encItem))),iv d] objs (fun rr objs'=>rr=iv (countI l d)∧objs'=objs):=by
 refine DCall.frame ?_ (by simp) (by simp) objs
 refine DCall_intro Tryz.func163 rfl Tryz.ntmps163 (by simp) rfl ?_
 try simp only [iv]
 have hs:True:=trivial
 repeat' first|(with_reducible first|refine q01 ?_|refine q11 ?_|refine q12 ?_)|(with_reducible refine DT_regionE [0,1,4,5,9,18] ?_;simp -dsimp [hs])
 all_goals try simp -dsimp [hs]
 all_goals try clear hs
 refine DT_loop (ι:={ k:Nat // k≤l.length∧countI l d=countI (l.drop k) d }) (fun p=>⟨24,[(0,.one (.im (.sl (l.map encItem)))),(1,iv d),(5,iv (p.1:Int))],[]⟩) (fun p=>l.length - p.1) ⟨0,by simp⟩ (Weak.of_keep [0,1,5] (by simp)) ?_
 rintro ⟨k,hk,ha⟩
 simp only [iv]
 by_cases hlt:k < l.length
 ·have hx:l[k]?=some l[k]:=by simp [hlt]
  have hw:IntKind.i64.wrap ((k:Int) + 1)=((k + 1:Nat):Int):=i64w (by omega) (by omega)
  rw [List.drop_eq_getElem_cons hlt,countI] at ha
  have hs:True:=trivial
  repeat' first|(with_reducible first|refine q01 ?_|refine q02 ?_|refine q04 ?_|refine q05 ?_|refine q11 ?_|refine q12 ?_|refine q14 ?_|refine q17 ?_)|(with_reducible refine At.fn_ret (by simp -dsimp [hx,hw,hlt,hs];exact rfl) ?_)|(with_reducible refine DT_regionE [0,1,4,5,9,18] ?_;simp -dsimp [hx,hw,hlt,hs])|(refine DT_cond rfl (fun h=>?_) (fun h=>?_)<;>(try simp only [nrm] at h)<;>(try exact Bool.noConfusion h))
  all_goals try simp -dsimp [hx,hw,hlt,hs]
  all_goals try clear hs
  ·rw [ha,if_pos ‹_›]
  ·exact At.round ⟨k + 1,by omega,by rw [ha,if_neg ‹_›]⟩ (by simp;omega) (Weak.of_keep [0,1,5] (by simp))
 ·rw [List.drop_eq_nil_of_le (by omega)] at ha
  have hs:True:=trivial
  repeat' first|(with_reducible first|refine q01 ?_|refine q03 ?_|refine q06 ?_|refine q11 ?_|refine q16 ?_|refine q17 ?_)|(with_reducible refine At.fn_ret (by simp -dsimp [hlt,hs];exact rfl) ?_)|(with_reducible refine DT_regionE [0,1,4,5,9,18] ?_;simp -dsimp [hlt,hs])|(refine DT_cond rfl (fun h=>?_) (fun h=>?_)<;>(try simp only [nrm] at h)<;>(try exact Bool.noConfusion h))
  all_goals try simp -dsimp [hlt,hs]
  all_goals try clear hs
  rw [ha];rfl
theorem sizeOf_c (c:Chains) (y:Link) (d:Dim) (hl:c.reg.length < 1000000) (hd:y.drawing∈nums c.reg) (hll:c.lets.length=(nums c.reg).length) (h0:0≤y.dim) (he:(takeI c.reg c.lets y.drawing).dims[y.dim.toNat]?=some d) (objs:List DObj):DCall Tryz.prog G 30 [chv c,linkv y] objs (fun rr objs'=>rr=dimv d∧objs'=objs):=by
 refine DCall.frame ?_ (by simp) (by simp) objs
 refine DCall_intro Tryz.func30 rfl Tryz.ntmps30 (by simp) rfl ?_
 try simp only [chv,linkv]
 have c1:=taken_c (G:=G) c.reg c.lets y.drawing hl hd hll
 obtain ⟨k,hk⟩:∃ k:Nat,y.dim=k:=⟨y.dim.toNat,by omega⟩
 rw [hk,Int.toNat_natCast] at he
 have hlt:=lt_of_getElem? he
 generalize takeI c.reg c.lets y.drawing=x at *
 have hs:True:=trivial
 repeat' first|(with_reducible first|refine q01 ?_|refine q11 ?_|refine q17 ?_)|(with_reducible refine At.fn_ret (by simp -dsimp [hk,he,hlt,hs];exact rfl) ?_)|(refine QCall_pure (c1) ?_;try simp -dsimp [hk,he,hlt,hs])|(refine DT_regionM (id:=1) (nt:=17) 12 [0,1,2,3,4] mixed rfl (by kernel_rfl) ?_;simp -dsimp [hk,he,hlt,hs])|(with_reducible refine DT_regionE [0,1,2,3,4] ?_;simp -dsimp [hk,he,hlt,hs])
 all_goals try simp -dsimp [hk,he,hlt,hs]
 all_goals try clear hs
 obtain ⟨_,e⟩:=List.getElem?_eq_some_iff.1 he
 rw [e];simp
theorem endN_bd {high:Bool} {x:Link} {d:Dim} (h:dimOk d=true):0≤endN high x d∧endN high x d≤1000000000:=by
 have:=(dimOk_iff d).1 h
 unfold endN;split<;>omega
theorem sgn_bd {high:Bool} {x:Link} {d:Dim} (h:dimOk d=true):-1000000000≤sgn x (endN high x d)∧sgn x (endN high x d)≤1000000000:=by
 have:=endN_bd (high:=high) (x:=x) h
 unfold sgn;split<;>omega
theorem sizes_ok {c:Chains} (h:OkC c) {n:Nat} (hn:n < c.loops.length):(sizesI c c.loops[n]).length=c.loops[n].links.length∧∀ d∈sizesI c c.loops[n],dimOk d=true:=by
 refine ⟨by simp [sizesI],fun d hd=>?_⟩
 obtain ⟨y,hy,rfl⟩:=List.mem_map.1 hd
 exact (dimAt_ok h (List.getElem_mem hn) hy).1
end Go.Proofs
namespace Go.Proofs
open Go Go.Ab
set_option linter.unusedSimpArgs false
variable {G:Nat→Option (List IC)}
theorem deskR_one (c:Chains):∃ X,deskR c=.one (.im X):=by unfold deskR;split<;>exact ⟨_,rfl⟩
def loopsE (c:Chains) (n:Int):Int:=if chainsE c≠0 then chainsE c else if 0≤n∧n < c.loops.length then 0 else 2
theorem loops_c (c:Chains) (n:Int) (hG:sheetG G) (hC:chainG G) (hs:SmallC c) (objs:List DObj):DCall Tryz.prog G 86 [chv c,iv n] objs (fun rr objs'=>rr=.tup [deskR c,iv (loopsE c n)]∧objs'=objs):=by
 refine DCall.frame ?_ (by simp) (by simp) objs
 refine DCall_intro Tryz.func86 rfl Tryz.ntmps86 (by simp) rfl ?_
 try simp only [chv,iv]
 have c1:=chOpen_c c hG hC hs
 have hl:=hs.2.2.1
 have hw:IntKind.i64.wrap ((c.loops.length:Int) - 1)=(c.loops.length:Int) - 1:=i64w (by omega) (by omega)
 have c2:=in_chain (G:=G) 0 ((c.loops.length:Int) - 1) [n] (by simp)
 have hE:loopsE c n=if chainsE c≠0 then chainsE c else if 0≤n∧n < c.loops.length then 0 else 2:=rfl
 obtain ⟨X,hX⟩:=deskR_one c
 rw [hX]
 rw [hX] at c1
 by_cases h0:chainsE c=0
 ·rw [h0] at c1 hE
  by_cases hr:0≤n∧n < c.loops.length
  ·have hq:([n].all fun x=>decide (0≤x) && decide (x≤(c.loops.length:Int) - 1))=true:=by simp;omega
   rw [hq] at c2
   have hs:True:=trivial
   repeat' first|(with_reducible first|refine q01 ?_|refine q11 ?_|refine q14 ?_|refine q17 ?_)|(with_reducible refine At.fn_ret (by simp -dsimp [hw,hs];exact rfl) ?_)|(refine CallE.pure (c1) ?_;try simp -dsimp [hw,hs])|(refine CallE.thaw (c2) ?_ ?_ ?_;(focus (simp;done));(focus (simp;done));try simp -dsimp [hw,hs])|(with_reducible refine DT_regionE [0,1,2,4,5,6,7,24] ?_;simp -dsimp [hw,hs])|(refine DT_cond rfl (fun h=>?_) (fun h=>?_)<;>(try simp only [nrm] at h)<;>(try exact Bool.noConfusion h))
   all_goals try simp -dsimp [hw,hs]
   all_goals try clear hs
   simp [hE,hr]
  ·have hq:([n].all fun x=>decide (0≤x) && decide (x≤(c.loops.length:Int) - 1))=false:=by simp;omega
   rw [hq] at c2
   have hs:True:=trivial
   repeat' first|(with_reducible first|refine q01 ?_|refine q11 ?_|refine q17 ?_)|(with_reducible refine At.fn_ret (by simp -dsimp [hw,hs];exact rfl) ?_)|(refine CallE.pure (c1) ?_;try simp -dsimp [hw,hs])|(refine CallE.thaw (c2) ?_ ?_ ?_;(focus (simp;done));(focus (simp;done));try simp -dsimp [hw,hs])|(with_reducible refine DT_regionE [0,1,2,4,5,6,7,24] ?_;simp -dsimp [hw,hs])|(refine DT_cond rfl (fun h=>?_) (fun h=>?_)<;>(try simp only [nrm] at h)<;>(try exact Bool.noConfusion h))
   all_goals try simp -dsimp [hw,hs]
   all_goals try clear hs
   simp [hE,hr]
 ·have hs:True:=trivial
  repeat' first|(with_reducible first|refine q01 ?_|refine q11 ?_|refine q14 ?_|refine q17 ?_)|(with_reducible refine At.fn_ret (by simp -dsimp [h0,hs];exact rfl) ?_)|(refine CallE.pure (c1) ?_;try simp -dsimp [h0,hs])|(with_reducible refine DT_regionE [0,1,2,4,5,6,7,24] ?_;simp -dsimp [h0,hs])|(refine DT_cond rfl (fun h=>?_) (fun h=>?_)<;>(try simp only [nrm] at h)<;>(try exact Bool.noConfusion h))
  all_goals try simp -dsimp [h0,hs]
  all_goals try clear hs
  simp [hE,h0]
theorem never_c (d k:Int) (objs:List DObj):DCall Tryz.prog G 89 [refv d k] objs (fun rr objs'=>rr=bv false∧objs'=objs):=by
 refine DCall.frame ?_ (by simp) (by simp) objs
 refine DCall_intro Tryz.func89 rfl Tryz.ntmps89 (by simp) rfl ?_
 try simp only [refv]
 have hs:True:=trivial
 repeat' first|(with_reducible first|refine q01 ?_|refine q11 ?_|refine q17 ?_)|(with_reducible refine At.fn_ret (by simp -dsimp [hs];exact rfl) ?_)|(with_reducible refine DT_regionE [0,2] ?_;simp -dsimp [hs])
 all_goals try simp -dsimp [hs]
 all_goals try clear hs
theorem spot_c (x:Link) (objs:List DObj):DCall Tryz.prog G 114 [linkv x] objs (fun rr objs'=>rr=refv x.drawing x.dim∧objs'=objs):=by
 refine DCall.frame ?_ (by simp) (by simp) objs
 refine DCall_intro Tryz.func114 rfl Tryz.ntmps114 (by simp) rfl ?_
 try simp only [linkv]
 have hs:True:=trivial
 repeat' first|(with_reducible first|refine q01 ?_|refine q11 ?_|refine q17 ?_)|(with_reducible refine At.fn_ret (by simp -dsimp [hs];exact rfl) ?_)|(with_reducible refine DT_regionE [0,1,2] ?_;simp -dsimp [hs])
 all_goals try simp -dsimp [hs]
 all_goals try clear hs
def neverF:IC:=.fn (.func 89) []
set_option maxHeartbeats 1000000 in
theorem psizes_c (c:Chains) (D:List (Int×Int)) (n:Nat) (hn:n < c.loops.length) (h:OkC c) (objs:List DObj):DCall Tryz.prog G 88 [.one (.im (deskC c D (tkM c.reg c.lets))),iv (n:Int),iv 0,.one (.im neverF)] objs (fun rr objs'=>rr=.one (.im (.sl ((sizesI c c.loops[n]).map encDim)))∧objs'=objs):=by
 refine DCall.frame ?_ (by simp) (by simp) objs
 refine DCall_intro Tryz.func88 rfl Tryz.ntmps88 (by simp) rfl ?_
 try simp only [iv,iv]
 have hx:c.loops[n]?=some c.loops[n]:=by simp [hn]
 have hln:=h.gap c.loops[n] (List.getElem_mem hn)
 have hok:=fun y hy=>dimAt_ok h (List.getElem_mem hn) (y:=y) hy
 have hlk:=h.link c.loops[n] (List.getElem_mem hn)
 have hE:sizesI c c.loops[n]=c.loops[n].links.map (dimAt c):=rfl
 simp only [deskC,neverF]
 have hs:True:=trivial
 repeat' first|(with_reducible first|refine q01 ?_|refine q11 ?_|refine q12 ?_)|(with_reducible refine DT_regionE [0,1,2,3,8,9,11,12,21,22,23,24,42] ?_;simp -dsimp [hx,hn,hs])
 all_goals try simp -dsimp [hx,hn,hs]
 all_goals try clear hs
 generalize hls:c.loops[n].links=ls at *
 refine DT_loop (ι:={ p:Nat×Nat×Bool×List Dim // p.1≤ls.length∧p.2.2.2=(ls.take p.1).map (dimAt c) }) (fun p=>⟨52,[(0,.one (.im (deskC c D (tkM c.reg c.lets)))),(2,iv 0),(3,.one (.im neverF)),(9,.one (.vec 1 p.1.2.1 0 p.1.2.2.2.length)),(21,.one (.im (.sl (ls.map encLink)))),(22,iv (ls.length:Int)),(23,iv (p.1.1:Int))],[.vec 3 [] 0 true,.vec 3 (ims (p.1.2.2.2.map encDim)) p.1.2.1 p.1.2.2.1]⟩) (fun p=>ls.length - p.1.1) ⟨(0,0,true,[]),by simp⟩ (Weak.of_keep [0,2,3,9,21,22,23] (by simp [deskC,neverF])) ?_
 rintro ⟨⟨k,g,nl,out⟩,hk,ho⟩
 simp only at hk ho
 simp only [iv,deskC,neverF]
 have hol:out.length=k:=by rw [ho];simp;omega
 by_cases hlt:k < ls.length
 ·have hy:ls[k]?=some ls[k]:=by simp [hlt]
  have hw:IntKind.i64.wrap ((k:Int) + 1)=((k + 1:Nat):Int):=i64w (by omega) (by omega)
  obtain ⟨l1,l2,l3⟩:=hlk ls[k] (List.getElem_mem hlt)
  obtain ⟨_,he⟩:=hok ls[k] (List.getElem_mem hlt)
  have hlook:mlookS (tkM c.reg c.lets) ls[k].drawing=takeI c.reg c.lets ls[k].drawing:=by rw [tkM,mlookS_map,if_pos l1]
  obtain ⟨j,hj⟩:∃ j:Nat,ls[k].dim=j:=⟨ls[k].dim.toNat,by omega⟩
  rw [hj,Int.toNat_natCast] at he
  have hjl:=lt_of_getElem? he
  have hje:=(List.getElem?_eq_some_iff.1 he).2
  have c2:=spot_c (G:=G) ⟨ls[k].drawing,j,ls[k].back⟩
  have c3:=never_c (G:=G) ls[k].drawing j
  simp only [refv] at c2 c3
  have hon:out ++ [dimAt c ls[k]]=(ls.take (k + 1)).map (dimAt c):=by rw [List.take_succ_eq_append_getElem hlt,List.map_append,ho];rfl
  have hs:True:=trivial
  repeat' first|(with_reducible first|refine q01 ?_|refine q04 ?_|refine q11 ?_|refine q12 ?_|refine q14 ?_|refine And.intro (by omega) ?_)|(refine CallE.pure (c2) ?_;try simp -dsimp [hy,hw,hlt,hlook,hj,hjl,he,hje,hs])|(refine CallE.pure (c3) ?_;try simp -dsimp [hy,hw,hlt,hlook,hj,hjl,he,hje,hs])|(refine DT_regionX (id:=5) (nt:=52) 13 [] [0,1,2,3,8,9,11,12,21,22,23,24,27,28,29,30,31,32,33,34,35,36,37,38,42] [0,1,2,3,8,9,11,12,21,22,23,24,42] mixed rfl (by kernel_rfl) ?_;simp -dsimp [hy,hw,hlt,hlook,hj,hjl,he,hje,hs])|(with_reducible refine DT_regionE [0,1,2,3,8,9,11,12,21,22,23,24,42] ?_;simp -dsimp [hy,hw,hlt,hlook,hj,hjl,he,hje,hs])|(refine DT_cond rfl (fun h=>?_) (fun h=>?_)<;>(try simp only [nrm] at h)<;>(try exact Bool.noConfusion h))
  all_goals try simp -dsimp [hy,hw,hlt,hlook,hj,hjl,he,hje,hs]
  all_goals try clear hs
  all_goals try omega
  exact At.round ⟨(k + 1,g + 1,false,out ++ [dimAt c ls[k]]),by omega,hon⟩ (by simp;omega) (Weak.of_drop [0,2,3,9,21,22,23] 2 (by simp) (by simp) (by simp [deskC,neverF]))
 ·have hs:True:=trivial
  repeat' first|(with_reducible first|refine q01 ?_|refine q03 ?_|refine q06 ?_|refine q11 ?_|refine q16 ?_|refine q17 ?_)|(with_reducible refine At.fn_ret (by simp -dsimp [hlt,hs];exact rfl) ?_)|(with_reducible refine DT_regionE [0,1,2,3,8,9,11,12,21,22,23,24,42] ?_;simp -dsimp [hlt,hs])|(refine DT_cond rfl (fun h=>?_) (fun h=>?_)<;>(try simp only [nrm] at h)<;>(try exact Bool.noConfusion h))
  all_goals try simp -dsimp [hlt,hs]
  all_goals try clear hs
  all_goals try omega
  rw [hE,ho,List.take_of_length_le (by omega)]
set_option maxHeartbeats 1000000 in
theorem pend_c (c:Chains) (D:List (Int×Int)) (B:List (Int×Issue)) (n:Nat) (hn:n < c.loops.length) (l:List Dim) (high:Bool) (hl:c.loops[n].links.length≤12) (he:l.length=c.loops[n].links.length) (hd:∀ d∈l,dimOk d=true) (objs:List DObj):DCall Tryz.prog G 90 [.one (.im (deskC c D B)),iv (n:Int),.one (.im (.sl (l.map encDim))),bv high] objs (fun rr objs'=>rr=.tup [isv (endsL c.loops[n].links l high),iv (endS c.loops[n].links l high)]∧objs'=objs):=by
 refine DCall.frame ?_ (by simp) (by simp) objs
 refine DCall_intro Tryz.func90 rfl Tryz.ntmps90 (by simp) rfl ?_
 try simp only [iv,bv]
 have hxn:c.loops[n]?=some c.loops[n]:=by simp [hn]
 simp only [deskC]
 have hs:True:=trivial
 repeat' first|(with_reducible first|refine q01 ?_|refine q11 ?_|refine q12 ?_)|(with_reducible refine DT_regionE [0,1,2,3,8,9,10,11,12,13,14,15,24,25,26,27,37,41] ?_;simp -dsimp [hxn,hn,hs])
 all_goals try simp -dsimp [hxn,hn,hs]
 all_goals try clear hs
 generalize c.loops[n].links=ls at *
 refine DT_loop (ι:={ p:Nat×Nat×Bool×List Int×Int // p.1≤ls.length∧p.2.2.2.1.length=p.1∧endsL ls l high=p.2.2.2.1 ++ ((ls.zip l).drop p.1).map (fun q=>endN high q.1 q.2)∧endS ls l high=((ls.zip l).drop p.1).foldl (fun s q=>s + sgn q.1 (endN high q.1 q.2)) p.2.2.2.2∧-1000000000 * (p.1:Int)≤p.2.2.2.2∧p.2.2.2.2≤1000000000 * (p.1:Int) }) (fun p=>⟨59,[(2,.one (.im (.sl (l.map encDim)))),(3,bv high),(10,iv p.1.2.2.2.2),(11,.one (.vec 1 p.1.2.1 0 p.1.2.2.2.1.length)),(24,.one (.im (.sl (ls.map encLink)))),(25,iv (ls.length:Int)),(26,iv (p.1.1:Int))],[.vec 1 [] 0 true,.vec 1 (ims (p.1.2.2.2.1.map encI)) p.1.2.1 p.1.2.2.1]⟩) (fun p=>ls.length - p.1.1) ⟨(0,0,true,[],0),by simp [endsL,endS]⟩ (Weak.of_keep [2,3,10,11,24,25,26] (by simp)) ?_
 rintro ⟨⟨k,g,nl,out,s⟩,hk,hol,ho,hs,hb1,hb2⟩
 simp only at hk hol ho hs hb1 hb2
 simp only [iv,bv]
 by_cases hlt:k < ls.length
 ·have hkl:k < l.length:=by omega
  have hx:ls[k]?=some ls[k]:=by simp [hlt]
  have hy:l[k]?=some l[k]:=by simp [hkl]
  have hw:IntKind.i64.wrap ((k:Int) + 1)=((k + 1:Nat):Int):=i64w (by omega) (by omega)
  have hz:k < (ls.zip l).length:=by simp;omega
  rw [List.drop_eq_getElem_cons hz,List.getElem_zip,List.map_cons] at ho
  rw [List.drop_eq_getElem_cons hz,List.getElem_zip,List.foldl_cons] at hs
  have hdk:=hd l[k] (List.getElem_mem hkl)
  have hdl:=(dimOk_iff _).1 hdk
  have hsb:=sgn_bd (high:=high) (x:=ls[k]) hdk
  have hws:IntKind.i64.wrap (s + sgn ls[k] (endN high ls[k] l[k]))=s + sgn ls[k] (endN high ls[k] l[k]):=i64w (by omega) (by omega)
  have hon:endsL ls l high=(out ++ [endN high ls[k] l[k]]) ++ ((ls.zip l).drop (k + 1)).map (fun q=>endN high q.1 q.2):=by rw [ho];simp
  have hwl:IntKind.i64.wrap (-l[k].lower)=-l[k].lower:=i64w (by omega) (by omega)
  have hwu:IntKind.i64.wrap (-l[k].upper)=-l[k].upper:=i64w (by omega) (by omega)
  have hwl1:IntKind.i64.wrap l[k].lower=l[k].lower:=i64w (by omega) (by omega)
  have hwu1:IntKind.i64.wrap l[k].upper=l[k].upper:=i64w (by omega) (by omega)
  have hfin:k + 1≤ls.length∧(out ++ [endN high ls[k] l[k]]).length=k + 1∧endsL ls l high=(out ++ [endN high ls[k] l[k]]) ++ ((ls.zip l).drop (k + 1)).map (fun q=>endN high q.1 q.2)∧endS ls l high=((ls.zip l).drop (k + 1)).foldl (fun s q=>s + sgn q.1 (endN high q.1 q.2)) (s + sgn ls[k] (endN high ls[k] l[k]))∧-1000000000 * ((k + 1:Nat):Int)≤s + sgn ls[k] (endN high ls[k] l[k])∧s + sgn ls[k] (endN high ls[k] l[k])≤1000000000 * ((k + 1:Nat):Int):=⟨by omega,by simp;omega,hon,hs,by omega,by omega⟩
  cases hbk:ls[k].back<;>cases high
  all_goals have hN:∀ h,endN h ls[k] l[k]=if h != ls[k].back then l[k].upper else l[k].lower:=fun _=>rfl
  all_goals have hS:∀ n,sgn ls[k] n=if ls[k].back then -n else n:=fun _=>rfl
  all_goals simp only [hN,hS,hbk,bne_self_eq_false,Bool.false_eq_true,if_false,if_true,Bool.true_bne,Bool.false_bne,Bool.not_false] at hws hfin
  all_goals clear hN hS
  ·have hs:True:=trivial
   repeat' first|(with_reducible first|refine q01 ?_|refine q04 ?_|refine q11 ?_|refine q12 ?_|refine q14 ?_|refine And.intro (by omega) ?_)|(with_reducible refine DT_regionE [0,1,2,3,8,9,10,11,12,13,14,15,24,25,26,27,37,41] ?_;simp -dsimp [hx,hy,hw,hlt,hkl,hbk,hws,hwl1,hwu1,hs])|(refine DT_cond rfl (fun h=>?_) (fun h=>?_)<;>(try simp only [nrm] at h)<;>(try exact Bool.noConfusion h))
   all_goals try simp -dsimp [hx,hy,hw,hlt,hkl,hbk,hws,hwl1,hwu1,hs]
   all_goals try clear hs
   all_goals try omega
   exact At.round ⟨(k + 1,g + 1,false,out ++ [l[k].lower],s + l[k].lower),hfin⟩ (by simp;omega) (Weak.of_drop [2,3,10,11,24,25,26] 2 (by simp) (by simp) (by simp))
  ·have hs:True:=trivial
   repeat' first|(with_reducible first|refine q01 ?_|refine q04 ?_|refine q11 ?_|refine q12 ?_|refine q14 ?_|refine And.intro (by omega) ?_)|(with_reducible refine DT_regionE [0,1,2,3,8,9,10,11,12,13,14,15,24,25,26,27,37,41] ?_;simp -dsimp [hx,hy,hw,hlt,hkl,hbk,hws,hwl1,hwu1,hs])|(refine DT_cond rfl (fun h=>?_) (fun h=>?_)<;>(try simp only [nrm] at h)<;>(try exact Bool.noConfusion h))
   all_goals try simp -dsimp [hx,hy,hw,hlt,hkl,hbk,hws,hwl1,hwu1,hs]
   all_goals try clear hs
   all_goals try omega
   exact At.round ⟨(k + 1,g + 1,false,out ++ [l[k].upper],s + l[k].upper),hfin⟩ (by simp;omega) (Weak.of_drop [2,3,10,11,24,25,26] 2 (by simp) (by simp) (by simp))
  ·have hs:True:=trivial
   repeat' first|(with_reducible first|refine q01 ?_|refine q04 ?_|refine q11 ?_|refine q12 ?_|refine q14 ?_|refine And.intro (by omega) ?_)|(with_reducible refine DT_regionE [0,1,2,3,8,9,10,11,12,13,14,15,24,25,26,27,37,41] ?_;simp -dsimp [hx,hy,hw,hlt,hkl,hbk,hws,hwl,hwu,hs])|(refine DT_cond rfl (fun h=>?_) (fun h=>?_)<;>(try simp only [nrm] at h)<;>(try exact Bool.noConfusion h))
   all_goals try simp -dsimp [hx,hy,hw,hlt,hkl,hbk,hws,hwl,hwu,hs]
   all_goals try clear hs
   all_goals try omega
   exact At.round ⟨(k + 1,g + 1,false,out ++ [l[k].upper],s + -l[k].upper),hfin⟩ (by simp;omega) (Weak.of_drop [2,3,10,11,24,25,26] 2 (by simp) (by simp) (by simp))
  ·have hs:True:=trivial
   repeat' first|(with_reducible first|refine q01 ?_|refine q04 ?_|refine q11 ?_|refine q12 ?_|refine q14 ?_|refine And.intro (by omega) ?_)|(with_reducible refine DT_regionE [0,1,2,3,8,9,10,11,12,13,14,15,24,25,26,27,37,41] ?_;simp -dsimp [hx,hy,hw,hlt,hkl,hbk,hws,hwl,hwu,hs])|(refine DT_cond rfl (fun h=>?_) (fun h=>?_)<;>(try simp only [nrm] at h)<;>(try exact Bool.noConfusion h))
   all_goals try simp -dsimp [hx,hy,hw,hlt,hkl,hbk,hws,hwl,hwu,hs]
   all_goals try clear hs
   all_goals try omega
   exact At.round ⟨(k + 1,g + 1,false,out ++ [l[k].lower],s + -l[k].lower),hfin⟩ (by simp;omega) (Weak.of_drop [2,3,10,11,24,25,26] 2 (by simp) (by simp) (by simp))
 ·rw [List.drop_eq_nil_of_le (by simp;omega)] at ho hs
  have hs:True:=trivial
  repeat' first|(with_reducible first|refine q01 ?_|refine q03 ?_|refine q06 ?_|refine q11 ?_|refine q16 ?_|refine q17 ?_)|(with_reducible refine At.fn_ret (by simp -dsimp [hlt,hs];exact rfl) ?_)|(with_reducible refine DT_regionE [0,1,2,3,8,9,10,11,12,13,14,15,24,25,26,27,37,41] ?_;simp -dsimp [hlt,hs])|(refine DT_cond rfl (fun h=>?_) (fun h=>?_)<;>(try simp only [nrm] at h)<;>(try exact Bool.noConfusion h))
  all_goals try simp -dsimp [hlt,hs]
  all_goals try clear hs
  all_goals try omega
  rw [ho,hs];simp
theorem preach_c (c:Chains) (D:List (Int×Int)) (B:List (Int×Issue)) (n:Nat) (hn:n < c.loops.length) (l:List Dim) (hl:c.loops[n].links.length≤12) (he:l.length=c.loops[n].links.length) (hd:∀ d∈l,dimOk d=true) (objs:List DObj):DCall Tryz.prog G 87 [.one (.im (deskC c D B)),iv (n:Int),.one (.im (.sl (l.map encDim)))] objs (fun rr objs'=>rr=refv (endS c.loops[n].links l false) (endS c.loops[n].links l true)∧objs'=objs):=by
 refine DCall.frame ?_ (by simp) (by simp) objs
 refine DCall_intro Tryz.func87 rfl Tryz.ntmps87 (by simp) rfl ?_
 try simp only [iv]
 have c2:=pend_c (G:=G) c D B n hn l false hl he hd
 have c3:=pend_c (G:=G) c D B n hn l true hl he hd
 have hs:True:=trivial
 repeat' first|(with_reducible first|refine q01 ?_|refine q11 ?_|refine q17 ?_)|(with_reducible refine At.fn_ret (by simp -dsimp [hs];exact rfl) ?_)|(refine CallE.pure (c2) ?_;try simp -dsimp [hs])|(refine CallE.pure (c3) ?_;try simp -dsimp [hs])|(with_reducible refine DT_regionE [0,1,2,6,8,10] ?_;simp -dsimp [hs])
 all_goals try simp -dsimp [hs]
 all_goals try clear hs
def loI (c:Chains) (n:Int):Int:=match c.loops[n.toNat]? with|some x=>endS x.links (sizesI c x) false|none=>0
def hiI (c:Chains) (n:Int):Int:=match c.loops[n.toNat]? with|some x=>endS x.links (sizesI c x) true|none=>0
def rLo (c:Chains) (n:Int):Int:=if loopsE c n=0 then loI c n else 0
def rHi (c:Chains) (n:Int):Int:=if loopsE c n=0 then hiI c n else 0
theorem pReach_c (c:Chains) (n:Int) (hG:sheetG G) (hC:chainG G) (hs:SmallC c) (hok:chainsE c=0→OkC c) (objs:List DObj):DCall Tryz.prog G 25 [chv c,iv n] objs (fun rr objs'=>rr=.tup [refv (rLo c n) (rHi c n),iv (loopsE c n)]∧objs'=objs):=by
 refine DCall.frame ?_ (by simp) (by simp) objs
 refine DCall_intro Tryz.func25 rfl Tryz.ntmps25 (by simp) rfl ?_
 try simp only [chv,iv]
 have c1:=loops_c c n hG hC hs
 by_cases hE:loopsE c n=0
 ·have h0:chainsE c=0:=by
   by_cases h:chainsE c=0
   ·exact h
   ·simp [loopsE,h] at hE
  have hr:0≤n∧n < c.loops.length:=Classical.byContradiction fun h=>by simp [loopsE,h0,h] at hE
  obtain ⟨k,rfl⟩:∃ k:Nat,n=k:=⟨n.toNat,by omega⟩
  have hk:k < c.loops.length:=by omega
  have h:=hok h0
  have hx:c.loops[k]?=some c.loops[k]:=by simp [hk]
  have c2:=psizes_c (G:=G) c (cntD c) k hk h
  obtain ⟨hsl,hsd⟩:=sizes_ok h hk
  have hln:=(h.gap c.loops[k] (List.getElem_mem hk)).1
  have c3:=preach_c (G:=G) c (cntD c) (tkM c.reg c.lets) k hk (sizesI c c.loops[k]) (by omega) hsl hsd
  have h1:loI c (k:Int)=endS c.loops[k].links (sizesI c c.loops[k]) false:=by simp only [loI,Int.toNat_natCast,hx]
  have h2:hiI c (k:Int)=endS c.loops[k].links (sizesI c c.loops[k]) true:=by simp only [hiI,Int.toNat_natCast,hx]
  rw [← h1,← h2] at c3
  rw [hE] at c1
  simp only [deskR,h0,if_true,deskC] at c1
  rw [rLo,rHi,if_pos hE,if_pos hE]
  simp only [deskC,neverF,refv] at c2 c3
  have hs:True:=trivial
  repeat' first|(with_reducible first|refine q01 ?_|refine q11 ?_|refine q14 ?_|refine q17 ?_)|(with_reducible refine At.fn_ret (by simp -dsimp [hs];exact rfl) ?_)|(refine CallE.pure (c1) ?_;try simp -dsimp [hs])|(refine CallE.pure (c2) ?_;try simp -dsimp [hs])|(refine CallE.pure (c3) ?_;try simp -dsimp [hs])|(with_reducible refine DT_regionE [0,1,2,4,5,6,7,15] ?_;simp -dsimp [hs])|(refine DT_cond rfl (fun h=>?_) (fun h=>?_)<;>(try simp only [nrm] at h)<;>(try exact Bool.noConfusion h))
  all_goals try simp -dsimp [hs]
  all_goals try clear hs
  all_goals simp [hE]
 ·obtain ⟨X,hX⟩:=deskR_one c
  rw [hX] at c1
  rw [rLo,rHi,if_neg hE,if_neg hE]
  have hs:True:=trivial
  repeat' first|(with_reducible first|refine q01 ?_|refine q02 ?_|refine q11 ?_|refine q17 ?_)|(with_reducible refine At.fn_ret (by simp -dsimp [hE,hs];exact rfl) ?_)|(refine CallE.pure (c1) ?_;try simp -dsimp [hE,hs])|(with_reducible refine DT_regionE [0,1,2,4,5,6,7,15] ?_;simp -dsimp [hE,hs])|(refine DT_cond rfl (fun h=>?_) (fun h=>?_)<;>(try simp only [nrm] at h)<;>(try exact Bool.noConfusion h))
  all_goals try simp -dsimp [hE,hs]
  all_goals try clear hs
theorem endS_fold (h1:Bool):∀ (q:List (Link×Dim)) (a b:Int),(∀ p∈q,dimOk p.2=true)→a≤b→q.foldl (fun s p=>s + sgn p.1 (endN false p.1 p.2)) a≤q.foldl (fun s p=>s + sgn p.1 (endN true p.1 p.2)) b
 | [],a,b,_,h=>h
 | p :: q,a,b,hd,h=>by
   rw [List.foldl_cons,List.foldl_cons]
   refine endS_fold h1 q _ _ (fun p hp=>hd p (by simp [hp])) ?_
   have hp:=(dimOk_iff _).1 (hd p (by simp))
   have:sgn p.1 (endN false p.1 p.2)≤sgn p.1 (endN true p.1 p.2):=by
    unfold sgn endN
    cases p.1.back<;>simp<;>omega
   omega
theorem lo_hi {ls:List Link} {l:List Dim} (hd:∀ d∈l,dimOk d=true):endS ls l false≤endS ls l true:=
 endS_fold true _ 0 0 (fun _ hp=>hd _ (List.of_mem_zip hp).2) (Int.le_refl _)
def clK (c:Chains) (n:Int):Int:=match c.loops[n.toNat]? with
 | some x=>if x.lo≤rLo c n∧rHi c n≤x.hi then 2 else if rHi c n < x.lo∨x.hi < rLo c n then 0 else 1
 | none=>0
def closesK (c:Chains) (n:Int):Int:=if loopsE c n=0 then clK c n else 0
def u8v (n:Int):DV:=.one (.im (.raw (.int .u8 n)))
attribute [simp] u8v
theorem loopsE_zero {c:Chains} {n:Int} (h:loopsE c n=0):chainsE c=0∧∃ k:Nat,n=k∧k < c.loops.length:=by
 have h0:chainsE c=0:=by
  by_cases h':chainsE c=0
  ·exact h'
  ·simp [loopsE,h'] at h
 have hr:0≤n∧n < c.loops.length:=Classical.byContradiction fun h'=>by simp [loopsE,h0,h'] at h
 exact ⟨h0,n.toNat,by omega,by omega⟩
theorem reach_le {c:Chains} {n:Int} (h:loopsE c n=0) (hok:chainsE c=0→OkC c):rLo c n≤rHi c n:=by
 obtain ⟨h0,k,rfl,hk⟩:=loopsE_zero h
 have hx:c.loops[k]?=some c.loops[k]:=by simp [hk]
 obtain ⟨hsl,hsd⟩:=sizes_ok (hok h0) hk
 rw [rLo,rHi,if_pos h,if_pos h]
 simp only [loI,hiI,Int.toNat_natCast,hx]
 exact lo_hi hsd
theorem pCloses_c (c:Chains) (n:Int) (hG:sheetG G) (hC:chainG G) (hs:SmallC c) (hok:chainsE c=0→OkC c) (objs:List DObj):DCall Tryz.prog G 26 [chv c,iv n] objs (fun rr objs'=>rr=.tup [u8v (closesK c n),iv (loopsE c n)]∧objs'=objs):=by
 refine DCall.frame ?_ (by simp) (by simp) objs
 refine DCall_intro Tryz.func26 rfl Tryz.ntmps26 (by simp) rfl ?_
 try simp only [chv,iv]
 have c1:=pReach_c c n hG hC hs hok
 by_cases hE:loopsE c n=0
 ·have hle:=reach_le hE hok
  obtain ⟨h0,k,rfl,hk⟩:=loopsE_zero hE
  have hx:c.loops[k]?=some c.loops[k]:=by simp [hk]
  have hK:closesK c (k:Int)=if c.loops[k].lo≤rLo c (k:Int)∧rHi c (k:Int)≤c.loops[k].hi then 2 else if rHi c (k:Int) < c.loops[k].lo∨c.loops[k].hi < rLo c (k:Int) then 0 else 1:=by simp only [closesK,clK,Int.toNat_natCast,hx,if_pos hE]
  generalize rLo c (k:Int)=a at *
  generalize rHi c (k:Int)=b at *
  have c2:=in_chain (G:=G) c.loops[k].lo c.loops[k].hi [a,b] (by simp)
  simp only [refv,hE] at c1
  by_cases hin:c.loops[k].lo≤a∧b≤c.loops[k].hi
  ·have hq:([a,b].all fun x=>decide (c.loops[k].lo≤x) && decide (x≤c.loops[k].hi))=true:=by simp;omega
   rw [if_pos hin] at hK
   rw [hq] at c2
   have hs:True:=trivial
   repeat' first|(with_reducible first|refine q01 ?_|refine q02 ?_|refine q05 ?_|refine q11 ?_|refine q12 ?_|refine q14 ?_|refine q17 ?_)|(with_reducible refine At.fn_ret (by simp -dsimp [hx,hk,hs];exact rfl) ?_)|(refine CallE.pure (c1) ?_;try simp -dsimp [hx,hk,hs])|(refine CallE.thaw (c2) ?_ ?_ ?_;(focus (simp;done));(focus (simp;done));try simp -dsimp [hx,hk,hs])|(with_reducible refine DT_regionE [0,1,2,4,5,6,7,8,16,24,35] ?_;simp -dsimp [hx,hk,hs])|(refine DT_cond rfl (fun h=>?_) (fun h=>?_)<;>(try simp only [nrm] at h)<;>(try exact Bool.noConfusion h))
   all_goals try simp -dsimp [hx,hk,hs]
   all_goals try clear hs
   all_goals simp [hK,hE]
  ·have hq:([a,b].all fun x=>decide (c.loops[k].lo≤x) && decide (x≤c.loops[k].hi))=false:=by simp;omega
   rw [if_neg hin] at hK
   rw [hq] at c2
   have hs:True:=trivial
   repeat' first|(with_reducible first|refine q01 ?_|refine q02 ?_|refine q04 ?_|refine q05 ?_|refine q11 ?_|refine q12 ?_|refine q14 ?_|refine q17 ?_)|(with_reducible refine At.fn_ret (by simp -dsimp [hx,hk,hs];exact rfl) ?_)|(refine CallE.pure (c1) ?_;try simp -dsimp [hx,hk,hs])|(refine CallE.thaw (c2) ?_ ?_ ?_;(focus (simp;done));(focus (simp;done));try simp -dsimp [hx,hk,hs])|(with_reducible refine DT_regionE [0,1,2,4,5,6,7,8,16,24,35] ?_;simp -dsimp [hx,hk,hs])|(refine DT_cond rfl (fun h=>?_) (fun h=>?_)<;>(try simp only [nrm] at h)<;>(try exact Bool.noConfusion h))
   all_goals try simp -dsimp [hx,hk,hs]
   all_goals try clear hs
   all_goals first
    | (exfalso;omega)
    | (rw [if_pos (by omega)] at hK;simp [hK,hE];done)
    | (rw [if_neg (by omega)] at hK;simp [hK,hE])
 ·have hK:closesK c n=0:=by simp [closesK,hE]
  have hs:True:=trivial
  repeat' first|(with_reducible first|refine q01 ?_|refine q02 ?_|refine q11 ?_|refine q17 ?_)|(with_reducible refine At.fn_ret (by simp -dsimp [hE,hs];exact rfl) ?_)|(refine CallE.pure (c1) ?_;try simp -dsimp [hE,hs])|(with_reducible refine DT_regionE [0,1,2,4,5,6,7,8,16,24,35] ?_;simp -dsimp [hE,hs])|(refine DT_cond rfl (fun h=>?_) (fun h=>?_)<;>(try simp only [nrm] at h)<;>(try exact Bool.noConfusion h))
  all_goals try simp -dsimp [hE,hs]
  all_goals try clear hs
  all_goals simp [hK]
end Go.Proofs
