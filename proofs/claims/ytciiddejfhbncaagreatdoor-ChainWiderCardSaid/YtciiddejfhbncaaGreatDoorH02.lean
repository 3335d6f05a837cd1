/- Part 30 of the proofs: laws and walks that hold without conditions beyond those that each theorem names. -/
import Derived.Test.YtciiddejfhbncaaGreatDoorA26
import Derived.Test.YtciiddejfhbncaaGreatDoorA27
import Derived.Test.YtciiddejfhbncaaGreatDoorA28
set_option linter.all false
set_option linter.deprecated false
namespace Go.Proofs
open Go Go.Ab
def pre (p:Option Issue) (x:Issue):List Int:=match p with|some y=>if y.drawing=x.drawing then [] else [x.drawing]|none=>[x.drawing]
def good (p:Option Issue) (x:Issue):Prop:=issueOk x=true∧match p with|some y=>y.drawing=x.drawing∧y.letter + 1=x.letter∧y.kind=x.kind∨y.drawing < x.drawing∧x.letter=1|none=>x.letter=1
def dd:List Issue→List Int
 | []=>[]
 | [x]=>[x.drawing]
 | x :: y :: r=>if x.drawing=y.drawing then dd (y :: r) else x.drawing :: dd (y :: r)
end Go.Proofs
namespace Go.Proofs
open Go Go.Ab
def newT (c:Chains) (f:Issue→List Dim×Int) (n:Int):Issue:=if (f (takeI c.reg c.lets n)).1=(takeI c.reg c.lets n).dims then takeI c.reg c.lets n else newI c.reg (takeI c.reg c.lets n) n (f (takeI c.reg c.lets n)).1
structure Changed (c:Chains) (f:Issue→List Dim×Int):Prop where
 reg:checkR (changedC c f).reg=0
 nums:nums (changedC c f).reg=nums c.reg
 mem:∀ x,x∈(changedC c f).reg↔x∈c.reg∨∃ n∈Go.Proofs.nums c.reg,(f (takeI c.reg c.lets n)).1≠(takeI c.reg c.lets n).dims∧x=newI c.reg (takeI c.reg c.lets n) n (f (takeI c.reg c.lets n)).1
 len:(changedC c f).reg.length=c.reg.length + ((Go.Proofs.nums c.reg).filter fun n=>decide ((f (takeI c.reg c.lets n)).1≠(takeI c.reg c.lets n).dims)).length
 letl:(changedC c f).lets.length=c.lets.length
 letAt:∀ (k:Nat) (n:Int),(Go.Proofs.nums c.reg)[k]?=some n→(changedC c f).lets[k]?=if (f (takeI c.reg c.lets n)).1=(takeI c.reg c.lets n).dims then c.lets[k]? else some ((cntN c.reg n:Int) + 1)
 lets:lettersI (changedC c f).reg (changedC c f).lets=true
 take:∀ n∈Go.Proofs.nums c.reg,takeI (changedC c f).reg (changedC c f).lets n=newT c f n
 err:∀ n∈Go.Proofs.nums c.reg,(f (takeI c.reg c.lets n)).2=0
 chE:chainsE (changedC c f)=0
 ok:OkC (changedC c f)
 small:SmallC (changedC c f)
 smallG:SmallG (changedC c f)
end Go.Proofs
namespace Go.Proofs
open Go Go.Ab
end Go.Proofs
namespace Go.Proofs
open Go Go.Ab
end Go.Proofs
namespace Go.Proofs
open Go Go.Ab
structure ProofOf (c:Chains) (L:Nat) (x:ChLoop) (S:List Int):Prop where
 at':c.loops[L]?=some x
 len:S.length=x.links.length
 within:∀ (k:Nat) (y:Link) (n:Int),x.links[k]?=some y→S[k]?=some n→(dimAt c y).lower≤n∧n≤(dimAt c y).upper
 near:∀ (k:Nat) (y:Link) (n:Int),x.links[k]?=some y→S[k]?=some n→spotOf y∈allSpots c→n - midD (dimAt c y)≤gradeN c + 1∧midD (dimAt c y) - n≤gradeN c + 1
 out:sumZ x.links S < x.lo∨x.hi < sumZ x.links S
end Go.Proofs
namespace Go.Ab
open Go
end Go.Ab
namespace Go.Proofs
open Go Go.Ab
theorem memb_sets (l:List Spot) (s:Nat):memb l s l.length∈setsTo l (2 ^ l.length):=by
 rw [setsTo,List.mem_map]
 refine ⟨s % 2 ^ l.length,List.mem_range.2 (Nat.mod_lt _ (Nat.two_pow_pos _)),memb_congr fun i hi=>?_⟩
 rw [Nat.testBit_mod_two_pow];simp [hi]
theorem memb_all (l:List Spot) (s:Nat):(memb l s l.length).Sublist l:=by
 have:=memb_sub (l:=l) (s:=s) l.length
 rwa [List.take_length] at this
theorem sets_sub {l x:List Spot} {k:Nat} (h:x∈setsTo l k):x.Sublist l:=by
 rw [setsTo,List.mem_map] at h
 obtain ⟨s,_,rfl⟩:=h
 exact memb_all l s
theorem few_of {c:Chains} (h0:chainsE c=0) (hg:hasG c=true) (h12:¬ 12 < (allSpots c).length):fewE c=0∧(fewR c).Sublist (allSpots c)∧allT c (inS (fewR c)) 0=true∧∀ s,shorterS (memb (allSpots c) s (allSpots c).length) (fewR c)=true→allT c (inS (memb (allSpots c) s (allSpots c).length)) 0=false:=by
 have hE:fewE c=0:=by rw [fewE,if_neg (by simp [h0]),if_neg h12,if_pos hg]
 have hne:fewest c≠none:=fun h=>by rw [fewest_none (okC h0)] at h;rw [h] at hg;cases hg
 obtain ⟨r,hr⟩:=Option.ne_none_iff_exists'.1 hne
 have hR:fewR c=r:=by rw [fewR,if_pos hE,hr];rfl
 obtain ⟨a,b,d⟩:=fewest_spec hr
 rw [hR]
 refine ⟨hE,sets_sub b,a,fun s hs=>?_⟩
 have:=d _ (memb_sets (allSpots c) s)
 cases hgd:goodF c (memb (allSpots c) s (allSpots c).length) with
 | false=>exact hgd
 | true=>rw [this hgd] at hs;cases hs
end Go.Proofs
namespace Go.Ab
open Go
end Go.Ab
namespace Go.Proofs
open Go Go.Ab
end Go.Proofs
namespace Go.Proofs
open Go Go.Ab
def widen (c:Chains) (k:Nat) (x:ChLoop) (a b:Int):Chains:={ c with loops:=c.loops.set k { x with lo:=a,hi:=b } }
structure Wider (c Y:Chains) (k:Nat) (x:ChLoop) (a b:Int):Prop where
 chE:chainsE Y=0
 small:SmallC Y
 closes:∀ so g,allT c so g=true→allT Y so g=true
 spots:allSpots Y=allSpots c
 loose:looseR Y=looseR c
 lo:loopsE Y (k:Int)=0∧rLo Y k=rLo c k∧rHi Y k=rHi c k∧closesK Y k=if a≤rLo c k∧rHi c k≤b then 2 else if rHi c k < a∨b < rLo c k then 0 else 1
theorem widen_all {c:Chains} (h0:chainsE c=0) (hsm:SmallC c) {k:Nat} {x:ChLoop} (hx:c.loops[k]?=some x) {a b:Int} (ha:a≤x.lo) (hb:x.hi≤b) (ha':-8000000000≤a) (hb':b≤8000000000):Wider c (widen c k x a b) k x a b:=by
 have hOk:=okC h0
 have hkl:=lt_of_getElem? hx
 have hxm:=List.mem_of_getElem? hx
 have hlp:∀ y∈(widen c k x a b).loops,y∈c.loops∨y={ x with lo:=a,hi:=b }:=fun y hy=>(List.mem_or_eq_of_mem_set hy)
 have hck2:=(hOk.gap x hxm).2
 have hch:chainsE (widen c k x a b)=0:=by
  have h1:=h0
  rw [chainsE_zero hOk.reg] at h1
  have hr:checkR (widen c k x a b).reg=0:=hOk.reg
  rw [chainsE_zero hr]
  split at h1
  ·rename_i h
   obtain ⟨p,q,d,e⟩:=h
   rw [if_pos]
   refine ⟨p,q,?_,?_⟩
   ·show 1≤(c.loops.set k _).length∧(c.loops.set k _).length≤6
    rw [List.length_set];exact d
   ·rw [List.all_eq_true] at e ⊢
    intro y hy
    rcases hlp y hy with hy|rfl
    ·exact e y hy
    ·have h2:=e x hxm
     simp only [loopOkR,Bool.and_eq_true] at h2 ⊢
     refine ⟨⟨h2.1.1,?_⟩,h2.2⟩
     have h3:=h2.1.2
     simp only [ckL2,Bool.and_eq_true,decide_eq_true_eq] at h3 ⊢
     omega
  ·cases h1
 have hlen:(widen c k x a b).loops.length=c.loops.length:=List.length_set
 have hget:(widen c k x a b).loops[k]?=some { x with lo:=a,hi:=b }:=List.getElem?_set_self (by omega)
 have hsz:∀ y,sizesI (widen c k x a b) y=sizesI c y:=fun y=>rfl
 have hlE0:loopsE c (k:Int)=0:=by rw [loopsE,if_neg (by simp [h0]),if_pos ⟨by omega,by omega⟩]
 have hlE:loopsE (widen c k x a b) (k:Int)=0:=by rw [loopsE,if_neg (by simp [hch]),if_pos ⟨by omega,by omega⟩]
 have hLo:rLo (widen c k x a b) (k:Int)=rLo c k:=by
  rw [rLo,rLo,if_pos hlE,if_pos hlE0,loI,loI];simp [hx,hget];rfl
 have hHi:rHi (widen c k x a b) (k:Int)=rHi c k:=by
  rw [rHi,rHi,if_pos hlE,if_pos hlE0,hiI,hiI];simp [hx,hget];rfl
 refine ⟨hch,⟨hsm.1,hsm.2.1,by rw [hlen];exact hsm.2.2.1,fun y hy=>?_⟩,fun so g h=>?_,?_,rfl,hlE,hLo,hHi,?_⟩
 ·rcases hlp y hy with hy|rfl
  ·exact hsm.2.2.2 y hy
  ·exact hsm.2.2.2 x hxm
 ·rw [allT,List.all_eq_true] at h ⊢
  intro y hy
  rcases hlp y hy with hy|rfl
  ·exact h y hy
  ·have h2:=h x hxm
   simp only [closesT,Bool.and_eq_true,decide_eq_true_eq] at h2 ⊢
   have e1:loT (widen c k x a b) so g { x with lo:=a,hi:=b }=loT c so g x:=rfl
   have e2:hiT (widen c k x a b) so g { x with lo:=a,hi:=b }=hiT c so g x:=rfl
   rw [e1,e2]
   omega
 ·have hs:spotsOf (widen c k x a b)=spotsOf c:=by
   have:((c.loops.set k { x with lo:=a,hi:=b }).map fun y=>y.links.map spotOf)=c.loops.map fun y=>y.links.map spotOf:=by
    rw [List.map_set]
    exact set_self (by rw [List.getElem?_map,hx];rfl)
   rw [spotsOf,spotsOf,List.flatMap_def,List.flatMap_def]
   exact congrArg List.flatten this
  rw [allSpots,allSpots,hs];rfl
 ·rw [closesK,if_pos hlE,clK]
  simp only [Int.toNat_natCast,hget]
  rw [hLo,hHi]
theorem wider_grade {c Y:Chains} {k:Nat} {x:ChLoop} {a b:Int} (h0:chainsE c=0) (hW:Wider c Y k x a b) (hg:hasG c=true):hasG Y=true∧gradeN c≤gradeN Y:=by
 have h1:hasG Y=true:=by
  rw [hasG,hW.loose];exact hW.closes _ _ hg
 obtain ⟨g1,g2,g3,_⟩:=grade_spec (okC h0) hg
 obtain ⟨_,_,_,y4⟩:=grade_spec (okC hW.chE) h1
 refine ⟨h1,Int.not_lt.1 fun hlt=>?_⟩
 have:=y4 (gradeN c) hlt g3
 rw [hW.loose,hW.closes _ _ g1] at this
 cases this
theorem wider_few {c Y:Chains} {k:Nat} {x:ChLoop} {a b:Int} (h0:chainsE c=0) (hW:Wider c Y k x a b) (hE:fewE c=0):fewE Y=0∧(fewR Y).length≤(fewR c).length:=by
 have h12:¬ 12 < (allSpots c).length:=fun h=>by rw [fewE,if_neg (by simp [h0]),if_pos h] at hE;cases hE
 have hg:hasG c=true:=by
  rw [fewE,if_neg (by simp [h0]),if_neg h12] at hE
  split at hE
  ·assumption
  ·cases hE
 have hgY:=(wider_grade h0 hW hg).1
 obtain ⟨_,_,f3,_⟩:=few_of h0 hg h12
 have hEY:fewE Y=0:=by rw [fewE,if_neg (by simp [hW.chE]),hW.spots,if_neg h12,if_pos hgY]
 refine ⟨hEY,Nat.not_lt.1 fun hlt=>?_⟩
 have hne:fewest c≠none:=fun h=>by rw [fewest_none (okC h0)] at h;rw [h] at hg;cases hg
 have hneY:fewest Y≠none:=fun h=>by rw [fewest_none (okC hW.chE)] at h;rw [h] at hgY;cases hgY
 obtain ⟨r,hr⟩:=Option.ne_none_iff_exists'.1 hne
 obtain ⟨rY,hrY⟩:=Option.ne_none_iff_exists'.1 hneY
 have e1:fewR c=r:=by rw [fewR,if_pos hE,hr];rfl
 have e2:fewR Y=rY:=by rw [fewR,if_pos hEY,hrY];rfl
 rw [e1] at f3 hlt
 rw [e2] at hlt
 obtain ⟨_,b1,_⟩:=fewest_spec hr
 obtain ⟨_,_,y3⟩:=fewest_spec hrY
 have h1:=y3 r (by rw [hW.spots];exact b1) (hW.closes _ _ f3)
 rw [shorter_iff.2 (.inl hlt)] at h1
 cases h1
end Go.Proofs
namespace Go.Proofs
open Go Go.Ab
set_option linter.unusedSimpArgs false
variable {G:Nat→Option (List IC)}
attribute [simp] permL reO cutL cutE gones noLoop nilV nilX ZK
end Go.Proofs
namespace Go.Proofs
open Go Go.Ab
set_option linter.unusedSimpArgs false
variable {G:Nat→Option (List IC)}
attribute [simp] permL reO cutL cutE gones noLoop nilV nilX ZK
@[simp] def u16w (n:Int):DV:=.one (.im (.raw (.int .u16 n)))
end Go.Proofs
namespace Go.Proofs
open Go Go.Ab
set_option linter.unusedSimpArgs false
variable {G:Nat→Option (List IC)}
attribute [simp] permL reO cutL cutE gones noLoop nilV nilX ZK
end Go.Proofs
namespace Go.Proofs
open Go Go.Ab
set_option linter.unusedSimpArgs false
variable {G:Nat→Option (List IC)}
attribute [simp] permL reO cutL cutE gones noLoop nilV nilX ZK
def twD (m:Nat×Nat×Bool) (c:Chains):DV:=.agg [.im (.sl (c.reg.map encIssue)),.im (.sl (c.lets.map Ab.encI)),.im (rI c.of),.vec 6 m.1 0 c.loops.length]
def twO (m:Nat×Nat×Bool) (c:Chains):List DObj:=[.row ((encChains c).map .im),.vec 0 [] 0 true,.vec 0 [] 0 true,.vec 0 [] 0 true,.row [.im (.sl (c.reg.map encIssue)),.im (.sl (c.lets.map Ab.encI)),.im (rI c.of),.vec 6 m.1 0 c.loops.length],.row [.im (.sl (c.reg.map encIssue)),.im (.sl (c.lets.map Ab.encI)),.im (rI c.of),.vec 6 m.1 0 c.loops.length],.vec m.2.1 (ims (c.loops.map encLoop)) m.1 m.2.2]
def TwinQ (c:Chains) (d:DV) (o:List DObj):Prop:=∃ m:Nat×Nat×Bool,(m.2.1=3∨c.loops=[])∧d=twD m c∧o=twO m c
set_option maxHeartbeats 2000000 in
theorem twinM_q (c:Chains) (hs:SmallG c):DCall Tryz.prog G 16 [chv c] [] (TwinQ c):=by
 refine DCall_intro Tryz.func16 rfl Tryz.ntmps16 (by simp) rfl ?_
 have c1:=twin_c (G:=G) c.reg hs.1
 have hl:=hs.2.2.1
 have hl2:=hs.2.1
 have hs:True:=trivial
 repeat' first|(with_reducible first|refine q01 ?_|refine q11 ?_|refine q12 ?_|refine And.intro (by omega) ?_)|(refine QCall_pure (c1) ?_;try simp -dsimp [hs])|(refine DT_regionXn (id:=1) (nt:=43) 11 [] [0,1,2,3,4,5,6,7,8,9,10,11,12,13,14,19] [0,1,2,3,4,19] mixed rfl (by kernel_rfl) ?_;simp -dsimp [hs])|(with_reducible refine DT_regionE [0,1,2,3,4,19] ?_;simp -dsimp [hs])
 all_goals try simp -dsimp [hs]
 all_goals try clear hs
 refine DT_weak (Weak.nilCell 5 3 rfl rfl) ?_
 refine DT_loop (ι:={ p:Nat×Nat×Nat×Bool // p.1≤c.loops.length∧(p.2.2.1=3∨p.2.2.2=true∧p.1=0) }) (fun p=>⟨43,[(1,.one (.ptr 0 0)),(2,.one (.ptr 4 0)),(3,.one (.ptr 5 0)),(4,iv (p.1.1:Int))],[.row ((encChains c).map .im),.vec 0 [] 0 true,.vec 0 [] 0 true,.vec 0 [] 0 true,.row [.vec 1 0 0 0,.vec 2 0 0 0,.im (rI 0),.vec 3 0 0 0],.row [.im (.sl (c.reg.map encIssue)),.im (.sl (c.lets.map Ab.encI)),.im (rI c.of),.vec 6 p.1.2.1 0 p.1.1],.vec p.1.2.2.1 (ims ((c.loops.take p.1.1).map encLoop)) p.1.2.1 p.1.2.2.2]⟩) (fun p=>c.loops.length - p.1.1) ⟨(0,0,0,true),by simp⟩ (Weak.of_keep [1,2,3,4] (by simp [chv])) ?_
 rintro ⟨⟨k,g,sz,nl⟩,hk,hz⟩
 simp only at hk hz
 simp only [iv]
 have htk:(ims ((c.loops.map encLoop).take k)).take k=ims ((c.loops.map encLoop).take k):=List.take_of_length_le (by simp [ims_length];omega)
 by_cases hlt:k < c.loops.length
 ·have hx:c.loops[k]?=some c.loops[k]:=by simp [hlt]
  have hw:IntKind.i64.wrap ((k:Int) + 1)=((k + 1:Nat):Int):=i64w (by omega) (by omega)
  have hmin:min k c.loops.length=k:=Nat.min_eq_left (by omega)
  have hln:=hs.2.2.2 c.loops[k] (List.getElem_mem hlt)
  have hsn:(c.loops.map encLoop).take (k + 1)=(c.loops.map encLoop).take k ++ [encLoop c.loops[k]]:=by
   rw [List.take_add_one];simp [hx]
  have hz2:sz=3∨nl=true:=hz.imp id And.left
  have hs:True:=trivial
  repeat' first|(with_reducible first|refine q01 ?_|refine q04 ?_|refine q11 ?_|refine q12 ?_|refine q14 ?_|refine And.intro (by omega) ?_)|(refine DT_regionM (id:=5) (nt:=43) 18 [0,1,2,3,4,19] mixed rfl (by kernel_rfl) ?_;simp -dsimp [hx,hw,hlt,hz2,hmin,hs])|(with_reducible refine DT_regionE [0,1,2,3,4,19] ?_;simp -dsimp [hx,hw,hlt,hz2,hmin,hs])|(refine DT_cond rfl (fun h=>?_) (fun h=>?_)<;>(try simp only [nrm] at h)<;>(try exact Bool.noConfusion h))
  all_goals try simp -dsimp [hx,hw,hlt,hz2,hmin,hs]
  all_goals try clear hs
  all_goals try omega
  exact At.round ⟨(k + 1,g + 1,3,false),by simp;omega⟩ (by simp;omega) (Weak.of_drop [1,2,3,4] 7 (by simp) (by simp) (by simp [hsn,htk,ims_append]))
 ·have hkl:k=c.loops.length:=by omega
  subst hkl
  have hall:(c.loops.map encLoop).take c.loops.length=c.loops.map encLoop:=List.take_of_length_le (by simp)
  rw [hall] at htk
  have hs:True:=trivial
  repeat' first|(with_reducible first|refine q01 ?_|refine q03 ?_|refine q06 ?_|refine q11 ?_|refine q16 ?_|refine q17 ?_)|(with_reducible refine At.fn_ret (by simp -dsimp [hall,htk,hs];exact rfl) ?_)|(with_reducible refine DT_regionE [0,1,2,3,4,19] ?_;simp -dsimp [hall,htk,hs])|(refine DT_cond rfl (fun h=>?_) (fun h=>?_)<;>(try simp only [nrm] at h)<;>(try exact Bool.noConfusion h))
  all_goals try simp -dsimp [hall,htk,hs]
  all_goals try clear hs
  all_goals exact ⟨(g,sz,nl),hz.imp id fun h=>List.eq_nil_of_length_eq_zero h.2,rfl,rfl⟩
theorem twinM_c (c:Chains) (hs:SmallG c) (hne:c.loops≠[]):DCall Tryz.prog G 16 [chv c] [] (fun d o=>∃ m:Nat×Bool,True∧d=twD (m.1,3,m.2) c∧o=twO (m.1,3,m.2) c):=
 (twinM_q c hs).mono fun d o ⟨m,h1,h2,h3⟩=>by
  rcases h1 with h1|h1
  ·obtain ⟨g,sz,nl⟩:=m
   simp only at h1;subst h1
   exact ⟨(g,nl),trivial,h2,h3⟩
  ·exact absurd h1 hne
end Go.Proofs
namespace Go.Proofs
open Go Go.Ab
set_option linter.unusedSimpArgs false
variable {G:Nat→Option (List IC)}
attribute [simp] permL reO cutL cutE gones noLoop nilV nilX ZK
theorem DT_freezeN (i:Nat) {P:Program} {nt:Nat} {tmps:List (Nat×DV)} {o:DObj} {os:List DObj} {ops:Array Oper} {b:Bool} {Q:Exit→DS→Prop} (h:DT P G ⟨0,none⟩ (Code.region i ops b) (DS.drop ⟨nt,tmps,o :: os⟩ 0) Q):DT P G ⟨0,none⟩ (Code.region i ops b) ⟨nt,tmps,o :: os⟩ Q:=
 DT_weak (Weak.drop (Nat.zero_le _) (Nat.zero_le _)) h
set_option maxHeartbeats 8000000 in
set_option maxRecDepth 10000 in
theorem chainWider_c (c:Chains) (l a b:Nat) (u1 u2 u3:IC) (hG:sheetG G) (hC:chainG G) (hU:unitG G u1 u2 u3) (hSF:SortFOk G) (hSG:SortGOk G) (hk:KindOk c.reg) (hl2:l < 256) (ha6:a < 65536) (hb6:b < 65536) (objs:List DObj):DCall Tryz.prog G 9 [chv c,u8v (l:Int),u16w (a:Int),u16w (b:Int)] objs (fun rr objs'=>rr=bv true∧objs'=objs):=by
 refine DCall.frame ?_ (by simp) (by simp) objs
 refine DCall_intro Tryz.func9 rfl Tryz.ntmps9 (by simp) rfl ?_
 try simp only [chv,u8v]
 have c1:=alive_c (G:=G) u1 u2 u3 hG hC hU hSF hSG
 have c2:=ready6_c (G:=G) c hk
 simp only [u16w]
 cases hq:readyC c
 ·rw [hq] at c2
  have hs:True:=trivial
  repeat' first|(with_reducible first|refine q01 ?_|refine q02 ?_|refine q11 ?_|refine q17 ?_)|(with_reducible refine At.fn_ret (by simp -dsimp [hs];exact rfl) ?_)|(refine CallE.pure (c1) ?_;try simp -dsimp [hs])|(refine CallE.pure (c2) ?_;try simp -dsimp [hs])|(with_reducible refine DT_regionE [0,1,2,3,4,8,9,10,11,12,13,14,15,16,17,18,19,20,21,22,23,24,32,103,124] ?_;simp -dsimp [hs])|(refine DT_cond rfl (fun h=>?_) (fun h=>?_)<;>(try simp only [nrm] at h)<;>(try exact Bool.noConfusion h))
  all_goals try simp -dsimp [hs]
  all_goals try clear hs
 ·rw [hq] at c2
  have hq':=hq
  simp only [readyC,Bool.and_eq_true,decide_eq_true_eq] at hq'
  obtain ⟨hq1,hq2⟩:=hq'
  have hg:=smallB_iff.1 hq1
  have hsm:SmallC c:=⟨⟨hg.1.1,fun x hx=>⟨(hk x hx).1,(hk x hx).2,(hg.1.2 x hx).1,(hg.1.2 x hx).2⟩⟩,hg.2⟩
  have hOk:=okC hq2
  have hl6:=hOk.num
  have c3:=twinM_c (G:=G) c hg (fun h=>by rw [h] at hl6;simp at hl6)
  simp only [twD,twO,encChains,rI,List.map_cons,List.map_nil] at c3
  have hkl:l % c.loops.length < c.loops.length:=Nat.mod_lt _ (by omega)
  have hmod:(l:Int).tmod (c.loops.length:Int)=((l % c.loops.length:Nat):Int):=by rw [Int.tmod_eq_emod_of_nonneg (by omega)];omega
  have hnz:(c.loops=[])=False:=eq_false fun h=>by rw [h] at hl6;simp at hl6
  have hwl:IntKind.i64.wrap (l:Int)=(l:Int):=i64w (by omega) (by omega)
  generalize hkd:l % c.loops.length=k at *
  have hwk:IntKind.i64.wrap (k:Int)=(k:Int):=i64w (by omega) (by omega)
  obtain ⟨x,hx⟩:∃ x,c.loops[k]?=some x:=⟨c.loops[k],by simp [hkl]⟩
  have hxe:∀ h,c.loops[k]'h=x:=fun h=>by rw [List.getElem?_eq_getElem h] at hx;exact Option.some.inj hx
  have hxm:=List.mem_of_getElem? hx
  have hgap:=(hOk.gap x hxm).2
  simp only [ckL2,Bool.and_eq_true,decide_eq_true_eq] at hgap
  have v1:IntKind.i64.wrap (a:Int)=(a:Int):=i64w (by omega) (by omega)
  have v2:IntKind.i64.wrap (b:Int)=(b:Int):=i64w (by omega) (by omega)
  have v3:IntKind.i64.wrap (x.lo - (a:Int))=x.lo - (a:Int):=i64w (by omega) (by omega)
  have v4:IntKind.i64.wrap (x.hi + (b:Int))=x.hi + (b:Int):=i64w (by omega) (by omega)
  have hA1:max (x.lo - (a:Int)) (-8000000000)≤x.lo∧-8000000000≤max (x.lo - (a:Int)) (-8000000000):=by omega
  have hB1:x.hi≤min (x.hi + (b:Int)) 8000000000∧min (x.hi + (b:Int)) 8000000000≤8000000000:=by omega
  generalize hAe:max (x.lo - (a:Int)) (-8000000000)=A1 at *
  generalize hBe:min (x.hi + (b:Int)) 8000000000=B1 at *
  obtain ⟨Z,hZ⟩:∃ Z,(c.loops.map encLoop).set k [IC.sl (x.links.map encLink),.raw (.int .i64 A1),.raw (.int .i64 B1)]=Z:=⟨_,rfl⟩
  have hZl:Z.length=c.loops.length:=by rw [← hZ];simp
  have hZt:(ims Z).take c.loops.length=ims Z:=List.take_of_length_le (by rw [ims_length];omega)
  have hZ2:(ims (c.loops.map encLoop)).set k [DC.im (.sl (x.links.map encLink)),DC.im (.raw (.int .i64 A1)),DC.im (.raw (.int .i64 B1))]=ims Z:=by rw [← hZ];simp [ims,List.map_set]
  have hW:=widen_all hq2 hsm hx hA1.1 hB1.1 hA1.2 hB1.2
  have hY:(widen c k x A1 B1).loops=c.loops.set k { x with lo:=A1,hi:=B1 }∧(widen c k x A1 B1).reg=c.reg∧(widen c k x A1 B1).lets=c.lets∧(widen c k x A1 B1).of=c.of:=⟨rfl,rfl,rfl,rfl⟩
  have hlE:loopsE c (k:Int)=0:=by rw [loopsE,if_neg (by simp [hq2]),if_pos ⟨by omega,by omega⟩]
  have hcl:closesK c (k:Int)=if x.lo≤rLo c k∧rHi c k≤x.hi then 2 else if rHi c k < x.lo∨x.hi < rLo c k then 0 else 1:=by rw [closesK,if_pos hlE,clK];simp [hx]
  obtain ⟨l1,l2,l3,l4⟩:=hW.lo
  have hle:rLo c (k:Int)≤rHi c (k:Int):=reach_le hlE okC
  have c4:=pCloses_c (G:=G) c k hG hC hsm okC
  have c5:=pCloses_c (G:=G) (widen c k x A1 B1) k hG hC hW.small (fun _=>okC hW.chE)
  have c6:=pGrade_c (G:=G) c hG hC hsm
  have c7:=pGrade_c (G:=G) (widen c k x A1 B1) hG hC hW.small
  have c8:=pFewest_c (G:=G) c hG hC hsm hSF
  have c9:=pFewest_c (G:=G) (widen c k x A1 B1) hG hC hW.small hSF
  have hgr:=fun h=>wider_grade hq2 hW h
  have hfw:=fun h=>wider_few hq2 hW h
  have g1:gradeE c=if hasG c then 0 else 6:=by rw [gradeE,if_neg (by simp [hq2])]
  have g2:gradeE (widen c k x A1 B1)=if hasG (widen c k x A1 B1) then 0 else 6:=by rw [gradeE,if_neg (by simp [hW.chE])]
  have g3:gradeR c=if hasG c then gradeN c else 0:=by rw [gradeR,if_pos hq2];rfl
  have g4:gradeR (widen c k x A1 B1)=if hasG (widen c k x A1 B1) then gradeN (widen c k x A1 B1) else 0:=by rw [gradeR,if_pos hW.chE];rfl
  have hgg:(gradeE c=0∧gradeE (widen c k x A1 B1)=0∧(gradeR (widen c k x A1 B1) < gradeR c)=False)∨((gradeE c=0)=False∧True∧True):=by
   cases hh:hasG c
   ·exact .inr ⟨by rw [g1,hh];simp,trivial,trivial⟩
   ·obtain ⟨a1,a2⟩:=hgr hh
    refine .inl ⟨by rw [g1,hh];rfl,by rw [g2,a1];rfl,eq_false ?_⟩
    rw [g3,g4,hh,a1];simp;exact a2
  have hff:((fewE c=0)=False∧True∧True)∨(fewE c=0∧fewE (widen c k x A1 B1)=0∧((fewR (widen c k x A1 B1)).length:Int)≤((fewR c).length:Int)):=by
   by_cases hh:fewE c=0
   ·obtain ⟨a1,a2⟩:=hfw hh
    exact .inr ⟨hh,a1,by omega⟩
   ·exact .inl ⟨eq_false hh,trivial,trivial⟩
  rw [l1,l4] at c5
  rw [hlE,hcl] at c4
  clear hgr hfw g1 g2 g3 g4 hcl l4 hW
  obtain ⟨y1,y2,y3,y4⟩:=hY
  generalize widen c k x A1 B1=Y at *
  generalize rLo c (k:Int)=Lo at *
  generalize rHi c (k:Int)=Hi at *
  generalize gradeR c=r1 at *
  generalize gradeR Y=r2 at *
  generalize gradeE c=r3 at *
  generalize gradeE Y=r4 at *
  generalize fewR c=f1 at *
  generalize fewR Y=f2 at *
  generalize fewE c=f3 at *
  generalize fewE Y=f4 at *
  have hc5:chv Y=.agg [.im (.sl (c.reg.map encIssue)),.im (.sl (c.lets.map Ab.encI)),.im (rI c.of),.im (.sl Z)]:=by
   show DV.agg [.im (.sl (Y.reg.map encIssue)),.im (.sl (Y.lets.map Ab.encI)),.im (rI Y.of),.im (.sl (Y.loops.map encLoop))]=_
   rw [y1,y2,y3,y4,← hZ,List.map_set];rfl
  rw [hc5] at c5 c7 c9
  generalize hK1:(if x.lo≤Lo∧Hi≤x.hi then (2:Int) else if Hi < x.lo∨x.hi < Lo then 0 else 1)=K1 at *
  generalize hK2:(if A1≤Lo∧Hi≤B1 then (2:Int) else if Hi < A1∨B1 < Lo then 0 else 1)=K2 at *
  have hKK:(K1=2∧K2=2)∨(K1=1∧K2=1)∨(K1=1∧K2=2)∨(K1=0∧0≤K2):=by
   split at hK1<;>split at hK2<;>(try split at hK1)<;>(try split at hK2)<;>omega
  clear hK1 hK2
  simp only [spotsv,u8v,rI] at c4 c5 c6 c7 c8 c9
  have hs:True:=trivial
  rcases hKK with ⟨k1,k2⟩|⟨k1,k2⟩|⟨k1,k2⟩|⟨k1,k2⟩
  have hs:True:=trivial
  repeat' first|(with_reducible first|refine q01 ?_|refine q11 ?_|refine q14 ?_)|(refine CallE.pure (c1) ?_;try simp -dsimp [hwl,hmod,hnz,hwk,hx,hxe,hkl,v1,v2,v3,v4,hAe,hBe,hZ,hZ2,hZt,hZl,k1,k2,hs])|(refine CallE.pure (c2) ?_;try simp -dsimp [hwl,hmod,hnz,hwk,hx,hxe,hkl,v1,v2,v3,v4,hAe,hBe,hZ,hZ2,hZt,hZl,k1,k2,hs])|(refine CallE.embed_ex [] (c3) ?_ ?_ ?_ ?_ ?_ ?_;(focus (simp [emb];done));(focus (simp;done));(focus (simp;done));(focus (simp;done));(focus (refine emb_all ?_;simp [emb,embAll];done));intro mmA hmmA;try simp -dsimp [mergeO,emb,hwl,hmod,hnz,hwk,hx,hxe,hkl,v1,v2,v3,v4,hAe,hBe,hZ,hZ2,hZt,hZl,k1,k2,hs])|(refine DT_freezeN 8 ?_;try simp -dsimp [hwl,hmod,hnz,hwk,hx,hxe,hkl,v1,v2,v3,v4,hAe,hBe,hZ,hZ2,hZt,hZl,k1,k2,hs])|(refine CallE.pure (c4) ?_;try simp -dsimp [hwl,hmod,hnz,hwk,hx,hxe,hkl,v1,v2,v3,v4,hAe,hBe,hZ,hZ2,hZt,hZl,k1,k2,hs])|(refine CallE.pure (c5) ?_;try simp -dsimp [hwl,hmod,hnz,hwk,hx,hxe,hkl,v1,v2,v3,v4,hAe,hBe,hZ,hZ2,hZt,hZl,k1,k2,hs])|(refine DT_regionX (id:=7) (nt:=151) 20 [1,14,15,16,17] [0,1,2,3,4,8,9,10,11,12,13,14,15,16,17,18,19,20,21,22,23,24,32,47,49,50,51,52,53,54,55,56,57,58,59,60,65,66,103,124] [0,1,2,3,4,8,9,10,11,12,13,14,15,16,17,18,19,20,21,22,23,24,32,103,124] mixed rfl (by kernel_rfl) ?_;simp -dsimp [hwl,hmod,hnz,hwk,hx,hxe,hkl,v1,v2,v3,v4,hAe,hBe,hZ,hZ2,hZt,hZl,k1,k2,hs])|(with_reducible refine DT_regionE [0,1,2,3,4,8,9,10,11,12,13,14,15,16,17,18,19,20,21,22,23,24,32,103,124] ?_;simp -dsimp [hwl,hmod,hnz,hwk,hx,hxe,hkl,v1,v2,v3,v4,hAe,hBe,hZ,hZ2,hZt,hZl,k1,k2,hs])|(refine DT_cond rfl (fun h=>?_) (fun h=>?_)<;>(try simp only [nrm] at h)<;>(try exact Bool.noConfusion h))|(with_reducible refine GStop_split ?_ ?_<;>intro h<;>have h0:=h<;>(try simp only [nrm] at h)<;>(try exact Bool.noConfusion h)<;>have h2:=h<;>(try simp at h2)<;>(replace hs:=And.intro h0 (And.intro h (And.intro h2 hs)))<;>simp -dsimp [h0,h,h2,hwl,hmod,hnz,hwk,hx,hxe,hkl,v1,v2,v3,v4,hAe,hBe,hZ,hZ2,hZt,hZl,k1,k2,hs])
  all_goals try simp -dsimp [hwl,hmod,hnz,hwk,hx,hxe,hkl,v1,v2,v3,v4,hAe,hBe,hZ,hZ2,hZt,hZl,k1,k2,hs]
  all_goals try clear hs
  all_goals
   clear c1 c2 c3 c4 c5
   have hs:True:=trivial
   rcases hgg with ⟨g1,g2,g3⟩|⟨g1,g2,g3⟩<;>rcases hff with ⟨f5,f6,f7⟩|⟨f5,f6,f7⟩
   have hs:True:=trivial
   repeat' first|(with_reducible first|refine q01 ?_|refine q11 ?_|refine q14 ?_|refine q17 ?_)|(with_reducible refine At.fn_ret (by simp -dsimp [g1,g2,g3,f5,f6,f7,hs];exact rfl) ?_)|(refine CallE.pure (c6) ?_;try simp -dsimp [g1,g2,g3,f5,f6,f7,hs])|(refine CallE.pure (c7) ?_;try simp -dsimp [g1,g2,g3,f5,f6,f7,hs])|(refine CallE.pure (c8) ?_;try simp -dsimp [g1,g2,g3,f5,f6,f7,hs])|(refine CallE.pure (c9) ?_;try simp -dsimp [g1,g2,g3,f5,f6,f7,hs])|(with_reducible refine DT_regionE [0,1,2,3,4,8,9,10,11,12,13,14,15,16,17,18,19,20,21,22,23,24,32,103,124] ?_;simp -dsimp [g1,g2,g3,f5,f6,f7,hs])|(refine DT_cond rfl (fun h=>?_) (fun h=>?_)<;>(try simp only [nrm] at h)<;>(try exact Bool.noConfusion h))
   all_goals try simp -dsimp [g1,g2,g3,f5,f6,f7,hs]
   all_goals try clear hs
end Go.Proofs
