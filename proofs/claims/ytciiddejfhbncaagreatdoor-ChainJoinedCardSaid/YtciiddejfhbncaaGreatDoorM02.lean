/- Part 30 of the proofs: laws and walks that hold without conditions beyond those that each theorem names. -/
import Derived.Test.YtciiddejfhbncaaGreatDoorA26
import Derived.Test.YtciiddejfhbncaaGreatDoorA27
import Derived.Test.YtciiddejfhbncaaGreatDoorA28
set_option linter.all false
set_option linter.deprecated false
namespace Go.Proofs
open Go Go.Ab
end Go.Proofs
namespace Go.Proofs
open Go Go.Ab
theorem endsL_app:∀ (l m:List Link) (da db:List Dim) (hi:Bool),da.length=l.length→endsL (l ++ m) (da ++ db) hi=endsL l da hi ++ endsL m db hi:=fun l m da db hi h=>by
 rw [endsL,List.zip_append h.symm,List.map_append];rfl
theorem sumZ_app:∀ (l m:List Link) (s t:List Int),s.length=l.length→sumZ (l ++ m) (s ++ t)=sumZ l s + sumZ m t
 | [],m,[],t,_=>by simp [sumZ]
 | [],m,_ :: _,t,h=>by simp at h
 | x :: l,m,[],t,h=>by simp at h
 | x :: l,m,n :: s,t,h=>by
   have ih:=sumZ_app l m s t (by simpa using h)
   simp only [List.cons_append,sumZ]
   rw [ih];omega
theorem endS_app (l m:List Link) (da db:List Dim) (hi:Bool) (h:da.length=l.length):endS (l ++ m) (da ++ db) hi=endS l da hi + endS m db hi:=by
 rw [endS_sum,endS_sum,endS_sum,endsL_app _ _ _ _ _ h,sumZ_app _ _ _ _ (endsL_len _ _ _ h)]
def joinC (c:Chains) (x y:ChLoop):Chains:={ c with loops:=[{ links:=x.links ++ y.links,lo:=x.lo,hi:=x.hi }] }
theorem join_all {c:Chains} {x y:ChLoop} (h:chainsE (joinC c x y)=0) :
 loopsE (joinC c x y) 0=0∧rLo (joinC c x y) 0=endS x.links (sizesI c x) false + endS y.links (sizesI c y) false∧rHi (joinC c x y) 0=endS x.links (sizesI c x) true + endS y.links (sizesI c y) true∧worstR (joinC c x y) 0 true=endsL x.links (sizesI c x) true ++ endsL y.links (sizesI c y) true:=by
 have hE:loopsE (joinC c x y) 0=0:=by rw [loopsE,if_neg (by simp [h]),if_pos (by simp [joinC])]
 have hl:(joinC c x y).loops[(0:Int).toNat]?=some { links:=x.links ++ y.links,lo:=x.lo,hi:=x.hi }:=rfl
 have hs:sizesI (joinC c x y) { links:=x.links ++ y.links,lo:=x.lo,hi:=x.hi }=sizesI c x ++ sizesI c y:=by
  show (x.links ++ y.links).map (dimAt c)=_
  rw [List.map_append];rfl
 have h1:(sizesI c x).length=x.links.length:=by simp [sizesI]
 refine ⟨hE,?_,?_,?_⟩
 ·rw [rLo,if_pos hE,loI,hl]
  simp only [hs]
  exact endS_app _ _ _ _ _ h1
 ·rw [rHi,if_pos hE,hiI,hl]
  simp only [hs]
  exact endS_app _ _ _ _ _ h1
 ·rw [worstR,if_pos hE,lpAt,hl,Option.getD_some,hs]
  exact endsL_app _ _ _ _ _ h1
end Go.Proofs
namespace Go.Proofs
open Go Go.Ab
def pre (p:Option Issue) (x:Issue):List Int:=match p with|some y=>if y.drawing=x.drawing then [] else [x.drawing]|none=>[x.drawing]
def good (p:Option Issue) (x:Issue):Prop:=issueOk x=true∧match p with|some y=>y.drawing=x.drawing∧y.letter + 1=x.letter∧y.kind=x.kind∨y.drawing < x.drawing∧x.letter=1|none=>x.letter=1
def dd:List Issue→List Int
 | []=>[]
 | [x]=>[x.drawing]
 | x :: y :: r=>if x.drawing=y.drawing then dd (y :: r) else x.drawing :: dd (y :: r)
end Go.Proofs
namespace Go.Proofs
open Go Go.Ab
def newT (c:Chains) (f:Issue→List Dim×Int) (n:Int):Issue:=if (f (takeI c.reg c.lets n)).1=(takeI c.reg c.lets n).dims then takeI c.reg c.lets n else newI c.reg (takeI c.reg c.lets n) n (f (takeI c.reg c.lets n)).1
structure Changed (c:Chains) (f:Issue→List Dim×Int):Prop where
 reg:checkR (changedC c f).reg=0
 nums:nums (changedC c f).reg=nums c.reg
 mem:∀ x,x∈(changedC c f).reg↔x∈c.reg∨∃ n∈Go.Proofs.nums c.reg,(f (takeI c.reg c.lets n)).1≠(takeI c.reg c.lets n).dims∧x=newI c.reg (takeI c.reg c.lets n) n (f (takeI c.reg c.lets n)).1
 len:(changedC c f).reg.length=c.reg.length + ((Go.Proofs.nums c.reg).filter fun n=>decide ((f (takeI c.reg c.lets n)).1≠(takeI c.reg c.lets n).dims)).length
 letl:(changedC c f).lets.length=c.lets.length
 letAt:∀ (k:Nat) (n:Int),(Go.Proofs.nums c.reg)[k]?=some n→(changedC c f).lets[k]?=if (f (takeI c.reg c.lets n)).1=(takeI c.reg c.lets n).dims then c.lets[k]? else some ((cntN c.reg n:Int) + 1)
 lets:lettersI (changedC c f).reg (changedC c f).lets=true
 take:∀ n∈Go.Proofs.nums c.reg,takeI (changedC c f).reg (changedC c f).lets n=newT c f n
 err:∀ n∈Go.Proofs.nums c.reg,(f (takeI c.reg c.lets n)).2=0
 chE:chainsE (changedC c f)=0
 ok:OkC (changedC c f)
 small:SmallC (changedC c f)
 smallG:SmallG (changedC c f)
end Go.Proofs
namespace Go.Proofs
open Go Go.Ab
end Go.Proofs
namespace Go.Proofs
open Go Go.Ab
structure ProofOf (c:Chains) (L:Nat) (x:ChLoop) (S:List Int):Prop where
 at':c.loops[L]?=some x
 len:S.length=x.links.length
 within:∀ (k:Nat) (y:Link) (n:Int),x.links[k]?=some y→S[k]?=some n→(dimAt c y).lower≤n∧n≤(dimAt c y).upper
 near:∀ (k:Nat) (y:Link) (n:Int),x.links[k]?=some y→S[k]?=some n→spotOf y∈allSpots c→n - midD (dimAt c y)≤gradeN c + 1∧midD (dimAt c y) - n≤gradeN c + 1
 out:sumZ x.links S < x.lo∨x.hi < sumZ x.links S
end Go.Proofs
namespace Go.Ab
open Go
end Go.Ab
namespace Go.Proofs
open Go Go.Ab
end Go.Proofs
namespace Go.Ab
open Go
end Go.Ab
namespace Go.Proofs
open Go Go.Ab
end Go.Proofs
namespace Go.Proofs
open Go Go.Ab
structure Wider (c Y:Chains) (k:Nat) (x:ChLoop) (a b:Int):Prop where
 chE:chainsE Y=0
 small:SmallC Y
 closes:∀ so g,allT c so g=true→allT Y so g=true
 spots:allSpots Y=allSpots c
 loose:looseR Y=looseR c
 lo:loopsE Y (k:Int)=0∧rLo Y k=rLo c k∧rHi Y k=rHi c k∧closesK Y k=if a≤rLo c k∧rHi c k≤b then 2 else if rHi c k < a∨b < rLo c k then 0 else 1
end Go.Proofs
namespace Go.Proofs
open Go Go.Ab
set_option linter.unusedSimpArgs false
variable {G:Nat→Option (List IC)}
attribute [simp] permL reO cutL cutE gones noLoop nilV nilX ZK
end Go.Proofs
namespace Go.Proofs
open Go Go.Ab
set_option linter.unusedSimpArgs false
variable {G:Nat→Option (List IC)}
attribute [simp] permL reO cutL cutE gones noLoop nilV nilX ZK
@[simp] def u16w (n:Int):DV:=.one (.im (.raw (.int .u16 n)))
end Go.Proofs
namespace Go.Proofs
open Go Go.Ab
set_option linter.unusedSimpArgs false
variable {G:Nat→Option (List IC)}
attribute [simp] permL reO cutL cutE gones noLoop nilV nilX ZK
end Go.Proofs
namespace Go.Proofs
open Go Go.Ab
set_option linter.unusedSimpArgs false
variable {G:Nat→Option (List IC)}
attribute [simp] permL reO cutL cutE gones noLoop nilV nilX ZK
end Go.Proofs
namespace Go.Proofs
open Go Go.Ab
set_option linter.unusedSimpArgs false
variable {G:Nat→Option (List IC)}
attribute [simp] permL reO cutL cutE gones noLoop nilV nilX ZK
theorem DT_freezeN (i:Nat) {P:Program} {nt:Nat} {tmps:List (Nat×DV)} {o:DObj} {os:List DObj} {ops:Array Oper} {b:Bool} {Q:Exit→DS→Prop} (h:DT P G ⟨0,none⟩ (Code.region i ops b) (DS.drop ⟨nt,tmps,o :: os⟩ 0) Q):DT P G ⟨0,none⟩ (Code.region i ops b) ⟨nt,tmps,o :: os⟩ Q:=
 DT_weak (Weak.drop (Nat.zero_le _) (Nat.zero_le _)) h
end Go.Proofs
