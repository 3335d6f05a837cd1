/- Part 24 of the proofs: laws and walks that hold without conditions beyond those that each theorem names. -/
import Derived.Test.YtmkbmkonpglgdaaGreatDoorP11
import Derived.Test.YtmkbmkonpglgdaaGreatDoorP12
import Derived.Test.YtmkbmkonpglgdaaGreatDoorP19
import Derived.Test.YtmkbmkonpglgdaaGreatDoorP20
import Derived.Test.YtmkbmkonpglgdaaGreatDoorP23
set_option linter.all false
set_option linter.deprecated false
namespace Go.Proofs
open Go Go.Ab
set_option linter.unusedSimpArgs false
variable {G:Nat→Option (List IC)}
def SmallQ (p:Prints):Prop:=SmallN p.n∧p.holders.length≤8∧p.prints.length≤40∧∀ x∈p.holders,x.draws.length≤20
def smallQB (p:Prints):Bool:=smallNB p.n && (decide (p.holders.length≤8) && (decide (p.prints.length≤40) && p.holders.all fun x=>decide (x.draws.length≤20)))
set_option maxHeartbeats 1000000 in
theorem great7_c (p:Prints) (objs:List DObj):DCall Tryz.prog G 21 [printsv p] objs (fun rr objs'=>rr=bv (!smallQB p)∧objs'=objs):=by
 refine DCall.frame ?_ (by simp) (by simp) objs
 refine DCall_intro Tryz.func21 rfl Tryz.ntmps21 (by simp) rfl ?_
 try simp only [iv]
 have c1:=great3_c (G:=G) p.n
 have hE:smallQB p=(smallNB p.n && (decide (p.holders.length≤8) && (decide (p.prints.length≤40) && p.holders.all fun x=>decide (x.draws.length≤20)))):=rfl
 simp only [notesv,encNotes] at c1
 cases hS:smallNB p.n
 ·rw [hS,Bool.false_and] at hE
  rw [hS] at c1
  rw [hE]
  have hs:True:=trivial
  repeat' first|(with_reducible first|refine q01 ?_|refine q02 ?_|refine q11 ?_|refine q17 ?_)|(with_reducible refine At.fn_ret (by simp -dsimp [hs];exact rfl) ?_)|(refine CallE.pure (c1) ?_;try simp -dsimp [hs])|(with_reducible refine DT_regionE [0,1,2,3,18,23,33] ?_;simp -dsimp [hs])|(refine DT_cond rfl (fun h=>?_) (fun h=>?_)<;>(try simp only [nrm] at h)<;>(try exact Bool.noConfusion h))
  all_goals try simp -dsimp [hs]
  all_goals try clear hs
 ·rw [hS,Bool.true_and] at hE
  rw [hS] at c1
  by_cases h8:p.holders.length≤8
  ·have h8':¬ (8:Int) < p.holders.length:=by omega
   rw [decide_eq_true h8,Bool.true_and] at hE
   by_cases h40:p.prints.length≤40
   ·have h40':¬ (40:Int) < p.prints.length:=by omega
    rw [decide_eq_true h40,Bool.true_and] at hE
    have hs:True:=trivial
    repeat' first|(with_reducible first|refine q01 ?_|refine q11 ?_|refine q12 ?_|refine q14 ?_)|(refine CallE.pure (c1) ?_;try simp -dsimp [h8',h40',hs])|(with_reducible refine DT_regionE [0,1,2,3,18,23,33] ?_;simp -dsimp [h8',h40',hs])|(refine DT_cond rfl (fun h=>?_) (fun h=>?_)<;>(try simp only [nrm] at h)<;>(try exact Bool.noConfusion h))
    all_goals try simp -dsimp [h8',h40',hs]
    all_goals try clear hs
    refine DT_loop (ι:={ k:Nat // k≤p.holders.length∧(p.holders.all fun x=>decide (x.draws.length≤20))=(p.holders.drop k).all fun x=>decide (x.draws.length≤20) }) (fun q=>⟨34,[(1,.one (.ptr 0 0)),(3,iv (q.1:Int))],[.row ((encPrints p).map .im)]⟩) (fun q=>p.holders.length - q.1) ⟨0,by simp⟩ (Weak.of_keep [1,3] (by simp)) ?_
    rintro ⟨k,hk,hall⟩
    simp only [iv]
    by_cases hlt:k < p.holders.length
    ·have hw:IntKind.i64.wrap ((k:Int) + 1)=((k + 1:Nat):Int):=i64w (by omega) (by omega)
     have hst:=all_step hlt hall
     generalize hx:p.holders[k]=x at *
     by_cases h20:x.draws.length≤20
     ·have h20':¬ (20:Int) < x.draws.length:=by omega
      have hs:True:=trivial
      repeat' first|(with_reducible first|refine q01 ?_|refine q04 ?_|refine q11 ?_|refine q12 ?_|refine q14 ?_)|(with_reducible refine DT_regionE [0,1,2,3,18,23,33] ?_;simp -dsimp [hx,hlt,hw,h20',hs])|(refine DT_cond rfl (fun h=>?_) (fun h=>?_)<;>(try simp only [nrm] at h)<;>(try exact Bool.noConfusion h))
      all_goals try simp -dsimp [hx,hlt,hw,h20',hs]
      all_goals try clear hs
      exact At.round ⟨k + 1,by omega,eq_of_step hst (by simpa using h20)⟩ (by simp;omega) (Weak.of_keep [1,3] (by simp))
     ·have h20':(20:Int) < x.draws.length:=by omega
      have hs:True:=trivial
      repeat' first|(with_reducible first|refine q01 ?_|refine q02 ?_|refine q05 ?_|refine q11 ?_|refine q12 ?_|refine q14 ?_|refine q17 ?_)|(with_reducible refine At.fn_ret (by simp -dsimp [hx,hlt,hw,h20',hs];exact rfl) ?_)|(with_reducible refine DT_regionE [0,1,2,3,18,23,33] ?_;simp -dsimp [hx,hlt,hw,h20',hs])|(refine DT_cond rfl (fun h=>?_) (fun h=>?_)<;>(try simp only [nrm] at h)<;>(try exact Bool.noConfusion h))
      all_goals try simp -dsimp [hx,hlt,hw,h20',hs]
      all_goals try clear hs
      rw [hE,false_step hst (by simpa using h20)];try rfl
    ·have hok:(p.holders.all fun x=>decide (x.draws.length≤20))=true:=by rw [hall,List.drop_eq_nil_of_le (by omega)];rfl
     have hs:True:=trivial
     repeat' first|(with_reducible first|refine q01 ?_|refine q03 ?_|refine q06 ?_|refine q11 ?_|refine q16 ?_|refine q17 ?_)|(with_reducible refine At.fn_ret (by simp -dsimp [hlt,hs];exact rfl) ?_)|(with_reducible refine DT_regionE [0,1,2,3,18,23,33] ?_;simp -dsimp [hlt,hs])|(refine DT_cond rfl (fun h=>?_) (fun h=>?_)<;>(try simp only [nrm] at h)<;>(try exact Bool.noConfusion h))
     all_goals try simp -dsimp [hlt,hs]
     all_goals try clear hs
     rw [hE,hok];try rfl
   ·have h40':(40:Int) < p.prints.length:=by omega
    rw [decide_eq_false h40,Bool.false_and] at hE
    have hs:True:=trivial
    repeat' first|(with_reducible first|refine q01 ?_|refine q02 ?_|refine q11 ?_|refine q17 ?_)|(with_reducible refine At.fn_ret (by simp -dsimp [h8',h40',hs];exact rfl) ?_)|(refine CallE.pure (c1) ?_;try simp -dsimp [h8',h40',hs])|(with_reducible refine DT_regionE [0,1,2,3,18,23,33] ?_;simp -dsimp [h8',h40',hs])|(refine DT_cond rfl (fun h=>?_) (fun h=>?_)<;>(try simp only [nrm] at h)<;>(try exact Bool.noConfusion h))
    all_goals try simp -dsimp [h8',h40',hs]
    all_goals try clear hs
    rw [hE];try rfl
  ·have h8':(8:Int) < p.holders.length:=by omega
   rw [decide_eq_false h8,Bool.false_and] at hE
   have hs:True:=trivial
   repeat' first|(with_reducible first|refine q01 ?_|refine q02 ?_|refine q11 ?_|refine q17 ?_)|(with_reducible refine At.fn_ret (by simp -dsimp [h8',hs];exact rfl) ?_)|(refine CallE.pure (c1) ?_;try simp -dsimp [h8',hs])|(with_reducible refine DT_regionE [0,1,2,3,18,23,33] ?_;simp -dsimp [h8',hs])|(refine DT_cond rfl (fun h=>?_) (fun h=>?_)<;>(try simp only [nrm] at h)<;>(try exact Bool.noConfusion h))
   all_goals try simp -dsimp [h8',hs]
   all_goals try clear hs
   rw [hE];try rfl
set_option maxHeartbeats 1000000 in
theorem same7_c (p:Prints) (hs:SmallQ p) (objs:List DObj):DCall Tryz.prog G 36 [printsv p,printsv p] objs (fun rr objs'=>rr=bv true∧objs'=objs):=by
 refine DCall.frame ?_ (by simp) (by simp) objs
 refine DCall_intro Tryz.func36 rfl Tryz.ntmps36 (by simp) rfl ?_
 try simp only [iv]
 have c1:=same3_c (G:=G) p.n hs.1
 have hh:=hs.2.1
 have hq:=hs.2.2.1
 simp only [notesv,encNotes] at c1
 have hs:True:=trivial
 repeat' first|(with_reducible first|refine q01 ?_|refine q11 ?_|refine q12 ?_|refine q14 ?_)|(refine CallE.pure (c1) ?_;try simp -dsimp [hs])|(with_reducible refine DT_regionE [0,1,2,3,4,5,6,7,8,32,37,76,81,94] ?_;simp -dsimp [hs])|(refine DT_cond rfl (fun h=>?_) (fun h=>?_)<;>(try simp only [nrm] at h)<;>(try exact Bool.noConfusion h))
 all_goals try simp -dsimp [hs]
 all_goals try clear hs
 refine DT_loop (ι:={ k:Nat // k≤p.holders.length }) (fun q=>⟨95,[(2,.one (.ptr 0 0)),(3,.one (.ptr 1 0)),(5,iv (q.1:Int))],[.row ((encPrints p).map .im),.row ((encPrints p).map .im)]⟩) (fun q=>p.holders.length - q.1) ⟨0,by simp⟩ (Weak.of_keep [2,3,5] (by simp)) ?_
 rintro ⟨k,hk⟩
 simp only [iv]
 by_cases hlt:k < p.holders.length
 ·have hw:IntKind.i64.wrap ((k:Int) + 1)=((k + 1:Nat):Int):=i64w (by omega) (by omega)
  have hd:=hs.2.2.2 p.holders[k] (List.getElem_mem hlt)
  generalize hx:p.holders[k]=x at *
  have c2:=sameInts_c (G:=G) x.draws x.draws (by omega)
  simp only [decide_true] at c2
  have hs:True:=trivial
  repeat' first|(with_reducible first|refine q01 ?_|refine q04 ?_|refine q11 ?_|refine q12 ?_|refine q14 ?_)|(refine CallE.pure (c2) ?_;try simp -dsimp [hx,hlt,hw,hs])|(refine DT_regionX (id:=6) (nt:=95) 12 [5,6,7,8,9] [0,1,2,3,4,5,6,7,8,32,37,40,41,42,43,44,76,81,94] [0,1,2,3,4,5,6,7,8,32,37,76,81,94] mixed rfl (by kernel_rfl) ?_;simp -dsimp [hx,hlt,hw,hs])|(with_reducible refine DT_regionE [0,1,2,3,4,5,6,7,8,32,37,76,81,94] ?_;simp -dsimp [hx,hlt,hw,hs])|(refine DT_cond rfl (fun h=>?_) (fun h=>?_)<;>(try simp only [nrm] at h)<;>(try exact Bool.noConfusion h))
  all_goals try simp -dsimp [hx,hlt,hw,hs]
  all_goals try clear hs
  exact At.round ⟨k + 1,by omega⟩ (by simp;omega) (Weak.of_drop [2,3,5] 2 (by simp) (by simp) (by simp))
 have hs:True:=trivial
 repeat' first|(with_reducible first|refine q01 ?_|refine q03 ?_|refine q06 ?_|refine q11 ?_|refine q12 ?_|refine q16 ?_)|(with_reducible refine DT_regionE [0,1,2,3,4,5,6,7,8,32,37,76,81,94] ?_;simp -dsimp [hlt,hs])|(refine DT_cond rfl (fun h=>?_) (fun h=>?_)<;>(try simp only [nrm] at h)<;>(try exact Bool.noConfusion h))
 all_goals try simp -dsimp [hlt,hs]
 all_goals try clear hs
 clear hlt hk
 refine DT_loop (ι:={ k:Nat // k≤p.prints.length }) (fun q=>⟨95,[(2,.one (.ptr 0 0)),(3,.one (.ptr 1 0)),(8,iv (q.1:Int))],[.row ((encPrints p).map .im),.row ((encPrints p).map .im)]⟩) (fun q=>p.prints.length - q.1) ⟨0,by simp⟩ (Weak.of_keep [2,3,8] (by simp)) ?_
 rintro ⟨k,hk⟩
 simp only [iv]
 by_cases hlt:k < p.prints.length
 ·have hw:IntKind.i64.wrap ((k:Int) + 1)=((k + 1:Nat):Int):=i64w (by omega) (by omega)
  generalize hx:p.prints[k]=x at *
  have hs:True:=trivial
  repeat' first|(with_reducible first|refine q01 ?_|refine q04 ?_|refine q11 ?_|refine q12 ?_|refine q14 ?_)|(refine DT_regionM (id:=12) (nt:=95) 11 [0,1,2,3,4,5,6,7,8,32,37,76,81,94] mixed rfl (by kernel_rfl) ?_;simp -dsimp [hx,hlt,hw,hs])|(with_reducible refine DT_regionE [0,1,2,3,4,5,6,7,8,32,37,76,81,94] ?_;simp -dsimp [hx,hlt,hw,hs])|(refine DT_cond rfl (fun h=>?_) (fun h=>?_)<;>(try simp only [nrm] at h)<;>(try exact Bool.noConfusion h))
  all_goals try simp -dsimp [hx,hlt,hw,hs]
  all_goals try clear hs
  exact At.round ⟨k + 1,by omega⟩ (by simp;omega) (Weak.of_keep [2,3,8] (by simp))
 ·have hs:True:=trivial
  repeat' first|(with_reducible first|refine q01 ?_|refine q03 ?_|refine q06 ?_|refine q11 ?_|refine q16 ?_|refine q17 ?_)|(with_reducible refine At.fn_ret (by simp -dsimp [hlt,hs];exact rfl) ?_)|(with_reducible refine DT_regionE [0,1,2,3,4,5,6,7,8,32,37,76,81,94] ?_;simp -dsimp [hlt,hs])|(refine DT_cond rfl (fun h=>?_) (fun h=>?_)<;>(try simp only [nrm] at h)<;>(try exact Bool.noConfusion h))
  all_goals try simp -dsimp [hlt,hs]
  all_goals try clear hs
noncomputable def letOk8 (p:Prints) (d i w:Int):Prop:=∀ x∈p.prints,selB d i w x=true→(1≤x.letter∧x.letter≤8)∧(x.lost=0∨x.lost=1)
theorem letOk_of {p:Prints} (hs:SmallP p) (h0:checkR p.n.reg=0) (hp:printsB p=true) (d i w:Int):letOk8 p d i w:=fun x hx hsel=>by
 have hP:=(printsB_iff p).1 hp
 obtain ⟨k,hk⟩:=List.mem_iff_getElem?.1 hx
 have hB:=(pkB_iff p k x).1 (hP.q k x hk)
 obtain ⟨_,_,_,h3,h4,_⟩:=hB
 obtain ⟨y,hy,hxy⟩:=List.any_eq_true.1 h3
 simp only [decide_eq_true_eq] at hxy
 have hok:=(scan_all (listed_scan (check_listed h0))).2.2.2.1 y hy
 simp only [issueOk,ck1,Bool.and_eq_true,decide_eq_true_eq] at hok
 have hlo:=hs.lo x hx
 simp only [pk4,decide_eq_true_eq] at h4
 simp only [selB,outB,Bool.and_eq_true,Bool.not_eq_true',decide_eq_false_iff_not] at hsel
 omega
theorem rPWorks_c (p:Prints) (d i w:Int) (hk:KP p) (objs:List DObj):DCall Tryz.prog G 45 [printsv p,iv d,iv i,iv w] objs (fun rr objs'=>rr=.tup [isv (worksO p d i w),iv (aboutE p d 1 i w)]∧objs'=objs):=by
 refine DCall.frame ?_ (by simp) (by simp) objs
 refine DCall_intro Tryz.func45 rfl Tryz.ntmps45 (by simp) rfl ?_
 try simp only [iv,iv,iv]
 have c1:=rPAbout_c (G:=G) p d 1 i w hk
 by_cases h0:aboutE p d 1 i w=0
 ·have ha:askedPE p d 1=0:=by
   refine Classical.byContradiction fun h=>?_
   unfold aboutE at h0;rw [if_pos h] at h0;exact h h0
  have hp:printsE p=0:=by
   refine Classical.byContradiction fun h=>?_
   unfold askedPE at ha;rw [if_pos h] at ha;exact h ha
  have hn:notesE p.n=0:=by
   refine Classical.byContradiction fun h=>?_
   unfold printsE at hp;rw [if_pos h] at hp;exact h hp
  have hr0:checkR p.n.reg=0:=by
   refine Classical.byContradiction fun h=>?_
   unfold notesE at hn;rw [if_pos h] at hn;exact h hn
  have hpb:printsB p=true:=by
   refine Classical.byContradiction fun h=>?_
   unfold printsE at hp;rw [if_neg (by simp [hn]),if_neg h] at hp;exact absurd hp (by decide)
  have hl8:=letOk_of hk.p hr0 hpb d i w
  have c2:=works7_c (G:=G) p d i w hk.p hl8
  have hW:worksO p d i w=worksK d i w p.prints:=by
   unfold worksO;rw [if_pos h0]
   exact works_eq fun x hx hsel=>(hl8 x hx hsel).1
  rw [hW,h0]
  simp only [h0] at c1
  have hs:True:=trivial
  repeat' first|(with_reducible first|refine q01 ?_|refine q11 ?_|refine q14 ?_|refine q17 ?_)|(with_reducible refine At.fn_ret (by simp -dsimp [hs];exact rfl) ?_)|(refine CallE.pure (c1) ?_;try simp -dsimp [hs])|(refine CallE.pure (c2) ?_;try simp -dsimp [hs])|(with_reducible refine DT_regionE [0,1,2,3,4,8,9,10,17] ?_;simp -dsimp [hs])|(refine DT_cond rfl (fun h=>?_) (fun h=>?_)<;>(try simp only [nrm] at h)<;>(try exact Bool.noConfusion h))
  all_goals try simp -dsimp [hs]
  all_goals try clear hs
 ·have hW:worksO p d i w=[]:=by unfold worksO;rw [if_neg h0]
  rw [hW]
  have hs:True:=trivial
  repeat' first|(with_reducible first|refine q01 ?_|refine q02 ?_|refine q11 ?_|refine q17 ?_)|(with_reducible refine At.fn_ret (by simp -dsimp [h0,hs];exact rfl) ?_)|(refine CallE.pure (c1) ?_;try simp -dsimp [h0,hs])|(with_reducible refine DT_regionE [0,1,2,3,4,8,9,10,17] ?_;simp -dsimp [h0,hs])|(refine DT_cond rfl (fun h=>?_) (fun h=>?_)<;>(try simp only [nrm] at h)<;>(try exact Bool.noConfusion h))
  all_goals try simp -dsimp [h0,hs]
  all_goals try clear hs
end Go.Proofs
namespace Go.Proofs
open Go Go.Ab
set_option linter.unusedSimpArgs false
variable {G:Nat→Option (List IC)}
def zDim:Dim:=⟨0,0,0⟩
def dimAt (c:Chains) (x:Link):Dim:=((takeI c.reg c.lets x.drawing).dims[x.dim.toNat]?).getD zDim
structure OkC (c:Chains):Prop where
 reg:checkR c.reg=0
 lets:lettersI c.reg c.lets=true
 of:c.of∈nums c.reg
 num:1≤c.loops.length∧c.loops.length≤6
 gap:∀ x∈c.loops,x.links.length≤8∧ckL2 x=true
 link:∀ x∈c.loops,∀ y∈x.links,y.drawing∈nums c.reg∧0≤y.dim∧y.dim < (takeI c.reg c.lets y.drawing).dims.length
def endN (high:Bool) (x:Link) (d:Dim):Int:=if high != x.back then d.upper else d.lower
def sgn (x:Link) (n:Int):Int:=if x.back then -n else n
def endS (links:List Link) (l:List Dim) (high:Bool):Int:=(links.zip l).foldl (fun s p=>s + sgn p.1 (endN high p.1 p.2)) 0
end Go.Proofs
namespace Go.Proofs
open Go Go.Ab
set_option linter.unusedSimpArgs false
variable {G:Nat→Option (List IC)}
def u8v (n:Int):DV:=.one (.im (.raw (.int .u8 n)))
attribute [simp] u8v
end Go.Proofs
namespace Go.Proofs
open Go Go.Ab
end Go.Proofs
namespace Go.Proofs
open Go Go.Ab
set_option linter.unusedSimpArgs false
variable {G:Nat→Option (List IC)}
end Go.Proofs
namespace Go.Ab
open Go
structure Spot where
 drawing:Int
 dim:Int
 deriving DecidableEq
def encSpot (x:Spot):List IC:=[rI x.drawing,rI x.dim]
def spotsv (l:List Spot):DV:=.one (.im (.sl (l.map encSpot)))
attribute [simp] encSpot spotsv
def before (a b:Spot):Bool:=decide (a.drawing < b.drawing) || (decide (a.drawing=b.drawing) && decide (a.dim < b.dim))
def insAt (x:Spot):List Spot→Nat
 | []=>0
 | y :: r=>if before y x then insAt x r + 1 else 0
def insS (x:Spot) (l:List Spot):List Spot:=l.take (insAt x l) ++ x :: l.drop (insAt x l)
def addS (f:Spot→Bool) (out:List Spot) (x:Spot):List Spot:=if f x=false∨x∈out then out else insS x out
def allS (f:Spot→Bool) (l:List Spot):List Spot:=l.foldl (addS f) []
def kS (x:Spot):List Value:=[.int .i64 x.drawing,.int .i64 x.dim]
def encP (l:List Spot):List (List Value×List DC):=l.map fun x=>(kS x,[.im (rB true)])
def encPI (l:List Spot):List (List Value×List IC):=l.map fun x=>(kS x,[rB true])
@[simp] theorem mapO_P (k n:Nat) (objs:List DObj) (l:List Spot):mapO (fun x:List Value×List DC=>(mapO (frz (k + 1) n objs) x.2).map fun l=>(x.1,l)) (encP l)=some (encPI l):=by
 induction l with
 | nil=>rfl
 | cons p r ih =>
   have e:encP (p :: r)=(kS p,[.im (rB true)]) :: encP r:=rfl
   rw [e]
   simp [mapO,ih,encPI]
@[simp] theorem map_fz_P (n:Nat) (objs:List DObj) (l:List Spot):((encP l).map fun x=>(x.1,x.2.map (fz n objs)))=encP l:=by
 simp [encP,fz,DC.lt]
@[simp] theorem ims_getS (L:List Spot) (k:Nat) (h:k < (ims (L.map encSpot)).length):(ims (L.map encSpot))[k]=[DC.im (.raw (.int .i64 (L[k]'(by simpa [ims_length] using h)).drawing)),DC.im (.raw (.int .i64 (L[k]'(by simpa [ims_length] using h)).dim))]:=by
 simp [ims]
end Go.Ab
namespace Go.Proofs
open Go Go.Ab
def spotOf (y:Link):Spot:=⟨y.drawing,y.dim⟩
def midD (d:Dim):Int:=min (max d.nominal d.lower) d.upper
def tightD (d:Dim) (g:Int):Dim:=⟨d.nominal,max d.lower (midD d - g),min d.upper (midD d + g)⟩
def dimT (c:Chains) (so:Spot→Bool) (g:Int) (y:Link):Dim:=if so (spotOf y) then tightD (dimAt c y) g else dimAt c y
def szT (c:Chains) (so:Spot→Bool) (g:Int) (x:ChLoop):List Dim:=x.links.map (dimT c so g)
def loT (c:Chains) (so:Spot→Bool) (g:Int) (x:ChLoop):Int:=endS x.links (szT c so g x) false
def hiT (c:Chains) (so:Spot→Bool) (g:Int) (x:ChLoop):Int:=endS x.links (szT c so g x) true
def closesT (c:Chains) (so:Spot→Bool) (g:Int) (x:ChLoop):Bool:=decide (x.lo≤loT c so g x) && decide (hiT c so g x≤x.hi)
def allT (c:Chains) (so:Spot→Bool) (g:Int):Bool:=c.loops.all (closesT c so g)
def spotsOf (c:Chains):List Spot:=c.loops.flatMap fun x=>x.links.map spotOf
def looseR (c:Chains) (x:Spot):Bool:=decide ((takeI c.reg c.lets x.drawing).kind≠3)
def allSpots (c:Chains):List Spot:=allS (looseR c) (spotsOf c)
end Go.Proofs
namespace Go.Proofs
open Go Go.Ab
def gs (p:Int→Bool):Nat→Int→Int→Int
 | 0,lo,_=>lo
 | k + 1,lo,hi=>if lo < hi then (if p (hi - (hi - lo) / 2) then gs p k (hi - (hi - lo) / 2) hi else gs p k lo (hi - (hi - lo) / 2 - 1)) else lo
end Go.Proofs
namespace Go.Proofs
open Go Go.Ab
def memb (l:List Spot) (set:Nat):Nat→List Spot
 | 0=>[]
 | k + 1=>memb l set k ++ (match l[k]? with
   | some x=>if set.testBit k then [x] else []
   | none=>[])
def lexB:List Spot→List Spot→Bool
 | a :: l,b :: m=>if a=b then lexB l m else before a b
 | _,_=>false
def shorterS (a b:List Spot):Bool:=decide (a.length < b.length) || (decide (a.length=b.length) && lexB a b)
def betterS (best:Option (List Spot)) (x:List Spot):Bool:=match best with
 | none=>true
 | some b=>shorterS x b
def stepF (good:List Spot→Bool) (best:Option (List Spot)) (x:List Spot):Option (List Spot):=if betterS best x && good x then some x else best
def setsTo (all:List Spot) (k:Nat):List (List Spot):=(List.range k).map fun s=>memb all s all.length
def inS (l:List Spot):Spot→Bool:=fun x=>decide (x∈l)
def goodF (c:Chains) (x:List Spot):Bool:=allT c (inS x) 0
def fewestTo (c:Chains) (b0:Option (List Spot)) (k:Nat):Option (List Spot):=(setsTo (allSpots c) k).foldl (stepF (goodF c)) b0
def fewest (c:Chains):Option (List Spot):=fewestTo c none (2 ^ (allSpots c).length)
end Go.Proofs
namespace Go.Proofs
open Go Go.Ab
set_option linter.unusedSimpArgs false
variable {G:Nat→Option (List IC)}
def SoF (G:Nat→Option (List IC)) (c:Chains) (fv:IC) (so:Spot→Bool):Prop:=
 (∃ (f:FuncId) (caps:List IC),fv=.fn (.func f) caps∧CallOk Tryz.prog f∧∀ x∈spotsOf c,∀ objs,DCall Tryz.prog G f (refv x.drawing x.dim :: caps.map fun c=>.one (.im c)) objs (fun d o=>d=bv (so x)∧o=objs)) ∨
 (∃ (f:FuncId) (l:List IC),fv=.bf (.func f) l∧CallOk Tryz.prog f∧∀ x∈spotsOf c,∀ objs,DCall Tryz.prog G f ((l.map fun c=>DV.one (.im c)) ++ [refv x.drawing x.dim]) objs (fun d o=>d=bv (so x)∧o=objs))
end Go.Proofs
namespace Go.Proofs
open Go Go.Ab
set_option linter.unusedSimpArgs false
variable {G:Nat→Option (List IC)}
end Go.Proofs
namespace Go.Proofs
open Go Go.Ab
set_option linter.unusedSimpArgs false
variable {G:Nat→Option (List IC)}
end Go.Proofs
namespace Go.Proofs
open Go Go.Ab
set_option linter.unusedSimpArgs false
variable {G:Nat→Option (List IC)}
end Go.Proofs
namespace Go.Proofs
open Go Go.Ab
set_option linter.unusedSimpArgs false
variable {G:Nat→Option (List IC)}
attribute [simp] permL reO gones noLoop nilV nilX ZK
end Go.Proofs
namespace Go.Proofs
open Go Go.Ab
set_option linter.unusedSimpArgs false
variable {G:Nat→Option (List IC)}
theorem SoF.congr {c:Chains} {fv:IC} {so so':Spot→Bool} (h:SoF G c fv so) (he:∀ x∈spotsOf c,so x=so' x):SoF G c fv so':=by
 rcases h with ⟨f,caps,h1,h2,h3⟩|⟨f,caps,h1,h2,h3⟩
 ·exact .inl ⟨f,caps,h1,h2,fun x hx objs=>(h3 x hx objs).mono fun d o ⟨a,b⟩=>⟨by rw [a,he x hx],b⟩⟩
 ·exact .inr ⟨f,caps,h1,h2,fun x hx objs=>(h3 x hx objs).mono fun d o ⟨a,b⟩=>⟨by rw [a,he x hx],b⟩⟩
end Go.Proofs
namespace Go.Proofs
open Go Go.Ab
set_option linter.unusedSimpArgs false
variable {G:Nat→Option (List IC)}
attribute [simp] permL reO gones noLoop nilV nilX ZK
end Go.Proofs
namespace Go.Proofs
open Go Go.Ab
set_option linter.unusedSimpArgs false
variable {G:Nat→Option (List IC)}
attribute [simp] permL reO cutL cutE gones noLoop nilV nilX ZK
@[simp] theorem ims_getLp (L:List ChLoop) (k:Nat) (h:k < (ims (L.map encLoop)).length):(ims (L.map encLoop))[k]=[DC.im (.sl ((L[k]'(by simpa [ims_length] using h)).links.map encLink)),DC.im (.raw (.int .i64 (L[k]'(by simpa [ims_length] using h)).lo)),DC.im (.raw (.int .i64 (L[k]'(by simpa [ims_length] using h)).hi))]:=by
 simp [ims,encLoop,rI]
@[simp] theorem ims_getSh (L:List Issue) (k:Nat) (h:k < (ims (L.map encIssue)).length):(ims (L.map encIssue))[k]=(encIssue (L[k]'(by simpa [ims_length] using h))).map .im:=by
 simp [ims]
end Go.Proofs
namespace Go.Proofs
open Go Go.Ab
set_option linter.unusedSimpArgs false
variable {G:Nat→Option (List IC)}
def knownR (l:List Issue) (d:Int):DV:=if checkR l=0∧d∈nums l then .one (.im (bookI l (nums l))) else .one (.im (.raw (.pointer none)))
theorem knownR_im (l:List Issue) (d:Int):ImV (knownR l d):=by unfold knownR;split<;>simp [bookI]
attribute [simp] knownR_im
def knownE (l:List Issue) (d:Int):Int:=if checkR l≠0 then checkR l else if d∈nums l then 0 else 6
theorem known_c (l:List Issue) (d:Int) (hG:sheetG G) (hs:SmallR l) (objs:List DObj):DCall Tryz.prog G 47 [regv l,iv d] objs (fun rr objs'=>rr=.tup [knownR l d,iv (knownE l d)]∧objs'=objs):=by
 refine DCall.frame ?_ (by simp) (by simp) objs
 refine DCall_intro Tryz.func47 rfl Tryz.ntmps47 (by simp) rfl ?_
 try simp only [regv,iv]
 have c1:=open2_c l hG hs
 by_cases h0:checkR l=0
 ·simp only [bookR,h0,if_true] at c1
  have c2:=has_c (G:=G) l (nums l) d ((check_nums h0).1.imp fun h=>Int.le_of_lt h) (by have:=hs.1;have:=numsTo_length l l.length;unfold nums;omega)
  by_cases hm:d∈nums l
  ·simp only [hm,decide_true,bookI] at c1 c2
   have hs:True:=trivial
   repeat' first|(with_reducible first|refine q01 ?_|refine q11 ?_|refine q14 ?_|refine q17 ?_)|(with_reducible refine At.fn_ret (by simp -dsimp [hs];exact rfl) ?_)|(refine CallE.pure (c1) ?_;try simp -dsimp [hs])|(refine CallE.pure (c2) ?_;try simp -dsimp [hs])|(with_reducible refine DT_regionE [0,1,2,4,5,6,7,14,19] ?_;simp -dsimp [hs])|(refine DT_cond rfl (fun h=>?_) (fun h=>?_)<;>(try simp only [nrm] at h)<;>(try exact Bool.noConfusion h))
   all_goals try simp -dsimp [hs]
   all_goals try clear hs
   all_goals simp [knownR,knownE,h0,hm,bookI]
  ·simp only [hm,decide_false,bookI] at c1 c2
   have hs:True:=trivial
   repeat' first|(with_reducible first|refine q01 ?_|refine q02 ?_|refine q11 ?_|refine q14 ?_|refine q17 ?_)|(with_reducible refine At.fn_ret (by simp -dsimp [hs];exact rfl) ?_)|(refine CallE.pure (c1) ?_;try simp -dsimp [hs])|(refine CallE.pure (c2) ?_;try simp -dsimp [hs])|(with_reducible refine DT_regionE [0,1,2,4,5,6,7,14,19] ?_;simp -dsimp [hs])|(refine DT_cond rfl (fun h=>?_) (fun h=>?_)<;>(try simp only [nrm] at h)<;>(try exact Bool.noConfusion h))
   all_goals try simp -dsimp [hs]
   all_goals try clear hs
   all_goals simp [knownR,knownE,h0,hm,bookI]
 ·simp only [bookR,h0,if_false] at c1
  have hs:True:=trivial
  repeat' first|(with_reducible first|refine q01 ?_|refine q02 ?_|refine q11 ?_|refine q17 ?_)|(with_reducible refine At.fn_ret (by simp -dsimp [h0,hs];exact rfl) ?_)|(refine CallE.pure (c1) ?_;try simp -dsimp [h0,hs])|(with_reducible refine DT_regionE [0,1,2,4,5,6,7,14,19] ?_;simp -dsimp [h0,hs])|(refine DT_cond rfl (fun h=>?_) (fun h=>?_)<;>(try simp only [nrm] at h)<;>(try exact Bool.noConfusion h))
  all_goals try simp -dsimp [h0,hs]
  all_goals try clear hs
  all_goals simp [knownR,knownE,h0]
def cntN (l:List Issue) (d:Int):Nat:=(l.filter fun x=>decide (x.drawing=d)).length
theorem seg_cnt {l:List Issue} {d:Int} (hs:(l.map (·.drawing)).Pairwise (·≤·)):cntN l d=cntN (l.drop (lb (l.map (·.drawing)) d)) d:=by
 conv=>lhs;rw [← List.take_append_drop (lb (l.map (·.drawing)) d) l]
 simp only [cntN,List.filter_append]
 rw [List.filter_eq_nil_iff.2 fun x hx=>?_]
 ·rfl
 ·have:=seg_lt hs x hx
  simp;omega
theorem lastB_c (l:List Issue) (ds:List Int) (d:Int) (hs:(l.map (·.drawing)).Pairwise (·≤·)) (hl:l.length < 1000000) (objs:List DObj):DCall Tryz.prog G 48 [.one (.im (bookI l ds)),iv d] objs (fun rr objs'=>rr=iv (cntN l d:Int)∧objs'=objs):=by
 refine DCall.frame ?_ (by simp) (by simp) objs
 refine DCall_intro Tryz.func48 rfl Tryz.ntmps48 (by simp) rfl ?_
 try simp only [iv]
 simp only [bookI]
 have c1:=issues_c (G:=G) (bookI l ds) d
 simp only [bookI] at c1
 have hs:True:=trivial
 repeat' first|(with_reducible first|refine q01 ?_|refine q11 ?_|refine q12 ?_)|(refine CallE.pure (c1) ?_;try simp -dsimp [hs])|(with_reducible refine DT_regionE [0,1,4,5,8] ?_;simp -dsimp [hs])
 all_goals try simp -dsimp [hs]
 all_goals try clear hs
 refine DT_rangeFunc (f:=106) (by simp;exact rfl) (by rfl) Tryz.call106 ?_
 generalize hR:LoopD.mk _ _ _ _ _ _ _=R
 have hR1:R.st=.ready:=by rw [← hR]
 have hR2:R.pend=none:=by rw [← hR]
 have hR3:R.at .ready none=R:=by rw [← hR];rfl
 have hR4:=(congrArg LoopD.nt hR).symm
 have hR5:=(congrArg LoopD.tm hR).symm
 have hR6:=(congrArg LoopD.ps hR).symm
 have hR7:=(congrArg LoopD.asg hR).symm
 have hR8:=(congrArg LoopD.body hR).symm
 dsimp only at hR4 hR5 hR6 hR7 hR8
 clear hR
 refine DCall_intro Tryz.func106 rfl Tryz.ntmps106 (by simp) rfl ?_
 have hR9:∀ objs:List DObj,(R.tm.map fun x=>(x.1,fzV 2 objs x.2))=R.tm:=by intro objs;rw [hR5];simp
 have hlb:=lb_le (l.map (·.drawing)) d
 rw [List.length_map] at hlb
 have c2:=bsearchI_c (G:=G) l d hs hl
 have hs:True:=trivial
 repeat' first|(with_reducible first|refine q01 ?_|refine q11 ?_|refine q12 ?_)|(refine QCall_pure (c2) ?_;try simp -dsimp [hR1,hR2,hR3,hlb,hs])|(refine DT_regionM (id:=0) (nt:=41) 12 [0,1,2,4,7,24,25,26,27,39] mixed rfl (by kernel_rfl) ?_;simp -dsimp [hR1,hR2,hR3,hlb,hs])|(with_reducible refine DT_regionE [0,1,2,4,5,7,8,24,25,26,27,39] ?_;simp -dsimp [hR1,hR2,hR3,hlb,hs])
 all_goals try simp -dsimp [hR1,hR2,hR3,hlb,hs]
 all_goals try clear hs
 rw [← List.map_drop]
 have hge:=seg_ge (d:=d) hs
 have hss:((l.drop (lb (l.map (·.drawing)) d)).map (·.drawing)).Pairwise (·≤·):=by rw [List.map_drop];exact hs.drop
 have hsl:l.length - lb (l.map (·.drawing)) d=(l.drop (lb (l.map (·.drawing)) d)).length:=by simp
 rw [hsl]
 have hsl2:(l.drop (lb (l.map (·.drawing)) d)).length < 1000000:=by simp;omega
 rw [seg_cnt hs]
 generalize l.drop (lb (l.map (·.drawing)) d)=s at hge hss hsl2 ⊢
 refine DT_loop (ι:={ k:Nat // k≤s.length∧k + cntN (s.drop k) d=cntN s d }) (fun p=>⟨41,[(0,.one (.yld 1)),(2,.one (.im (.ip [rI d]))),(24,.one (.im (.sl (s.map encIssue)))),(25,iv (s.length:Int)),(26,iv (p.1:Int))],[.row [.im (rI (p.1:Int))],.loop R]⟩) (fun p=>s.length - p.1) ⟨0,by simp⟩ (Weak.of_keep [0,2,24,25,26] (by simp)) ?_
 rintro ⟨k,hk,hno⟩
 simp only [iv]
 by_cases hlt:k < s.length
 ·have hx:s[k]?=some s[k]:=by simp [hlt]
  have hw:IntKind.i64.wrap ((k:Int) + 1)=((k + 1:Nat):Int):=i64w (by omega) (by omega)
  have hcons:s.drop k=s[k] :: s.drop (k + 1):=List.drop_eq_getElem_cons hlt
  by_cases hd:s[k].drawing=d
  ·have hno':k + 1 + cntN (s.drop (k + 1)) d=cntN s d:=by
    rw [← hno,cntN,cntN,hcons,List.filter_cons_of_pos (by simp [hd]),List.length_cons];omega
   have hs:True:=trivial
   repeat' first|(with_reducible first|refine q01 ?_|refine q04 ?_|refine q11 ?_|refine q12 ?_|refine q14 ?_)|(with_reducible refine At.yield_end ?_;simp -dsimp [hR1,hR2,hR3,hx,hw,hd,hlt,hs])|(refine At_busy ?_ ?_<;>simp -dsimp [hR1,hR2,hR3,hx,hw,hd,hlt,hs])|(refine YieldE_go ?_;simp -dsimp [YieldR,hR4,hR5,hR6,hR7,hR8,hR1,hR2,hR3,hx,hw,hd,hlt,hs])|(with_reducible refine DT_regionE [0,1,2,4,5,7,8,24,25,26,27,39] ?_;simp -dsimp [hR1,hR2,hR3,hx,hw,hd,hlt,hs])|(refine DT_cond rfl (fun h=>?_) (fun h=>?_)<;>(try simp only [nrm] at h)<;>(try exact Bool.noConfusion h))
   all_goals try simp -dsimp [hR1,hR2,hR3,hx,hw,hd,hlt,hs]
   all_goals try clear hs
   all_goals exact At.round ⟨k + 1,by omega,hno'⟩ (by simp;omega) (Weak.of_drop [0,2,24,25,26] 2 (by simp) (by simp) (by simp [hR9]))
  ·have hnone:cntN (s.drop k) d=0:=by
    simp only [cntN,List.length_eq_zero_iff,List.filter_eq_nil_iff]
    intro x hxm
    obtain ⟨i,hi⟩:=List.mem_iff_getElem?.1 hxm
    rw [List.getElem?_drop] at hi
    have h1:s[k].drawing≤x.drawing:=by
     rcases Nat.eq_zero_or_pos i with rfl|hp
     ·rw [Nat.add_zero,hx] at hi;cases hi;exact Int.le_refl _
     ·have hlt2:=(List.getElem?_eq_some_iff.1 hi).1
      have:=(List.pairwise_iff_getElem.1 hss) k (k + i) (by simpa using hlt) (by simpa using hlt2) (by omega)
      have h6:=(List.getElem?_eq_some_iff.1 hi).2
      simp at this;rw [h6] at this;exact this
    have h2:=hge s[k] (List.getElem_mem hlt)
    simp;omega
   have hN:cntN s d=k:=by omega
   have hs:True:=trivial
   repeat' first|(with_reducible first|refine q01 ?_|refine q02 ?_|refine q04 ?_|refine q05 ?_|refine q11 ?_|refine q12 ?_|refine q14 ?_|refine q17 ?_)|(with_reducible refine At.fn_ret (by simp -dsimp [hR1,hR2,hR3,hx,hw,hd,hlt,hs];exact rfl) ?_)|(with_reducible show LoopR _ _ _ _ _ _ _ _;simp -dsimp [LoopR,hR1,hR2,hR3,hx,hw,hd,hlt,hs])|(with_reducible refine DT_regionE [0,1,2,4,5,7,8,24,25,26,27,39] ?_;simp -dsimp [hR1,hR2,hR3,hx,hw,hd,hlt,hs])|(refine DT_cond rfl (fun h=>?_) (fun h=>?_)<;>(try simp only [nrm] at h)<;>(try exact Bool.noConfusion h))
   all_goals try simp -dsimp [hR1,hR2,hR3,hx,hw,hd,hlt,hs]
   all_goals try clear hs
   all_goals simp [hN]
 ·have hN:cntN s d=k:=by rw [← hno,List.drop_eq_nil_of_le (by omega)];simp [cntN]
  have hs:True:=trivial
  repeat' first|(with_reducible first|refine q01 ?_|refine q03 ?_|refine q04 ?_|refine q06 ?_|refine q11 ?_|refine q16 ?_|refine q17 ?_)|(with_reducible refine At.fn_ret (by simp -dsimp [hR1,hR2,hR3,hlt,hs];exact rfl) ?_)|(with_reducible refine At.fn_end (by simp -dsimp [hR1,hR2,hR3,hlt,hs];exact rfl) ?_)|(with_reducible show LoopR _ _ _ _ _ _ _ _;simp -dsimp [LoopR,hR1,hR2,hR3,hlt,hs])|(with_reducible refine DT_regionE [0,1,2,4,5,7,8,24,25,26,27,39] ?_;simp -dsimp [hR1,hR2,hR3,hlt,hs])|(refine DT_cond rfl (fun h=>?_) (fun h=>?_)<;>(try simp only [nrm] at h)<;>(try exact Bool.noConfusion h))
  all_goals try simp -dsimp [hR1,hR2,hR3,hlt,hs]
  all_goals try clear hs
  all_goals simp [hN]
def lastR (l:List Issue) (d:Int):Int:=if knownE l d=0 then (cntN l d:Int) else 0
theorem pLast_c (l:List Issue) (d:Int) (hG:sheetG G) (hs:SmallR l) (objs:List DObj):DCall Tryz.prog G 30 [regv l,iv d] objs (fun rr objs'=>rr=.tup [iv (lastR l d),iv (knownE l d)]∧objs'=objs):=by
 refine DCall.frame ?_ (by simp) (by simp) objs
 refine DCall_intro Tryz.func30 rfl Tryz.ntmps30 (by simp) rfl ?_
 try simp only [regv,iv]
 have c1:=known_c (G:=G) l d hG hs
 by_cases h0:knownE l d=0
 ·have hk:checkR l=0∧d∈nums l:=by
   unfold knownE at h0
   by_cases h1:checkR l=0
   ·refine ⟨h1,?_⟩
    rw [if_neg (by simp [h1])] at h0
    by_cases h2:d∈nums l
    ·exact h2
    ·rw [if_neg h2] at h0;cases h0
   ·rw [if_pos h1] at h0;exact absurd h0 h1
  have c2:=lastB_c (G:=G) l (nums l) d (check_sorted hk.1) (by have:=hs.1;omega)
  rw [knownR,if_pos hk,h0] at c1
  rw [lastR,if_pos h0,h0]
  simp only [bookI] at c1 c2
  have hs:True:=trivial
  repeat' first|(with_reducible first|refine q01 ?_|refine q11 ?_|refine q14 ?_|refine q17 ?_)|(with_reducible refine At.fn_ret (by simp -dsimp [hs];exact rfl) ?_)|(refine CallE.pure (c1) ?_;try simp -dsimp [hs])|(refine CallE.pure (c2) ?_;try simp -dsimp [hs])|(with_reducible refine DT_regionE [0,1,2,4,5,6,7,15] ?_;simp -dsimp [hs])|(refine DT_cond rfl (fun h=>?_) (fun h=>?_)<;>(try simp only [nrm] at h)<;>(try exact Bool.noConfusion h))
  all_goals try simp -dsimp [hs]
  all_goals try clear hs
 ·rw [lastR,if_neg h0]
  generalize hX:knownR l d=X at c1
  have hXo:∃ x,X=.one (.im x):=by subst hX;unfold knownR;split<;>exact ⟨_,rfl⟩
  obtain ⟨x,rfl⟩:=hXo
  generalize knownE l d=e at *
  have hs:True:=trivial
  repeat' first|(with_reducible first|refine q01 ?_|refine q02 ?_|refine q11 ?_|refine q17 ?_)|(with_reducible refine At.fn_ret (by simp -dsimp [h0,hs];exact rfl) ?_)|(refine CallE.pure (c1) ?_;try simp -dsimp [h0,hs])|(with_reducible refine DT_regionE [0,1,2,4,5,6,7,15] ?_;simp -dsimp [h0,hs])|(refine DT_cond rfl (fun h=>?_) (fun h=>?_)<;>(try simp only [nrm] at h)<;>(try exact Bool.noConfusion h))
  all_goals try simp -dsimp [h0,hs]
  all_goals try clear hs
end Go.Proofs
namespace Go.Ab
open Go
structure Piece where
 holder:Int
 day:Int
 lo:Int
 hi:Int
 deriving DecidableEq
structure Case where
 p:Prints
 machine:Int
 of:Int
 loop:ChLoop
 pieces:List Piece
 deriving DecidableEq
def encPiece (x:Piece):List IC:=[rI x.holder,rI x.day,rI x.lo,rI x.hi]
def encCase (c:Case):List IC:=[.sl (c.p.n.reg.map encIssue),.sl (c.p.n.notes.map encNote),.sl (c.p.holders.map encHolder),.sl (c.p.prints.map encPrint),rI c.machine,rI c.of,.sl (c.loop.links.map encLink),rI c.loop.lo,rI c.loop.hi,.sl (c.pieces.map encPiece)]
def piecev (x:Piece):DV:=.agg ((encPiece x).map .im)
def casev (c:Case):DV:=.agg ((encCase c).map .im)
attribute [simp] encPiece encCase piecev casev
end Go.Ab
namespace Go.Proofs
open Go Go.Ab
set_option linter.unusedSimpArgs false
variable {G:Nat→Option (List IC)}
theorem in1_blame (x lo hi:Int):DCall Tryz.prog G 43 (iv x :: [DC.ptr 0 0,DC.ptr 1 0].map .one) [.row [.im (rI lo)],.row [.im (rI hi)]] (fun d o=>d=bv (decide (x < lo) || decide (hi < x))∧o=[.row [.im (rI lo)],.row [.im (rI hi)]]):=by
 refine DCall_intro Tryz.func43 rfl Tryz.ntmps43 (by simp) rfl ?_
 simp only [rI]
 have hs:True:=trivial
 repeat' first|(with_reducible first|refine q01 ?_|refine q11 ?_|refine q17 ?_)|(with_reducible refine At.fn_ret (by simp -dsimp [hs];exact rfl) ?_)|(with_reducible refine DT_regionE [0,1,2,4] ?_;simp -dsimp [hs])|(with_reducible refine GStop_split ?_ ?_<;>intro h<;>have h0:=h<;>(try simp only [nrm] at h)<;>(try exact Bool.noConfusion h)<;>have h2:=h<;>(try simp at h2)<;>(replace hs:=And.intro h0 (And.intro h (And.intro h2 hs)))<;>simp -dsimp [h0,h,h2,hs])|with_reducible refine And.intro ?_ ?_
 all_goals try simp -dsimp [hs]
 all_goals try clear hs
 all_goals simp [*]
theorem in_blame (lo hi:Int) (l:List Int) (hl:l.length < 1000000) (objs:List DObj):DCall Tryz.prog G 25 [iv lo,iv hi,isv l] objs (fun rr objs'=>rr=bv (l.all fun x=>decide (lo≤x) && decide (x≤hi))∧objs'=objs):=by
 refine DCall.frame ?_ (by simp) (by simp) objs
 refine DCall_intro Tryz.func25 rfl Tryz.ntmps25 (by simp) rfl ?_
 try simp only [iv,iv,isv]
 have hc:=containsFunc_int (G:=G) l (fun x=>decide (x < lo) || decide (hi < x)) 43 [.ptr 0 0,.ptr 1 0] [.row [.im (rI lo)],.row [.im (rI hi)]] (by simp) (fun x _=>in1_blame x lo hi) hl
 simp only [rI] at hc
 have hs:True:=trivial
 repeat' first|(with_reducible first|refine q01 ?_|refine q11 ?_|refine q17 ?_)|(with_reducible refine At.fn_ret (by simp -dsimp [hs];exact rfl) ?_)|(refine CallE.here hc ?_;try simp -dsimp [hs])|(with_reducible refine DT_regionE [0,1,2,3,4,6] ?_;simp -dsimp [hs])
 all_goals try simp -dsimp [hs]
 all_goals try clear hs
 rw [Bool.eq_iff_iff];simp
 exact exists_congr fun x=>and_congr_right fun _=>by omega
def insB (lo hi a b:Int):Bool:=decide (a≤lo∧lo≤b∧a≤hi∧hi≤b∧lo≤hi)
theorem inside_c (lo hi a b:Int) (objs:List DObj):DCall Tryz.prog G 24 [refv lo hi,iv a,iv b] objs (fun rr objs'=>rr=bv (insB lo hi a b)∧objs'=objs):=by
 refine DCall.frame ?_ (by simp) (by simp) objs
 refine DCall_intro Tryz.func24 rfl Tryz.ntmps24 (by simp) rfl ?_
 try simp only [refv,iv,iv]
 have c1:=in_blame (G:=G) a b [lo,hi] (by simp)
 generalize hb:([lo,hi].all fun y=>decide (a≤y) && decide (y≤b))=q at c1
 cases q
 ·have hs:True:=trivial
  repeat' first|(with_reducible first|refine q01 ?_|refine q11 ?_|refine q17 ?_)|(with_reducible refine At.fn_ret (by simp -dsimp [hs];exact rfl) ?_)|(refine CallE.thaw (c1) ?_ ?_ ?_;(focus (simp;done));(focus (simp;done));try simp -dsimp [hs])|(with_reducible refine DT_regionE [0,1,2,3,6] ?_;simp -dsimp [hs])
  all_goals try simp -dsimp [hs]
  all_goals try clear hs
  all_goals simp at hb
  all_goals simp [insB]
  all_goals omega
 ·simp at hb
  have hs:True:=trivial
  repeat' first|(with_reducible first|refine q01 ?_|refine q11 ?_|refine q17 ?_)|(with_reducible refine At.fn_ret (by simp -dsimp [hs];exact rfl) ?_)|(refine CallE.thaw (c1) ?_ ?_ ?_;(focus (simp;done));(focus (simp;done));try simp -dsimp [hs])|(with_reducible refine DT_regionE [0,1,2,3,6] ?_;simp -dsimp [hs])
  all_goals try simp -dsimp [hs]
  all_goals try clear hs
  all_goals simp [insB]
  all_goals first|omega|(rw [Bool.eq_iff_iff];simp;omega)
end Go.Proofs
namespace Go.Proofs
open Go Go.Ab
set_option linter.unusedSimpArgs false
variable {G:Nat→Option (List IC)}
def linkOk (c:Case) (l:Link) (x:Piece):Bool:=(match findI c.p.n.reg l.drawing 1 with|some y=>!decide (y.kind=1)|none=>false) && (decide (0≤l.dim∧l.dim≤3) && ((c.p.holders.any fun y=>decide (y.id=x.holder)) && (decide (0≤x.day∧x.day≤14610) && insB x.lo x.hi 0 1000000000)))
def caseB (c:Case):Bool:=decide (c.of∈nums c.p.n.reg) && (decide (1≤c.machine∧c.machine≤999) && (decide (1≤c.loop.links.length∧c.loop.links.length≤8) && (decide (c.pieces.length=c.loop.links.length) && (insB c.loop.lo c.loop.hi (-8000000000) 8000000000 && (c.loop.links.zip c.pieces).all fun q=>linkOk c q.1 q.2))))
noncomputable def caseE (c:Case):Int:=if printsE c.p≠0 then printsE c.p else if caseB c=true then 0 else 100
structure KC (c:Case):Prop where
 p:KP c.p
 l:c.loop.links.length≤16
 q:c.pieces.length≤16
end Go.Proofs
namespace Go.Proofs
open Go Go.Ab
set_option linter.unusedSimpArgs false
variable {G:Nat→Option (List IC)}
theorem caseE_yes {c:Case} (h:caseE c=0):printsE c.p=0∧caseB c=true:=by
 unfold caseE at h
 by_cases h0:printsE c.p=0
 ·rw [if_neg (by simp [h0])] at h
  refine ⟨h0,?_⟩
  by_cases h1:caseB c=true
  ·exact h1
  ·rw [if_neg h1] at h;exact absurd h (by decide)
 ·rw [if_pos h0] at h;exact absurd h h0
theorem printsE_yes {p:Prints} (h:printsE p=0):notesE p.n=0∧printsB p=true∧checkR p.n.reg=0:=by
 have hn:notesE p.n=0:=by
  refine Classical.byContradiction fun h1=>?_
  unfold printsE at h;rw [if_pos h1] at h;exact h1 h
 refine ⟨hn,?_,?_⟩
 ·refine Classical.byContradiction fun h1=>?_
  unfold printsE at h;rw [if_neg (by simp [hn]),if_neg h1] at h;exact absurd h (by decide)
 ·refine Classical.byContradiction fun h1=>?_
  unfold notesE at hn;rw [if_pos h1] at hn;exact h1 hn
def case5 (c:Case):Bool:=decide (c.of∈nums c.p.n.reg) && (decide (1≤c.machine∧c.machine≤999) && (decide (1≤c.loop.links.length∧c.loop.links.length≤8) && (decide (c.pieces.length=c.loop.links.length) && insB c.loop.lo c.loop.hi (-8000000000) 8000000000)))
theorem caseB_eq (c:Case):caseB c=(case5 c && (c.loop.links.zip c.pieces).all fun q=>linkOk c q.1 q.2):=by
 simp only [caseB,case5,Bool.and_assoc]
theorem zip_all_step {α β:Type} {f:α×β→Bool} {l:List α} {m:List β} {k:Nat} (h1:k < l.length) (h2:k < m.length) (hno:(l.zip m).all f=((l.zip m).drop k).all f):(l.zip m).all f=true↔f (l[k],m[k])=true∧((l.zip m).drop (k + 1)).all f=true:=by
 have h3:k < (l.zip m).length:=by rw [List.length_zip];omega
 have:=all_step h3 hno
 rw [List.getElem_zip] at this
 exact this
theorem bCheck1_c (x:Piece) (y:Holder):DCall Tryz.prog G 33 (holdv y :: [DC.ptr 0 0].map .one) [.row ((encPiece x).map .im)] (fun d o=>d=bv (decide (y.id=x.holder))∧o=[.row ((encPiece x).map .im)]):=by
 refine DCall.drop ?_
 refine DCall_intro Tryz.func33 rfl Tryz.ntmps33 (by simp) rfl ?_
 simp only [holdv,encHolder,encPiece,rI]
 have hs:True:=trivial
 repeat' first|(with_reducible first|refine q01 ?_|refine q11 ?_|refine q17 ?_)|(with_reducible refine At.fn_ret (by simp -dsimp [hs];exact rfl) ?_)|(with_reducible refine DT_regionE [0,1,2,3] ?_;simp -dsimp [hs])|with_reducible refine And.intro ?_ ?_
 all_goals try simp -dsimp [hs]
 all_goals try clear hs
theorem linkOk_eq {c:Case} (h0:checkR c.p.n.reg=0) (l:Link) (x:Piece):linkOk c l x=true↔atE c.p.n.reg l.drawing 1=0∧¬ (atR c.p.n.reg l.drawing 1).kind=1∧([l.dim].all fun y=>decide (0≤y) && decide (y≤3))=true∧(c.p.holders.any fun y=>decide (y.id=x.holder))=true∧([x.day].all fun y=>decide (0≤y) && decide (y≤14610))=true∧insB x.lo x.hi 0 1000000000=true:=by
 unfold linkOk atE atR
 rw [if_neg (by simp [h0]),if_pos h0]
 cases findI c.p.n.reg l.drawing 1 with
 | none=>simp
 | some y=>simp [and_assoc]
set_option maxHeartbeats 4000000 in
theorem bCheck_c (c:Case) (hG:sheetG G) (hN:noteG G) (hS:SortOk G) (hR:recallG G) (hk:KC c) (objs:List DObj):DCall Tryz.prog G 13 [casev c] objs (fun rr objs'=>rr=iv (caseE c)∧objs'=objs):=by
 refine DCall.frame ?_ (by simp) (by simp) objs
 refine DCall_intro Tryz.func13 rfl Tryz.ntmps13 (by simp) rfl ?_
 try simp only [iv]
 have hl:=hk.l
 have hq:=hk.q
 have hhl:=hk.p.p.h
 have c1:=rCheck_c (G:=G) c.p hG hN hS hR hk.p
 simp only [printsv,encPrints] at c1
 by_cases h0:printsE c.p=0
 ·obtain ⟨hn0,hpb,hr0⟩:=printsE_yes h0
  rw [h0] at c1
  have hE:caseE c=if caseB c=true then 0 else 100:=by unfold caseE;rw [if_neg (by simp [h0])]
  have c2:=pLast_c (G:=G) c.p.n.reg c.of hG hk.p.n.1
  have hLE:knownE c.p.n.reg c.of=if c.of∈nums c.p.n.reg then 0 else 6:=by unfold knownE;rw [if_neg (by simp [hr0])]
  rw [hLE] at c2
  have c3:=in_blame (G:=G) 1 999 [c.machine] (by simp)
  have c4:=in_blame (G:=G) 1 8 [(c.loop.links.length:Int)] (by simp)
  have c5:=inside_c (G:=G) c.loop.lo c.loop.hi (-8000000000) 8000000000
  simp only [regv,refv] at c2 c5
  cases h5:case5 c
  ·have hB:caseB c=false:=by rw [caseB_eq,h5,Bool.false_and]
   rw [hE,hB]
   simp only [case5] at h5
   generalize hb3:([c.machine].all fun y=>decide (1≤y) && decide (y≤999))=b3 at c3
   generalize hb4:([(c.loop.links.length:Int)].all fun y=>decide (1≤y) && decide (y≤8))=b4 at c4
   generalize hb5:insB c.loop.lo c.loop.hi (-8000000000) 8000000000=b5 at c5 h5
   have hs:True:=trivial
   by_cases hm:c.of∈nums c.p.n.reg
   ·rw [if_pos hm] at c2
    by_cases hlen:c.pieces.length=c.loop.links.length
    ·cases b3<;>cases b4<;>cases b5
     all_goals
      have hs:True:=trivial
      repeat' first|(with_reducible first|refine q01 ?_|refine q02 ?_|refine q09 ?_|refine q11 ?_|refine q12 ?_|refine q13 ?_|refine q14 ?_|refine q15 ?_|refine q17 ?_)|(with_reducible refine At.fn_ret (by simp -dsimp [hlen,hs];exact rfl) ?_)|(refine CallE.pure (c1) ?_;try simp -dsimp [hlen,hs])|(refine CallE.pure (c2) ?_;try simp -dsimp [hlen,hs])|(refine CallE.thaw (c3) ?_ ?_ ?_;(focus (simp;done));(focus (simp;done));try simp -dsimp [hlen,hs])|(refine CallE.thaw (c4) ?_ ?_ ?_;(focus (simp;done));(focus (simp;done));try simp -dsimp [hlen,hs])|(refine CallE.pure (c5) ?_;try simp -dsimp [hlen,hs])|(with_reducible refine DT_regionE [0,1,2,3,4,6,7,8,9,10,11,12,17,64,67,68,69,70,118] ?_;simp -dsimp [hlen,hs])|(refine DT_cond rfl (fun h=>?_) (fun h=>?_)<;>(try simp only [nrm] at h)<;>(try exact Bool.noConfusion h))
      all_goals try simp -dsimp [hlen,hs]
      all_goals try clear hs
     all_goals exfalso
     all_goals simp [hm,hlen] at h5 hb3 hb4
     all_goals omega
    ·cases b3<;>cases b4<;>cases b5
     all_goals
      have hs:True:=trivial
      repeat' first|(with_reducible first|refine q01 ?_|refine q02 ?_|refine q09 ?_|refine q11 ?_|refine q12 ?_|refine q13 ?_|refine q14 ?_|refine q15 ?_|refine q17 ?_)|(with_reducible refine At.fn_ret (by simp -dsimp [hlen,hs];exact rfl) ?_)|(refine CallE.pure (c1) ?_;try simp -dsimp [hlen,hs])|(refine CallE.pure (c2) ?_;try simp -dsimp [hlen,hs])|(refine CallE.thaw (c3) ?_ ?_ ?_;(focus (simp;done));(focus (simp;done));try simp -dsimp [hlen,hs])|(refine CallE.thaw (c4) ?_ ?_ ?_;(focus (simp;done));(focus (simp;done));try simp -dsimp [hlen,hs])|(refine CallE.pure (c5) ?_;try simp -dsimp [hlen,hs])|(with_reducible refine DT_regionE [0,1,2,3,4,6,7,8,9,10,11,12,17,64,67,68,69,70,118] ?_;simp -dsimp [hlen,hs])|(refine DT_cond rfl (fun h=>?_) (fun h=>?_)<;>(try simp only [nrm] at h)<;>(try exact Bool.noConfusion h))|(with_reducible refine GStop_split ?_ ?_<;>intro h<;>have h0:=h<;>(try simp only [nrm] at h)<;>(try exact Bool.noConfusion h)<;>have h2:=h<;>(try simp at h2)<;>(replace hs:=And.intro h0 (And.intro h (And.intro h2 hs)))<;>simp -dsimp [h0,h,h2,hlen,hs])
      all_goals try simp -dsimp [hlen,hs]
      all_goals try clear hs
     all_goals exfalso
     all_goals omega
   ·rw [if_neg hm] at c2
    have hs:True:=trivial
    repeat' first|(with_reducible first|refine q01 ?_|refine q02 ?_|refine q09 ?_|refine q11 ?_|refine q13 ?_|refine q14 ?_|refine q17 ?_)|(with_reducible refine At.fn_ret (by simp -dsimp [hs];exact rfl) ?_)|(refine CallE.pure (c1) ?_;try simp -dsimp [hs])|(refine CallE.pure (c2) ?_;try simp -dsimp [hs])|(with_reducible refine DT_regionE [0,1,2,3,4,6,7,8,9,10,11,12,17,64,67,68,69,70,118] ?_;simp -dsimp [hs])|(refine DT_cond rfl (fun h=>?_) (fun h=>?_)<;>(try simp only [nrm] at h)<;>(try exact Bool.noConfusion h))
    all_goals try simp -dsimp [hs]
    all_goals try clear hs
  ·rw [caseB_eq,h5,Bool.true_and] at hE
   rw [hE]
   simp only [case5,Bool.and_eq_true,decide_eq_true_eq] at h5
   obtain ⟨hm,⟨hm1,hm2⟩,⟨hl1,hl2⟩,hlen,hgap⟩:=h5
   rw [if_pos hm] at c2
   rw [hgap] at c5
   rw [show ([c.machine].all fun y=>decide (1≤y) && decide (y≤999))=true by simp;omega] at c3
   rw [show ([(c.loop.links.length:Int)].all fun y=>decide (1≤y) && decide (y≤8))=true by simp;omega] at c4
   have hs:True:=trivial
   repeat' first|(with_reducible first|refine q01 ?_|refine q11 ?_|refine q12 ?_|refine q13 ?_|refine q14 ?_|refine q15 ?_)|(refine CallE.pure (c1) ?_;try simp -dsimp [hlen,hs])|(refine CallE.pure (c2) ?_;try simp -dsimp [hlen,hs])|(refine CallE.thaw (c3) ?_ ?_ ?_;(focus (simp;done));(focus (simp;done));try simp -dsimp [hlen,hs])|(refine CallE.thaw (c4) ?_ ?_ ?_;(focus (simp;done));(focus (simp;done));try simp -dsimp [hlen,hs])|(refine CallE.pure (c5) ?_;try simp -dsimp [hlen,hs])|(with_reducible refine DT_regionE [0,1,2,3,4,6,7,8,9,10,11,12,17,64,67,68,69,70,118] ?_;simp -dsimp [hlen,hs])|(refine DT_cond rfl (fun h=>?_) (fun h=>?_)<;>(try simp only [nrm] at h)<;>(try exact Bool.noConfusion h))
   all_goals try simp -dsimp [hlen,hs]
   all_goals try clear hs
   have hno:((c.loop.links.zip c.pieces).all fun q=>linkOk c q.1 q.2)=((c.loop.links.zip c.pieces).drop 0).all fun q=>linkOk c q.1 q.2:=rfl
   clear c1 c2 c3 c4 c5
   generalize hA:((c.loop.links.zip c.pieces).all fun q=>linkOk c q.1 q.2)=A at *
   refine DT_loop (ι:={ k:Nat // k≤c.loop.links.length∧A=((c.loop.links.zip c.pieces).drop k).all fun q=>linkOk c q.1 q.2 }) (fun q=>⟨120,[(1,.one (.ptr 0 0)),(4,.one (.ptr 2 0)),(67,.one (.im (.sl (c.loop.links.map encLink)))),(68,iv (c.loop.links.length:Int)),(69,iv (q.1:Int))],[.row ((encCase c).map .im),.vec 0 [] 0 true,.row [.im (.sl (c.p.n.reg.map encIssue))],.vec 1 [[.im (rI c.machine)]] 0 false,.vec 1 [[.im (rI (c.loop.links.length:Int))]] 0 false]⟩) (fun q=>c.loop.links.length - q.1) ⟨0,by simp,hno⟩ (Weak.of_keep [1,4,67,68,69] (by simp)) ?_
   rintro ⟨k,hk1,hrest⟩
   simp only [iv]
   by_cases hlt:k < c.loop.links.length
   ·have hlt2:k < c.pieces.length:=by omega
    have hw:IntKind.i64.wrap ((k:Int) + 1)=((k + 1:Nat):Int):=i64w (by omega) (by omega)
    have hst:=zip_all_step (f:=fun q=>linkOk c q.1 q.2) hlt hlt2 (hA.trans hrest)
    rw [hA] at hst
    simp only at hst
    rw [linkOk_eq hr0] at hst
    clear hno
    generalize hx:c.pieces[k]=x at *
    generalize hy:c.loop.links[k]=y at *
    have c6:=at_c (G:=G) c.p.n.reg y.drawing 1 hG hk.p.n.1
    have c7:=containsFunc_hold (G:=G) c.p.holders (fun y=>decide (y.id=x.holder)) 33 [.ptr 0 0] [.row ((encPiece x).map .im)] (by simp) (fun y _=>bCheck1_c x y) (by omega)
    have c8:=in_blame (G:=G) 0 3 [y.dim] (by simp)
    have c9:=in_blame (G:=G) 0 14610 [x.day] (by simp)
    have c10:=inside_c (G:=G) x.lo x.hi 0 1000000000
    simp only [regv,refv] at c6 c10
    simp only [encPiece,rI,List.map_cons,List.map_nil] at c7
    generalize (c.p.holders.any fun y=>decide (y.id=x.holder))=b2 at *
    generalize ([y.dim].all fun y=>decide (0≤y) && decide (y≤3))=b1 at *
    generalize ([x.day].all fun y=>decide (0≤y) && decide (y≤14610))=b3 at *
    generalize insB x.lo x.hi 0 1000000000=b4 at *
    generalize atE c.p.n.reg y.drawing 1=e at *
    generalize atR c.p.n.reg y.drawing 1=z at *
    have hcs:(e=0∧¬ z.kind=1∧b1=true∧b2=true∧b3=true∧b4=true)∨(A=false∧((¬ e=0∧True∧True∧True∧True∧True)∨(e=0∧z.kind=1∧True∧True∧True∧True)∨(e=0∧¬ z.kind=1∧b1=false∧True∧True∧True)∨(e=0∧¬ z.kind=1∧b1=true∧b2=false∧True∧True)∨(e=0∧¬ z.kind=1∧b1=true∧b2=true∧b3=false∧True)∨(e=0∧¬ z.kind=1∧b1=true∧b2=true∧b3=true∧b4=false))):=by
     by_cases g1:e=0<;>by_cases g2:z.kind=1<;>cases b1<;>cases b2<;>cases b3<;>cases b4<;>simp_all
    have hs:True:=trivial
    rcases hcs with ⟨g1,g2,g3,g4,g5,g6⟩|⟨gA,hcs⟩
    ·have hs:True:=trivial
     repeat' first|(with_reducible first|refine q01 ?_|refine q03 ?_|refine q06 ?_|refine q11 ?_|refine q12 ?_|refine q14 ?_|refine q16 ?_)|(refine CallE.pure (c6) ?_;try simp -dsimp [hx,hy,hlt,hlt2,hw,g1,g2,g3,g4,g5,g6,hs])|(refine CallE.embed [9] (c7) ?_ ?_ ?_ ?_ ?_ ?_;(focus (simp [emb];done));(focus (simp;done));(focus (simp;done));(focus (simp;done));(focus (refine emb_all ?_;simp [emb,embAll];done));try simp -dsimp [mergeO,emb,hx,hy,hlt,hlt2,hw,g1,g2,g3,g4,g5,g6,hs])|(refine CallE.thaw (c8) ?_ ?_ ?_;(focus (simp;done));(focus (simp;done));try simp -dsimp [hx,hy,hlt,hlt2,hw,g1,g2,g3,g4,g5,g6,hs])|(refine CallE.thaw (c9) ?_ ?_ ?_;(focus (simp;done));(focus (simp;done));try simp -dsimp [hx,hy,hlt,hlt2,hw,g1,g2,g3,g4,g5,g6,hs])|(refine CallE.pure (c10) ?_;try simp -dsimp [hx,hy,hlt,hlt2,hw,g1,g2,g3,g4,g5,g6,hs])|(with_reducible refine DT_regionE [0,1,2,3,4,6,7,8,9,10,11,12,17,64,67,68,69,70,118] ?_;simp -dsimp [hx,hy,hlt,hlt2,hw,g1,g2,g3,g4,g5,g6,hs])|(refine DT_cond rfl (fun h=>?_) (fun h=>?_)<;>(try simp only [nrm] at h)<;>(try exact Bool.noConfusion h))
     all_goals try simp -dsimp [hx,hy,hlt,hlt2,hw,g1,g2,g3,g4,g5,g6,hs]
     all_goals try clear hs
     all_goals exact At.round ⟨k + 1,by omega,by rw [Bool.eq_iff_iff];exact hst.trans ⟨fun h=>h.2,fun h=>⟨⟨g1,g2,g3,g4,g5,g6⟩,h⟩⟩⟩ (by simp;omega) (Weak.of_drop [1,4,67,68,69] 5 (by simp) (by simp) (by simp))
    ·rcases hcs with ⟨g1,g2,g3,g4,g5,g6⟩|⟨g1,g2,g3,g4,g5,g6⟩|⟨g1,g2,g3,g4,g5,g6⟩|⟨g1,g2,g3,g4,g5,g6⟩|⟨g1,g2,g3,g4,g5,g6⟩|⟨g1,g2,g3,g4,g5,g6⟩
     all_goals
      have hs:True:=trivial
      repeat' first|(with_reducible first|refine q01 ?_|refine q02 ?_|refine q05 ?_|refine q09 ?_|refine q11 ?_|refine q12 ?_|refine q14 ?_|refine q17 ?_)|(with_reducible refine At.fn_ret (by simp -dsimp [hx,hy,hlt,hlt2,hw,g1,g2,g3,g4,g5,g6,hs];exact rfl) ?_)|(refine CallE.pure (c6) ?_;try simp -dsimp [hx,hy,hlt,hlt2,hw,g1,g2,g3,g4,g5,g6,hs])|(refine CallE.embed [9] (c7) ?_ ?_ ?_ ?_ ?_ ?_;(focus (simp [emb];done));(focus (simp;done));(focus (simp;done));(focus (simp;done));(focus (refine emb_all ?_;simp [emb,embAll];done));try simp -dsimp [mergeO,emb,hx,hy,hlt,hlt2,hw,g1,g2,g3,g4,g5,g6,hs])|(refine CallE.thaw (c8) ?_ ?_ ?_;(focus (simp;done));(focus (simp;done));try simp -dsimp [hx,hy,hlt,hlt2,hw,g1,g2,g3,g4,g5,g6,hs])|(refine CallE.thaw (c9) ?_ ?_ ?_;(focus (simp;done));(focus (simp;done));try simp -dsimp [hx,hy,hlt,hlt2,hw,g1,g2,g3,g4,g5,g6,hs])|(refine CallE.pure (c10) ?_;try simp -dsimp [hx,hy,hlt,hlt2,hw,g1,g2,g3,g4,g5,g6,hs])|(with_reducible refine DT_regionE [0,1,2,3,4,6,7,8,9,10,11,12,17,64,67,68,69,70,118] ?_;simp -dsimp [hx,hy,hlt,hlt2,hw,g1,g2,g3,g4,g5,g6,hs])|(refine DT_cond rfl (fun h=>?_) (fun h=>?_)<;>(try simp only [nrm] at h)<;>(try exact Bool.noConfusion h))
      all_goals try simp -dsimp [hx,hy,hlt,hlt2,hw,g1,g2,g3,g4,g5,g6,hs]
      all_goals try clear hs
     all_goals exact gA
   ·obtain rfl:k=c.loop.links.length:=by omega
    have hA1:A=true:=by rw [hrest,List.drop_eq_nil_of_le (by rw [List.length_zip];omega)];rfl
    subst hA1
    have hs:True:=trivial
    repeat' first|(with_reducible first|refine q01 ?_|refine q03 ?_|refine q06 ?_|refine q09 ?_|refine q11 ?_|refine q16 ?_|refine q17 ?_)|(with_reducible refine At.fn_ret (by simp -dsimp [hlt,hs];exact rfl) ?_)|(with_reducible refine DT_regionE [0,1,2,3,4,6,7,8,9,10,11,12,17,64,67,68,69,70,118] ?_;simp -dsimp [hlt,hs])|(refine DT_cond rfl (fun h=>?_) (fun h=>?_)<;>(try simp only [nrm] at h)<;>(try exact Bool.noConfusion h))
    all_goals try simp -dsimp [hlt,hs]
    all_goals try clear hs
 ·have hE:caseE c=printsE c.p:=by unfold caseE;rw [if_pos h0]
  rw [hE]
  have hs:True:=trivial
  repeat' first|(with_reducible first|refine q01 ?_|refine q02 ?_|refine q09 ?_|refine q11 ?_|refine q13 ?_|refine q17 ?_)|(with_reducible refine At.fn_ret (by simp -dsimp [h0,hs];exact rfl) ?_)|(refine CallE.pure (c1) ?_;try simp -dsimp [h0,hs])|(with_reducible refine DT_regionE [0,1,2,3,4,6,7,8,9,10,11,12,17,64,67,68,69,70,118] ?_;simp -dsimp [h0,hs])|(refine DT_cond rfl (fun h=>?_) (fun h=>?_)<;>(try simp only [nrm] at h)<;>(try exact Bool.noConfusion h))
  all_goals try simp -dsimp [h0,hs]
  all_goals try clear hs
end Go.Proofs
namespace Go.Proofs
open Go Go.Ab
set_option linter.unusedSimpArgs false
variable {G:Nat→Option (List IC)}
def PieceOk (x:Piece):Prop:=0≤x.lo∧x.lo≤x.hi∧x.hi≤1000000000
structure CaseOk (c:Case):Prop where
 e:c.pieces.length=c.loop.links.length
 l:1≤c.loop.links.length∧c.loop.links.length≤8
 p:∀ q∈c.loop.links.zip c.pieces,PieceOk q.2
 g:-8000000000≤c.loop.lo∧c.loop.lo≤c.loop.hi∧c.loop.hi≤8000000000
theorem caseB_ok {c:Case} (h:caseB c=true):CaseOk c:=by
 rw [caseB_eq,case5] at h
 simp only [Bool.and_eq_true,decide_eq_true_eq,insB,List.all_eq_true] at h
 obtain ⟨⟨_,_,h3,h4,h5⟩,h6⟩:=h
 refine ⟨h4,h3,fun q hq=>?_,by omega⟩
 have:=h6 q hq
 simp only [linkOk,Bool.and_eq_true,insB,decide_eq_true_eq] at this
 unfold PieceOk
 omega
end Go.Proofs
