/- Part 20 of the proofs: laws and walks that hold without conditions beyond those that each theorem names. -/
import Derived.Test.YtmkbmkonpglgdaaGreatDoorP11
import Derived.Test.YtmkbmkonpglgdaaGreatDoorP17
import Derived.Test.YtmkbmkonpglgdaaGreatDoorP18
import Derived.Test.YtmkbmkonpglgdaaGreatDoorP19
set_option linter.all false
set_option linter.deprecated false
namespace Go.Proofs
open Go Go.Ab
set_option linter.unusedSimpArgs false
variable {G:Nat→Option (List IC)}
theorem indexFunc_note (l:List Note) (p:Note→Bool) (k:Nat) (caps:List DC) (objs:List DObj) (hok:CallOk Tryz.prog k) (hf:∀ x∈l,DCall Tryz.prog G k (notev x :: caps.map .one) objs (fun d o=>d=bv (p x)∧o=objs)) (hl:l.length < 1000000):DCall Tryz.prog G 198 [.one (.im (.sl (l.map encNote))),.one (.fn (.func k) caps)] objs (fun d o=>d=iv (fidx p l)∧o=objs):=by
 refine DCall_intro Tryz.func198 rfl Tryz.ntmps198 (by simp) rfl ?_
 have hs:True:=trivial
 repeat' first|(with_reducible first|refine q01 ?_|refine q11 ?_|refine q12 ?_)|(with_reducible refine DT_regionE [0,1,4,5,7,8,9,16] ?_;simp -dsimp [hs])
 all_goals try simp -dsimp [hs]
 all_goals try clear hs
 refine DT_loop (ι:={ k:Nat // k≤l.length∧∀ j x,j < k→l[j]?=some x→p x=false }) (fun i=>⟨19,[(0,.one (.im (.sl (l.map encNote)))),(1,.one (.fn (.func k) caps)),(7,iv (l.length:Int)),(8,iv (i.1:Int))],objs⟩) (fun i=>l.length - i.1) ⟨0,by simp⟩ (Weak.of_keep [0,1,7,8] (by simp)) ?_
 rintro ⟨i,hi,hno⟩
 simp only [iv]
 by_cases hlt:i < l.length
 ·have hx:l[i]?=some l[i]:=by simp [hlt]
  have hw:IntKind.i64.wrap ((i:Int) + 1)=((i + 1:Nat):Int):=i64w (by omega) (by omega)
  have hc:=hf l[i] (by simp)
  simp only [notev,encNote,List.map_cons,List.map_nil,bv,rI] at hc
  have hs:True:=trivial
  repeat' first|(with_reducible first|refine q01 ?_|refine q02 ?_|refine q03 ?_|refine q04 ?_|refine q05 ?_|refine q06 ?_|refine q11 ?_|refine q12 ?_|refine q14 ?_|refine q16 ?_|refine q17 ?_|refine And.intro (by omega) ?_)|(with_reducible refine At.fn_ret (by simp -dsimp [hx,hw,hok,hs];exact rfl) ?_)|(refine CallE.here hc ?_;try simp -dsimp [hx,hw,hok,hs])|(with_reducible refine DT_regionE [0,1,4,5,7,8,9,16] ?_;simp -dsimp [hx,hw,hok,hs])|(refine DT_cond rfl (fun h=>?_) (fun h=>?_)<;>(try simp only [nrm] at h)<;>(try exact Bool.noConfusion h))|with_reducible refine And.intro ?_ ?_
  all_goals try simp -dsimp [hx,hw,hok,hs]
  all_goals try clear hs
  all_goals try omega
  ·exact (fidx_yes hx (by assumption) hno).symm
  ·exact At.round ⟨i + 1,by omega,fun j x hj hjx=>by
    by_cases e:j=i
    ·subst e;rw [hx] at hjx;cases hjx;assumption
    ·exact hno j x (by omega) hjx⟩ (by simp;omega) (Weak.of_keep [0,1,7,8] (by simp))
 ·have hs:True:=trivial
  repeat' first|(with_reducible first|refine q01 ?_|refine q03 ?_|refine q06 ?_|refine q11 ?_|refine q12 ?_|refine q14 ?_|refine q16 ?_|refine q17 ?_)|(with_reducible refine At.fn_ret (by simp -dsimp [hs];exact rfl) ?_)|(with_reducible refine DT_regionE [0,1,4,5,7,8,9,16] ?_;simp -dsimp [hs])|(refine DT_cond rfl (fun h=>?_) (fun h=>?_)<;>(try simp only [nrm] at h)<;>(try exact Bool.noConfusion h))|with_reducible refine And.intro ?_ ?_
  all_goals try simp -dsimp [hs]
  all_goals try clear hs
  all_goals try omega
  exact (fidx_no fun j x hjx=>hno j x (by have:=lt_of_getElem? hjx;omega) hjx).symm
theorem containsFunc_note (l:List Note) (p:Note→Bool) (k:Nat) (caps:List DC) (objs:List DObj) (hok:CallOk Tryz.prog k) (hf:∀ x∈l,DCall Tryz.prog G k (notev x :: caps.map .one) objs (fun d o=>d=bv (p x)∧o=objs)) (hl:l.length < 1000000):DCall Tryz.prog G 191 [.one (.im (.sl (l.map encNote))),.one (.fn (.func k) caps)] objs (fun d o=>d=bv (l.any p)∧o=objs):=by
 refine DCall_intro Tryz.func191 rfl Tryz.ntmps191 (by simp) rfl ?_
 have hc:=indexFunc_note l p k caps objs hok hf hl
 have hs:True:=trivial
 repeat' first|(with_reducible first|refine q01 ?_|refine q11 ?_|refine q17 ?_)|(with_reducible refine At.fn_ret (by simp -dsimp [hs];exact rfl) ?_)|(refine CallE.here hc ?_;try simp -dsimp [hs])|(with_reducible refine DT_regionE [0,1,4] ?_;simp -dsimp [hs])|with_reducible refine And.intro ?_ ?_
 all_goals try simp -dsimp [hs]
 all_goals try clear hs
 simp [fidx_nonneg]
def nk5 (x:Note):Bool:=decide (2≤x.letter) || !x.useUp && decide (x.ways=0)
theorem nk5_c (n:Notes) (i:Nat) (x:Note) (hx:n.notes[i]?=some x) (objs:List DObj):DCall Tryz.prog G 189 [notesv n,iv (i:Int)] objs (fun rr objs'=>rr=bv (nk5 x)∧objs'=objs):=by
 refine DCall.frame ?_ (by simp) (by simp) objs
 refine DCall_intro Tryz.func189 rfl Tryz.ntmps189 (by simp) rfl ?_
 try simp only [notesv,iv]
 have hi:i < n.notes.length:=lt_of_getElem? hx
 have hxe:n.notes[i]=x:=(List.getElem?_eq_some_iff.1 hx).2
 have hs:True:=trivial
 repeat' first|(with_reducible first|refine q01 ?_|refine q11 ?_|refine q17 ?_)|(with_reducible refine At.fn_ret (by simp -dsimp [hxe,hi,hs];exact rfl) ?_)|(with_reducible refine DT_regionE [0,1,2,4,5] ?_;simp -dsimp [hxe,hi,hs])|(with_reducible refine GStop_split ?_ ?_<;>intro h<;>have h0:=h<;>(try simp only [nrm] at h)<;>(try exact Bool.noConfusion h)<;>have h2:=h<;>(try simp at h2)<;>(replace hs:=And.intro h0 (And.intro h (And.intro h2 hs)))<;>simp -dsimp [h0,h,h2,hxe,hi,hs])
 all_goals try simp -dsimp [hxe,hi,hs]
 all_goals try clear hs
 all_goals (clear hx;simp_all [nk5])
 all_goals omega
theorem nk61_c (n:Notes) (x y:Note):DCall Tryz.prog G 192 (notev y :: [DC.ptr 1 0].map .one) [.row ((encNotes n).map .im),.row ((encNote x).map .im)] (fun d o=>d=bv (decide (y.number=x.cancels))∧o=[.row ((encNotes n).map .im),.row ((encNote x).map .im)]):=by
 refine DCall.drop ?_
 refine DCall_intro Tryz.func192 rfl Tryz.ntmps192 (by simp) rfl ?_
 simp only [notev,encNote,encNotes,rI,rB]
 have hs:True:=trivial
 repeat' first|(with_reducible first|refine q01 ?_|refine q11 ?_|refine q17 ?_)|(with_reducible refine At.fn_ret (by simp -dsimp [hs];exact rfl) ?_)|(with_reducible refine DT_regionE [0,1,2,3] ?_;simp -dsimp [hs])|with_reducible refine And.intro ?_ ?_
 all_goals try simp -dsimp [hs]
 all_goals try clear hs
def nk6 (l:List Note) (i:Nat) (x:Note):Bool:=decide (x.cancels=0) || (l.take i).any fun y=>decide (y.number=x.cancels)
theorem nk6_c (n:Notes) (i:Nat) (x:Note) (hx:n.notes[i]?=some x) (hl:n.notes.length < 1000) (objs:List DObj):DCall Tryz.prog G 190 [notesv n,iv (i:Int)] objs (fun rr objs'=>rr=bv (nk6 n.notes i x)∧objs'=objs):=by
 refine DCall.frame ?_ (by simp) (by simp) objs
 refine DCall_intro Tryz.func190 rfl Tryz.ntmps190 (by simp) rfl ?_
 try simp only [notesv,iv]
 have hi:i < n.notes.length:=lt_of_getElem? hx
 have hxe:n.notes[i]=x:=(List.getElem?_eq_some_iff.1 hx).2
 have hlt:(n.notes.take i).length < 1000000:=by simp;omega
 have hil:i≤n.notes.length:=by omega
 have c1:=containsFunc_note (G:=G) (n.notes.take i) (fun y=>decide (y.number=x.cancels)) 192 [.ptr 1 0] [.row ((encNotes n).map .im),.row ((encNote x).map .im)] (by simp) (fun y _=>nk61_c n x y) hlt
 simp only [encNote,encNotes,rI,rB,List.map_take,List.map_cons,List.map_nil] at c1
 have hs:True:=trivial
 repeat' first|(with_reducible first|refine q01 ?_|refine q11 ?_|refine q17 ?_)|(with_reducible refine At.fn_ret (by simp -dsimp [hxe,hi,hil,hs];exact rfl) ?_)|(refine CallE.here (c1) ?_;try simp -dsimp [hxe,hi,hil,hs])|(with_reducible refine DT_regionE [0,1,2,4,5] ?_;simp -dsimp [hxe,hi,hil,hs])|(with_reducible refine GStop_split ?_ ?_<;>intro h<;>have h0:=h<;>(try simp only [nrm] at h)<;>(try exact Bool.noConfusion h)<;>have h2:=h<;>(try simp at h2)<;>(replace hs:=And.intro h0 (And.intro h (And.intro h2 hs)))<;>simp -dsimp [h0,h,h2,hxe,hi,hil,hs])
 all_goals try simp -dsimp [hxe,hi,hil,hs]
 all_goals try clear hs
 all_goals (clear hx c1;simp_all [nk6])
theorem nk71_c (n:Notes) (i:Nat) (x y:Note) (hx:n.notes[i]?=some x):DCall Tryz.prog G 194 (notev y :: [DC.ptr 0 0,DC.ptr 1 0].map .one) [.row ((encNotes n).map .im),.row [.im (rI (i:Int))]] (fun d o=>d=bv (decide (y.number=x.number))∧o=[.row ((encNotes n).map .im),.row [.im (rI (i:Int))]]):=by
 have hi:i < n.notes.length:=lt_of_getElem? hx
 have hxe:n.notes[i]=x:=(List.getElem?_eq_some_iff.1 hx).2
 refine DCall.drop ?_
 refine DCall_intro Tryz.func194 rfl Tryz.ntmps194 (by simp) rfl ?_
 simp only [notev,encNote,encNotes,rI,rB]
 have hs:True:=trivial
 repeat' first|(with_reducible first|refine q01 ?_|refine q11 ?_|refine q17 ?_)|(with_reducible refine At.fn_ret (by simp -dsimp [hxe,hi,hs];exact rfl) ?_)|(refine DT_regionM (id:=1) (nt:=14) 10 [0,1,2,3,4] mixed rfl (by kernel_rfl) ?_;simp -dsimp [hxe,hi,hs])|(with_reducible refine DT_regionE [0,1,2,3,4] ?_;simp -dsimp [hxe,hi,hs])|with_reducible refine And.intro ?_ ?_
 all_goals try simp -dsimp [hxe,hi,hs]
 all_goals try clear hs
def nk7 (l:List Note) (i:Nat) (x:Note):Bool:=!(l.take i).any fun y=>decide (y.number=x.number)
theorem nk7_c (n:Notes) (i:Nat) (x:Note) (hx:n.notes[i]?=some x) (hl:n.notes.length < 1000) (objs:List DObj):DCall Tryz.prog G 193 [notesv n,iv (i:Int)] objs (fun rr objs'=>rr=bv (nk7 n.notes i x)∧objs'=objs):=by
 refine DCall.frame ?_ (by simp) (by simp) objs
 refine DCall_intro Tryz.func193 rfl Tryz.ntmps193 (by simp) rfl ?_
 try simp only [notesv,iv]
 have hi:i < n.notes.length:=lt_of_getElem? hx
 have hlt:(n.notes.take i).length < 1000000:=by simp;omega
 have hil:i≤n.notes.length:=by omega
 have c1:=containsFunc_note (G:=G) (n.notes.take i) (fun y=>decide (y.number=x.number)) 194 [.ptr 0 0,.ptr 1 0] [.row ((encNotes n).map .im),.row [.im (rI (i:Int))]] (by simp) (fun y _=>nk71_c n i x y hx) hlt
 simp only [encNote,encNotes,rI,rB,List.map_take,List.map_cons,List.map_nil] at c1
 have hs:True:=trivial
 repeat' first|(with_reducible first|refine q01 ?_|refine q11 ?_|refine q17 ?_)|(with_reducible refine At.fn_ret (by simp -dsimp [hi,hil,hs];exact rfl) ?_)|(refine CallE.here (c1) ?_;try simp -dsimp [hi,hil,hs])|(with_reducible refine DT_regionE [0,1,2,3,4] ?_;simp -dsimp [hi,hil,hs])
 all_goals try simp -dsimp [hi,hil,hs]
 all_goals try clear hs
 all_goals (clear hx c1;simp_all [nk7])
def orI:List Int→Int
 | []=>0
 | x :: r=>if x=0 then orI r else x
theorem or_c (l:List Int) (hl:l.length < 1000000) (objs:List DObj):DCall Tryz.prog G 196 [isv l] objs (fun rr objs'=>rr=iv (orI l)∧objs'=objs):=by
 refine DCall.frame ?_ (by simp) (by simp) objs
 refine DCall_intro Tryz.func196 rfl Tryz.ntmps196 (by simp) rfl ?_
 try simp only [isv]
 have hs:True:=trivial
 repeat' first|(with_reducible first|refine q01 ?_|refine q11 ?_|refine q12 ?_)|(with_reducible refine DT_regionE [0,2,3,5,6,7,8,9,14] ?_;simp -dsimp [hs])
 all_goals try simp -dsimp [hs]
 all_goals try clear hs
 refine DT_loop (ι:={ p:Nat // p≤l.length∧orI l=orI (l.drop p) }) (fun p=>⟨18,[(3,iv 0),(6,.one (.im (.sl (l.map encI)))),(7,iv (l.length:Int)),(8,iv (p.1:Int))],[]⟩) (fun p=>l.length - p.1) ⟨0,by simp⟩ (Weak.of_keep [3,6,7,8] (by simp)) ?_
 rintro ⟨k,hk,hu⟩
 simp only [iv]
 by_cases hlt:k < l.length
 ·have hw:IntKind.i64.wrap ((k:Int) + 1)=((k + 1:Nat):Int):=i64w (by omega) (by omega)
  rw [List.drop_eq_getElem_cons hlt,orI] at hu
  generalize hx:l[k]=x at *
  have hs:True:=trivial
  repeat' first|(with_reducible first|refine q01 ?_|refine q02 ?_|refine q04 ?_|refine q05 ?_|refine q11 ?_|refine q12 ?_|refine q14 ?_|refine q17 ?_)|(with_reducible refine At.fn_ret (by simp -dsimp [hx,hw,hlt,hs];exact rfl) ?_)|(with_reducible refine DT_regionE [0,2,3,5,6,7,8,9,14] ?_;simp -dsimp [hx,hw,hlt,hs])|(refine DT_cond rfl (fun h=>?_) (fun h=>?_)<;>(try simp only [nrm] at h)<;>(try exact Bool.noConfusion h))
  all_goals try simp -dsimp [hx,hw,hlt,hs]
  all_goals try clear hs
  ·rw [hu,if_neg (by assumption)]
  ·rw [if_pos (by assumption)] at hu
   exact At.round ⟨k + 1,by omega,hu⟩ (by simp;omega) (Weak.of_keep [3,6,7,8] (by simp))
 ·rw [List.drop_eq_nil_of_le (by omega)] at hu
  have hs:True:=trivial
  repeat' first|(with_reducible first|refine q01 ?_|refine q03 ?_|refine q06 ?_|refine q11 ?_|refine q16 ?_|refine q17 ?_)|(with_reducible refine At.fn_ret (by simp -dsimp [hlt,hs];exact rfl) ?_)|(with_reducible refine DT_regionE [0,2,3,5,6,7,8,9,14] ?_;simp -dsimp [hlt,hs])|(refine DT_cond rfl (fun h=>?_) (fun h=>?_)<;>(try simp only [nrm] at h)<;>(try exact Bool.noConfusion h))
  all_goals try simp -dsimp [hlt,hs]
  all_goals try clear hs
  rw [hu];rfl
end Go.Proofs
namespace Go.Proofs
open Go Go.Ab
set_option linter.unusedSimpArgs false
variable {G:Nat→Option (List IC)}
def befN (y x:Note):Bool:=decide (y.day < x.day) || decide (y.day=x.day) && decide (y.number < x.number)
def nk8 (l:List Note) (i:Nat) (x:Note):Bool:=if i=0 then true else match l[i - 1]? with|some y=>befN y x|none=>false
theorem or_cmp (y x:Note):decide (orI [cmpI y.day x.day,cmpI y.number x.number] < 0)=befN y x:=by
 unfold befN cmpI orI orI orI
 rw [Bool.eq_iff_iff]
 simp only [decide_eq_true_eq,Bool.or_eq_true,Bool.and_eq_true]
 repeat' split
 all_goals omega
set_option maxHeartbeats 1000000 in
theorem nk8_c (n:Notes) (i:Nat) (x:Note) (hx:n.notes[i]?=some x) (hl:n.notes.length < 1000) (objs:List DObj):DCall Tryz.prog G 195 [notesv n,iv (i:Int)] objs (fun rr objs'=>rr=bv (nk8 n.notes i x)∧objs'=objs):=by
 refine DCall.frame ?_ (by simp) (by simp) objs
 refine DCall_intro Tryz.func195 rfl Tryz.ntmps195 (by simp) rfl ?_
 try simp only [notesv,iv]
 have hi:i < n.notes.length:=lt_of_getElem? hx
 have hxe:n.notes[i]=x:=(List.getElem?_eq_some_iff.1 hx).2
 by_cases h00:i=0
 ·subst h00
  have hs:True:=trivial
  repeat' first|(with_reducible first|refine q01 ?_|refine q11 ?_|refine q17 ?_)|(with_reducible refine At.fn_ret (by simp -dsimp [hxe,hi,hs];exact rfl) ?_)|(refine DT_regionM (id:=1) (nt:=40) 36 [0,1,2,4] mixed rfl (by kernel_rfl) ?_;simp -dsimp [hxe,hi,hs])|(with_reducible refine DT_regionE [0,1,2,4] ?_;simp -dsimp [hxe,hi,hs])
  all_goals try simp -dsimp [hxe,hi,hs]
  all_goals try clear hs
  all_goals simp [nk8]
 ·have hi1:i - 1 < n.notes.length:=by omega
  have hw:IntKind.i64.wrap ((i:Int) - 1)=((i - 1:Nat):Int):=by rw [i64w (by omega) (by omega)];omega
  have hne:((i:Int)=0)=False:=by simp [h00]
  generalize hy:n.notes[i - 1]=y
  have c1:=compare_c (G:=G) y.day x.day
  have c2:=compare_c (G:=G) y.number x.number
  have c3:=or_c (G:=G) [cmpI y.day x.day,cmpI y.number x.number] (by simp)
  have hs:True:=trivial
  repeat' first|(with_reducible first|refine q01 ?_|refine q11 ?_|refine q17 ?_)|(with_reducible refine At.fn_ret (by simp -dsimp [hxe,hi,hi1,hw,hne,hy,h00,hs];exact rfl) ?_)|(refine QCall_pure (c1) ?_;try simp -dsimp [hxe,hi,hi1,hw,hne,hy,h00,hs])|(refine QCall_pure (c2) ?_;try simp -dsimp [hxe,hi,hi1,hw,hne,hy,h00,hs])|(refine QCall_pure (c3) ?_;try simp -dsimp [hxe,hi,hi1,hw,hne,hy,h00,hs])|(refine DT_regionM (id:=1) (nt:=40) 36 [0,1,2,4] mixed rfl (by kernel_rfl) ?_;simp -dsimp [hxe,hi,hi1,hw,hne,hy,h00,hs])|(with_reducible refine DT_regionE [0,1,2,4] ?_;simp -dsimp [hxe,hi,hi1,hw,hne,hy,h00,hs])
  all_goals try simp -dsimp [hxe,hi,hi1,hw,hne,hy,h00,hs]
  all_goals try clear hs
  rw [or_cmp,nk8,if_neg h00,List.getElem?_eq_getElem hi1,hy]
def nk4 (l:List Issue) (x:Note):Bool:=if x.drawing=0∧x.letter=0 then decide (x.cancels≠0) else decide (atE l x.drawing x.letter=0)
theorem nk4_c (n:Notes) (i:Nat) (x:Note) (hx:n.notes[i]?=some x) (hG:sheetG G) (hs:SmallR n.reg) (objs:List DObj):DCall Tryz.prog G 188 [notesv n,iv (i:Int)] objs (fun rr objs'=>rr=bv (nk4 n.reg x)∧objs'=objs):=by
 refine DCall.frame ?_ (by simp) (by simp) objs
 refine DCall_intro Tryz.func188 rfl Tryz.ntmps188 (by simp) rfl ?_
 try simp only [notesv,iv]
 have hi:i < n.notes.length:=lt_of_getElem? hx
 have hxe:n.notes[i]=x:=(List.getElem?_eq_some_iff.1 hx).2
 have c1:=at_c (G:=G) n.reg x.drawing x.letter hG hs
 simp only [refv] at c1
 have hs:True:=trivial
 repeat' first|(with_reducible first|refine q01 ?_|refine q02 ?_|refine q11 ?_|refine q14 ?_|refine q17 ?_)|(with_reducible refine At.fn_ret (by simp -dsimp [hxe,hi,hs];exact rfl) ?_)|(refine CallE.pure (c1) ?_;try simp -dsimp [hxe,hi,hs])|(with_reducible refine DT_regionE [0,1,2,4,5,7,19] ?_;simp -dsimp [hxe,hi,hs])|(refine DT_cond rfl (fun h=>?_) (fun h=>?_)<;>(try simp only [nrm] at h)<;>(try exact Bool.noConfusion h))
 all_goals try simp -dsimp [hxe,hi,hs]
 all_goals try clear hs
 ·have h1:x.drawing=0∧x.letter=0:=⟨h.1.symm,h.2.symm⟩
  rw [nk4,if_pos h1];simp
 ·rw [nk4,if_neg (by omega)]
end Go.Proofs
namespace Go.Proofs
open Go Go.Ab
set_option linter.unusedSimpArgs false
variable {G:Nat→Option (List IC)}
theorem indexS_c (l:List Int) (n:Int) (hl:l.length < 1000000) (objs:List DObj):DCall Tryz.prog G 98 [isv l,iv n] objs (fun rr objs'=>rr=iv (fidx (fun x=>decide (n=x)) l)∧objs'=objs):=by
 refine DCall.frame ?_ (by simp) (by simp) objs
 refine DCall_intro Tryz.func98 rfl Tryz.ntmps98 (by simp) rfl ?_
 try simp only [isv,iv]
 have hs:True:=trivial
 repeat' first|(with_reducible first|refine q01 ?_|refine q11 ?_|refine q12 ?_)|(with_reducible refine DT_regionE [0,1,4,5,7,8,9,16] ?_;simp -dsimp [hs])
 all_goals try simp -dsimp [hs]
 all_goals try clear hs
 refine DT_loop (ι:={ k:Nat // k≤l.length∧∀ j x,j < k→l[j]?=some x→decide (n=x)=false }) (fun i=>⟨19,[(0,isv l),(1,iv n),(7,iv (l.length:Int)),(8,iv (i.1:Int))],[]⟩) (fun i=>l.length - i.1) ⟨0,by simp⟩ (Weak.of_keep [0,1,7,8] (by simp)) ?_
 rintro ⟨i,hi,hno⟩
 simp only [iv,isv]
 by_cases hlt:i < l.length
 ·have hx0:l[i]?=some l[i]:=by simp [hlt]
  have hw:IntKind.i64.wrap ((i:Int) + 1)=((i + 1:Nat):Int):=i64w (by omega) (by omega)
  generalize hx:l[i]=x at *
  have hs:True:=trivial
  repeat' first|(with_reducible first|refine q01 ?_|refine q02 ?_|refine q04 ?_|refine q05 ?_|refine q11 ?_|refine q12 ?_|refine q14 ?_|refine q17 ?_)|(with_reducible refine At.fn_ret (by simp -dsimp [hx,hw,hlt,hs];exact rfl) ?_)|(with_reducible refine DT_regionE [0,1,4,5,7,8,9,16] ?_;simp -dsimp [hx,hw,hlt,hs])|(refine DT_cond rfl (fun h=>?_) (fun h=>?_)<;>(try simp only [nrm] at h)<;>(try exact Bool.noConfusion h))
  all_goals try simp -dsimp [hx,hw,hlt,hs]
  all_goals try clear hs
  ·exact (fidx_yes hx0 (by simp;assumption) hno).symm
  ·exact At.round ⟨i + 1,by omega,fun j y hj hjx=>by
    by_cases e:j=i
    ·subst e;rw [hx0] at hjx;cases hjx;simp;assumption
    ·exact hno j y (by omega) hjx⟩ (by simp;omega) (Weak.of_keep [0,1,7,8] (by simp))
 ·have hs:True:=trivial
  repeat' first|(with_reducible first|refine q01 ?_|refine q03 ?_|refine q06 ?_|refine q11 ?_|refine q16 ?_|refine q17 ?_)|(with_reducible refine At.fn_ret (by simp -dsimp [hlt,hs];exact rfl) ?_)|(with_reducible refine DT_regionE [0,1,4,5,7,8,9,16] ?_;simp -dsimp [hlt,hs])|(refine DT_cond rfl (fun h=>?_) (fun h=>?_)<;>(try simp only [nrm] at h)<;>(try exact Bool.noConfusion h))
  all_goals try simp -dsimp [hlt,hs]
  all_goals try clear hs
  exact (fidx_no fun j x hjx=>hno j x (by have:=lt_of_getElem? hjx;omega) hjx).symm
theorem contains_c (l:List Int) (n:Int) (hl:l.length < 1000000) (objs:List DObj):DCall Tryz.prog G 94 [isv l,iv n] objs (fun rr objs'=>rr=bv (decide (n∈l))∧objs'=objs):=by
 refine DCall.frame ?_ (by simp) (by simp) objs
 refine DCall_intro Tryz.func94 rfl Tryz.ntmps94 (by simp) rfl ?_
 try simp only [isv,iv]
 have hc:=indexS_c (G:=G) l n hl
 have hs:True:=trivial
 repeat' first|(with_reducible first|refine q01 ?_|refine q11 ?_|refine q17 ?_)|(with_reducible refine At.fn_ret (by simp -dsimp [hs];exact rfl) ?_)|(refine CallE.pure (hc) ?_;try simp -dsimp [hs])|(with_reducible refine DT_regionE [0,1,4] ?_;simp -dsimp [hs])
 all_goals try simp -dsimp [hs]
 all_goals try clear hs
 have h1:=fidx_nonneg (fun x=>decide (n=x)) l
 rw [← decide_eq_true_iff (p:=0≤_),h1]
 simp
theorem within3_c (n lo hi:Int) (objs:List DObj):DCall Tryz.prog G 128 [iv n,iv lo,iv hi] objs (fun rr objs'=>rr=bv (decide (lo≤n) && decide (n≤hi))∧objs'=objs):=by
 refine DCall.frame ?_ (by simp) (by simp) objs
 refine DCall_intro Tryz.func128 rfl Tryz.ntmps128 (by simp) rfl ?_
 try simp only [iv,iv,iv]
 have hs:True:=trivial
 repeat' first|(with_reducible first|refine q01 ?_|refine q11 ?_|refine q17 ?_)|(with_reducible refine At.fn_ret (by simp -dsimp [hs];exact rfl) ?_)|(with_reducible refine DT_regionE [0,1,2,6] ?_;simp -dsimp [hs])|(with_reducible refine GStop_split ?_ ?_<;>intro h<;>have h0:=h<;>(try simp only [nrm] at h)<;>(try exact Bool.noConfusion h)<;>have h2:=h<;>(try simp at h2)<;>(replace hs:=And.intro h0 (And.intro h (And.intro h2 hs)))<;>simp -dsimp [h0,h,h2,hs])
 all_goals try simp -dsimp [hs]
 all_goals try clear hs
 all_goals simp_all
end Go.Proofs
namespace Go.Proofs
open Go Go.Ab
def nkA (n:Notes) (i:Nat) (x:Note):Bool:=nk1 x && nk2 x && nk3 x && nk4 n.reg x && nk5 x && nk6 n.notes i x && nk7 n.notes i x && nk8 n.notes i x
def nkI (n:Notes) (i:Nat) (x:Note):Nat→Bool
 | 0=>nk1 x
 | 1=>nk2 x
 | 2=>nk3 x
 | 3=>nk4 n.reg x
 | 4=>nk5 x
 | 5=>nk6 n.notes i x
 | 6=>nk7 n.notes i x
 | _=>nk8 n.notes i x
theorem nkI_bad {n:Notes} {i:Nat} {x:Note} {k:Nat} (h:nkI n i x k=false):nkA n i x=false:=by
 unfold nkA
 match k with
 | 0|1|2|3|4|5|6=>simp only [nkI] at h;simp [h]
 | k + 7=>simp only [nkI] at h;simp [h]
theorem nkI_all {n:Notes} {i:Nat} {x:Note} (h:∀ k < 8,nkI n i x k=true):nkA n i x=true:=by
 have h0:=h 0 (by omega);have h1:=h 1 (by omega);have h2:=h 2 (by omega);have h3:=h 3 (by omega)
 have h4:=h 4 (by omega);have h5:=h 5 (by omega);have h6:=h 6 (by omega);have h7:=h 7 (by omega)
 simp only [nkI] at h0 h1 h2 h3 h4 h5 h6 h7
 simp [nkA,h0,h1,h2,h3,h4,h5,h6,h7]
def rnA (x:Note):Bool:=(decide (1≤x.number) && decide (x.number≤9999)) && (decide (0≤x.day) && decide (x.day≤14610)) && decide (x.signed≤2) && (decide (1≤x.frm) && decide (x.frm≤x.to)) && decide (x.to≤999) && decide (x.ways≤3)
def rnB (l:List Issue) (x:Note):Bool:=if x.drawing=0∧x.letter=0 then decide (x.cancels≠0) else (findI l x.drawing x.letter).isSome
def rnD (x:Note):Bool:=!(decide (x.letter < 2) && (x.useUp || decide (0 < x.ways)))
def rnT (n:Notes) (i:Nat) (x:Note):Bool:=rnA x && rnB n.reg x && rnD x && nk7 n.notes i x && nk6 n.notes i x && nk8 n.notes i x
theorem rnT_eq {n:Notes} {i:Nat} {x:Note} (h0:checkR n.reg=0) (hw:0≤x.ways):rnT n i x=nkA n i x:=by
 have hB:rnB n.reg x=nk4 n.reg x:=by
  unfold rnB nk4 atE
  rw [if_neg (show ¬ checkR n.reg≠0 by simp [h0])]
  split
  ·rfl
  ·cases (findI n.reg x.drawing x.letter).isSome<;>rfl
 have hC:rnD x=nk5 x:=by
  unfold rnD nk5
  rw [Bool.eq_iff_iff]
  cases x.useUp<;>simp<;>omega
 have hA:rnA x=(nk1 x && nk2 x && nk3 x):=by
  unfold rnA nk1 nk2 nk3
  rw [Bool.eq_iff_iff]
  simp only [Bool.and_eq_true,decide_eq_true_eq]
  omega
 unfold rnT nkA
 rw [hA,hB,hC]
 generalize nk6 n.notes i x=a
 generalize nk7 n.notes i x=b
 cases a<;>cases b<;>simp
def openL (l:List Note):List Int:=(l.filter fun x=>decide (x.signed=1)).map (·.number)
theorem openL_snoc (l:List Note) (k:Nat) (h:k < l.length):openL (l.take (k + 1))=openL (l.take k) ++ (if l[k].signed=1 then [l[k].number] else []):=by
 unfold openL
 rw [List.take_succ_eq_append_getElem h,List.filter_append,List.map_append]
 congr 1
 by_cases e:l[k].signed=1<;>simp [e]
theorem openL_len (l:List Note):(openL l).length≤l.length:=by
 unfold openL;rw [List.length_map];exact List.length_filter_le _ _
def allOk (n:Notes):Prop:=∀ (i:Nat) (x:Note),n.notes[i]?=some x→nkA n i x=true
def notesB (n:Notes):Bool:=decide (n.notes.length≤12) && (List.range n.notes.length).all (fun i=>match n.notes[i]? with|some x=>nkA n i x|none=>true) && decide ((openL n.notes).length≤5)
def notesE (n:Notes):Int:=if checkR n.reg≠0 then checkR n.reg else if notesB n then 0 else 30
theorem notesB_iff {n:Notes}:notesB n=true↔n.notes.length≤12∧allOk n∧(openL n.notes).length≤5:=by
 simp only [notesB,Bool.and_eq_true,decide_eq_true_eq,List.all_eq_true,List.mem_range,and_assoc]
 refine and_congr_right fun _=>and_congr_left fun _=>⟨fun h i x hx=>?_,fun h i hi=>?_⟩
 ·have:=h i (List.getElem?_eq_some_iff.1 hx).1
  rw [hx] at this;exact this
 ·rw [List.getElem?_eq_getElem hi]
  exact h i _ (List.getElem?_eq_getElem hi)
def truthAt (o s:List Int) (v:Int):Nat→Bool
 | 0=>decide (v∈o)
 | j + 1=>decide (v∈o) && (match s[j]? with|some u=>decide (u < v)|none=>true)
def truthB (o s:List Int):Bool:=(List.range s.length).all fun i=>match s[i]? with|some v=>truthAt o s v i|none=>true
end Go.Proofs
namespace Go.Proofs
open Go Go.Ab
set_option linter.unusedSimpArgs false
variable {G:Nat→Option (List IC)}
def SmallN (n:Notes):Prop:=Small n.reg∧n.notes.length≤16
def smallNB (n:Notes):Bool:=open Classical in decide (Small n.reg) && decide (n.notes.length≤16)
theorem great3_c (n:Notes) (objs:List DObj):DCall Tryz.prog G 40 [notesv n] objs (fun rr objs'=>rr=bv (!smallNB n)∧objs'=objs):=by
 refine DCall.frame ?_ (by simp) (by simp) objs
 refine DCall_intro Tryz.func40 rfl Tryz.ntmps40 (by simp) rfl ?_
 try simp only [notesv]
 have c1:=great_c (G:=G) n.reg
 have hE:smallNB n=(open Classical in decide (Small n.reg) && decide (n.notes.length≤16)):=rfl
 by_cases hS:Small n.reg
 ·have c1':∀ objs,DCall Tryz.prog G 68 [regv n.reg] objs (fun d objs'=>d=bv false∧objs'=objs):=fun objs=>(c1 objs).mono fun d o ⟨h1,h2⟩=>⟨by rw [h1];simp [hS],h2⟩
  rw [decide_eq_true hS,Bool.true_and] at hE
  have hs:True:=trivial
  repeat' first|(with_reducible first|refine q01 ?_|refine q11 ?_|refine q17 ?_)|(with_reducible refine At.fn_ret (by simp -dsimp [hs];exact rfl) ?_)|(refine CallE.pure (c1') ?_;try simp -dsimp [hs])|(with_reducible refine DT_regionE [0,1,2] ?_;simp -dsimp [hs])
  all_goals try simp -dsimp [hs]
  all_goals try clear hs
  rw [hE,← decide_not,decide_eq_decide];omega
 ·have c1':∀ objs,DCall Tryz.prog G 68 [regv n.reg] objs (fun d objs'=>d=bv true∧objs'=objs):=fun objs=>(c1 objs).mono fun d o ⟨h1,h2⟩=>⟨by rw [h1];simp [hS],h2⟩
  rw [decide_eq_false hS,Bool.false_and] at hE
  have hs:True:=trivial
  repeat' first|(with_reducible first|refine q01 ?_|refine q11 ?_|refine q17 ?_)|(with_reducible refine At.fn_ret (by simp -dsimp [hs];exact rfl) ?_)|(refine CallE.pure (c1') ?_;try simp -dsimp [hs])|(with_reducible refine DT_regionE [0,1,2] ?_;simp -dsimp [hs])
  all_goals try simp -dsimp [hs]
  all_goals try clear hs
  rw [hE];try rfl
theorem same3_c (n:Notes) (hs:SmallN n) (objs:List DObj):DCall Tryz.prog G 58 [notesv n,notesv n] objs (fun rr objs'=>rr=bv true∧objs'=objs):=by
 refine DCall.frame ?_ (by simp) (by simp) objs
 refine DCall_intro Tryz.func58 rfl Tryz.ntmps58 (by simp) rfl ?_
 try simp only [notesv,notesv]
 have c1:=same_c (G:=G) n.reg n.reg hs.1
 simp only [decide_true] at c1
 have hl:=hs.2
 have hs:True:=trivial
 repeat' first|(with_reducible first|refine q01 ?_|refine q11 ?_|refine q12 ?_|refine q14 ?_)|(refine CallE.pure (c1) ?_;try simp -dsimp [hs])|(with_reducible refine DT_regionE [0,1,2,3,4,5,20,25,38] ?_;simp -dsimp [hs])|(refine DT_cond rfl (fun h=>?_) (fun h=>?_)<;>(try simp only [nrm] at h)<;>(try exact Bool.noConfusion h))
 all_goals try simp -dsimp [hs]
 all_goals try clear hs
 refine DT_loop (ι:={ k:Nat // k≤n.notes.length }) (fun p=>⟨39,[(2,.one (.ptr 0 0)),(3,.one (.ptr 1 0)),(4,bv false),(5,iv (p.1:Int))],[.row ((encNotes n).map .im),.row ((encNotes n).map .im)]⟩) (fun p=>n.notes.length - p.1) ⟨0,by simp⟩ (Weak.of_keep [2,3,4,5] (by simp)) ?_
 rintro ⟨k,hk⟩
 simp only [iv,bv]
 by_cases hlt:k < n.notes.length
 ·have hw:IntKind.i64.wrap ((k:Int) + 1)=((k + 1:Nat):Int):=i64w (by omega) (by omega)
  generalize hx:n.notes[k]=x
  have hs:True:=trivial
  repeat' first|(with_reducible first|refine q01 ?_|refine q04 ?_|refine q11 ?_|refine q12 ?_|refine q14 ?_)|(refine DT_regionM (id:=6) (nt:=39) 11 [0,1,2,3,4,5,20,25,38] mixed rfl (by kernel_rfl) ?_;simp -dsimp [hx,hlt,hw,hs])|(with_reducible refine DT_regionE [0,1,2,3,4,5,20,25,38] ?_;simp -dsimp [hx,hlt,hw,hs])|(refine DT_cond rfl (fun h=>?_) (fun h=>?_)<;>(try simp only [nrm] at h)<;>(try exact Bool.noConfusion h))
  all_goals try simp -dsimp [hx,hlt,hw,hs]
  all_goals try clear hs
  exact At.round ⟨k + 1,by omega⟩ (by simp;omega) (Weak.of_keep [2,3,4,5] (by simp))
 ·have hs:True:=trivial
  repeat' first|(with_reducible first|refine q01 ?_|refine q03 ?_|refine q06 ?_|refine q11 ?_|refine q16 ?_|refine q17 ?_)|(with_reducible refine At.fn_ret (by simp -dsimp [hlt,hs];exact rfl) ?_)|(with_reducible refine DT_regionE [0,1,2,3,4,5,20,25,38] ?_;simp -dsimp [hlt,hs])|(refine DT_cond rfl (fun h=>?_) (fun h=>?_)<;>(try simp only [nrm] at h)<;>(try exact Bool.noConfusion h))
  all_goals try simp -dsimp [hlt,hs]
  all_goals try clear hs
theorem twin3_c (n:Notes) (hs:SmallN n) (objs:List DObj):DCall Tryz.prog G 41 [notesv n] objs (fun rr objs'=>rr=notesv n∧objs'=objs):=by
 refine DCall.frame ?_ (by simp) (by simp) objs
 refine DCall_intro Tryz.func41 rfl Tryz.ntmps41 (by simp) rfl ?_
 try simp only [notesv]
 have c1:=twin_c (G:=G) n.reg hs.1
 have hl:=hs.2
 have hs:True:=trivial
 repeat' first|(with_reducible first|refine q01 ?_|refine q11 ?_|refine q17 ?_|refine And.intro (by omega) ?_)|(with_reducible refine At.fn_ret (by simp -dsimp [hs];exact rfl) ?_)|(refine QCall_pure (c1) ?_;try simp -dsimp [hs])|(refine DT_regionM (id:=1) (nt:=11) 8 [0,1,2] mixed rfl (by kernel_rfl) ?_;simp -dsimp [hs])|(with_reducible refine DT_regionE [0,1,2] ?_;simp -dsimp [hs])
 all_goals try simp -dsimp [hs]
 all_goals try clear hs
end Go.Proofs
namespace Go.Ab
open Go
def encB (b:Bool):List IC:=[rB b]
def bsv (l:List Bool):DV:=.one (.im (.sl (l.map encB)))
attribute [simp] encB bsv
end Go.Ab
namespace Go.Proofs
open Go Go.Ab
set_option linter.unusedSimpArgs false
variable {G:Nat→Option (List IC)}
end Go.Proofs
namespace Go.Proofs
open Go Go.Ab
set_option linter.unusedSimpArgs false
variable {G:Nat→Option (List IC)}
end Go.Proofs
namespace Go.Ab
open Go
def frcB (signed without:List Int) (m:Int) (x:Note):Bool:=(decide (x.signed=2) || decide (x.number∈signed)) && !decide (x.number∈without) && (decide (x.frm≤m) && decide (m≤x.to))
def frcO (n:Int):List Note→List Bool→Bool
 | y :: l,b :: o=>!(b && decide (y.cancels=n)) && frcO n l o
 | _,_=>true
def frcL (signed without:List Int) (m:Int):List Note→List Bool
 | []=>[]
 | x :: r=>(frcB signed without m x && frcO x.number r (frcL signed without m r)) :: frcL signed without m r
@[simp] theorem ims_setB (L:List Bool) (k:Nat) (v:Bool):(ims (L.map encB)).set k [DC.im (.raw (.bool v))]=ims ((L.set k v).map encB):=by
 simp only [ims,List.map_set,encB,rB,List.map_cons,List.map_nil]
@[simp] theorem ims_getB (L:List Bool) (k:Nat) (h:k < (ims (L.map encB)).length):(ims (L.map encB))[k]=[DC.im (.raw (.bool (L[k]'(by simpa [ims_length] using h))))]:=by
 simp [ims]
end Go.Ab
namespace Go.Proofs
open Go Go.Ab
set_option linter.unusedSimpArgs false
variable {G:Nat→Option (List IC)}
end Go.Proofs
namespace Go.Proofs
open Go Go.Ab
def numAt (l:List Note) (i:Nat):Int:=((l[i]?).map (·.number)).getD 0
def opAt (l:List Note) (i:Nat):Bool:=match l[i]? with|some x=>decide (x.signed=1)|none=>false
structure OpenTo (l:List Note) (k:Nat) (S:List Nat):Prop where
 perm:S.Perm ((List.range k).filter (opAt l))
 srt:S.Pairwise fun a b=>numAt l a≤numAt l b
theorem OpenTo.nil (l:List Note):OpenTo l 0 []:=⟨by simp,by simp⟩
theorem OpenTo.lt {l:List Note} {k:Nat} {S:List Nat} (h:OpenTo l k S):∀ i∈S,i < k∧opAt l i=true:=fun i hi=>by
 have:=h.perm.mem_iff.1 hi
 simpa using this
theorem OpenTo.len {l:List Note} {k:Nat} {S:List Nat} (h:OpenTo l k S):S.length≤k:=by
 rw [h.perm.length_eq]
 have:=List.length_filter_le (opAt l) (List.range k)
 simpa using this
theorem OpenTo.skip {l:List Note} {k:Nat} {S:List Nat} (h:OpenTo l k S) (hk:opAt l k=false):OpenTo l (k + 1) S:=
 ⟨by rw [List.range_succ,List.filter_append];simpa [hk] using h.perm,h.srt⟩
theorem OpenTo.put {l:List Note} {k:Nat} {S:List Nat} (h:OpenTo l k S) (hk:opAt l k=true) (q:Nat)
 (h1:∀ i∈S.take q,numAt l i≤numAt l k) (h2:∀ i∈S.drop q,numAt l k≤numAt l i):OpenTo l (k + 1) (S.take q ++ k :: S.drop q):=by
 constructor
 ·rw [List.range_succ,List.filter_append]
  simp only [List.filter_cons,hk,if_true,List.filter_nil]
  refine List.perm_middle.trans ?_
  rw [List.take_append_drop]
  exact (List.perm_append_singleton k _).symm.trans (List.Perm.append_right _ h.perm)
 ·have h3:=h.srt
  rw [← List.take_append_drop q S,List.pairwise_append] at h3
  obtain ⟨p1,p2,p3⟩:=h3
  rw [List.pairwise_append,List.pairwise_cons]
  refine ⟨p1,⟨h2,p2⟩,fun a ha b hb=>?_⟩
  rcases List.mem_cons.1 hb with rfl|hb
  ·exact h1 a ha
  ·exact p3 a ha b hb
theorem OpenTo.first {l:List Note} {k:Nat} {S:List Nat} (h:OpenTo l k S) {q:Nat} (hq:q < S.length) {v:Int} (hv:numAt l S[q]≤v):∀ i∈S.take (q + 1),numAt l i≤v:=fun i hi=>by
 obtain ⟨j,hj,e⟩:=List.mem_take_iff_getElem.1 hi
 have h3:=List.pairwise_iff_getElem.1 h.srt
 by_cases he:j=q
 ·subst he;rw [← e];exact hv
 ·have:=h3 j q (by omega) hq (by omega)
  rw [e] at this;omega
theorem filter_range (l:List Note):∀ k,k≤l.length→((List.range k).filter (opAt l)).map (numAt l)=openL (l.take k)
 | 0,_=>by simp [openL]
 | k + 1,h=>by
   have hk:k < l.length:=by omega
   rw [List.range_succ,List.filter_append,List.map_append,filter_range l k (by omega),openL_snoc l k hk]
   congr 1
   have e:l[k]?=some l[k]:=by simp [hk]
   by_cases h1:l[k].signed=1
   ·simp [opAt,e,h1,numAt]
   ·simp [opAt,e,h1]
theorem OpenTo.nums {l:List Note} {S:List Nat} (h:OpenTo l l.length S):S.map (numAt l)=isort (openL l):=by
 have h1:(S.map (numAt l)).Perm (isort (openL l)):=by
  refine (h.perm.map _).trans ?_
  rw [filter_range l _ (Nat.le_refl _),List.take_length]
  exact (List.mergeSort_perm _ _).symm
 refine h1.eq_of_pairwise (le:=(·≤·)) (fun a b _ _ h2 h3=>by omega) (by rw [List.pairwise_map];exact h.srt) ?_
 have:=List.pairwise_mergeSort (le:=fun x y:Int=>decide (x≤y)) (fun a b c h1 h2=>by simp at *;omega) (fun a b=>by simp;omega) (openL l)
 exact this.imp fun h=>by simpa using h
theorem isort_mem {l:List Int} {n:Int}:n∈isort l↔n∈l:=(List.mergeSort_perm l _).mem_iff
theorem isort_sorted (l:List Int):(isort l).Pairwise (·≤·):=by
 have:=List.pairwise_mergeSort (le:=fun x y:Int=>decide (x≤y)) (fun a b c h1 h2=>by simp at *;omega) (fun a b=>by simp;omega) l
 exact this.imp fun h=>by simpa using h
end Go.Proofs
namespace Go.Proofs
open Go Go.Ab
set_option linter.unusedSimpArgs false
variable {G:Nat→Option (List IC)}
theorem rnT_A {n:Notes} {i:Nat} {x:Note} (h:¬ (1≤x.number∧x.number≤9999∧0≤x.day∧x.day≤14610∧x.signed≤2∧1≤x.frm∧x.frm≤x.to∧x.to≤999∧x.ways≤3)):rnT n i x=false:=by
 have:rnA x=false:=by
  rw [← Bool.not_eq_true];simp only [rnA,Bool.and_eq_true,decide_eq_true_eq];omega
 simp [rnT,this]
theorem rnT_B {n:Notes} {i:Nat} {x:Note} {f:Bool} (hf:(findI n.reg x.drawing x.letter).isSome=f) (h:¬ ((x.drawing=0∧x.letter=0→x.cancels≠0)∧(¬ (x.drawing=0∧x.letter=0)→f=true))):rnT n i x=false:=by
 have:rnB n.reg x=false:=by
  rw [← Bool.not_eq_true];unfold rnB;rw [hf]
  split<;>simp_all
 simp [rnT,this]
theorem rnT_D {n:Notes} {i:Nat} {x:Note} (h:x.letter < 2∧(x.useUp=true∨0 < x.ways)):rnT n i x=false:=by
 have:rnD x=false:=by
  obtain ⟨h1,h2⟩:=h
  rw [rnD,Bool.not_eq_false']
  rcases h2 with h2|h2<;>simp [h1,h2]
 simp [rnT,this]
theorem rnT_E {n:Notes} {i:Nat} {x:Note} (h:nk7 n.notes i x=false):rnT n i x=false:=by simp [rnT,h]
theorem rnT_F {n:Notes} {i:Nat} {x:Note} {f:Bool} (hf:(findI n.reg x.drawing x.letter).isSome=f) (h:1≤x.number∧x.number≤9999∧0≤x.day∧x.day≤14610∧x.signed≤2∧1≤x.frm∧x.frm≤x.to∧x.to≤999∧x.ways≤3)
 (hb:(x.drawing=0∧x.letter=0→x.cancels≠0)∧(¬ (x.drawing=0∧x.letter=0)→f=true)) (hd:¬ (x.letter < 2∧(x.useUp=true∨0 < x.ways))) (he:nk7 n.notes i x=true):rnT n i x=(nk6 n.notes i x && nk8 n.notes i x):=by
 have h1:rnA x=true:=by simp only [rnA,Bool.and_eq_true,decide_eq_true_eq];omega
 have h2:rnB n.reg x=true:=by
  unfold rnB;rw [hf]
  split<;>simp_all
 have h3:rnD x=true:=by
  rw [rnD,Bool.not_eq_true',← Bool.not_eq_true];simpa using hd
 simp [rnT,h1,h2,h3,he]
def bfK (l:List Note) (x:Note) (k:Nat):Bool:=decide (x.cancels=0) || (l.take k).any fun y=>decide (y.number=x.cancels)
theorem bfK_succ {l:List Note} {x:Note} {k:Nat} (hk:k < l.length):bfK l x (k + 1)=(bfK l x k || decide (l[k].number=x.cancels)):=by
 unfold bfK
 rw [List.take_succ_eq_append_getElem hk,List.any_append]
 simp [Bool.or_assoc]
def nosame (l:List Note) (x:Note) (k:Nat):Prop:=((l.take k).any fun y=>decide (y.number=x.number))=false
theorem nosame_succ {l:List Note} {x:Note} {k:Nat} (hk:k < l.length) (h:nosame l x k) (h2:¬ l[k].number=x.number):nosame l x (k + 1):=by
 unfold nosame at *
 rw [List.take_succ_eq_append_getElem hk,List.any_append,h]
 simp [h2]
theorem nk7_bad {l:List Note} {x:Note} {k i:Nat} (hki:k < i) (hk:k < l.length) (h2:l[k].number=x.number):nk7 l i x=false:=by
 unfold nk7
 rw [Bool.not_eq_false',List.any_eq_true]
 exact ⟨l[k],List.mem_take_iff_getElem.2 ⟨k,by omega,rfl⟩,by simp [h2]⟩
set_option maxHeartbeats 2000000 in
theorem note3_c (n:Notes) (i:Nat) (x:Note) (hx:n.notes[i]?=some x) (hl:n.notes.length < 1000) (hr:n.reg.length < 1000) (objs:List DObj):DCall Tryz.prog G 114 [notesv n,iv (i:Int)] objs (fun rr objs'=>rr=bv (rnT n i x)∧objs'=objs):=by
 refine DCall.frame ?_ (by simp) (by simp) objs
 refine DCall_intro Tryz.func114 rfl Tryz.ntmps114 (by simp) rfl ?_
 try simp only [notesv,iv]
 have hi:i < n.notes.length:=lt_of_getElem? hx
 have hxe:n.notes[i]=x:=(List.getElem?_eq_some_iff.1 hx).2
 have c1:=within3_c (G:=G) x.number 1 9999
 have c2:=within3_c (G:=G) x.day 0 14610
 have c3:=within3_c (G:=G) x.frm 1 x.to
 have c4:=find_c (G:=G) n.reg x.drawing x.letter (by omega)
 simp only [refv] at c4
 generalize hf:(findI n.reg x.drawing x.letter).isSome=f at *
 have c5:∀ (h:x.drawing=0) objs,DCall Tryz.prog G 56 [regv n.reg,refv 0 x.letter] objs (fun r objs'=>r=.tup [issv ((findI n.reg x.drawing x.letter).getD zIssue),bv f]∧objs'=objs):=fun h=>by
  rw [h] at c4 ⊢;exact c4
 simp only [refv] at c5
 have hs:True:=trivial
 repeat' first|(with_reducible first|refine q01 ?_|refine q02 ?_|refine q11 ?_|refine q12 ?_|refine q14 ?_|refine q17 ?_)|(with_reducible refine At.fn_ret (by simp -dsimp [hxe,hi,hs];exact rfl) ?_)|(refine CallE.pure (c1) ?_;try simp -dsimp [hxe,hi,hs])|(refine CallE.pure (c2) ?_;try simp -dsimp [hxe,hi,hs])|(refine CallE.pure (c3) ?_;try simp -dsimp [hxe,hi,hs])|(refine CallE.pure (c4) ?_;try simp -dsimp [hxe,hi,hs])|(refine CallE.pure (c5 ‹_›) ?_;try simp -dsimp [hxe,hi,hs])|(with_reducible refine DT_regionE [0,1,2,4,5,7,8,9,10,11,49,57,60,73,85,91,103,113] ?_;simp -dsimp [hxe,hi,hs])|(refine DT_cond rfl (fun h=>?_) (fun h=>?_)<;>(try simp only [nrm] at h)<;>(try exact Bool.noConfusion h))|(with_reducible refine GStop_split ?_ ?_<;>intro h<;>have h0:=h<;>(try simp only [nrm] at h)<;>(try exact Bool.noConfusion h)<;>have h2:=h<;>(try simp at h2)<;>(replace hs:=And.intro h0 (And.intro h (And.intro h2 hs)))<;>simp -dsimp [h0,h,h2,hxe,hi,hs])
 all_goals try simp -dsimp [hxe,hi,hs]
 all_goals try clear hs
 all_goals clear c1 c2 c3 c4 c5 hx
 all_goals try (refine rnT_A ?_;omega)
 all_goals try (refine rnT_B hf ?_;clear hf hxe;simp_all;done)
 all_goals try (refine rnT_D ?_;clear hf hxe;simp_all;done)
 all_goals
  have hF:nk7 n.notes i x=true→rnT n i x=(nk6 n.notes i x && nk8 n.notes i x):=by
   refine rnT_F hf (by omega) ?_ ?_
   ·clear hxe hf;simp_all
   ·clear hxe hf;simp_all;try omega
 all_goals refine DT_loop (ι:={ k:Nat // k≤i∧nosame n.notes x k }) (fun p=>⟨143,[(1,iv (i:Int)),(2,.one (.ptr 0 0)),(5,.one (.ptr 1 0)),(8,bv (bfK n.notes x p.1)),(9,iv (p.1:Int))],[.row ((encNotes n).map .im),.row ((encNote x).map .im)]⟩) (fun p=>i - p.1) ⟨0,by simp [nosame]⟩ (Weak.of_drop [1,2,5,8,9] 2 (by simp) (by simp) (by clear hF hf hxe;simp [bfK, *])) ?_
 all_goals
  rintro ⟨k,hk,hno⟩
  simp only [iv,bv]
  by_cases hlt:k < i
  ·have hlk:k < n.notes.length:=by omega
   have hw:IntKind.i64.wrap ((k:Int) + 1)=((k + 1:Nat):Int):=i64w (by omega) (by omega)
   have hsu:=bfK_succ (x:=x) hlk
   have hn2:=nosame_succ hlk hno
   have hbad:=nk7_bad (x:=x) hlt hlk
   generalize hy:n.notes[k]=y at *
   generalize hb:bfK n.notes x k=b at *
   cases b
   all_goals
    have hs:True:=trivial
    repeat' first|(with_reducible first|refine q01 ?_|refine q02 ?_|refine q04 ?_|refine q05 ?_|refine q11 ?_|refine q12 ?_|refine q14 ?_|refine q17 ?_)|(with_reducible refine At.fn_ret (by simp -dsimp [hxe,hi,hy,hlt,hlk,hw,hs];exact rfl) ?_)|(with_reducible refine DT_regionE [0,1,2,4,5,7,8,9,10,11,49,57,60,73,85,91,103,113] ?_;simp -dsimp [hxe,hi,hy,hlt,hlk,hw,hs])|(refine DT_cond rfl (fun h=>?_) (fun h=>?_)<;>(try simp only [nrm] at h)<;>(try exact Bool.noConfusion h))
    all_goals try simp -dsimp [hxe,hi,hy,hlt,hlk,hw,hs]
    all_goals try clear hs
   all_goals try (rw [show rnT n i x=false from rnT_E (hbad (by assumption))];done)
   all_goals exact At.round ⟨k + 1,by omega,hn2 (by assumption)⟩ (by simp;omega) (Weak.of_drop [1,2,5,8,9] 2 (by simp) (by simp) (by simp [hsu]))
  ·have e:k=i:=by omega
   subst e
   have hT:=hF (by unfold nk7;rw [show ((n.notes.take k).any fun y=>decide (y.number=x.number))=false from hno];rfl)
   rw [show nk6 n.notes k x=bfK n.notes x k from rfl] at hT
   by_cases h00:k=0
   ·have hk0:(k:Int)=0:=by omega
    have hs:True:=trivial
    repeat' first|(with_reducible first|refine q01 ?_|refine q02 ?_|refine q03 ?_|refine q06 ?_|refine q11 ?_|refine q16 ?_|refine q17 ?_)|(with_reducible refine At.fn_ret (by simp -dsimp [hlt,hk0,hs];exact rfl) ?_)|(with_reducible refine DT_regionE [0,1,2,4,5,7,8,9,10,11,49,57,60,73,85,91,103,113] ?_;simp -dsimp [hlt,hk0,hs])|(refine DT_cond rfl (fun h=>?_) (fun h=>?_)<;>(try simp only [nrm] at h)<;>(try exact Bool.noConfusion h))
    all_goals try simp -dsimp [hlt,hk0,hs]
    all_goals try clear hs
    rw [hT,nk8,if_pos h00,Bool.and_true]
   ·have hk1:k - 1 < n.notes.length:=by omega
    have hk0:¬ (k:Int)=0:=by omega
    have hw:IntKind.i64.wrap ((k:Int) - 1)=((k - 1:Nat):Int):=by rw [i64w (by omega) (by omega)];omega
    have h8:nk8 n.notes k x=befN n.notes[k - 1] x:=by rw [nk8,if_neg h00,List.getElem?_eq_getElem hk1]
    rw [h8] at hT
    generalize hy:n.notes[k - 1]=y at *
    generalize hb:bfK n.notes x k=b at *
    cases b
    all_goals
     have hs:True:=trivial
     repeat' first|(with_reducible first|refine q01 ?_|refine q03 ?_|refine q06 ?_|refine q11 ?_|refine q14 ?_|refine q16 ?_|refine q17 ?_)|(with_reducible refine At.fn_ret (by simp -dsimp [hxe,hi,hy,hk1,hw,hk0,h00,hs];exact rfl) ?_)|(with_reducible refine DT_regionE [0,1,2,4,5,7,8,9,10,11,49,57,60,73,85,91,103,113] ?_;simp -dsimp [hxe,hi,hy,hk1,hw,hk0,h00,hs])|(refine DT_cond rfl (fun h=>?_) (fun h=>?_)<;>(try simp only [nrm] at h)<;>(try exact Bool.noConfusion h))|(with_reducible refine GStop_split ?_ ?_<;>intro h<;>have h0:=h<;>(try simp only [nrm] at h)<;>(try exact Bool.noConfusion h)<;>have h2:=h<;>(try simp at h2)<;>(replace hs:=And.intro h0 (And.intro h (And.intro h2 hs)))<;>simp -dsimp [h0,h,h2,hxe,hi,hy,hk1,hw,hk0,h00,hs])
     all_goals try simp -dsimp [hxe,hi,hy,hk1,hw,hk0,h00,hs]
     all_goals try clear hs
    all_goals rw [hT]
    all_goals try (rfl;done)
    all_goals (rw [Bool.true_and,Bool.eq_iff_iff];simp only [befN,Bool.or_eq_true,Bool.and_eq_true,decide_eq_true_eq,iff_true,iff_false,Bool.false_eq_true];omega)
end Go.Proofs
namespace Go.Proofs
open Go Go.Ab
set_option linter.unusedSimpArgs false
variable {G:Nat→Option (List IC)}
def NSm (n:Notes):Prop:=SmallR n.reg∧n.notes.length≤16∧∀ x∈n.notes,0≤x.ways∧x.ways≤255∧0≤x.signed∧x.signed≤255
theorem openL_succ_len {l:List Note} {k:Nat} (h:k < l.length):((openL (l.take (k + 1))).length:Int)=(openL (l.take k)).length + (if l[k].signed=1 then 1 else 0):=by
 rw [openL_snoc l k h]
 split<;>simp
def rnotesB (n:Notes):Bool:=decide (n.notes.length≤12) && (List.range n.notes.length).all (fun i=>match n.notes[i]? with|some x=>rnT n i x|none=>true) && decide ((openL n.notes).length≤5)
theorem rnotesB_iff {n:Notes}:rnotesB n=true↔n.notes.length≤12∧(∀ (i:Nat) (x:Note),n.notes[i]?=some x→rnT n i x=true)∧(openL n.notes).length≤5:=by
 simp only [rnotesB,Bool.and_eq_true,decide_eq_true_eq,List.all_eq_true,List.mem_range,and_assoc]
 refine and_congr_right fun _=>and_congr_left fun _=>⟨fun h i x hx=>?_,fun h i hi=>?_⟩
 ·have:=h i (List.getElem?_eq_some_iff.1 hx).1
  rw [hx] at this;exact this
 ·rw [List.getElem?_eq_getElem hi]
  exact h i _ (List.getElem?_eq_getElem hi)
theorem rnotes_eq {n:Notes} (h0:checkR n.reg=0) (hx:∀ x∈n.notes,0≤x.ways):rnotesB n=notesB n:=by
 rw [Bool.eq_iff_iff,rnotesB_iff,notesB_iff]
 refine and_congr_right fun _=>and_congr_left fun _=>forall_congr' fun i=>forall_congr' fun x=>?_
 exact ⟨fun h hi=>by rw [← rnT_eq h0 (hx x (List.mem_of_getElem? hi))];exact h hi,fun h hi=>by rw [rnT_eq h0 (hx x (List.mem_of_getElem? hi))];exact h hi⟩
set_option maxHeartbeats 1000000 in
theorem notes3G_c (n:Notes) (hs:NSm n) (objs:List DObj):DCall Tryz.prog G 86 [notesv n] objs (fun rr objs'=>rr=bv (rnotesB n)∧objs'=objs):=by
 refine DCall.frame ?_ (by simp) (by simp) objs
 refine DCall_intro Tryz.func86 rfl Tryz.ntmps86 (by simp) rfl ?_
 try simp only [notesv]
 obtain ⟨hsr,hsn,hsx⟩:=hs
 have hr:=hsr.1
 by_cases hl:n.notes.length≤12
 ·have hli:¬ (12:Int) < n.notes.length:=by omega
  have hs:True:=trivial
  repeat' first|(with_reducible first|refine q01 ?_|refine q11 ?_|refine q12 ?_|refine q14 ?_)|(with_reducible refine DT_regionE [0,1,2,3,4,8,13,19,26] ?_;simp -dsimp [hli,hs])|(refine DT_cond rfl (fun h=>?_) (fun h=>?_)<;>(try simp only [nrm] at h)<;>(try exact Bool.noConfusion h))
  all_goals try simp -dsimp [hli,hs]
  all_goals try clear hs
  refine DT_loop (ι:={ k:Nat // k≤n.notes.length∧∀ (j:Nat) (x:Note),j < k→n.notes[j]?=some x→rnT n j x=true }) (fun p=>⟨31,[(1,.one (.ptr 0 0)),(3,iv ((openL (n.notes.take p.1)).length:Int)),(4,iv (p.1:Int))],[.row ((encNotes n).map .im)]⟩) (fun p=>n.notes.length - p.1) ⟨0,by simp⟩ (Weak.of_keep [1,3,4] (by simp [openL])) ?_
  rintro ⟨k,hk,hok⟩
  simp only [iv]
  by_cases hlt:k < n.notes.length
  ·have hx0:n.notes[k]?=some n.notes[k]:=by simp [hlt]
   have hw:IntKind.i64.wrap ((k:Int) + 1)=((k + 1:Nat):Int):=i64w (by omega) (by omega)
   have hos:=openL_succ_len hlt
   have hol:=openL_len (n.notes.take k)
   rw [List.length_take] at hol
   have hw2:IntKind.i64.wrap (((openL (n.notes.take k)).length:Int) + 1)=((openL (n.notes.take k)).length:Int) + 1:=i64w (by omega) (by omega)
   have hsx':=hsx n.notes[k] (List.getElem_mem hlt)
   generalize hx:n.notes[k]=x at *
   have c1:=note3_c (G:=G) n k x hx0 (by omega) (by omega)
   have hbad:rnT n k x=false→rnotesB n=false:=fun h=>by
    rw [← Bool.not_eq_true]
    intro hb
    have:=(rnotesB_iff.1 hb).2.1 k x hx0
    rw [h] at this;cases this
   have hstep:rnT n k x=true→∀ (j:Nat) (z:Note),j < k + 1→n.notes[j]?=some z→rnT n j z=true:=fun h j z hj hz=>by
    by_cases e:j=k
    ·subst e;rw [hx0] at hz;cases hz;exact h
    ·exact hok j z (by omega) hz
   generalize rnT n k x=q at *
   cases q
   ·have hs:True:=trivial
    repeat' first|(with_reducible first|refine q01 ?_|refine q02 ?_|refine q05 ?_|refine q11 ?_|refine q12 ?_|refine q14 ?_|refine q17 ?_)|(with_reducible refine At.fn_ret (by simp -dsimp [hx,hlt,hw,hs];exact rfl) ?_)|(refine CallE.pure (c1) ?_;try simp -dsimp [hx,hlt,hw,hs])|(with_reducible refine DT_regionE [0,1,2,3,4,8,13,19,26] ?_;simp -dsimp [hx,hlt,hw,hs])|(refine DT_cond rfl (fun h=>?_) (fun h=>?_)<;>(try simp only [nrm] at h)<;>(try exact Bool.noConfusion h))
    all_goals try simp -dsimp [hx,hlt,hw,hs]
    all_goals try clear hs
    exact hbad rfl
   ·have hs:True:=trivial
    repeat' first|(with_reducible first|refine q01 ?_|refine q04 ?_|refine q11 ?_|refine q12 ?_|refine q14 ?_)|(refine CallE.pure (c1) ?_;try simp -dsimp [hx,hlt,hw,hw2,hs])|(with_reducible refine DT_regionE [0,1,2,3,4,8,13,19,26] ?_;simp -dsimp [hx,hlt,hw,hw2,hs])|(refine DT_cond rfl (fun h=>?_) (fun h=>?_)<;>(try simp only [nrm] at h)<;>(try exact Bool.noConfusion h))
    all_goals try simp -dsimp [hx,hlt,hw,hw2,hs]
    all_goals try clear hs
    all_goals exact At.round ⟨k + 1,by omega,hstep rfl⟩ (by simp;omega) (Weak.of_keep [1,3,4] (by simp [hos, *]))
  ·have e:k=n.notes.length:=by omega
   subst e
   rw [List.take_length]
   have hs:True:=trivial
   repeat' first|(with_reducible first|refine q01 ?_|refine q03 ?_|refine q06 ?_|refine q11 ?_|refine q16 ?_|refine q17 ?_)|(with_reducible refine At.fn_ret (by simp -dsimp [hlt,hs];exact rfl) ?_)|(with_reducible refine DT_regionE [0,1,2,3,4,8,13,19,26] ?_;simp -dsimp [hlt,hs])|(refine DT_cond rfl (fun h=>?_) (fun h=>?_)<;>(try simp only [nrm] at h)<;>(try exact Bool.noConfusion h))
   all_goals try simp -dsimp [hlt,hs]
   all_goals try clear hs
   rw [Bool.eq_iff_iff,rnotesB_iff]
   simp only [decide_eq_true_eq]
   constructor
   ·intro h
    exact ⟨hl,fun j x hx=>hok j x (lt_of_getElem? hx) hx,by omega⟩
   ·intro h
    have:=h.2.2;omega
 ·have hli:(12:Int) < n.notes.length:=by omega
  have hs:True:=trivial
  repeat' first|(with_reducible first|refine q01 ?_|refine q02 ?_|refine q11 ?_|refine q17 ?_)|(with_reducible refine At.fn_ret (by simp -dsimp [hli,hs];exact rfl) ?_)|(with_reducible refine DT_regionE [0,1,2,3,4,8,13,19,26] ?_;simp -dsimp [hli,hs])|(refine DT_cond rfl (fun h=>?_) (fun h=>?_)<;>(try simp only [nrm] at h)<;>(try exact Bool.noConfusion h))
  all_goals try simp -dsimp [hli,hs]
  all_goals try clear hs
  exact Bool.eq_false_iff.2 fun h=>hl (rnotesB_iff.1 h).1
theorem notes3_c (n:Notes) (hs:NSm n) (h0:checkR n.reg=0) (objs:List DObj):DCall Tryz.prog G 86 [notesv n] objs (fun rr objs'=>rr=bv (notesB n)∧objs'=objs):=by
 rw [← rnotes_eq h0 fun x hx=>(hs.2.2 x hx).1]
 exact notes3G_c n hs objs
theorem check3_c (n:Notes) (hs:NSm n) (objs:List DObj):DCall Tryz.prog G 53 [notesv n] objs (fun rr objs'=>rr=iv (notesE n)∧objs'=objs):=by
 refine DCall.frame ?_ (by simp) (by simp) objs
 refine DCall_intro Tryz.func53 rfl Tryz.ntmps53 (by simp) rfl ?_
 try simp only [notesv]
 have c1:=rcheck_c (G:=G) n.reg hs.1
 by_cases h0:checkR n.reg=0
 ·have c2:=notes3_c (G:=G) n hs h0
  have hE:notesE n=if notesB n then 0 else 30:=by unfold notesE;rw [if_neg (by simp [h0])]
  rw [h0] at c1
  generalize notesB n=q at *
  cases q
  ·have hs:True:=trivial
   repeat' first|(with_reducible first|refine q01 ?_|refine q02 ?_|refine q11 ?_|refine q14 ?_|refine q17 ?_)|(with_reducible refine At.fn_ret (by simp -dsimp [hs];exact rfl) ?_)|(refine CallE.pure (c1) ?_;try simp -dsimp [hs])|(refine CallE.pure (c2) ?_;try simp -dsimp [hs])|(with_reducible refine DT_regionE [0,1,2,3,8,12] ?_;simp -dsimp [hs])|(refine DT_cond rfl (fun h=>?_) (fun h=>?_)<;>(try simp only [nrm] at h)<;>(try exact Bool.noConfusion h))
   all_goals try simp -dsimp [hs]
   all_goals try clear hs
   all_goals simp [hE]
  ·have hs:True:=trivial
   repeat' first|(with_reducible first|refine q01 ?_|refine q11 ?_|refine q14 ?_|refine q17 ?_)|(with_reducible refine At.fn_ret (by simp -dsimp [hs];exact rfl) ?_)|(refine CallE.pure (c1) ?_;try simp -dsimp [hs])|(refine CallE.pure (c2) ?_;try simp -dsimp [hs])|(with_reducible refine DT_regionE [0,1,2,3,8,12] ?_;simp -dsimp [hs])|(refine DT_cond rfl (fun h=>?_) (fun h=>?_)<;>(try simp only [nrm] at h)<;>(try exact Bool.noConfusion h))
   all_goals try simp -dsimp [hs]
   all_goals try clear hs
   all_goals simp [hE]
 ·have hE:notesE n=checkR n.reg:=by unfold notesE;rw [if_pos h0]
  have hs:True:=trivial
  repeat' first|(with_reducible first|refine q01 ?_|refine q02 ?_|refine q11 ?_|refine q17 ?_)|(with_reducible refine At.fn_ret (by simp -dsimp [h0,hs];exact rfl) ?_)|(refine CallE.pure (c1) ?_;try simp -dsimp [h0,hs])|(with_reducible refine DT_regionE [0,1,2,3,8,12] ?_;simp -dsimp [h0,hs])|(refine DT_cond rfl (fun h=>?_) (fun h=>?_)<;>(try simp only [nrm] at h)<;>(try exact Bool.noConfusion h))
  all_goals try simp -dsimp [h0,hs]
  all_goals try clear hs
  all_goals simp [hE]
end Go.Proofs
