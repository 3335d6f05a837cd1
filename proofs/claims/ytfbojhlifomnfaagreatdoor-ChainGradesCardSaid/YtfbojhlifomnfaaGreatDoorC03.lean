/- Part 31 of the proofs: laws and walks that hold without conditions beyond those that each theorem names. -/
import Derived.Test.YtfbojhlifomnfaaGreatDoorA12
import Derived.Test.YtfbojhlifomnfaaGreatDoorA23
import Derived.Test.YtfbojhlifomnfaaGreatDoorA26
import Derived.Test.YtfbojhlifomnfaaGreatDoorC02
set_option linter.all false
set_option linter.deprecated false
namespace Go.Proofs
open Go Go.Ab
set_option linter.unusedSimpArgs false
variable {G : Nat → Option (List IC)}
def SmallG (c : Chains) : Prop := Small c.reg ∧ c.lets.length ≤ 80 ∧ c.loops.length ≤ 10 ∧ ∀ x ∈ c.loops, x.links.length ≤ 12
def smallB (c : Chains) : Bool := open Classical in decide (Small c.reg) && (decide (c.lets.length ≤ 80) && decide (c.loops.length ≤ 10) && c.loops.all fun x => decide (x.links.length ≤ 12))
set_option maxHeartbeats 1000000 in
theorem great6_c (c : Chains) (objs : List DObj) : DCall Tryz.prog G 15 [chv c] objs (fun rr objs' => rr = bv (!smallB c) ∧ objs' = objs) := by
 refine DCall.frame ?_ (by simp) (by simp) objs
 refine DCall_intro Tryz.func15 rfl Tryz.ntmps15 (by simp) rfl ?_
 try simp only [chv]
 have c1 := great_c (G := G) c.reg
 have hE : smallB c = (open Classical in decide (Small c.reg) && (decide (c.lets.length ≤ 80) && decide (c.loops.length ≤ 10) && c.loops.all fun x => decide (x.links.length ≤ 12))) := rfl
 by_cases hS : Small c.reg
 ·have e1 : (!(open Classical in decide (Small c.reg))) = false := by simp [hS]
  have c1' : ∀ objs, DCall Tryz.prog G 63 [regv c.reg] objs (fun d objs' => d = bv false ∧ objs' = objs) := fun objs => (c1 objs).mono fun d o ⟨h1, h2⟩ => ⟨by rw [h1]; simp [hS], h2⟩
  rw [decide_eq_true hS, Bool.true_and] at hE
  by_cases h80 : c.lets.length ≤ 80
  ·have h80' : ¬ (80 : Int) < (c.lets.length : Int) := by omega
   by_cases h10 : c.loops.length ≤ 10
   ·have h10' : ¬ (10 : Int) < (c.loops.length : Int) := by omega
    rw [decide_eq_true h80, decide_eq_true h10, Bool.true_and, Bool.true_and] at hE
    have hs : True := trivial
    repeat' first | (with_reducible first | refine q01 ?_ | refine q11 ?_ | refine q12 ?_ | refine q14 ?_) | (refine CallE.pure (c1') ?_; try simp -dsimp [h80', h10', hs]) | (with_reducible refine DT_regionE [0,1,2,3,18,23,33] ?_; simp -dsimp [h80', h10', hs]) | (refine DT_cond rfl (fun h => ?_) (fun h => ?_) <;> (try simp only [nrm] at h) <;> (try exact Bool.noConfusion h))
    all_goals try simp -dsimp [h80', h10', hs]
    all_goals try clear hs
    refine DT_loop (ι := { k : Nat // k ≤ c.loops.length ∧ (c.loops.all fun x => decide (x.links.length ≤ 12)) = (c.loops.drop k).all fun x => decide (x.links.length ≤ 12) }) (fun p => ⟨34, [(1, .one (.ptr 0 0)), (2, bv false), (3, iv (p.1 : Int))], [.row ((encChains c).map .im)]⟩) (fun p => c.loops.length - p.1) ⟨0, by simp⟩ (Weak.of_keep [1,2,3] (by simp)) ?_
    rintro ⟨k, hk, hall⟩
    simp only [iv, bv]
    by_cases hlt : k < c.loops.length
    ·have hx : c.loops[k]? = some c.loops[k] := by simp [hlt]
     have hw : IntKind.i64.wrap ((k : Int) + 1) = ((k + 1 : Nat) : Int) := i64w (by omega) (by omega)
     have hst := all_step hlt hall
     by_cases h12 : c.loops[k].links.length ≤ 12
     ·have h12' : ¬ (12 : Int) < (c.loops[k].links.length : Int) := by omega
      have hs : True := trivial
      repeat' first | (with_reducible first | refine q01 ?_ | refine q04 ?_ | refine q11 ?_ | refine q12 ?_ | refine q14 ?_) | (with_reducible refine DT_regionE [0,1,2,3,18,23,33] ?_; simp -dsimp [hx, hlt, hw, h12', hs]) | (refine DT_cond rfl (fun h => ?_) (fun h => ?_) <;> (try simp only [nrm] at h) <;> (try exact Bool.noConfusion h))
      all_goals try simp -dsimp [hx, hlt, hw, h12', hs]
      all_goals try clear hs
      exact At.round ⟨k + 1, by omega, eq_of_step hst (by simpa using h12)⟩ (by simp; omega) (Weak.of_keep [1,2,3] (by simp))
     ·have h12' : (12 : Int) < (c.loops[k].links.length : Int) := by omega
      have hs : True := trivial
      repeat' first | (with_reducible first | refine q01 ?_ | refine q02 ?_ | refine q05 ?_ | refine q11 ?_ | refine q12 ?_ | refine q14 ?_ | refine q17 ?_) | (with_reducible refine At.fn_ret (by simp -dsimp [hx, hlt, hw, h12', hs]; exact rfl) ?_) | (with_reducible refine DT_regionE [0,1,2,3,18,23,33] ?_; simp -dsimp [hx, hlt, hw, h12', hs]) | (refine DT_cond rfl (fun h => ?_) (fun h => ?_) <;> (try simp only [nrm] at h) <;> (try exact Bool.noConfusion h))
      all_goals try simp -dsimp [hx, hlt, hw, h12', hs]
      all_goals try clear hs
      rw [hE, false_step hst (by simpa using h12)]; try rfl
    ·have hok : (c.loops.all fun x => decide (x.links.length ≤ 12)) = true := by rw [hall, List.drop_eq_nil_of_le (by omega)]; rfl
     have hs : True := trivial
     repeat' first | (with_reducible first | refine q01 ?_ | refine q03 ?_ | refine q06 ?_ | refine q11 ?_ | refine q16 ?_ | refine q17 ?_) | (with_reducible refine At.fn_ret (by simp -dsimp [hlt, hs]; exact rfl) ?_) | (with_reducible refine DT_regionE [0,1,2,3,18,23,33] ?_; simp -dsimp [hlt, hs]) | (refine DT_cond rfl (fun h => ?_) (fun h => ?_) <;> (try simp only [nrm] at h) <;> (try exact Bool.noConfusion h))
     all_goals try simp -dsimp [hlt, hs]
     all_goals try clear hs
     rw [hE, hok]; try rfl
   ·have h10' : (10 : Int) < (c.loops.length : Int) := by omega
    rw [decide_eq_false h10, Bool.and_false, Bool.false_and] at hE
    have hs : True := trivial
    repeat' first | (with_reducible first | refine q01 ?_ | refine q02 ?_ | refine q11 ?_ | refine q17 ?_) | (with_reducible refine At.fn_ret (by simp -dsimp [h80', h10', hs]; exact rfl) ?_) | (refine CallE.pure (c1') ?_; try simp -dsimp [h80', h10', hs]) | (with_reducible refine DT_regionE [0,1,2,3,18,23,33] ?_; simp -dsimp [h80', h10', hs]) | (refine DT_cond rfl (fun h => ?_) (fun h => ?_) <;> (try simp only [nrm] at h) <;> (try exact Bool.noConfusion h))
    all_goals try simp -dsimp [h80', h10', hs]
    all_goals try clear hs
    rw [hE]; try rfl
  ·have h80' : (80 : Int) < (c.lets.length : Int) := by omega
   rw [decide_eq_false h80, Bool.false_and, Bool.false_and] at hE
   have hs : True := trivial
   repeat' first | (with_reducible first | refine q01 ?_ | refine q02 ?_ | refine q11 ?_ | refine q17 ?_) | (with_reducible refine At.fn_ret (by simp -dsimp [h80', hs]; exact rfl) ?_) | (refine CallE.pure (c1') ?_; try simp -dsimp [h80', hs]) | (with_reducible refine DT_regionE [0,1,2,3,18,23,33] ?_; simp -dsimp [h80', hs]) | (refine DT_cond rfl (fun h => ?_) (fun h => ?_) <;> (try simp only [nrm] at h) <;> (try exact Bool.noConfusion h))
   all_goals try simp -dsimp [h80', hs]
   all_goals try clear hs
   rw [hE]; try rfl
 ·have c1' : ∀ objs, DCall Tryz.prog G 63 [regv c.reg] objs (fun d objs' => d = bv true ∧ objs' = objs) := fun objs => (c1 objs).mono fun d o ⟨h1, h2⟩ => ⟨by rw [h1]; simp [hS], h2⟩
  rw [decide_eq_false hS, Bool.false_and] at hE
  have hs : True := trivial
  repeat' first | (with_reducible first | refine q01 ?_ | refine q02 ?_ | refine q11 ?_ | refine q17 ?_) | (with_reducible refine At.fn_ret (by simp -dsimp [hs]; exact rfl) ?_) | (refine CallE.pure (c1') ?_; try simp -dsimp [hs]) | (with_reducible refine DT_regionE [0,1,2,3,18,23,33] ?_; simp -dsimp [hs]) | (refine DT_cond rfl (fun h => ?_) (fun h => ?_) <;> (try simp only [nrm] at h) <;> (try exact Bool.noConfusion h))
  all_goals try simp -dsimp [hs]
  all_goals try clear hs
  rw [hE]; try rfl
set_option maxHeartbeats 1000000 in
theorem same6_c (c : Chains) (hs : SmallG c) (objs : List DObj) : DCall Tryz.prog G 27 [chv c, chv c] objs (fun rr objs' => rr = bv true ∧ objs' = objs) := by
 refine DCall.frame ?_ (by simp) (by simp) objs
 refine DCall_intro Tryz.func27 rfl Tryz.ntmps27 (by simp) rfl ?_
 try simp only [chv, chv]
 have c1 := same_c (G := G) c.reg c.reg hs.1
 have c2 := sameInts_c (G := G) c.lets c.lets (by have := hs.2.1; omega)
 simp only [decide_true] at c1 c2
 have hl := hs.2.2.1
 have hs : True := trivial
 repeat' first | (with_reducible first | refine q01 ?_ | refine q11 ?_ | refine q12 ?_ | refine q14 ?_) | (refine CallE.pure (c1) ?_; try simp -dsimp [hs]) | (refine CallE.pure (c2) ?_; try simp -dsimp [hs]) | (with_reducible refine DT_regionE [0,1,2,3,4,5,6,7,8,38,43,69,74,87] ?_; simp -dsimp [hs]) | (refine DT_cond rfl (fun h => ?_) (fun h => ?_) <;> (try simp only [nrm] at h) <;> (try exact Bool.noConfusion h))
 all_goals try simp -dsimp [hs]
 all_goals try clear hs
 refine DT_loop (ι := { k : Nat // k ≤ c.loops.length }) (fun p => ⟨88, [(2, .one (.ptr 0 0)), (3, .one (.ptr 1 0)), (4, bv false), (5, iv (p.1 : Int))], [.row ((encChains c).map .im), .row ((encChains c).map .im)]⟩) (fun p => c.loops.length - p.1) ⟨0, by simp⟩ (Weak.of_keep [2,3,4,5] (by simp)) ?_
 rintro ⟨k, hk⟩
 simp only [iv, bv]
 by_cases hlt : k < c.loops.length
 ·have hx : c.loops[k]? = some c.loops[k] := by simp [hlt]
  have hw : IntKind.i64.wrap ((k : Int) + 1) = ((k + 1 : Nat) : Int) := i64w (by omega) (by omega)
  have hln := hs.2.2.2 c.loops[k] (List.getElem_mem hlt)
  have hs : True := trivial
  repeat' first | (with_reducible first | refine q01 ?_ | refine q11 ?_ | refine q12 ?_ | refine q14 ?_) | (refine DT_regionX (id := 6) (nt := 88) 12 [5,6,7,8,9] [0,1,2,3,4,5,6,7,8,38,43,46,47,48,49,50,69,74,87] [0,1,2,3,4,5,6,7,8,38,43,69,74,87] mixed rfl (by kernel_rfl) ?_; simp -dsimp [hx, hlt, hs]) | (with_reducible refine DT_regionE [0,1,2,3,4,5,6,7,8,38,43,69,74,87] ?_; simp -dsimp [hx, hlt, hs]) | (refine DT_cond rfl (fun h => ?_) (fun h => ?_) <;> (try simp only [nrm] at h) <;> (try exact Bool.noConfusion h))
  all_goals try simp -dsimp [hx, hlt, hs]
  all_goals try clear hs
  refine DT_loop (ι := { i : Nat // i ≤ c.loops[k].links.length }) (fun p => ⟨88, [(2, .one (.ptr 0 0)), (3, .one (.ptr 1 0)), (4, bv false), (5, iv (k : Int)), (6, .one (.ptr 2 0)), (7, .one (.ptr 3 0)), (8, iv (p.1 : Int))], [.row ((encChains c).map .im), .row ((encChains c).map .im), .row ((encLoop c.loops[k]).map .im), .row ((encLoop c.loops[k]).map .im)]⟩) (fun p => c.loops[k].links.length - p.1) ⟨0, by omega⟩ (Weak.of_keep [2,3,4,5,6,7,8] (by simp)) ?_
  rintro ⟨i, hi⟩
  simp only [iv, bv]
  by_cases hli : i < c.loops[k].links.length
  ·have hy : c.loops[k].links[i]? = some c.loops[k].links[i] := by simp [hli]
   have hw2 : IntKind.i64.wrap ((i : Int) + 1) = ((i + 1 : Nat) : Int) := i64w (by omega) (by omega)
   have hs : True := trivial
   repeat' first | (with_reducible first | refine q01 ?_ | refine q04 ?_ | refine q11 ?_ | refine q12 ?_ | refine q14 ?_) | (refine DT_regionM (id := 12) (nt := 88) 11 [0,1,2,3,4,5,6,7,8,38,43,69,74,87] mixed rfl (by kernel_rfl) ?_; simp -dsimp [hy, hli, hw2, hs]) | (with_reducible refine DT_regionE [0,1,2,3,4,5,6,7,8,38,43,69,74,87] ?_; simp -dsimp [hy, hli, hw2, hs]) | (refine DT_cond rfl (fun h => ?_) (fun h => ?_) <;> (try simp only [nrm] at h) <;> (try exact Bool.noConfusion h))
   all_goals try simp -dsimp [hy, hli, hw2, hs]
   all_goals try clear hs
   exact At.round ⟨i + 1, by omega⟩ (by simp; omega) (Weak.of_keep [2,3,4,5,6,7,8] (by simp))
  ·have hs : True := trivial
   repeat' first | (with_reducible first | refine q01 ?_ | refine q03 ?_ | refine q04 ?_ | refine q06 ?_ | refine q11 ?_ | refine q16 ?_) | (with_reducible refine DT_regionE [0,1,2,3,4,5,6,7,8,38,43,69,74,87] ?_; simp -dsimp [hli, hw, hs]) | (refine DT_cond rfl (fun h => ?_) (fun h => ?_) <;> (try simp only [nrm] at h) <;> (try exact Bool.noConfusion h))
   all_goals try simp -dsimp [hli, hw, hs]
   all_goals try clear hs
   exact At.round ⟨k + 1, by omega⟩ (by simp; omega) (Weak.of_drop [2,3,4,5] 2 (by simp) (by simp) (by simp))
 ·have hs : True := trivial
  repeat' first | (with_reducible first | refine q01 ?_ | refine q03 ?_ | refine q06 ?_ | refine q11 ?_ | refine q16 ?_ | refine q17 ?_) | (with_reducible refine At.fn_ret (by simp -dsimp [hlt, hs]; exact rfl) ?_) | (with_reducible refine DT_regionE [0,1,2,3,4,5,6,7,8,38,43,69,74,87] ?_; simp -dsimp [hlt, hs]) | (refine DT_cond rfl (fun h => ?_) (fun h => ?_) <;> (try simp only [nrm] at h) <;> (try exact Bool.noConfusion h))
  all_goals try simp -dsimp [hlt, hs]
  all_goals try clear hs
set_option maxHeartbeats 1000000 in
theorem twin6_c (c : Chains) (hs : SmallG c) (objs : List DObj) : DCall Tryz.prog G 16 [chv c] objs (fun rr objs' => rr = chv c ∧ objs' = objs) := by
 refine DCall.frame ?_ (by simp) (by simp) objs
 refine DCall_intro Tryz.func16 rfl Tryz.ntmps16 (by simp) rfl ?_
 try simp only [chv]
 have c1 := twin_c (G := G) c.reg hs.1
 have hl := hs.2.2.1
 have hl2 := hs.2.1
 have hs : True := trivial
 repeat' first | (with_reducible first | refine q01 ?_ | refine q11 ?_ | refine q12 ?_ | refine And.intro (by omega) ?_) | (refine QCall_pure (c1) ?_; try simp -dsimp [hs]) | (refine DT_regionXn (id := 1) (nt := 43) 11 [] [0,1,2,3,4,5,6,7,8,9,10,11,12,13,14,19] [0,1,2,3,4,19] mixed rfl (by kernel_rfl) ?_; simp -dsimp [hs]) | (with_reducible refine DT_regionE [0,1,2,3,4,19] ?_; simp -dsimp [hs])
 all_goals try simp -dsimp [hs]
 all_goals try clear hs
 refine DT_weak (Weak.nilCell 5 3 rfl rfl) ?_
 refine DT_loop (ι := { p : Nat × Nat × Nat × Bool // p.1 ≤ c.loops.length ∧ (p.2.2.1 = 3 ∨ p.2.2.2 = true) }) (fun p => ⟨43, [(1, .one (.ptr 0 0)), (2, .one (.ptr 4 0)), (3, .one (.ptr 5 0)), (4, iv (p.1.1 : Int))], [.row ((encChains c).map .im), .vec 0 [] 0 true, .vec 0 [] 0 true, .vec 0 [] 0 true, .row [.vec 1 0 0 0, .vec 2 0 0 0, .im (rI 0), .vec 3 0 0 0], .row [.im (.sl (c.reg.map encIssue)), .im (.sl (c.lets.map encI)), .im (rI c.of), .vec 6 p.1.2.1 0 p.1.1], .vec p.1.2.2.1 (ims ((c.loops.take p.1.1).map encLoop)) p.1.2.1 p.1.2.2.2]⟩) (fun p => c.loops.length - p.1.1) ⟨(0, 0, 0, true), by simp⟩ (Weak.of_keep [1,2,3,4] (by simp)) ?_
 rintro ⟨⟨k, g, sz, nl⟩, hk, hz⟩
 simp only at hk hz
 simp only [iv]
 have htk : (ims ((c.loops.map encLoop).take k)).take k = ims ((c.loops.map encLoop).take k) := List.take_of_length_le (by simp [ims_length]; omega)
 by_cases hlt : k < c.loops.length
 ·have hx : c.loops[k]? = some c.loops[k] := by simp [hlt]
  have hw : IntKind.i64.wrap ((k : Int) + 1) = ((k + 1 : Nat) : Int) := i64w (by omega) (by omega)
  have hmin : min k c.loops.length = k := Nat.min_eq_left (by omega)
  have hln := hs.2.2.2 c.loops[k] (List.getElem_mem hlt)
  have hsn : (c.loops.map encLoop).take (k + 1) = (c.loops.map encLoop).take k ++ [encLoop c.loops[k]] := by
   rw [List.take_succ]; simp [hx]
  have hs : True := trivial
  repeat' first | (with_reducible first | refine q01 ?_ | refine q04 ?_ | refine q11 ?_ | refine q12 ?_ | refine q14 ?_ | refine And.intro (by omega) ?_) | (refine DT_regionM (id := 5) (nt := 43) 18 [0,1,2,3,4,19] mixed rfl (by kernel_rfl) ?_; simp -dsimp [hx, hw, hlt, hz, hmin, hs]) | (with_reducible refine DT_regionE [0,1,2,3,4,19] ?_; simp -dsimp [hx, hw, hlt, hz, hmin, hs]) | (refine DT_cond rfl (fun h => ?_) (fun h => ?_) <;> (try simp only [nrm] at h) <;> (try exact Bool.noConfusion h))
  all_goals try simp -dsimp [hx, hw, hlt, hz, hmin, hs]
  all_goals try clear hs
  all_goals try omega
  exact At.round ⟨(k + 1, g + 1, 3, false), by simp; omega⟩ (by simp; omega) (Weak.of_drop [1,2,3,4] 7 (by simp) (by simp) (by simp [hsn, htk, ims_append]))
 ·have hkl : k = c.loops.length := by omega
  subst hkl
  have hall : (c.loops.map encLoop).take c.loops.length = c.loops.map encLoop := List.take_of_length_le (by simp)
  rw [hall] at htk
  have hs : True := trivial
  repeat' first | (with_reducible first | refine q01 ?_ | refine q03 ?_ | refine q06 ?_ | refine q11 ?_ | refine q16 ?_ | refine q17 ?_) | (with_reducible refine At.fn_ret (by simp -dsimp [hall, htk, hs]; exact rfl) ?_) | (with_reducible refine DT_regionE [0,1,2,3,4,19] ?_; simp -dsimp [hall, htk, hs]) | (refine DT_cond rfl (fun h => ?_) (fun h => ?_) <;> (try simp only [nrm] at h) <;> (try exact Bool.noConfusion h))
  all_goals try simp -dsimp [hall, htk, hs]
  all_goals try clear hs
end Go.Proofs
namespace Go.Proofs
open Go Go.Ab
set_option linter.unusedSimpArgs false
variable {G : Nat → Option (List IC)}
def KindOk (l : List Issue) : Prop := ∀ x ∈ l, 0 ≤ x.kind ∧ x.kind ≤ 255
theorem smallB_iff {c : Chains} : smallB c = true ↔ SmallG c := by
 simp only [smallB, SmallG, Bool.and_eq_true, decide_eq_true_eq, List.all_eq_true, and_assoc]
end Go.Proofs
namespace Go.Proofs
open Go Go.Ab
set_option linter.unusedSimpArgs false
variable {G : Nat → Option (List IC)}
theorem worst_len {c : Chains} (hs : SmallC c) (n : Int) (high : Bool) : (worstR c n high).length < 1000000 := by
 unfold worstR
 split
 ·rename_i h
  obtain ⟨_, k, rfl, hk⟩ := loopsE_zero h
  rw [lpAt_at hk]
  have := hs.2.2.2 _ (List.getElem_mem hk)
  simp only [endsL, List.length_map, List.length_zip]
  omega
 ·simp
theorem shares_len {c : Chains} (hs : SmallC c) (n : Int) : (sharesR c n).length < 1000000 := by
 unfold sharesR
 split
 ·rename_i h
  obtain ⟨_, k, rfl, hk⟩ := loopsE_zero h
  rw [lpAt_at hk]
  have := hs.2.2.2 _ (List.getElem_mem hk)
  simp only [List.length_map, sizesI]
  omega
 ·simp
theorem wrong_len {c : Chains} (hs : SmallC c) : (wrongR c).length < 1000000 := by
 unfold wrongR
 split
 ·have := List.length_filter_le (badT c neverS 0) (List.range c.loops.length)
  have h2 := hs.2.2.1
  simp only [wrongI, wrongTo, List.length_map, List.length_range] at *
  omega
 ·simp
theorem allSpots_len {c : Chains} (h : OkC c) (hs : SmallC c) : (allSpots c).length ≤ 120 := by
 have h0 := (spots_perm h).length_eq
 have h1 := List.length_filter_le (looseP (tkM c.reg c.lets)) ((spotsOf c).foldl (fun l x => sputS x l) [])
 have h2 := foldP_len (spotsOf c) []
 have h3 := spots_len c.loops hs.2.2.2
 have h4 := hs.2.2.1
 simp only [spotsOf, List.length_nil] at *
 omega
theorem spotsR_len {c : Chains} (hs : SmallC c) : (spotsR c).length < 1000000 := by
 unfold spotsR
 split
 ·have := allSpots_len (okC ‹_›) hs; omega
 ·simp
set_option maxHeartbeats 4000000 in
theorem chainNames_c (c : Chains) (n : Int) (high : Bool) (hG : sheetG G) (hC : chainG G) (hSF : SortFOk G) (hk : KindOk c.reg) (objs : List DObj) : DCall Tryz.prog G 3 [chv c, iv n, bv high] objs (fun rr objs' => rr = bv true ∧ objs' = objs) := by
 refine DCall.frame ?_ (by simp) (by simp) objs
 refine DCall_intro Tryz.func3 rfl Tryz.ntmps3 (by simp) rfl ?_
 try simp only [chv, iv, bv]
 have c1 := great6_c (G := G) c
 cases hq : smallB c
 ·rw [hq] at c1
  have hs : True := trivial
  repeat' first | (with_reducible first | refine q01 ?_ | refine q02 ?_ | refine q11 ?_ | refine q17 ?_) | (with_reducible refine At.fn_ret (by simp -dsimp [hs]; exact rfl) ?_) | (refine CallE.pure (c1) ?_; try simp -dsimp [hs]) | (with_reducible refine DT_regionE [0,1,2,3,6,7,8,9,10,11,12,13,14,15,16,17,19,67] ?_; simp -dsimp [hs]) | (refine DT_cond rfl (fun h => ?_) (fun h => ?_) <;> (try simp only [nrm] at h) <;> (try exact Bool.noConfusion h))
  all_goals try simp -dsimp [hs]
  all_goals try clear hs
 ·have hg := smallB_iff.1 hq
  have hsm : SmallC c := ⟨⟨hg.1.1, fun x hx => ⟨(hk x hx).1, (hk x hx).2, (hg.1.2 x hx).1, (hg.1.2 x hx).2⟩⟩, hg.2⟩
  rw [hq] at c1
  have c2 := twin6_c (G := G) c hg
  have c3 := pWorst_c c n high hG hC hsm
  have c4 := rWorst_c (G := G) c n high hsm
  have c5 := pShares_c c n hG hC hsm
  have c6 := rShares_c (G := G) c n hsm
  have c7 := pWrong_c c hG hC hsm
  have c8 := rWrong_c (G := G) c hsm
  have c9 := pSpots_c c hG hC hsm hSF
  have c10 := rSpots_c (G := G) c hsm
  have d1 := sameInts_c (G := G) (worstR c n high) (worstR c n high) (worst_len hsm n high)
  have d2 := sameInts_c (G := G) (sharesR c n) (sharesR c n) (shares_len hsm n)
  have d3 := sameInts_c (G := G) (wrongR c) (wrongR c) (wrong_len hsm)
  have d4 := sameSpots_c (G := G) (spotsR c) (spotsR_len hsm)
  have d5 := same6_c (G := G) c hg
  simp only [decide_true] at d1 d2 d3
  generalize worstR c n high = W1 at *
  generalize sharesR c n = W2 at *
  generalize wrongR c = W3 at *
  generalize spotsR c = W4 at *
  simp only [isv, spotsv] at c3 c4 c5 c6 c7 c8 c9 c10 d1 d2 d3 d4
  have hs : True := trivial
  repeat' first | (with_reducible first | refine q01 ?_ | refine q11 ?_ | refine q14 ?_ | refine q17 ?_) | (with_reducible refine At.fn_ret (by simp -dsimp [hs]; exact rfl) ?_) | (refine CallE.pure (c1) ?_; try simp -dsimp [hs]) | (refine CallE.pure (c2) ?_; try simp -dsimp [hs]) | (refine CallE.pure (c3) ?_; try simp -dsimp [hs]) | (refine CallE.pure (c4) ?_; try simp -dsimp [hs]) | (refine CallE.pure (c5) ?_; try simp -dsimp [hs]) | (refine CallE.pure (c6) ?_; try simp -dsimp [hs]) | (refine CallE.pure (c7) ?_; try simp -dsimp [hs]) | (refine CallE.pure (c8) ?_; try simp -dsimp [hs]) | (refine CallE.pure (c9) ?_; try simp -dsimp [hs]) | (refine CallE.pure (c10) ?_; try simp -dsimp [hs]) | (refine CallE.pure (d1) ?_; try simp -dsimp [hs]) | (refine CallE.pure (d2) ?_; try simp -dsimp [hs]) | (refine CallE.pure (d3) ?_; try simp -dsimp [hs]) | (refine CallE.pure (d4) ?_; try simp -dsimp [hs]) | (refine CallE.pure (d5) ?_; try simp -dsimp [hs]) | (with_reducible refine DT_regionE [0,1,2,3,6,7,8,9,10,11,12,13,14,15,16,17,19,67] ?_; simp -dsimp [hs]) | (refine DT_cond rfl (fun h => ?_) (fun h => ?_) <;> (try simp only [nrm] at h) <;> (try exact Bool.noConfusion h))
  all_goals try simp -dsimp [hs]
  all_goals try clear hs
end Go.Proofs
namespace Go.Proofs
open Go Go.Ab
set_option linter.unusedSimpArgs false
variable {G : Nat → Option (List IC)}
attribute [simp] permL reO gones noLoop nilV nilX ZK
set_option maxHeartbeats 1000000 in
theorem rMembers_c (S : List Spot) (s : Nat) (h12 : S.length ≤ 12) (objs : List DObj) : DCall Tryz.prog G 88 [spotsv S, iv (s : Int)] objs (fun rr objs' => rr = spotsv (memb S s S.length) ∧ objs' = objs) := by
 refine DCall.frame ?_ (by simp) (by simp) objs
 refine DCall_intro Tryz.func88 rfl Tryz.ntmps88 (by simp) rfl ?_
 try simp only [iv]
 have hs0 : (0 : Int) ≤ (s : Int) := by omega
 have hb64 : IntKind.i64.bits = 64 := rfl
 simp only [spotsv]
 have hs : True := trivial
 repeat' first | (with_reducible first | refine q01 ?_ | refine q11 ?_ | refine q12 ?_) | (with_reducible refine DT_regionE [0,1,4,5,6,10,17] ?_; simp -dsimp [hs])
 all_goals try simp -dsimp [hs]
 all_goals try clear hs
 refine DT_loop (ι := { p : Nat × Nat × Bool // p.1 ≤ S.length }) (fun p => ⟨26, [(0, .one (.im (.sl (S.map encSpot)))), (1, iv (s : Int)), (5, .one (.vec 1 p.1.2.1 0 (memb S s p.1.1).length)), (6, iv (p.1.1 : Int))], [.vec 2 [] 0 true, .vec 2 (ims ((memb S s p.1.1).map encSpot)) p.1.2.1 p.1.2.2]⟩) (fun p => S.length - p.1.1) ⟨(0, 0, true), by simp⟩ (Weak.of_keep [0,1,5,6] (by simp [memb])) ?_
 rintro ⟨⟨i, gn, nl⟩, hi⟩
 simp only at hi
 simp only [iv]
 have hmlen := memb_len S s i
 by_cases hlti : i < S.length
 ·have hx : S[i]? = some S[i] := by simp [hlti]
  have hwi : IntKind.i64.wrap ((i : Int) + 1) = ((i + 1 : Nat) : Int) := i64w (by omega) (by omega)
  have hi63 : min i 64 = i := by omega
  have hin : ¬ ((i : Int) < 0) := by omega
  have hbit := bit_at' s i
  have hsu := memb_succ (set := s) hlti
  generalize hxe : S[i] = x at *
  cases hb : s.testBit i
  ·rw [hb] at hbit hsu
   simp at hbit
   rw [if_neg Bool.false_ne_true, List.append_nil] at hsu
   have hs : True := trivial
   repeat' first | (with_reducible first | refine q01 ?_ | refine q04 ?_ | refine q11 ?_ | refine q12 ?_ | refine q14 ?_) | (with_reducible refine DT_regionE [0,1,4,5,6,10,17] ?_; simp -dsimp [hx, hxe, hlti, hwi, hin, hi63, hb64, hbit, hs]) | (refine DT_cond rfl (fun h => ?_) (fun h => ?_) <;> (try simp only [nrm] at h) <;> (try exact Bool.noConfusion h))
   all_goals try simp -dsimp [hx, hxe, hlti, hwi, hin, hi63, hb64, hbit, hs]
   all_goals try clear hs
   all_goals exact At.round ⟨(i + 1, gn, nl), by simp only; omega⟩ (by simp; omega) (Weak.of_drop [0,1,5,6] 2 (by simp) (by simp) (by simp [hsu]))
  ·rw [hb] at hbit hsu
   simp at hbit
   rw [if_pos rfl] at hsu
   generalize memb S s i = L at *
   have hs : True := trivial
   repeat' first | (with_reducible first | refine q01 ?_ | refine q04 ?_ | refine q11 ?_ | refine q12 ?_ | refine q14 ?_ | refine And.intro (by omega) ?_) | (with_reducible refine DT_regionE [0,1,4,5,6,10,17] ?_; simp -dsimp [hx, hxe, hlti, hwi, hin, hi63, hb64, hbit, hs]) | (refine DT_cond rfl (fun h => ?_) (fun h => ?_) <;> (try simp only [nrm] at h) <;> (try exact Bool.noConfusion h))
   all_goals try simp -dsimp [hx, hxe, hlti, hwi, hin, hi63, hb64, hbit, hs]
   all_goals try clear hs
   all_goals try omega
   all_goals exact At.round ⟨(i + 1, gn + 1, false), by simp only; omega⟩ (by simp; omega) (Weak.of_drop [0,1,5,6] 2 (by simp) (by simp) (by simp [hsu]))
 ·have hie : i = S.length := by omega
  subst hie
  have hs : True := trivial
  repeat' first | (with_reducible first | refine q01 ?_ | refine q03 ?_ | refine q06 ?_ | refine q11 ?_ | refine q16 ?_ | refine q17 ?_) | (with_reducible refine At.fn_ret (by simp -dsimp [hlti, hs]; exact rfl) ?_) | (with_reducible refine DT_regionE [0,1,4,5,6,10,17] ?_; simp -dsimp [hlti, hs]) | (refine DT_cond rfl (fun h => ?_) (fun h => ?_) <;> (try simp only [nrm] at h) <;> (try exact Bool.noConfusion h))
  all_goals try simp -dsimp [hlti, hs]
  all_goals try clear hs
  all_goals try omega
theorem spot_iff {a b : Spot} : a = b ↔ a.drawing = b.drawing ∧ a.dim = b.dim := ⟨fun e => by rw [e]; exact ⟨rfl, rfl⟩, fun ⟨p, q⟩ => by cases a; cases b; simp_all⟩
set_option maxHeartbeats 1000000 in
theorem rShorter_c (a b : List Spot) (ha : a.length < 1000000) (hb : b.length < 1000000) (objs : List DObj) : DCall Tryz.prog G 49 [spotsv a, spotsv b] objs (fun rr objs' => rr = bv (shorterS a b) ∧ objs' = objs) := by
 refine DCall.frame ?_ (by simp) (by simp) objs
 refine DCall_intro Tryz.func49 rfl Tryz.ntmps49 (by simp) rfl ?_
 try simp only [iv]
 simp only [spotsv]
 have hsh := shorter_iff (a := a) (b := b)
 by_cases hl2 : a.length = b.length
 ·have hl2' : ((a.length : Int) = (b.length : Int)) = True := eq_true (by omega)
  have hE : shorterS a b = lexB a b := by
   rw [Bool.eq_iff_iff, hsh]
   constructor
   ·rintro (h | h)
    ·omega
    ·exact h.2
   ·exact fun h => .inr ⟨hl2, h⟩
  rw [hE]
  have hs : True := trivial
  repeat' first | (with_reducible first | refine q01 ?_ | refine q11 ?_ | refine q12 ?_ | refine q14 ?_) | (with_reducible refine DT_regionE [0,1,4,5,10,19,30] ?_; simp -dsimp [hl2', hs]) | (refine DT_cond rfl (fun h => ?_) (fun h => ?_) <;> (try simp only [nrm] at h) <;> (try exact Bool.noConfusion h))
  all_goals try simp -dsimp [hl2', hs]
  all_goals try clear hs
  refine DT_loop (ι := { k : Nat // k ≤ a.length ∧ lexB a b = lexB (a.drop k) (b.drop k) }) (fun i => ⟨40, [(0, spotsv a), (1, spotsv b), (5, iv (i.1 : Int))], []⟩) (fun i => a.length - i.1) ⟨0, by simp⟩ (Weak.of_keep [0,1,5] (by simp)) ?_
  rintro ⟨k, hk, hL⟩
  simp only [iv, spotsv]
  by_cases hlt : k < a.length
  ·have hltb : k < b.length := by omega
   have hx : a[k]? = some a[k] := by simp [hlt]
   have hy : b[k]? = some b[k] := by simp [hltb]
   have hw : IntKind.i64.wrap ((k : Int) + 1) = ((k + 1 : Nat) : Int) := i64w (by omega) (by omega)
   rw [List.drop_eq_getElem_cons hlt, List.drop_eq_getElem_cons hltb, lexB] at hL
   generalize hxe : a[k] = x at *
   generalize hye : b[k] = y at *
   have c1 := rBefore_c (G := G) x y
   have hiff := spot_iff (a := x) (b := y)
   simp only [refv] at c1
   generalize before x y = r at *
   by_cases e : x = y
   ·rw [if_pos e] at hL
    have e1 := (hiff.1 e).1
    have e2 := (hiff.1 e).2
    have e1' : (x.drawing = y.drawing) = True := eq_true e1
    have e2' : (x.dim = y.dim) = True := eq_true e2
    have hs : True := trivial
    repeat' first | (with_reducible first | refine q01 ?_ | refine q04 ?_ | refine q11 ?_ | refine q12 ?_ | refine q14 ?_) | (refine DT_regionM (id := 6) (nt := 40) 9 [0,1,4,5,10,19,30] mixed rfl (by kernel_rfl) ?_; simp -dsimp [hx, hy, hxe, hye, hlt, hltb, hw, e1', e2', hs]) | (with_reducible refine DT_regionE [0,1,4,5,10,19,30] ?_; simp -dsimp [hx, hy, hxe, hye, hlt, hltb, hw, e1', e2', hs]) | (refine DT_cond rfl (fun h => ?_) (fun h => ?_) <;> (try simp only [nrm] at h) <;> (try exact Bool.noConfusion h))
    all_goals try simp -dsimp [hx, hy, hxe, hye, hlt, hltb, hw, e1', e2', hs]
    all_goals try clear hs
    all_goals exact At.round ⟨k + 1, by omega, hL⟩ (by simp; omega) (Weak.of_drop [0,1,5] 0 (by simp) (by simp) (by simp))
   ·rw [if_neg e] at hL
    have e3 : (x.drawing = y.drawing ∧ x.dim = y.dim) = False := eq_false fun h => e (hiff.2 h)
    have e4 : (x.drawing = y.drawing → ¬ x.dim = y.dim) = True := eq_true fun h1 h2 => e (hiff.2 ⟨h1, h2⟩)
    have hs : True := trivial
    repeat' first | (with_reducible first | refine q01 ?_ | refine q02 ?_ | refine q04 ?_ | refine q05 ?_ | refine q11 ?_ | refine q12 ?_ | refine q14 ?_ | refine q17 ?_) | (with_reducible refine At.fn_ret (by simp -dsimp [hx, hy, hxe, hye, hlt, hltb, hw, hs]; exact rfl) ?_) | (refine QCall_pure (c1) ?_; try simp -dsimp [hx, hy, hxe, hye, hlt, hltb, hw, hs]) | (refine DT_regionM (id := 6) (nt := 40) 9 [0,1,4,5,10,19,30] mixed rfl (by kernel_rfl) ?_; simp -dsimp [hx, hy, hxe, hye, hlt, hltb, hw, hs]) | (refine DT_regionM (id := 7) (nt := 40) 10 [0,1,4,5,10,19,30] mixed rfl (by kernel_rfl) ?_; simp -dsimp [hx, hy, hxe, hye, hlt, hltb, hw, hs]) | (with_reducible refine DT_regionE [0,1,4,5,10,19,30] ?_; simp -dsimp [hx, hy, hxe, hye, hlt, hltb, hw, hs]) | (refine DT_cond rfl (fun h => ?_) (fun h => ?_) <;> (try simp only [nrm] at h) <;> (try exact Bool.noConfusion h))
    all_goals try simp -dsimp [hx, hy, hxe, hye, hlt, hltb, hw, hs]
    all_goals try clear hs
    all_goals first
     | (rw [hL]; done)
     | (exfalso; rename_i hh; exact e (hiff.2 (by simpa using hh)))
     | (exfalso; simp_all; done)
  ·rw [List.drop_eq_nil_of_le (by omega), List.drop_eq_nil_of_le (by omega), show lexB [] [] = false from rfl] at hL
   have hs : True := trivial
   repeat' first | (with_reducible first | refine q01 ?_ | refine q03 ?_ | refine q06 ?_ | refine q11 ?_ | refine q16 ?_ | refine q17 ?_) | (with_reducible refine At.fn_ret (by simp -dsimp [hlt, hs]; exact rfl) ?_) | (with_reducible refine DT_regionE [0,1,4,5,10,19,30] ?_; simp -dsimp [hlt, hs]) | (refine DT_cond rfl (fun h => ?_) (fun h => ?_) <;> (try simp only [nrm] at h) <;> (try exact Bool.noConfusion h))
   all_goals try simp -dsimp [hlt, hs]
   all_goals try clear hs
   all_goals rw [hL]
 ·have hl2' : ¬ (a.length : Int) = (b.length : Int) := by omega
  by_cases hl1 : a.length < b.length
  ·have hE : shorterS a b = true := hsh.2 (.inl hl1)
   rw [hE]
   have hs : True := trivial
   repeat' first | (with_reducible first | refine q01 ?_ | refine q02 ?_ | refine q11 ?_ | refine q17 ?_) | (with_reducible refine At.fn_ret (by simp -dsimp [hl2', hl1, hs]; exact rfl) ?_) | (with_reducible refine DT_regionE [0,1,4,5,10,19,30] ?_; simp -dsimp [hl2', hl1, hs]) | (refine DT_cond rfl (fun h => ?_) (fun h => ?_) <;> (try simp only [nrm] at h) <;> (try exact Bool.noConfusion h))
   all_goals try simp -dsimp [hl2', hl1, hs]
   all_goals try clear hs
  ·have hE : shorterS a b = false := by
    rw [← Bool.not_eq_true, hsh]; omega
   rw [hE]
   have hs : True := trivial
   repeat' first | (with_reducible first | refine q01 ?_ | refine q02 ?_ | refine q11 ?_ | refine q17 ?_) | (with_reducible refine At.fn_ret (by simp -dsimp [hl2', hl1, hs]; exact rfl) ?_) | (with_reducible refine DT_regionE [0,1,4,5,10,19,30] ?_; simp -dsimp [hl2', hl1, hs]) | (refine DT_cond rfl (fun h => ?_) (fun h => ?_) <;> (try simp only [nrm] at h) <;> (try exact Bool.noConfusion h))
   all_goals try simp -dsimp [hl2', hl1, hs]
   all_goals try clear hs
set_option maxHeartbeats 1000000 in
theorem rAllC_c (c : Chains) (l : List Spot) (g : Int) (hsm : SmallC c) (h : OkC c) (hl : l.length < 1000000) (hg0 : 0 ≤ g) (hg1 : g ≤ 2000000000) (objs : List DObj) : DCall Tryz.prog G 81 [chv c, spotsv l, iv g] objs (fun rr objs' => rr = bv (allT c (inS l) g) ∧ objs' = objs) := by
 refine DCall.frame ?_ (by simp) (by simp) objs
 refine DCall_intro Tryz.func81 rfl Tryz.ntmps81 (by simp) rfl ?_
 try simp only [chv, iv]
 have hc := fun n hn => rclosesG_c (G := G) c l g n hn hsm h hl hg0 hg1
 have hl10 := hsm.2.2.1
 have hA : allT c (inS l) g = c.loops.all (closesT c (inS l) g) := rfl
 simp only [spotsv] at hc
 simp only [spotsv]
 have hs : True := trivial
 repeat' first | (with_reducible first | refine q01 ?_ | refine q11 ?_ | refine q12 ?_) | (with_reducible refine DT_regionE [0,1,2,3,6,7,12,20] ?_; simp -dsimp [hs])
 all_goals try simp -dsimp [hs]
 all_goals try clear hs
 refine DT_loop (ι := { j : Nat // j ≤ c.loops.length ∧ c.loops.all (closesT c (inS l) g) = (c.loops.drop j).all (closesT c (inS l) g) }) (fun p => ⟨21, [(1, .one (.im (.sl (l.map encSpot)))), (2, iv g), (3, .one (.ptr 0 0)), (7, iv (p.1 : Int))], [.row ((encChains c).map .im)]⟩) (fun p => c.loops.length - p.1) ⟨0, by simp⟩ (Weak.of_keep [1,2,3,7] (by simp)) ?_
 rintro ⟨j, hj, hall⟩
 simp only [iv]
 by_cases hlt : j < c.loops.length
 ·have hw : IntKind.i64.wrap ((j : Int) + 1) = ((j + 1 : Nat) : Int) := i64w (by omega) (by omega)
  have hst := all_step hlt hall
  have c1 := hc j hlt
  cases hq : closesT c (inS l) g c.loops[j]
  ·rw [hq] at c1
   have hs : True := trivial
   repeat' first | (with_reducible first | refine q01 ?_ | refine q02 ?_ | refine q05 ?_ | refine q11 ?_ | refine q12 ?_ | refine q14 ?_ | refine q17 ?_) | (with_reducible refine At.fn_ret (by simp -dsimp [hlt, hw, hs]; exact rfl) ?_) | (refine CallE.pure (c1) ?_; try simp -dsimp [hlt, hw, hs]) | (with_reducible refine DT_regionE [0,1,2,3,6,7,12,20] ?_; simp -dsimp [hlt, hw, hs]) | (refine DT_cond rfl (fun h => ?_) (fun h => ?_) <;> (try simp only [nrm] at h) <;> (try exact Bool.noConfusion h))
   all_goals try simp -dsimp [hlt, hw, hs]
   all_goals try clear hs
   all_goals rw [hA, false_step hst (by rw [hq]; exact Bool.false_ne_true)]
  ·rw [hq] at c1
   have hs : True := trivial
   repeat' first | (with_reducible first | refine q01 ?_ | refine q04 ?_ | refine q11 ?_ | refine q12 ?_ | refine q14 ?_) | (refine CallE.pure (c1) ?_; try simp -dsimp [hlt, hw, hs]) | (with_reducible refine DT_regionE [0,1,2,3,6,7,12,20] ?_; simp -dsimp [hlt, hw, hs]) | (refine DT_cond rfl (fun h => ?_) (fun h => ?_) <;> (try simp only [nrm] at h) <;> (try exact Bool.noConfusion h))
   all_goals try simp -dsimp [hlt, hw, hs]
   all_goals try clear hs
   exact At.round ⟨j + 1, by omega, eq_of_step hst hq⟩ (by simp; omega) (Weak.of_drop [1,2,3,7] 1 (by simp) (by simp) (by simp))
 ·rw [List.drop_eq_nil_of_le (by omega)] at hall
  have hs : True := trivial
  repeat' first | (with_reducible first | refine q01 ?_ | refine q03 ?_ | refine q06 ?_ | refine q11 ?_ | refine q16 ?_ | refine q17 ?_) | (with_reducible refine At.fn_ret (by simp -dsimp [hlt, hs]; exact rfl) ?_) | (with_reducible refine DT_regionE [0,1,2,3,6,7,12,20] ?_; simp -dsimp [hlt, hs]) | (refine DT_cond rfl (fun h => ?_) (fun h => ?_) <;> (try simp only [nrm] at h) <;> (try exact Bool.noConfusion h))
  all_goals try simp -dsimp [hlt, hs]
  all_goals try clear hs
  all_goals rw [hA, hall]; rfl
theorem allT_spots (c : Chains) (g : Int) (so : Spot → Bool) (he : ∀ x ∈ spotsOf c, so x = looseR c x) : allT c so g = allT c (looseR c) g ∧ ∀ x ∈ c.loops, szT c so g x = szT c (looseR c) g x := by
 have h2 : ∀ x ∈ c.loops, szT c so g x = szT c (looseR c) g x := fun x hx => List.map_congr_left fun y hy => by
  rw [dimT, dimT, he _ (mem_spotsOf.2 ⟨x, hx, y, hy, rfl⟩)]
 refine ⟨?_, h2⟩
 unfold allT
 rw [Bool.eq_iff_iff, List.all_eq_true, List.all_eq_true]
 refine forall_congr' fun x => forall_congr' fun hx => ?_
 have e : closesT c so g x = closesT c (looseR c) g x := by unfold closesT loT hiT; rw [h2 x hx]
 rw [e]
theorem inS_all {c : Chains} {x : Spot} (hx : x ∈ spotsOf c) : inS (allSpots c) x = looseR c x := by
 rw [Bool.eq_iff_iff, inS, decide_eq_true_eq, allSpots, mem_allS]
 exact ⟨fun h => h.2, fun h => ⟨hx, h⟩⟩
theorem closes_all {c : Chains} {g : Int} {x : ChLoop} (hx : x ∈ c.loops) : closesT c (inS (allSpots c)) g x = closesT c (looseR c) g x := by
 unfold closesT loT hiT; rw [(allT_spots c g _ fun y hy => inS_all hy).2 x hx]
set_option maxHeartbeats 1000000 in
theorem rGrade_c (c : Chains) (hsm : SmallC c) (objs : List DObj) : DCall Tryz.prog G 29 [chv c] objs (fun rr objs' => rr = .tup [iv (gradeR c), iv (gradeE c)] ∧ objs' = objs) := by
 refine DCall.frame ?_ (by simp) (by simp) objs
 refine DCall_intro Tryz.func29 rfl Tryz.ntmps29 (by simp) rfl ?_
 try simp only [chv]
 have c1 := rChCheck_c (G := G) c hsm
 by_cases h00 : chainsE c = 0
 ·have hOk := okC h00
  have c2 := rAll_c (G := G) c hOk hsm
  have hl := allSpots_len hOk hsm
  have c3 := fun g h0 h1 => rAllC_c (G := G) c (allSpots c) g hsm hOk (by omega) h0 h1
  have hal := fun g => (allT_spots c g _ fun y hy => inS_all hy).1
  simp only [hal] at c3
  have hH : hasG c = allT c (looseR c) 0 := rfl
  have hN : gradeN c = gsI (allT c (looseR c)) 0 maxG := rfl
  rw [h00] at c1
  rw [gradeR, if_pos h00, gradeE, if_neg (by simp [h00]), gradeV]
  generalize allT c (looseR c) = p at *
  simp only [spotsv] at c2 c3
  generalize allSpots c = S at *
  have c30 := c3 0 (by decide) (by decide)
  rw [← hH] at c30
  cases hq : hasG c
  ·rw [hq] at c30
   have hs : True := trivial
   repeat' first | (with_reducible first | refine q01 ?_ | refine q02 ?_ | refine q11 ?_ | refine q14 ?_ | refine q17 ?_) | (with_reducible refine At.fn_ret (by simp -dsimp [hs]; exact rfl) ?_) | (refine CallE.pure (c1) ?_; try simp -dsimp [hs]) | (refine CallE.pure (c2) ?_; try simp -dsimp [hs]) | (refine CallE.pure (c30) ?_; try simp -dsimp [hs]) | (with_reducible refine DT_regionE [0,1,2,3,4,5,6,7,8,12,19,22,31] ?_; simp -dsimp [hs]) | (refine DT_cond rfl (fun h => ?_) (fun h => ?_) <;> (try simp only [nrm] at h) <;> (try exact Bool.noConfusion h))
   all_goals try simp -dsimp [hs]
   all_goals try clear hs
  ·rw [hq] at c30
   simp only [if_true]
   generalize gradeN c = N at *
   have hs : True := trivial
   repeat' first | (with_reducible first | refine q01 ?_ | refine q11 ?_ | refine q12 ?_ | refine q14 ?_) | (refine CallE.pure (c1) ?_; try simp -dsimp [hs]) | (refine CallE.pure (c2) ?_; try simp -dsimp [hs]) | (refine CallE.pure (c30) ?_; try simp -dsimp [hs]) | (with_reducible refine DT_regionE [0,1,2,3,4,5,6,7,8,12,19,22,31] ?_; simp -dsimp [hs]) | (refine DT_cond rfl (fun h => ?_) (fun h => ?_) <;> (try simp only [nrm] at h) <;> (try exact Bool.noConfusion h))
   all_goals try simp -dsimp [hs]
   all_goals try clear hs
   refine DT_loop (ι := { q : Int × Int // 0 ≤ q.1 ∧ q.2 ≤ maxG ∧ gsI p 0 maxG = gsI p q.1 q.2 }) (fun q => ⟨36, [(1, .one (.ptr 0 0)), (5, .one (.im (.sl (S.map encSpot)))), (6, iv q.1.1), (7, iv q.1.2)], [.row ((encChains c).map .im)]⟩) (fun q => (q.1.2 - q.1.1).toNat) ⟨(0, maxG), by simp⟩ (Weak.of_keep [1,5,6,7] (by simp [maxG])) ?_
   rintro ⟨⟨a, b⟩, ha, hb, hE⟩
   simp only at ha hb hE
   simp only [iv]
   unfold maxG at hb
   by_cases hlt : a < b
   ·have hst := gsI_step (p := p) hlt
    have hm0 : (a + b + 1) / 2 = b - (b - a) / 2 := by omega
    have hw1 : IntKind.i64.wrap (a + b) = a + b := i64w (by omega) (by omega)
    have hw2 : IntKind.i64.wrap (a + b + 1) = a + b + 1 := i64w (by omega) (by omega)
    have hd : (a + b + 1).tdiv 2 = (a + b + 1) / 2 := by rw [Int.tdiv_eq_ediv_of_nonneg (by omega)]
    have hw3 : IntKind.i64.wrap ((a + b + 1) / 2) = (a + b + 1) / 2 := i64w (by omega) (by omega)
    have hw4 : IntKind.i64.wrap ((a + b + 1) / 2 - 1) = (a + b + 1) / 2 - 1 := i64w (by omega) (by omega)
    rw [← hm0] at hst
    have c4 := c3 ((a + b + 1) / 2) (by omega) (by omega)
    have hm1 : a < (a + b + 1) / 2 := by omega
    have hm2 : (a + b + 1) / 2 ≤ b := by omega
    generalize hm : (a + b + 1) / 2 = m at *
    cases hq2 : p m
    ·rw [hq2] at c4 hst
     simp only [Bool.false_eq_true, if_false] at hst
     have hs : True := trivial
     repeat' first | (with_reducible first | refine q01 ?_ | refine q04 ?_ | refine q11 ?_ | refine q12 ?_ | refine q14 ?_) | (refine CallE.pure (c4) ?_; try simp -dsimp [hlt, hw1, hw2, hd, hw3, hw4, hm, hs]) | (with_reducible refine DT_regionE [0,1,2,3,4,5,6,7,8,12,19,22,31] ?_; simp -dsimp [hlt, hw1, hw2, hd, hw3, hw4, hm, hs]) | (refine DT_cond rfl (fun h => ?_) (fun h => ?_) <;> (try simp only [nrm] at h) <;> (try exact Bool.noConfusion h))
     all_goals try simp -dsimp [hlt, hw1, hw2, hd, hw3, hw4, hm, hs]
     all_goals try clear hs
     exact At.round ⟨(a, m - 1), by omega, by unfold maxG; omega, hE.trans hst⟩ (by simp; omega) (Weak.of_drop [1,5,6,7] 1 (by simp) (by simp) (by simp))
    ·rw [hq2] at c4 hst
     rw [if_pos rfl] at hst
     have hs : True := trivial
     repeat' first | (with_reducible first | refine q01 ?_ | refine q04 ?_ | refine q11 ?_ | refine q12 ?_ | refine q14 ?_) | (refine CallE.pure (c4) ?_; try simp -dsimp [hlt, hw1, hw2, hd, hw3, hw4, hm, hs]) | (with_reducible refine DT_regionE [0,1,2,3,4,5,6,7,8,12,19,22,31] ?_; simp -dsimp [hlt, hw1, hw2, hd, hw3, hw4, hm, hs]) | (refine DT_cond rfl (fun h => ?_) (fun h => ?_) <;> (try simp only [nrm] at h) <;> (try exact Bool.noConfusion h))
     all_goals try simp -dsimp [hlt, hw1, hw2, hd, hw3, hw4, hm, hs]
     all_goals try clear hs
     exact At.round ⟨(m, b), by omega, by unfold maxG; omega, hE.trans hst⟩ (by simp; omega) (Weak.of_drop [1,5,6,7] 1 (by simp) (by simp) (by simp))
   ·have : gsI p a b = a := gsI_end (by omega)
    have hNa : N = a := hN.trans (hE.trans this)
    have hs : True := trivial
    repeat' first | (with_reducible first | refine q01 ?_ | refine q03 ?_ | refine q06 ?_ | refine q11 ?_ | refine q16 ?_ | refine q17 ?_) | (with_reducible refine At.fn_ret (by simp -dsimp [hlt, hs]; exact rfl) ?_) | (with_reducible refine DT_regionE [0,1,2,3,4,5,6,7,8,12,19,22,31] ?_; simp -dsimp [hlt, hs]) | (refine DT_cond rfl (fun h => ?_) (fun h => ?_) <;> (try simp only [nrm] at h) <;> (try exact Bool.noConfusion h))
    all_goals try simp -dsimp [hlt, hs]
    all_goals try clear hs
    all_goals rw [hNa]
 ·rw [gradeR, if_neg h00, gradeE, if_pos h00]
  have hs : True := trivial
  repeat' first | (with_reducible first | refine q01 ?_ | refine q02 ?_ | refine q11 ?_ | refine q17 ?_) | (with_reducible refine At.fn_ret (by simp -dsimp [h00, hs]; exact rfl) ?_) | (refine CallE.pure (c1) ?_; try simp -dsimp [h00, hs]) | (with_reducible refine DT_regionE [0,1,2,3,4,5,6,7,8,12,19,22,31] ?_; simp -dsimp [h00, hs]) | (refine DT_cond rfl (fun h => ?_) (fun h => ?_) <;> (try simp only [nrm] at h) <;> (try exact Bool.noConfusion h))
  all_goals try simp -dsimp [h00, hs]
  all_goals try clear hs
set_option maxHeartbeats 1000000 in
theorem rProof_c (c : Chains) (hsm : SmallC c) (objs : List DObj) : DCall Tryz.prog G 31 [chv c] objs (fun rr objs' => rr = .tup [iv (prL c), isv (prS c), iv (proofE c)] ∧ objs' = objs) := by
 refine DCall.frame ?_ (by simp) (by simp) objs
 refine DCall_intro Tryz.func31 rfl Tryz.ntmps31 (by simp) rfl ?_
 try simp only [chv]
 have c1 := rGrade_c (G := G) c hsm
 by_cases h00 : chainsE c = 0
 ·have hOk := okC h00
  have c2 := rAll_c (G := G) c hOk hsm
  have hl := allSpots_len hOk hsm
  rw [gradeR, if_pos h00, gradeE, if_neg (by simp [h00]), gradeV] at c1
  cases hp : proofOk c
  ·have hE : proofE c = 6 := by rw [proofE, if_neg (by simp [h00]), hp]; rfl
   rw [prL, prS, hE, if_neg (by decide), if_neg (by decide)]
   have hp' : hasG c = false ∨ hasG c = true ∧ gradeN c = maxG := by
    simp only [proofOk] at hp
    cases hq : hasG c
    ·exact .inl rfl
    ·rw [hq, Bool.true_and] at hp
     exact .inr ⟨rfl, by simpa using hp⟩
   rcases hp' with hq | ⟨hq, hM⟩
   ·simp only [hq, Bool.false_eq_true, if_false] at c1
    have hs : True := trivial
    repeat' first | (with_reducible first | refine q01 ?_ | refine q02 ?_ | refine q11 ?_ | refine q17 ?_) | (with_reducible refine At.fn_ret (by simp -dsimp [hs]; exact rfl) ?_) | (refine CallE.pure (c1) ?_; try simp -dsimp [hs]) | (with_reducible refine DT_regionE [0,1,2,3,4,5,6,7,8,9,10,18,21,29] ?_; simp -dsimp [hs]) | (refine DT_cond rfl (fun h => ?_) (fun h => ?_) <;> (try simp only [nrm] at h) <;> (try exact Bool.noConfusion h))
    all_goals try simp -dsimp [hs]
    all_goals try clear hs
   ·simp only [hq, hM, maxG, if_true] at c1
    have hs : True := trivial
    repeat' first | (with_reducible first | refine q01 ?_ | refine q02 ?_ | refine q11 ?_ | refine q14 ?_ | refine q17 ?_) | (with_reducible refine At.fn_ret (by simp -dsimp [hs]; exact rfl) ?_) | (refine CallE.pure (c1) ?_; try simp -dsimp [hs]) | (with_reducible refine DT_regionE [0,1,2,3,4,5,6,7,8,9,10,18,21,29] ?_; simp -dsimp [hs]) | (refine DT_cond rfl (fun h => ?_) (fun h => ?_) <;> (try simp only [nrm] at h) <;> (try exact Bool.noConfusion h))
    all_goals try simp -dsimp [hs]
    all_goals try clear hs
  ·have hE : proofE c = 0 := by rw [proofE, if_neg (by simp [h00]), hp]; rfl
   rw [prL, prS, hE, if_pos rfl, if_pos rfl]
   obtain ⟨hL, hg0, hg1⟩ := proof_lt hOk hp
   have hq : hasG c = true ∧ gradeN c ≠ 1000000000 := by
    have := hp
    simp only [proofOk, Bool.and_eq_true, decide_eq_true_eq, maxG] at this
    exact ⟨this.1, of_decide_eq_true this.2⟩
   have hq2 := hq.2
   simp only [hq.1, if_true] at c1
   have c3 := fun k hk => rclosesG_c (G := G) c (allSpots c) (gradeN c + 1) k hk hsm hOk (by omega) hg0 (by omega)
   have hcl := fun k (hk : k < c.loops.length) => closes_all (c := c) (g := gradeN c + 1) (List.getElem_mem hk)
   have hfg := fun k (hk : k < c.loops.length) => findW_good (c := c) (so := looseR c) (g := gradeN c + 1) hk
   have hfb := fun k (hk : k < c.loops.length) => findW_bad (c := c) (so := looseR c) (g := gradeN c + 1) hk
   have hP : proofL c = findW c (looseR c) (gradeN c + 1) 0 := rfl
   have hw : IntKind.i64.wrap (gradeN c + 1) = gradeN c + 1 := i64w (by omega) (by omega)
   have hw' := i64w (n := gradeN c) (by omega) (by omega)
   have hX : proofX c = c.loops[proofL c] := lpAt_at hL
   have hsz : szT c (inS (allSpots c)) (gradeN c + 1) c.loops[proofL c] = szT c (looseR c) (gradeN c + 1) c.loops[proofL c] := (allT_spots c _ _ fun y hy => inS_all hy).2 _ (List.getElem_mem hL)
   have c4 := rreachG_c (G := G) c (allSpots c) (gradeN c + 1) (proofL c) hL hsm hOk (by omega) hg0 (by omega)
   have c5 := rsizesG_c (G := G) c (allSpots c) (gradeN c + 1) (proofL c) hL hsm hOk (by omega) hg0 (by omega)
   rw [loT, hiT] at c4
   rw [hsz] at c4 c5
   obtain ⟨hsl, hsd⟩ := szT_ok hOk (so := looseR c) hg0 (List.getElem_mem hL)
   have hln := (hOk.gap c.loops[proofL c] (List.getElem_mem hL)).1
   have c6 := fun high => ends_c (G := G) c.loops[proofL c].links (szT c (looseR c) (gradeN c + 1) c.loops[proofL c]) high (by omega) hsl hsd
   have hS : proofS c = endsL c.loops[proofL c].links (szT c (looseR c) (gradeN c + 1) c.loops[proofL c]) (!decide (endS c.loops[proofL c].links (szT c (looseR c) (gradeN c + 1) c.loops[proofL c]) true ≤ c.loops[proofL c].hi)) := by rw [proofS, hX]; rfl
   have hx : c.loops[proofL c]? = some c.loops[proofL c] := by simp [hL]
   rw [hS]
   have hlen := hsm.2.2.1
   clear hS hX hsz
   generalize szT c (looseR c) (gradeN c + 1) c.loops[proofL c] = sz at *
   generalize endS c.loops[proofL c].links sz true = hi at *
   generalize endS c.loops[proofL c].links sz false = lo at *
   simp only [spotsv, isv, refv] at c2 c3 c4 c5 c6
   generalize hLL : proofL c = L at *
   generalize gradeN c = N at *
   have hs : True := trivial
   repeat' first | (with_reducible first | refine q01 ?_ | refine q11 ?_ | refine q12 ?_ | refine q14 ?_) | (refine CallE.pure (c1) ?_; try simp -dsimp [hq2, hs]) | (refine CallE.pure (c2) ?_; try simp -dsimp [hq2, hs]) | (with_reducible refine DT_regionE [0,1,2,3,4,5,6,7,8,9,10,18,21,29] ?_; simp -dsimp [hq2, hs]) | (refine DT_cond rfl (fun h => ?_) (fun h => ?_) <;> (try simp only [nrm] at h) <;> (try exact Bool.noConfusion h))
   all_goals try simp -dsimp [hq2, hs]
   all_goals try clear hs
   refine DT_loop (ι := { k : Nat // k ≤ L ∧ L = findW c (looseR c) (N + 1) k }) (fun p => ⟨66, [(1, .one (.ptr 0 0)), (5, iv N), (7, .one (.im (.sl ((allSpots c).map encSpot)))), (8, iv (p.1 : Int))], [.row ((encChains c).map .im), .vec 1 [] 0 true]⟩) (fun p => L - p.1) ⟨0, Nat.zero_le _, hP⟩ (Weak.of_keep [1,5,7,8] (by simp)) ?_
   rintro ⟨k, hk, hkL⟩
   simp only [iv]
   have hkl : k < c.loops.length := by omega
   have c3k := c3 k hkl
   rw [hcl k hkl] at c3k
   have hwk : IntKind.i64.wrap ((k : Int) + 1) = ((k + 1 : Nat) : Int) := i64w (by omega) (by omega)
   cases hqk : closesT c (looseR c) (N + 1) c.loops[k]
   ·rw [hqk] at c3k
    have hkk := hfb k hkl hqk
    have e : k = L := by omega
    subst e
    by_cases hh : hi ≤ c.loops[k].hi
    ·have hh' : ¬ c.loops[k].hi < hi := by omega
     have c60 := c6 false
     have hs : True := trivial
     repeat' first | (with_reducible first | refine q01 ?_ | refine q03 ?_ | refine q06 ?_ | refine q11 ?_ | refine q16 ?_ | refine q17 ?_) | (with_reducible refine At.fn_ret (by simp -dsimp [hw, hx, hL, hh', hs]; exact rfl) ?_) | (refine CallE.pure (c3k) ?_; try simp -dsimp [hw, hx, hL, hh', hs]) | (refine QCall_pure (c4) ?_; try simp -dsimp [hw, hx, hL, hh', hs]) | (refine QCall_pure (c5) ?_; try simp -dsimp [hw, hx, hL, hh', hs]) | (refine QCall_pure (c60) ?_; try simp -dsimp [hw, hx, hL, hh', hs]) | (refine DT_regionM (id := 10) (nt := 66) 16 [0,1,2,3,4,5,6,7,8,9,10,18,21,29] mixed rfl (by kernel_rfl) ?_; simp -dsimp [hw, hx, hL, hh', hs]) | (refine DT_regionM (id := 11) (nt := 66) 19 [0,1,2,3,4,5,6,7,8,9,10,18,21,29] mixed rfl (by kernel_rfl) ?_; simp -dsimp [hw, hx, hL, hh', hs]) | (with_reducible refine DT_regionE [0,1,2,3,4,5,6,7,8,9,10,18,21,29] ?_; simp -dsimp [hw, hx, hL, hh', hs]) | (refine DT_cond rfl (fun h => ?_) (fun h => ?_) <;> (try simp only [nrm] at h) <;> (try exact Bool.noConfusion h))
     all_goals try simp -dsimp [hw, hx, hL, hh', hs]
     all_goals try clear hs
     all_goals simp [hh]
    ·have hh' : c.loops[k].hi < hi := by omega
     have c61 := c6 true
     have hs : True := trivial
     repeat' first | (with_reducible first | refine q01 ?_ | refine q03 ?_ | refine q06 ?_ | refine q11 ?_ | refine q16 ?_ | refine q17 ?_) | (with_reducible refine At.fn_ret (by simp -dsimp [hw, hx, hL, hh', hs]; exact rfl) ?_) | (refine CallE.pure (c3k) ?_; try simp -dsimp [hw, hx, hL, hh', hs]) | (refine QCall_pure (c4) ?_; try simp -dsimp [hw, hx, hL, hh', hs]) | (refine QCall_pure (c5) ?_; try simp -dsimp [hw, hx, hL, hh', hs]) | (refine QCall_pure (c61) ?_; try simp -dsimp [hw, hx, hL, hh', hs]) | (refine DT_regionM (id := 10) (nt := 66) 16 [0,1,2,3,4,5,6,7,8,9,10,18,21,29] mixed rfl (by kernel_rfl) ?_; simp -dsimp [hw, hx, hL, hh', hs]) | (refine DT_regionM (id := 11) (nt := 66) 19 [0,1,2,3,4,5,6,7,8,9,10,18,21,29] mixed rfl (by kernel_rfl) ?_; simp -dsimp [hw, hx, hL, hh', hs]) | (with_reducible refine DT_regionE [0,1,2,3,4,5,6,7,8,9,10,18,21,29] ?_; simp -dsimp [hw, hx, hL, hh', hs]) | (refine DT_cond rfl (fun h => ?_) (fun h => ?_) <;> (try simp only [nrm] at h) <;> (try exact Bool.noConfusion h))
     all_goals try simp -dsimp [hw, hx, hL, hh', hs]
     all_goals try clear hs
     all_goals simp [hh]
   ·rw [hqk] at c3k
    have hkk := hfg k hkl hqk
    have hkn : k ≠ L := fun e => by
     subst e
     have h1 := (findW_spec c (looseR c) (N + 1) _ (k + 1) rfl (by omega)).1
     omega
    have hs : True := trivial
    repeat' first | (with_reducible first | refine q01 ?_ | refine q04 ?_ | refine q11 ?_ | refine q12 ?_ | refine q14 ?_) | (refine CallE.pure (c3k) ?_; try simp -dsimp [hw, hwk, hs]) | (with_reducible refine DT_regionE [0,1,2,3,4,5,6,7,8,9,10,18,21,29] ?_; simp -dsimp [hw, hwk, hs]) | (refine DT_cond rfl (fun h => ?_) (fun h => ?_) <;> (try simp only [nrm] at h) <;> (try exact Bool.noConfusion h))
    all_goals try simp -dsimp [hw, hwk, hs]
    all_goals try clear hs
    exact At.round ⟨k + 1, by omega, by rw [← hkk]; exact hkL⟩ (by simp; omega) (Weak.of_drop [1,5,7,8] 2 (by simp) (by simp) (by simp))
 ·have hE : proofE c = chainsE c := by rw [proofE, if_pos h00]
  rw [gradeR, if_neg h00, gradeE, if_pos h00] at c1
  rw [prL, prS, hE, if_neg h00, if_neg h00]
  have hs : True := trivial
  repeat' first | (with_reducible first | refine q01 ?_ | refine q02 ?_ | refine q11 ?_ | refine q17 ?_) | (with_reducible refine At.fn_ret (by simp -dsimp [h00, hs]; exact rfl) ?_) | (refine CallE.pure (c1) ?_; try simp -dsimp [h00, hs]) | (with_reducible refine DT_regionE [0,1,2,3,4,5,6,7,8,9,10,18,21,29] ?_; simp -dsimp [h00, hs]) | (refine DT_cond rfl (fun h => ?_) (fun h => ?_) <;> (try simp only [nrm] at h) <;> (try exact Bool.noConfusion h))
  all_goals try simp -dsimp [h00, hs]
  all_goals try clear hs
end Go.Proofs
